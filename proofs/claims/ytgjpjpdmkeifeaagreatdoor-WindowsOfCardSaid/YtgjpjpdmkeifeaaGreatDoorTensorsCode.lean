/- Contracts: tensors. -/
import Derived.Test.YtgjpjpdmkeifeaaGreatDoorShapesCode
import Derived.Test.YtgjpjpdmkeifeaaGreatDoorOwn
namespace Go.Proofs.YtgjpjpdmkeifeaaGreatDoor
open Go Go.Dd Go.RowKit
set_option maxRecDepth 100000

/-- A tensor's value. -/
def Ten (w : World) (v : Value) (s : List Int) (l : List (BitVec 32)) : Prop := ∃ x y, v = .agg #[x, y] ∧ SlT (Value.int .i64) w x s ∧ SlT i32 w y l
theorem Ten.bs {w w' : World} {v : Value} {s : List Int} {l : List (BitVec 32)} (h : Ten w v s l) (hb : Below w.heap.size w w') : Ten w' v s l := by
  obtain ⟨x, y, e, h1, h2⟩ := h
  exact ⟨x, y, e, h1.bs hb, h2.bs hb⟩
def tok (s : List Int) (l : List (BitVec 32)) : Bool := Shapes.ok s && decide ((l.length : Int) = Shapes.size s)

theorem bt_ten (a b : Value) (ha : a.cells = [a].toArray) (hb : b.cells = [b].toArray) : Tryz.prog.built 25 [(0, a), (1, b)] = some [a, b].toArray := by
  have h1 : Tryz.prog.info? 25 = some Tryz.t25 := rfl
  have h2 : Tryz.prog.info? 22 = some Tryz.t22 := rfl
  have h3 : Tryz.prog.info? 23 = some Tryz.t23 := rfl
  simp [Program.built, h1, Tryz.underlying25, h2, h3, Instr.fill, ha, hb]
  rfl

theorem tcheck_c (x y : Value) (s : List Int) (l : List (BitVec 32)) (w : World) (hx : SlT (Value.int .i64) w x s) (hy : SlT i32 w y l) :
    Fnc Tryz.prog 25 [.agg #[x, y]] w (fun r w' => r = .bool (tok s l) ∧ Below w.heap.size w w') := by
  refine Fnc.enter (n := 15) Tryz.func25 (by kernel_rfl) rfl rfl rfl ?_
  refine Cw.seq ?_
  refine Cw.region ?_
  refine Lw.valW (Xw.box (cs := [x, y]) rfl rfl) rfl ?_
  rintro _ w1 ⟨rfl, hb, hB1, hs1⟩
  have hx1 := hx.bs hB1
  have hy1 := hy.bs hB1
  refine Lw.val (Ex.assign rfl) rfl ?_
  refine Lw.nil ?_
  refine Pw.thenN (Cw.out ?_)
  refine Cw.seq ?_
  refine Cw.quiet mixed (by kernel_rfl) ?_
  refine Qw.val (fun w1 hq => Ex.fieldAddr (q := 0) Tryz.underlying25 rfl (sz_22 _) rfl) rfl ?_
  refine Qw.val (fun w1 hq => Ex.ldB (ag_22 _) rfl (Blk.bs (by assumption) hq) rfl) rfl ?_
  refine Qw.callF rfl rfl (fun w1 hq => (check_c x s w1 (hx1.bs hq)).q hq) ?_
  refine Qw.val (fun w1 hq => Ex.move rfl) rfl ?_
  refine Qw.part 6 rfl ?_ ?_
  · intro g
    refine Qw.take (dj := 6) rfl rfl ?_
    refine Qw.val (fun w1 hq => Ex.fieldAddr (q := 0) Tryz.underlying25 rfl (sz_23 _) rfl) rfl ?_
    refine Qw.take (dj := 6) rfl rfl ?_
    refine Qw.val (fun w1 hq => Ex.ldB (ag_23 _) rfl (Blk.bs (by assumption) hq) rfl) rfl ?_
    refine Qw.take (dj := 6) rfl rfl ?_
    refine Qw.val (fun w1 hq => Ex.lenS st_23 rfl (Sl.bs (by assumption) hq)) rfl ?_
    refine Qw.take (dj := 6) rfl rfl ?_
    refine Qw.val (fun w1 hq => Ex.fieldAddr (q := 0) Tryz.underlying25 rfl (sz_22 _) rfl) rfl ?_
    refine Qw.take (dj := 6) rfl rfl ?_
    refine Qw.val (fun w1 hq => Ex.ldB (ag_22 _) rfl (Blk.bs (by assumption) hq) rfl) rfl ?_
    refine Qw.take (dj := 6) rfl rfl ?_
    refine Qw.callF rfl rfl (fun w1 hq => (size_c x s w1 (hx1.bs hq)).q hq) ?_
    refine Qw.take (dj := 6) rfl rfl ?_
    refine Qw.val (fun w1 hq => Ex.eql rfl rfl) rfl ?_
    refine Qw.val (fun w1 hq => Ex.pickT rfl rfl) rfl ?_
    refine Qw.val (fun w1 hq => Ex.assign rfl) rfl ?_
    refine Qw.nil (fun w2 hq => ?_)
    refine Pw.thenN (Cw.out ?_)
    refine Cw.ret ?_
    refine Pw.ret1 rfl rfl ?_
    exact ⟨congrArg Value.bool (by unfold tok; rw [g]; rfl), bt hB1 hq⟩
  · intro g
    refine Qw.pass (dj := 6) rfl rfl rfl rfl ?_
    refine Qw.pass (dj := 6) rfl rfl rfl rfl ?_
    refine Qw.pass (dj := 6) rfl rfl rfl rfl ?_
    refine Qw.pass (dj := 6) rfl rfl rfl rfl ?_
    refine Qw.pass (dj := 6) rfl rfl rfl rfl ?_
    refine Qw.pass (dj := 6) rfl rfl rfl rfl ?_
    refine Qw.pass (dj := 6) rfl rfl rfl rfl ?_
    refine Qw.val (fun w1 hq => Ex.pickF rfl rfl) rfl ?_
    refine Qw.val (fun w1 hq => Ex.assign rfl) rfl ?_
    refine Qw.nil (fun w2 hq => ?_)
    refine Pw.thenN (Cw.out ?_)
    refine Cw.ret ?_
    refine Pw.ret1 rfl rfl ?_
    exact ⟨congrArg Value.bool (by unfold tok; rw [g]; rfl), bt hB1 hq⟩



/-- A slice value of memory of one's own. -/
def Own1 (W : World) (v : Value) : Prop := ∀ b, v.ownBlock = some b → W.heap.size ≤ b

/-- What New tells: noughts, in memory of their own. -/
structure Made1 (W w : World) (x y : Value) (s : List Int) (l : List (BitVec 32)) : Prop where
  row : KRow w W.heap.size 3 1 x s.length (s.map (Value.int .i64))
  own : w.ownsRow W.heap.size 21 1 y l.length (l.map i32)
  apart : Apt y x
theorem Made1.sh {W w : World} {x y : Value} {s : List Int} {l : List (BitVec 32)} (h : Made1 W w x y s l) : SlT (Value.int .i64) w x s := h.row.slT
theorem Made1.fresh {W w : World} {x y : Value} {s : List Int} {l : List (BitVec 32)} (h : Made1 W w x y s l) : Own1 W x := fun b e => (h.row.lt b e).1
theorem Made1.ten {W w : World} {x y : Value} {s : List Int} {l : List (BitVec 32)} (h : Made1 W w x y s l) : Ten w (.agg #[x, y]) s l := ⟨x, y, rfl, h.sh, own_sl h.own⟩
theorem Made1.bs {W w w' : World} {x y : Value} {s : List Int} {l : List (BitVec 32)} (h : Made1 W w x y s l) (hb : Below w.heap.size w w') : Made1 W w' x y s l := ⟨h.row.bs hb, own_bs h.own hb, h.apart⟩


/-- A tensor that is given. -/
structure T4 where
  x : Value
  y : Value
  s : List Int
  l : List (BitVec 32)
def T4.at (t : T4) (w : World) : Prop := SlT (Value.int .i64) w t.x t.s ∧ SlT i32 w t.y t.l
theorem T4.at.bs {t : T4} {w w' : World} (h : t.at w) (hb : Below w.heap.size w w') : t.at w' := ⟨h.1.bs hb, h.2.bs hb⟩
def T4.ok (t : T4) : Bool := tok t.s t.l
def T4.v (t : T4) : Value := .agg #[t.x, t.y]
def cellsOf : List T4 → List Value
  | [] => []
  | t :: ts => t.x :: t.y :: cellsOf ts
theorem cells_at : ∀ {ts : List T4} {j : Nat} (h : j < ts.length), (cellsOf ts)[j * 2]? = some ts[j].x ∧ (cellsOf ts)[j * 2 + 1]? = some ts[j].y
  | t :: ts, 0, _ => by simp [cellsOf]
  | t :: ts, j + 1, h => by
    have := cells_at (ts := ts) (j := j) (by simpa using h)
    rw [Nat.succ_mul]
    simpa [cellsOf] using this

theorem T4.at.one {a : T4} {w : World} (h : a.at w) : [a.x, a.y].all (·.oneCell') = true := by simp [h.1.one', h.2.one']
/-- A tensor of one's own. -/
abbrev MineT (w : World) (lo hi A : Nat) (x y : Value) (s : List Int) (l : List (BitVec 32)) : Prop := Mine w 25 3 21 lo hi A x y s l
theorem Made1.one {W w : World} {x y : Value} {s : List Int} {l : List (BitVec 32)} (h : Made1 W w x y s l) : [x, y].all (·.oneCell') = true := by simp [h.sh.one', (own_sl h.own).one']
theorem mine_new {W w w' : World} {A : Nat} {x y : Value} {s : List Int} {l : List (BitVec 32)} (h : Made1 W w x y s l) (hA : A = w.heap.size) (hb : Blk w' A 25 [x, y]) (hn : Below w.heap.size w w') (hz : w'.heap.size = w.heap.size + 1) (hW : W.heap.size ≤ w.heap.size) : MineT w' W.heap.size w'.heap.size A x y s l := by
  have hyb := own_block h.own
  refine ⟨hb, h.row.bs hn, ⟨own_bs h.own hn, fun b e => by have := hyb b e; omega⟩, by omega, fun b e => ?_, fun e => by have := hyb _ e; omega, h.apart⟩
  have h1 := h.row.lt b e
  omega
theorem mine_at {w : World} {lo hi A : Nat} {x y : Value} {s : List Int} {l : List (BitVec 32)} (h : MineT w lo hi A x y s l) : (T4.mk x y s l).at w := ⟨h.sh, h.sly⟩
end Go.Proofs.YtgjpjpdmkeifeaaGreatDoor
