/- Contracts: tensors. -/
import Derived.Test.YtkhndfaampkbnaaGreatDoorShapesCode
import Derived.Test.YtkhndfaampkbnaaGreatDoorOwn
namespace Go.Proofs.YtkhndfaampkbnaaGreatDoor
open Go Go.Dd Go.RowKit
set_option maxRecDepth 100000

/-- A tensor's value. -/
def Ten (w : World) (v : Value) (s : List Int) (l : List (BitVec 32)) : Prop := ∃ x y, v = .agg #[x, y] ∧ SlT (Value.int .i64) w x s ∧ SlT i32 w y l
theorem Ten.bs {w w' : World} {v : Value} {s : List Int} {l : List (BitVec 32)} (h : Ten w v s l) (hb : Below w.heap.size w w') : Ten w' v s l := by
  obtain ⟨x, y, e, h1, h2⟩ := h
  exact ⟨x, y, e, h1.bs hb, h2.bs hb⟩
def tok (s : List Int) (l : List (BitVec 32)) : Bool := Shapes.ok s && decide ((l.length : Int) = Shapes.size s)

theorem bt_ten (a b : Value) (ha : a.cells = [a].toArray) (hb : b.cells = [b].toArray) : Tryz.prog.built 29 [(0, a), (1, b)] = some [a, b].toArray := by
  have h1 : Tryz.prog.info? 29 = some Tryz.t29 := rfl
  have h2 : Tryz.prog.info? 26 = some Tryz.t26 := rfl
  have h3 : Tryz.prog.info? 27 = some Tryz.t27 := rfl
  simp [Program.built, h1, Tryz.underlying29, h2, h3, Instr.fill, ha, hb]
  rfl

theorem tcheck_c (x y : Value) (s : List Int) (l : List (BitVec 32)) (w : World) (hx : SlT (Value.int .i64) w x s) (hy : SlT i32 w y l) :
    Fnc Tryz.prog 29 [.agg #[x, y]] w (fun r w' => r = .bool (tok s l) ∧ Below w.heap.size w w') := by
  refine Fnc.enter (n := 15) Tryz.func29 (by kernel_rfl) rfl rfl rfl ?_
  refine Cw.seq ?_
  refine Cw.region ?_
  refine Lw.valW (Xw.box (cs := [x, y]) rfl rfl) rfl ?_
  rintro _ w1 ⟨rfl, hb, hB1, hs1⟩
  have hx1 := hx.bs hB1
  have hy1 := hy.bs hB1
  refine Lw.val (Ex.assign rfl) rfl ?_
  refine Lw.nil ?_
  refine Pw.thenN (Cw.out ?_)
  refine Cw.seq ?_
  refine Cw.quiet mixed (by kernel_rfl) ?_
  refine Qw.val (fun w1 hq => Ex.fieldAddr (q := 0) Tryz.underlying29 rfl (sz_26 _) rfl) rfl ?_
  refine Qw.val (fun w1 hq => Ex.ldB (ag_26 _) rfl (Blk.bs (by assumption) hq) rfl) rfl ?_
  refine Qw.callF rfl rfl (fun w1 hq => (check_c x s w1 (hx1.bs hq)).q hq) ?_
  refine Qw.val (fun w1 hq => Ex.move rfl) rfl ?_
  refine Qw.part 6 rfl ?_ ?_
  · intro g
    refine Qw.take (dj := 6) rfl rfl ?_
    refine Qw.val (fun w1 hq => Ex.fieldAddr (q := 0) Tryz.underlying29 rfl (sz_27 _) rfl) rfl ?_
    refine Qw.take (dj := 6) rfl rfl ?_
    refine Qw.val (fun w1 hq => Ex.ldB (ag_27 _) rfl (Blk.bs (by assumption) hq) rfl) rfl ?_
    refine Qw.take (dj := 6) rfl rfl ?_
    refine Qw.val (fun w1 hq => Ex.lenS st_27 rfl (Sl.bs (by assumption) hq)) rfl ?_
    refine Qw.take (dj := 6) rfl rfl ?_
    refine Qw.val (fun w1 hq => Ex.fieldAddr (q := 0) Tryz.underlying29 rfl (sz_26 _) rfl) rfl ?_
    refine Qw.take (dj := 6) rfl rfl ?_
    refine Qw.val (fun w1 hq => Ex.ldB (ag_26 _) rfl (Blk.bs (by assumption) hq) rfl) rfl ?_
    refine Qw.take (dj := 6) rfl rfl ?_
    refine Qw.callF rfl rfl (fun w1 hq => (size_c x s w1 (hx1.bs hq)).q hq) ?_
    refine Qw.take (dj := 6) rfl rfl ?_
    refine Qw.val (fun w1 hq => Ex.eql rfl rfl) rfl ?_
    refine Qw.val (fun w1 hq => Ex.pickT rfl rfl) rfl ?_
    refine Qw.val (fun w1 hq => Ex.assign rfl) rfl ?_
    refine Qw.nil (fun w2 hq => ?_)
    refine Pw.thenN (Cw.out ?_)
    refine Cw.ret ?_
    refine Pw.ret1 rfl rfl ?_
    exact ⟨congrArg Value.bool (by unfold tok; rw [g]; rfl), bt hB1 hq⟩
  · intro g
    refine Qw.pass (dj := 6) rfl rfl rfl rfl ?_
    refine Qw.pass (dj := 6) rfl rfl rfl rfl ?_
    refine Qw.pass (dj := 6) rfl rfl rfl rfl ?_
    refine Qw.pass (dj := 6) rfl rfl rfl rfl ?_
    refine Qw.pass (dj := 6) rfl rfl rfl rfl ?_
    refine Qw.pass (dj := 6) rfl rfl rfl rfl ?_
    refine Qw.pass (dj := 6) rfl rfl rfl rfl ?_
    refine Qw.val (fun w1 hq => Ex.pickF rfl rfl) rfl ?_
    refine Qw.val (fun w1 hq => Ex.assign rfl) rfl ?_
    refine Qw.nil (fun w2 hq => ?_)
    refine Pw.thenN (Cw.out ?_)
    refine Cw.ret ?_
    refine Pw.ret1 rfl rfl ?_
    exact ⟨congrArg Value.bool (by unfold tok; rw [g]; rfl), bt hB1 hq⟩

theorem equalInts_c (u v : Value) (a b : List Int) (w : World) (hu : SlT (Value.int .i64) w u a) (hv : SlT (Value.int .i64) w v b) : Fnc Tryz.prog 112 [u, v] w (fun r w' => r = .bool (decide (a = b)) ∧ Below w.heap.size w w') := by
  have hle := hu.le
  refine Fnc.enter (n := 26) Tryz.func112 (by kernel_rfl) rfl rfl rfl ?_
  refine Cw.seq ?_
  refine Cw.region ?_
  refine Lw.val (Ex.assign rfl) rfl ?_
  refine Lw.nil ?_
  refine Pw.thenN (Cw.out ?_)
  refine Cw.seq ?_
  refine Cw.seq ?_
  refine Cw.region ?_
  refine Lw.val (Ex.move rfl) rfl ?_
  refine Lw.val (Ex.lenS st_26 rfl (by assumption)) rfl ?_
  refine Lw.val (Ex.move rfl) rfl ?_
  refine Lw.val (Ex.lenS st_26 rfl (by assumption)) rfl ?_
  refine Lw.val (Ex.neq rfl rfl) rfl ?_
  refine Lw.nil ?_
  refine Pw.thenN (Cw.out ?_)
  refine Cw.cond rfl ?_ ?_
  · intro h
    have hne : a ≠ b := fun e => by subst e; simp at h
    refine Cw.seq ?_
    refine Cw.region ?_
    refine Lw.val (Ex.assign rfl) rfl ?_
    refine Lw.nil ?_
    refine Pw.thenN (Cw.out ?_)
    refine Cw.ret ?_
    refine Pw.thenR ?_
    refine Pw.ret1 rfl rfl ?_
    exact ⟨by rw [decide_eq_false hne], Below.refl _ _⟩
  intro h
  have hl : a.length = b.length := by simp at h; omega
  refine Cw.skip ?_
  refine Pw.thenN (Cw.out ?_)
  refine Cw.seq ?_
  refine Cw.seq ?_
  refine Cw.region ?_
  refine Lw.val (Ex.move rfl) rfl ?_
  refine Lw.val (Ex.lenS st_26 rfl (by assumption)) rfl ?_
  refine Lw.val (Ex.move rfl) rfl ?_
  refine Lw.nil ?_
  refine Pw.thenN (Cw.out ?_)
  refine Cw.block ?_
  refine Cw.loop (S := Nat) (fun i => [(0, u), (1, v), (12, .int .i64 (a.length : Int)), (13, .int .i64 (i : Int))]) (fun i w' => i ≤ a.length ∧ a.take i = b.take i ∧ Below w.heap.size w w') (fun i => a.length - i) (0) ⟨rfl, rfl, rfl, rfl, trivial⟩ ?_ ?_
  · exact ⟨by omega, by simp, Below.refl _ _⟩
  rintro i w1 ⟨hi, ht, hB1⟩
  have hu1 := hu.bs hB1
  have hv1 := hv.bs hB1
  refine Cw.seq ?_
  refine Cw.region ?_
  refine Lw.val (Ex.lss rfl rfl) rfl ?_
  refine Lw.nil ?_
  refine Pw.thenN (Cw.out ?_)
  refine Cw.seq ?_
  refine Cw.cond rfl ?_ ?_
  · intro h
    have hi' : i < a.length := by simp at h; omega
    have hib : i < b.length := by omega
    refine Cw.skip ?_
    refine Pw.thenN (Cw.out ?_)
    refine Cw.seq ?_
    refine Cw.block ?_
    refine Cw.seq ?_
    refine Cw.region ?_
    refine Lw.val (Ex.move rfl) rfl ?_
    refine Lw.val (Ex.assign rfl) rfl ?_
    refine Lw.nil ?_
    refine Pw.thenN (Cw.out ?_)
    refine Cw.seq ?_
    refine Cw.quiet mixed (by kernel_rfl) ?_
    refine Qw.val (fun w1 hq => Ex.move rfl) rfl ?_
    refine Qw.val (fun w1 hq => Ex.move rfl) rfl ?_
    refine Qw.val (fun w1 hq => Ex.idxT st_26 rfl rfl (Sl.bs (by assumption) hq) _ rfl (by omega)) rfl ?_
    refine Qw.val (fun w1 hq => Ex.ldT (ag_3 _) rfl (Sl.bs (by assumption) hq) (by omega)) rfl ?_
    refine Qw.val (fun w1 hq => Ex.move rfl) rfl ?_
    refine Qw.val (fun w1 hq => Ex.move rfl) rfl ?_
    refine Qw.val (fun w1 hq => Ex.idxT st_26 rfl rfl (Sl.bs (by assumption) hq) _ rfl (by omega)) rfl ?_
    refine Qw.val (fun w1 hq => Ex.ldT (ag_3 _) rfl (Sl.bs (by assumption) hq) (by omega)) rfl ?_
    refine Qw.val (fun w1 hq => Ex.neq rfl rfl) rfl ?_
    refine Qw.nil (fun w2 hq => ?_)
    refine Pw.thenN (Cw.out ?_)
    have hB2 := bt hB1 hq
    refine Cw.cond rfl ?_ ?_
    · intro g
      have g' : a.getD i default ≠ b.getD i default := by simpa using g
      refine Cw.seq ?_
      refine Cw.region ?_
      refine Lw.val (Ex.assign rfl) rfl ?_
      refine Lw.nil ?_
      refine Pw.thenN (Cw.out ?_)
      refine Cw.ret ?_
      refine Pw.blkR ?_
      refine Pw.thenR ?_
      refine Pw.thenR ?_
      refine Pw.blkR ?_
      refine Pw.thenR ?_
      refine Pw.ret1 rfl rfl ?_
      exact ⟨by rw [decide_eq_false (fun e => g' (by rw [e]))], hB2⟩
    · intro g
      have g' : a.getD i default = b.getD i default := by simpa using g
      have gg : a[i] = b[i] := by simpa [hi', hib] using g'
      refine Cw.skip ?_
      refine Pw.blkN ?_
      refine Pw.thenN (Cw.out ?_)
      refine Cw.region ?_
      refine Lw.val (Ex.addI rfl rfl (by omega)) rfl ?_
      refine Lw.val (Ex.move rfl) rfl ?_
      refine Lw.nil ?_
      exact Pw.thenN (Pw.next (i + 1) ⟨rfl, rfl, rfl, rfl, trivial⟩ (⟨hi', by rw [List.take_succ_eq_append_getElem hi', List.take_succ_eq_append_getElem hib, ht, gg], hB2⟩) (by omega))
  · intro h
    have hi' : i = a.length := by simp at h; omega
    subst hi'
    refine Cw.exit ?_
    refine Pw.thenE ?_
    refine Pw.thenE ?_
    refine Pw.blkHit ?_
    refine Pw.thenN (Cw.out ?_)
    refine Cw.seq ?_
    refine Cw.region ?_
    refine Lw.val (Ex.assign rfl) rfl ?_
    refine Lw.nil ?_
    refine Pw.thenN (Cw.out ?_)
    refine Cw.ret ?_
    refine Pw.ret1 rfl rfl ?_
    exact ⟨by rw [decide_eq_true (by rw [List.take_length, hl, List.take_length] at ht; exact ht)], hB1⟩


/-- A slice value of memory of one's own. -/
def Own1 (W : World) (v : Value) : Prop := ∀ b, v.ownBlock = some b → W.heap.size ≤ b

theorem clone_c (u : Value) (a : List Int) (w : World) (hu : SlT (Value.int .i64) w u a) (hb : a.length ≤ 4194304) : Fnc Tryz.prog 30 [u] w (fun r w' => w'.ownsRow w.heap.size 3 1 r a.length (a.map (Value.int .i64)) ∧ Below w.heap.size w w') := by
  obtain ⟨hl, ao, cap, rfl, h1, h2, h3, h4⟩ := hu
  have hu : SlT (Value.int .i64) w (.slice ao a.length cap) a := ⟨hl, ao, cap, rfl, h1, h2, h3, h4⟩
  refine Fnc.enter (n := 8) Tryz.func30 (by kernel_rfl) rfl rfl rfl ?_
  refine Cw.seq ?_
  refine Cw.region ?_
  refine Lw.val (Ex.assign rfl) rfl ?_
  refine Lw.nil ?_
  refine Pw.thenN (Cw.out ?_)
  refine Cw.seq ?_
  refine Cw.seq ?_
  refine Cw.region ?_
  refine Lw.val (Ex.move rfl) rfl ?_
  refine Lw.val (Ex.nilS un_26 rfl rfl) rfl ?_
  refine Lw.nil ?_
  refine Pw.thenN (Cw.out ?_)
  refine Cw.cond rfl ?_ ?_
  · intro h
    obtain rfl : ao = none := by cases ao <;> simp_all
    obtain rfl : a = [] := List.eq_nil_of_length_eq_zero (by have := h3 rfl; omega)
    refine Cw.seq ?_
    refine Cw.region ?_
    refine Lw.val (Ex.assign rfl) rfl ?_
    refine Lw.nil ?_
    refine Pw.thenN (Cw.out ?_)
    refine Cw.ret ?_
    refine Pw.thenR ?_
    refine Pw.ret1 rfl rfl ?_
    exact ⟨⟨rfl, .inl ⟨rfl, rfl⟩⟩, Below.refl _ _⟩
  intro h
  refine Cw.skip ?_
  refine Pw.thenN (Cw.out ?_)
  refine Cw.seq ?_
  refine Cw.region ?_
  refine Lw.valW (Xw.lit (vs := []) st_26 it_3 rfl rfl rfl rfl rfl) rfl ?_
  rintro v1 w1 ⟨ho1, -, hB1, -⟩
  refine Lw.val (Ex.move rfl) rfl ?_
  refine Lw.valW (Xw.append (base := w.heap.size) st_26 it_3 rfl (by decide) rfl rfl ho1 (hu.bs hB1) (one_map (fun _ => rfl) _) (by omega) (by omega) hB1.size) rfl ?_
  rintro v2 w2 ⟨ho2, hB2, -⟩
  rw [Nat.zero_add, List.nil_append] at ho2
  refine Lw.val (Ex.assign rfl) rfl ?_
  refine Lw.nil ?_
  refine Pw.thenN (Cw.out ?_)
  refine Cw.ret ?_
  refine Pw.ret1 rfl rfl ?_
  exact ⟨ho2, hB1.trans hB2⟩

theorem clip_c (u : Value) (a : List Int) (w : World) (hu : SlT (Value.int .i64) w u a) : Fnc Tryz.prog 94 [u] w (fun r w' => r = clip u ∧ Below w.heap.size w w') := by
  refine Fnc.enter (n := 9) Tryz.func94 (by kernel_rfl) rfl rfl rfl ?_
  refine Cw.seq ?_
  refine Cw.region ?_
  refine Lw.val (Ex.assign rfl) rfl ?_
  refine Lw.nil ?_
  refine Pw.thenN (Cw.out ?_)
  refine Cw.seq ?_
  refine Cw.region ?_
  refine Lw.val (Ex.move rfl) rfl ?_
  refine Lw.val (Ex.move rfl) rfl ?_
  refine Lw.val (Ex.lenS st_26 rfl (by assumption)) rfl ?_
  refine Lw.val (Ex.move rfl) rfl ?_
  refine Lw.val (Ex.lenS st_26 rfl (by assumption)) rfl ?_
  refine Lw.val (Ex.clip st_26 rfl rfl rfl hu.shp) rfl ?_
  refine Lw.val (Ex.assign rfl) rfl ?_
  refine Lw.nil ?_
  refine Pw.thenN (Cw.out ?_)
  refine Cw.ret ?_
  refine Pw.ret1 rfl rfl ?_
  exact ⟨rfl, Below.refl _ _⟩

/-- What New tells: noughts, in memory of their own. -/
structure Made1 (W w : World) (x y : Value) (s : List Int) (l : List (BitVec 32)) : Prop where
  row : KRow w W.heap.size 3 1 x s.length (s.map (Value.int .i64))
  own : w.ownsRow W.heap.size 21 1 y l.length (l.map i32)
  apart : Apt y x
theorem Made1.sh {W w : World} {x y : Value} {s : List Int} {l : List (BitVec 32)} (h : Made1 W w x y s l) : SlT (Value.int .i64) w x s := h.row.slT
theorem Made1.fresh {W w : World} {x y : Value} {s : List Int} {l : List (BitVec 32)} (h : Made1 W w x y s l) : Own1 W x := fun b e => (h.row.lt b e).1
theorem Made1.ten {W w : World} {x y : Value} {s : List Int} {l : List (BitVec 32)} (h : Made1 W w x y s l) : Ten w (.agg #[x, y]) s l := ⟨x, y, rfl, h.sh, own_sl h.own⟩
theorem Made1.bs {W w w' : World} {x y : Value} {s : List Int} {l : List (BitVec 32)} (h : Made1 W w x y s l) (hb : Below w.heap.size w w') : Made1 W w' x y s l := ⟨h.row.bs hb, own_bs h.own hb, h.apart⟩

theorem new_c (u : Value) (s : List Int) (w : World) (hu : SlT (Value.int .i64) w u s) :
    Fnc Tryz.prog 101 [u] w (fun r w' => Below w.heap.size w w' ∧ ((Shapes.ok s = true ∧ ∃ x y, r = .tuple #[.agg #[x, y], .int .i64 0] ∧ Made1 w w' x y s (List.replicate (Shapes.size s).toNat 0#32)) ∨ (Shapes.ok s = false ∧ r = .tuple #[.agg #[.slice none 0 0, .slice none 0 0], .int .i64 1]))) := by
  have hsz := Shapes.size_le s
  refine Fnc.enter (n := 15) Tryz.func101 (by kernel_rfl) rfl rfl rfl ?_
  refine Cw.seq ?_
  refine Cw.region ?_
  refine Lw.valW (Xw.new it_29) rfl ?_
  rintro _ w1 ⟨rfl, hb, hB1, hs1⟩
  refine Lw.val (Ex.assign rfl) rfl ?_
  refine Lw.nil ?_
  refine Pw.thenN (Cw.out ?_)
  refine Cw.seq ?_
  refine Cw.seq ?_
  refine Cw.region ?_
  refine Lw.val (Ex.move rfl) rfl ?_
  refine Lw.callF rfl rfl (check_c u s w1 (hu.bs hB1)) ?_
  rintro _ w2 ⟨rfl, hb2⟩
  have hB2 := bt hB1 hb2
  have hb := hb.bs hb2
  have hu2 := hu.bs hB2
  refine Lw.val (Ex.not rfl) rfl ?_
  refine Lw.nil ?_
  refine Pw.thenN (Cw.out ?_)
  refine Cw.cond rfl ?_ ?_
  · intro h
    have hno : Shapes.ok s = false := by simpa using h
    refine Cw.seq ?_
    refine Cw.region ?_
    refine Lw.val (Ex.build (vs := []) (cs := [.slice none 0 0, .slice none 0 0]) rfl (by kernel_rfl)) rfl ?_
    refine Lw.unit (Xu.stA (cs := [.slice none 0 0, .slice none 0 0]) rfl rfl rfl rfl rfl hb rfl) ?_
    rintro w3 ⟨hb3, hg3, -⟩
    have hB3 : Below w.heap.size w w3 := hB2.grown hg3 (below_size hB2) (by rintro _ ⟨⟩; exact Nat.le_refl _)
    refine Lw.val (Ex.assign rfl) rfl ?_
    refine Lw.nil ?_
    refine Pw.thenN (Cw.out ?_)
    refine Cw.ret ?_
    refine Pw.thenR ?_
    refine Pw.retCT rfl rfl rfl (by assumption) (Tryz.underlying29) rfl rfl rfl ?_
    exact ⟨hB3, .inr ⟨hno, rfl⟩⟩
  intro h
  have hok : Shapes.ok s = true := by simpa using h
  have hgd := (Shapes.ok_iff s).1 hok
  refine Cw.skip ?_
  refine Pw.thenN (Cw.out ?_)
  refine Cw.seq ?_
  refine Cw.region ?_
  refine Lw.val (Ex.move rfl) rfl ?_
  refine Lw.callF rfl rfl (clone_c u s w2 hu2 (by omega)) ?_
  rintro x3 w3 ⟨hr3, hb3⟩
  have hx3 := own_slT hr3
  have hk3 := KRow.clip hr3
  have hB3 := bt hB2 hb3
  have hb := hb.bs hb3
  refine Lw.callF rfl rfl (clip_c x3 s w3 hx3) ?_
  rintro _ w4 ⟨rfl, hb4⟩
  have hB4 := bt hB3 hb4
  have hb := hb.bs hb4
  refine Lw.val (Ex.move rfl) rfl ?_
  refine Lw.callF rfl rfl (size_c u s w4 (hu.bs hB4)) ?_
  rintro _ w5 ⟨rfl, hb5⟩
  have hB5 := bt hB4 hb5
  have hb := hb.bs hb5
  refine Lw.know 12 (v' := .int .i64 (((Shapes.size s).toNat : Nat) : Int)) rfl (congrArg (Value.int .i64) (by omega)) ?_
  refine Lw.valW (Xw.make st_27 it_21 rfl rfl rfl (Nat.le_refl _) (by omega) (by omega)) rfl ?_
  rintro y w6 ⟨ho6, hy, hb6, -⟩
  have hB6 := bt hB5 hb6
  have hb := hb.bs hb6
  have hk6 := (hk3.bs hb4).bs (bt hb5 hb6)
  have hx6 := hk6.slT
  have z3 := (bt hb4 hb5).size
  have hap : Apt y (clip x3) := by
    intro b h1 h2
    rw [hy] at h1
    cases h1
    have h3 : w5.heap.size < w3.heap.size := (hk3.lt _ h2).2
    omega
  refine Lw.val (Ex.build (vs := [(0, clip x3), (1, y)]) (cs := [clip x3, y]) rfl (bt_ten _ _ hx6.one (own_sl ho6).one)) rfl ?_
  refine Lw.unit (Xu.stA (cs := [clip x3, y]) rfl rfl rfl rfl (by simp [hx6.one', (own_sl ho6).one']) hb rfl) ?_
  rintro w7 ⟨hb7, hg7, -⟩
  have hB7 : Below w.heap.size w w7 := hB6.grown hg7 (below_size hB6) (by rintro _ ⟨⟩; exact Nat.le_refl _)
  have z2 := hB2.size
  have z2' := hb2.size
  have z5' := hb3.size
  have z5 := hB5.size
  have hrep : (List.replicate (Shapes.size s).toNat [Value.int .i32 0]).flatten = (List.replicate (Shapes.size s).toNat 0#32).map i32 := by
    generalize (Shapes.size s).toNat = n
    induction n with
    | zero => rfl
    | succ n ih => simp [List.replicate_succ, i32]
  rw [hrep] at ho6
  refine Lw.val (Ex.assign rfl) rfl ?_
  refine Lw.nil ?_
  refine Pw.thenN (Cw.out ?_)
  refine Cw.ret ?_
  refine Pw.retCT rfl rfl rfl (by assumption) (Tryz.underlying29) rfl rfl rfl ?_
  refine ⟨hB7, .inl ⟨hok, clip x3, y, rfl, ?_, ?_, hap⟩⟩
  · refine (hk6.by' hg7 ?_).mono (by omega)
    cases hc : (clip x3).ownBlock with
    | none => exact .inl rfl
    | some b =>
      refine .inr fun h => ?_
      have := (hk3.lt b hc).1
      cases h
      omega
  · have := ho6.kept hg7 (.inr (by rw [hy]; simp [Value.ownBlock]; omega))
    rw [List.length_replicate]
    exact ⟨this.1, by
      rcases this.2 with h | ⟨g, cap, cur, h0, h1, h2, h3⟩
      · exact .inl h
      · exact .inr ⟨g, cap, cur, h0, by omega, h2, h3⟩⟩


/-- A tensor that is given. -/
structure T4 where
  x : Value
  y : Value
  s : List Int
  l : List (BitVec 32)
def T4.at (t : T4) (w : World) : Prop := SlT (Value.int .i64) w t.x t.s ∧ SlT i32 w t.y t.l
theorem T4.at.bs {t : T4} {w w' : World} (h : t.at w) (hb : Below w.heap.size w w') : t.at w' := ⟨h.1.bs hb, h.2.bs hb⟩
def T4.ok (t : T4) : Bool := tok t.s t.l
def T4.v (t : T4) : Value := .agg #[t.x, t.y]
def cellsOf : List T4 → List Value
  | [] => []
  | t :: ts => t.x :: t.y :: cellsOf ts
theorem cells_at : ∀ {ts : List T4} {j : Nat} (h : j < ts.length), (cellsOf ts)[j * 2]? = some ts[j].x ∧ (cellsOf ts)[j * 2 + 1]? = some ts[j].y
  | t :: ts, 0, _ => by simp [cellsOf]
  | t :: ts, j + 1, h => by
    have := cells_at (ts := ts) (j := j) (by simpa using h)
    rw [Nat.succ_mul]
    simpa [cellsOf] using this

theorem T4.at.one {a : T4} {w : World} (h : a.at w) : [a.x, a.y].all (·.oneCell') = true := by simp [h.1.one', h.2.one']
/-- A tensor of one's own. -/
abbrev MineT (w : World) (lo hi A : Nat) (x y : Value) (s : List Int) (l : List (BitVec 32)) : Prop := Mine w 29 3 21 lo hi A x y s l
theorem Made1.one {W w : World} {x y : Value} {s : List Int} {l : List (BitVec 32)} (h : Made1 W w x y s l) : [x, y].all (·.oneCell') = true := by simp [h.sh.one', (own_sl h.own).one']
theorem mine_new {W w w' : World} {A : Nat} {x y : Value} {s : List Int} {l : List (BitVec 32)} (h : Made1 W w x y s l) (hA : A = w.heap.size) (hb : Blk w' A 29 [x, y]) (hn : Below w.heap.size w w') (hz : w'.heap.size = w.heap.size + 1) (hW : W.heap.size ≤ w.heap.size) : MineT w' W.heap.size w'.heap.size A x y s l := by
  have hyb := own_block h.own
  refine ⟨hb, h.row.bs hn, ⟨own_bs h.own hn, fun b e => by have := hyb b e; omega⟩, by omega, fun b e => ?_, fun e => by have := hyb _ e; omega, h.apart⟩
  have h1 := h.row.lt b e
  omega
theorem mine_at {w : World} {lo hi A : Nat} {x y : Value} {s : List Int} {l : List (BitVec 32)} (h : MineT w lo hi A x y s l) : (T4.mk x y s l).at w := ⟨h.sh, h.sly⟩
end Go.Proofs.YtkhndfaampkbnaaGreatDoor
