/- Contract: some tensors, joined along a direction. -/
import Derived.Test.YtkhndfaampkbnaaGreatDoorMovesCode
import Derived.Test.YtkhndfaampkbnaaGreatDoorTensorsAt
namespace Go.Proofs.YtkhndfaampkbnaaGreatDoor
open Go Go.Dd Go.RowKit
set_option maxRecDepth 100000

/-- A list of tensors. -/
def Tens (w : World) (v : Value) (ts : List T4) : Prop := Sl w 2 v ts.length (cellsOf ts) ∧ ∀ t ∈ ts, t.at w
theorem Tens.bs {w w' : World} {v : Value} {ts : List T4} (h : Tens w v ts) (g : Below w.heap.size w w') : Tens w' v ts := ⟨h.1.bs g, fun t ht => (h.2 t ht).bs g⟩
theorem Tens.stay {w0 w w' : World} {v : Value} {ts : List T4} {B : Nat} (p : Tens w0 v ts) (h : Tens w v ts) (hB : w0.heap.size ≤ B) (g : Below B w w') : Tens w' v ts :=
  ⟨Sl.stay h.1 fun k e hne => g.block k (Nat.lt_of_lt_of_le (Sl.blk p.1 hne k e) hB), fun t ht => at_stay (p.2 t ht) (h.2 t ht) hB g⟩
theorem Tens.slice {w : World} {v : Value} {ts : List T4} (h : Tens w v ts) {i : Nat} (hi : i < ts.length) : ∃ ad c k, v = .slice (some ad) c k := by
  obtain ⟨_, ao, cap, rfl, _, _, h3, _⟩ := h.1
  cases ao with
  | none => have := h3 rfl; omega
  | some ad => exact ⟨_, _, _, rfl⟩
theorem tens_at {ts : List T4} {i : Nat} (h : i < ts.length) : ∃ t : T4, t = ts[i] ∧ t ∈ ts ∧ (cellsOf ts)[i * 2]? = some t.x ∧ (cellsOf ts)[i * 2 + 1]? = some t.y :=
  ⟨ts[i], rfl, List.getElem_mem h, (cells_at h).1, (cells_at h).2⟩
theorem two_cells {xs : List Value} {o : Nat} {x y : Value} (h1 : xs[o]? = some x) (h2 : xs[o + 1]? = some y) : ∀ i, i < 2 → ∃ q, [x, y][i]? = some q ∧ xs[o + i]? = some q := fun i hi => by
  rcases (show i = 0 ∨ i = 1 by omega) with rfl | rfl
  · exact ⟨_, rfl, h1⟩
  · exact ⟨_, rfl, h2⟩
theorem join1_c (t : T4) (w : World) (h_t : t.at w) : Fnc Tryz.prog 28 [t.v] w (fun r w' => r = .bool (!tok t.s t.l) ∧ Below w.heap.size w w') := by
  have hB := Below.refl w.heap.size w
  refine Fnc.enter (n := 6) Tryz.func28 (by kernel_rfl) rfl rfl rfl ?_
  refine Cw.seq ?_
  refine Cw.region ?_
  refine Lw.boxV (cs := [t.x, t.y]) rfl rfl rfl ?_
  rintro A_t w eA_t b_t hn -
  replace hB := hB.bs hn
  replace h_t := h_t.bs hn
  clear hn
  refine Lw.val (Ex.assign rfl) rfl ?_
  refine Lw.nil ?_
  refine Pw.thenN (Cw.out ?_)
  refine Cw.seq ?_
  refine Cw.region ?_
  refine Lw.val (Ex.ldA (ag_29 _) (sz_29 _) rfl rfl (by assumption)) rfl ?_
  refine Lw.callF rfl rfl (tcheck_c t.x t.y t.s t.l _ h_t.1 h_t.2) ?_
  rintro _ w ⟨rfl, hn⟩
  replace hB := hB.bs hn
  replace h_t := h_t.bs hn
  replace b_t := b_t.bs hn
  clear hn
  refine Lw.val (Ex.not rfl) rfl ?_
  refine Lw.val (Ex.assign rfl) rfl ?_
  refine Lw.nil ?_
  refine Pw.thenN (Cw.out ?_)
  refine Cw.ret ?_
  refine Pw.ret1 rfl rfl ?_
  exact ⟨rfl, hB⟩
def badT (ts : List T4) : Bool := ts.any fun t => !tok t.s t.l
theorem tIdx_c (v : Value) (ts : List T4) (w : World) (h : Tens w v ts) (hl : ts.length ≤ 1000) : Fnc Tryz.prog 111 [v, .func (.func 28) #[] #[]] w (fun r w' => ∃ j, r = .int .i64 j ∧ decide (0 ≤ j) = badT ts ∧ Below w.heap.size w w') := by
  have hv := h.1
  refine Fnc.enter (n := 19) Tryz.func111 (by kernel_rfl) rfl rfl rfl ?_
  refine Cw.seq ?_
  refine Cw.region ?_
  refine Lw.val (Ex.assign rfl) rfl ?_
  refine Lw.nil ?_
  refine Pw.thenN (Cw.out ?_)
  refine Cw.seq ?_
  refine Cw.seq ?_
  refine Cw.region ?_
  refine Lw.val (Ex.move rfl) rfl ?_
  refine Lw.val (Ex.lenS st_22 rfl (by assumption)) rfl ?_
  refine Lw.val (Ex.move rfl) rfl ?_
  refine Lw.nil ?_
  refine Pw.thenN (Cw.out ?_)
  refine Cw.block ?_
  refine Cw.loop (S := Nat) (fun i => [(0, v), (1, .func (.func 28) #[] #[]), (7, .int .i64 (ts.length : Int)), (8, .int .i64 (i : Int))]) (fun i w' => i ≤ ts.length ∧ badT (ts.take i) = false ∧ Below w.heap.size w w') (fun i => ts.length - i) (0) ⟨rfl, rfl, rfl, rfl, trivial⟩ ?_ ?_
  · exact ⟨Nat.zero_le _, rfl, Below.refl _ _⟩
  rintro i w1 ⟨hi, hc, hn⟩
  have h1 := h.bs hn
  refine Cw.seq ?_
  refine Cw.region ?_
  refine Lw.val (Ex.lss rfl rfl) rfl ?_
  refine Lw.nil ?_
  refine Pw.thenN (Cw.out ?_)
  refine Cw.seq ?_
  refine Cw.cond rfl ?_ ?_
  · intro hlt
    have hi' : i < ts.length := by have := of_decide_eq_true hlt; omega
    obtain ⟨a, ea, ma, c1, c2⟩ := tens_at hi'
    have h_a := h1.2 a ma
    have e1 : badT (ts.take (i + 1)) = (badT (ts.take i) || !tok a.s a.l) := by unfold badT; rw [List.take_succ_eq_append_getElem hi', List.any_append, ← ea]; simp
    refine Cw.skip ?_
    refine Pw.thenN (Cw.out ?_)
    refine Cw.seq ?_
    refine Cw.block ?_
    refine Cw.seq ?_
    refine Cw.region ?_
    refine Lw.val (Ex.move rfl) rfl ?_
    refine Lw.val (Ex.assign rfl) rfl ?_
    refine Lw.nil ?_
    refine Pw.thenN (Cw.out ?_)
    refine Cw.seq ?_
    refine Cw.region ?_
    refine Lw.val (Ex.move rfl) rfl ?_
    refine Lw.val (Ex.move rfl) rfl ?_
    refine Lw.val (Ex.move rfl) rfl ?_
    refine Lw.val (Ex.idx st_22 rfl rfl h1.1 i rfl hi') rfl ?_
    refine Lw.val (Ex.ldE (cs := [a.x, a.y]) (ag_29 _) (sz_29 _) rfl h1.1 rfl (by decide) (two_cells c1 c2)) rfl ?_
    refine Lw.callV (p := []) (q := []) rfl rfl rfl (join1_c a w1 h_a) ?_
    rintro _ w2 ⟨rfl, hn2⟩
    refine Lw.nil ?_
    refine Pw.thenN (Cw.out ?_)
    refine Cw.cond rfl ?_ ?_
    · intro g
      refine Cw.seq ?_
      refine Cw.region ?_
      refine Lw.val (Ex.move rfl) rfl ?_
      refine Lw.val (Ex.assign rfl) rfl ?_
      refine Lw.nil ?_
      refine Pw.thenN (Cw.out ?_)
      refine Cw.ret ?_
      refine Pw.blkR ?_
      refine Pw.thenR ?_
      refine Pw.thenR ?_
      refine Pw.blkR ?_
      refine Pw.thenR ?_
      refine Pw.ret1 rfl rfl ?_
      refine ⟨(i : Int), rfl, ?_, bt hn hn2⟩
      have : badT ts = true := by
        unfold badT
        exact List.any_eq_true.2 ⟨a, ma, g⟩
      rw [this, decide_eq_true (by omega)]
    intro g
    refine Cw.skip ?_
    refine Pw.blkN ?_
    refine Pw.thenN (Cw.out ?_)
    refine Cw.region ?_
    refine Lw.val (Ex.addI rfl rfl (by omega)) rfl ?_
    refine Lw.val (Ex.move rfl) rfl ?_
    refine Lw.nil ?_
    exact Pw.thenN (Pw.next (i + 1) ⟨rfl, rfl, rfl, rfl, trivial⟩ (⟨hi', by rw [e1, hc, g]; rfl, bt hn hn2⟩) (by omega))
  intro hge
  have hi' : i = ts.length := by have := of_decide_eq_false hge; omega
  subst hi'
  rw [List.take_length] at hc
  refine Cw.exit ?_
  refine Pw.thenE ?_
  refine Pw.thenE ?_
  refine Pw.blkHit ?_
  refine Pw.thenN (Cw.out ?_)
  refine Cw.seq ?_
  refine Cw.region ?_
  refine Lw.val (Ex.assign rfl) rfl ?_
  refine Lw.nil ?_
  refine Pw.thenN (Cw.out ?_)
  refine Cw.ret ?_
  refine Pw.ret1 rfl rfl ?_
  exact ⟨-1, rfl, by rw [hc]; rfl, hn⟩
theorem tBad_c (v : Value) (ts : List T4) (w : World) (h : Tens w v ts) (hl : ts.length ≤ 1000) : Fnc Tryz.prog 27 [v, .func (.func 28) #[] #[]] w (fun r w' => r = .bool (badT ts) ∧ Below w.heap.size w w') := by
  refine Fnc.enter (n := 9) Tryz.func27 (by kernel_rfl) rfl rfl rfl ?_
  refine Cw.seq ?_
  refine Cw.region ?_
  refine Lw.val (Ex.assign rfl) rfl ?_
  refine Lw.nil ?_
  refine Pw.thenN (Cw.out ?_)
  refine Cw.seq ?_
  refine Cw.region ?_
  refine Lw.val (Ex.move rfl) rfl ?_
  refine Lw.val (Ex.move rfl) rfl ?_
  refine Lw.callF rfl rfl (tIdx_c v ts w h hl) ?_
  rintro _ _ ⟨j, rfl, hj, hn⟩
  refine Lw.val (Ex.geq rfl rfl) rfl ?_
  refine Lw.val (Ex.assign rfl) rfl ?_
  refine Lw.nil ?_
  refine Pw.thenN (Cw.out ?_)
  refine Cw.ret ?_
  refine Pw.ret1 rfl rfl ?_
  exact ⟨congrArg Value.bool hj, hn⟩
def alk (a b : List Int) (k : Nat) : Bool := decide (a.length = b.length) && decide (a.take k = b.take k) && decide (a.drop (k + 1) = b.drop (k + 1))
theorem alike_c (u v : Value) (a b : List Int) (k : Nat) (w : World) (h_u : SlT (Value.int .i64) w u a) (h_v : SlT (Value.int .i64) w v b) (hk : k < b.length) : Fnc Tryz.prog 31 [u, v, .int .i64 (k : Int)] w (fun r w' => r = .bool (alk a b k) ∧ Below w.heap.size w w') := by
  have hle := h_v.le
  refine Fnc.enter (n := 32) Tryz.func31 (by kernel_rfl) rfl rfl rfl ?_
  refine Cw.seq ?_
  refine Cw.region ?_
  refine Lw.val (Ex.assign rfl) rfl ?_
  refine Lw.nil ?_
  refine Pw.thenN (Cw.out ?_)
  refine Cw.seq ?_
  refine Cw.quiet mixed (by kernel_rfl) ?_
  refine Qw.val (fun w1 hq => Ex.move rfl) rfl ?_
  refine Qw.val (fun w1 hq => Ex.lenS st_26 rfl (Sl.bs (by assumption) hq)) rfl ?_
  refine Qw.val (fun w1 hq => Ex.move rfl) rfl ?_
  refine Qw.val (fun w1 hq => Ex.lenS st_26 rfl (Sl.bs (by assumption) hq)) rfl ?_
  refine Qw.val (fun w1 hq => Ex.eql rfl rfl) rfl ?_
  refine Qw.val (fun w1 hq => Ex.move rfl) rfl ?_
  refine Qw.part 12 rfl ?_ ?_
  · intro g
    have hl : a.length = b.length := by have := of_decide_eq_true g; omega
    refine Qw.take (dj := 12) rfl rfl ?_
    refine Qw.val (fun w1 hq => Ex.move rfl) rfl ?_
    refine Qw.take (dj := 12) rfl rfl ?_
    refine Qw.val (fun w1 hq => Ex.move rfl) rfl ?_
    refine Qw.take (dj := 12) rfl rfl ?_
    refine Qw.val (fun w1 hq => Ex.cutH st_26 rfl rfl (Sl.bs (by assumption) hq) (by omega)) rfl ?_
    refine Qw.take (dj := 12) rfl rfl ?_
    refine Qw.val (fun w1 hq => Ex.move rfl) rfl ?_
    refine Qw.take (dj := 12) rfl rfl ?_
    refine Qw.val (fun w1 hq => Ex.move rfl) rfl ?_
    refine Qw.take (dj := 12) rfl rfl ?_
    refine Qw.val (fun w1 hq => Ex.cutH st_26 rfl rfl (Sl.bs (by assumption) hq) (by omega)) rfl ?_
    refine Qw.take (dj := 12) rfl rfl ?_
    refine Qw.callF rfl rfl (fun w1 hq => (equalInts_c (cut u 1 0 k) (cut v 1 0 k) (a.take k) (b.take k) w1 (Sl.bs (SlT.take h_u (by omega)) hq) (Sl.bs (SlT.take h_v (by omega)) hq)).q hq) ?_
    refine Qw.val (fun w1 hq => Ex.pickT rfl rfl) rfl ?_
    refine Qw.val (fun w1 hq => Ex.move rfl) rfl ?_
    refine Qw.part 21 rfl ?_ ?_
    · intro g2
      refine Qw.take (dj := 21) rfl rfl ?_
      refine Qw.val (fun w1 hq => Ex.move rfl) rfl ?_
      refine Qw.take (dj := 21) rfl rfl ?_
      refine Qw.val (fun w1 hq => Ex.move rfl) rfl ?_
      refine Qw.take (dj := 21) rfl rfl ?_
      refine Qw.val (fun w1 hq => (Ex.addI rfl rfl (by omega)).as (congrArg (Value.int .i64) (show (k : Int) + 1 = ((k + 1 : Nat) : Int) by omega))) rfl ?_
      refine Qw.take (dj := 21) rfl rfl ?_
      refine Qw.val (fun w1 hq => Ex.cutL st_26 rfl rfl (Sl.bs (by assumption) hq) (by omega)) rfl ?_
      refine Qw.take (dj := 21) rfl rfl ?_
      refine Qw.val (fun w1 hq => Ex.move rfl) rfl ?_
      refine Qw.take (dj := 21) rfl rfl ?_
      refine Qw.val (fun w1 hq => Ex.move rfl) rfl ?_
      refine Qw.take (dj := 21) rfl rfl ?_
      refine Qw.val (fun w1 hq => (Ex.addI rfl rfl (by omega)).as (congrArg (Value.int .i64) (show (k : Int) + 1 = ((k + 1 : Nat) : Int) by omega))) rfl ?_
      refine Qw.take (dj := 21) rfl rfl ?_
      refine Qw.val (fun w1 hq => Ex.cutL st_26 rfl rfl (Sl.bs (by assumption) hq) (by omega)) rfl ?_
      refine Qw.take (dj := 21) rfl rfl ?_
      refine Qw.callF rfl rfl (fun w1 hq => (equalInts_c (cut u 1 (k + 1) a.length) (cut v 1 (k + 1) b.length) (a.drop (k + 1)) (b.drop (k + 1)) w1 (Sl.bs (SlT.drop h_u (by omega)) hq) (Sl.bs (SlT.drop h_v (by omega)) hq)).q hq) ?_
      refine Qw.val (fun w1 hq => Ex.pickT rfl rfl) rfl ?_
      refine Qw.val (fun w1 hq => Ex.assign rfl) rfl ?_
      refine Qw.nil (fun w2 hq => ?_)
      refine Pw.thenN (Cw.out ?_)
      refine Cw.ret ?_
      refine Pw.ret1 rfl rfl ?_
      exact ⟨congrArg Value.bool (by unfold alk; rw [decide_eq_true hl, g2]; rfl), hq⟩
    intro g2
    refine Qw.pass (dj := 21) rfl rfl rfl rfl ?_
    refine Qw.pass (dj := 21) rfl rfl rfl rfl ?_
    refine Qw.pass (dj := 21) rfl rfl rfl rfl ?_
    refine Qw.pass (dj := 21) rfl rfl rfl rfl ?_
    refine Qw.pass (dj := 21) rfl rfl rfl rfl ?_
    refine Qw.pass (dj := 21) rfl rfl rfl rfl ?_
    refine Qw.pass (dj := 21) rfl rfl rfl rfl ?_
    refine Qw.pass (dj := 21) rfl rfl rfl rfl ?_
    refine Qw.pass (dj := 21) rfl rfl rfl rfl ?_
    refine Qw.val (fun w1 hq => Ex.pickF rfl rfl) rfl ?_
    refine Qw.val (fun w1 hq => Ex.assign rfl) rfl ?_
    refine Qw.nil (fun w2 hq => ?_)
    refine Pw.thenN (Cw.out ?_)
    refine Cw.ret ?_
    refine Pw.ret1 rfl rfl ?_
    exact ⟨congrArg Value.bool (by unfold alk; rw [g2, Bool.and_false, Bool.false_and]), hq⟩
  intro g
  have hl : ¬ a.length = b.length := by have := of_decide_eq_false g; omega
  refine Qw.pass (dj := 12) rfl rfl rfl rfl ?_
  refine Qw.pass (dj := 12) rfl rfl rfl rfl ?_
  refine Qw.pass (dj := 12) rfl rfl rfl rfl ?_
  refine Qw.pass (dj := 12) rfl rfl rfl rfl ?_
  refine Qw.pass (dj := 12) rfl rfl rfl rfl ?_
  refine Qw.pass (dj := 12) rfl rfl rfl rfl ?_
  refine Qw.pass (dj := 12) rfl rfl rfl rfl ?_
  refine Qw.val (fun w1 hq => Ex.pickF rfl rfl) rfl ?_
  refine Qw.val (fun w1 hq => Ex.move rfl) rfl ?_
  refine Qw.pass (dj := 21) rfl rfl rfl rfl ?_
  refine Qw.pass (dj := 21) rfl rfl rfl rfl ?_
  refine Qw.pass (dj := 21) rfl rfl rfl rfl ?_
  refine Qw.pass (dj := 21) rfl rfl rfl rfl ?_
  refine Qw.pass (dj := 21) rfl rfl rfl rfl ?_
  refine Qw.pass (dj := 21) rfl rfl rfl rfl ?_
  refine Qw.pass (dj := 21) rfl rfl rfl rfl ?_
  refine Qw.pass (dj := 21) rfl rfl rfl rfl ?_
  refine Qw.pass (dj := 21) rfl rfl rfl rfl ?_
  refine Qw.val (fun w1 hq => Ex.pickF rfl rfl) rfl ?_
  refine Qw.val (fun w1 hq => Ex.assign rfl) rfl ?_
  refine Qw.nil (fun w2 hq => ?_)
  refine Pw.thenN (Cw.out ?_)
  refine Cw.ret ?_
  refine Pw.ret1 rfl rfl ?_
  exact ⟨congrArg Value.bool (by unfold alk; rw [decide_eq_false hl]; rfl), hq⟩

/-! ### What joining tells -/
def jsum (k : Nat) : List T4 → Int
  | [] => 0
  | t :: ts => t.s.getD k default + jsum k ts
theorem jsum_append (k : Nat) : ∀ (a b : List T4), jsum k (a ++ b) = jsum k a + jsum k b
  | [], b => by simp [jsum]
  | t :: a, b => by simp only [List.cons_append, jsum]; rw [jsum_append k a b]; omega
/-- The number at a place of some that are joined. -/
def jv (k : Nat) : List T4 → List Int → BitVec 32
  | [], _ => 0#32
  | t :: ts, p => if p.getD k default < t.s.getD k default then tatV t.s t.l p else jv k ts (p.set k (p.getD k default - t.s.getD k default))
def s0T : List T4 → List Int
  | [] => []
  | t :: _ => t.s
def jnS (ts : List T4) (k : Nat) : List Int := (s0T ts).set k (jsum k ts)
def jnA (ts : List T4) (al : Int) : Bool := decide (ts.length < 1) || decide (4 < ts.length) || badT ts || decide (al < 0) || decide (((s0T ts).length : Int) ≤ al)
def jnE (ts : List T4) (al : Int) : Int := if jnA ts al then 1 else if (ts.all fun t => alk t.s (s0T ts) al.toNat) && Shapes.ok (jnS ts al.toNat) then 0 else 10
def jnL (ts : List T4) (k : Nat) : List (BitVec 32) := (List.range (Shapes.size (jnS ts k)).toNat).map fun i : Nat => jv k ts (Shapes.place (jnS ts k) (i : Int))
theorem alk_set {a b : List Int} {k : Nat} (c : Int) : alk a (b.set k c) k = alk a b k := by
  have e1 : (b.set k c).take k = b.take k := by
    apply List.ext_getElem (by simp)
    intro i h1 h2
    simp only [List.length_take, List.length_set] at h1
    rw [List.getElem_take, List.getElem_take, List.getElem_set, if_neg (by omega)]
  have e2 : (b.set k c).drop (k + 1) = b.drop (k + 1) := by
    apply List.ext_getElem (by simp)
    intro i h1 h2
    rw [List.getElem_drop, List.getElem_drop, List.getElem_set, if_neg (by omega)]
  unfold alk
  rw [e1, e2, List.length_set]
/-- Where a joined number comes from. -/
theorem joinF_c (A_k A_l k : Nat) (v : Value) (ts : List T4) (p : List Int) (a : Value) (w : World) (b_k : Blk w A_k 3 [.int .i64 (k : Int)]) (b_l : Blk w A_l 22 [v]) (h : Tens w v ts) (hl : ts.length ≤ 1000) (hT : ∀ t ∈ ts, k < t.s.length ∧ Shapes.ok t.s = true)
    (hk : k < p.length) (hp : p.length ≤ 4) (hc : 0 ≤ p.getD k default ∧ p.getD k default < jsum k ts) (hj : jsum k ts ≤ 1000) (h_a : SlT (Value.int .i64) w a p) :
    Fnc Tryz.prog 34 ([a] ++ [.pointer (some ⟨A_k, 0, none⟩), .pointer (some ⟨A_l, 0, none⟩)]) w (fun r w' => r = i32 (jv k ts p) ∧ Below w.heap.size w w') := by
  show Fnc Tryz.prog 34 [a, .pointer (some ⟨A_k, 0, none⟩), .pointer (some ⟨A_l, 0, none⟩)] w _
  have set_id : p.set k (p.getD k default) = p := by
    have : p[k] = p.getD k default := by simp [hk]
    rw [← this]; exact List.set_getElem_self hk
  refine Fnc.enter (n := 49) Tryz.func34 (by kernel_rfl) rfl rfl rfl ?_
  refine Cw.seq ?_
  refine Cw.region ?_
  refine Lw.val (Ex.assign (show _ = some (i32 (0#32)) from rfl)) rfl ?_
  refine Lw.nil ?_
  refine Pw.thenN (Cw.out ?_)
  refine Cw.seq ?_
  refine Cw.region ?_
  refine Lw.val (Ex.move rfl) rfl ?_
  refine Lw.callF rfl rfl (clone_c a p w h_a (by omega)) ?_
  rintro x w1 ⟨hx, hn1⟩
  refine Lw.val (Ex.assign rfl) rfl ?_
  refine Lw.val (Ex.assign rfl) rfl ?_
  refine Lw.nil ?_
  refine Pw.thenN (Cw.out ?_)
  refine Cw.seq ?_
  refine Cw.block ?_
  refine Cw.loop (S := (Nat × Int)) (fun z => [(0, x), (1, .pointer (some ⟨A_k, 0, none⟩)), (2, .pointer (some ⟨A_l, 0, none⟩)), (5, .int .i64 (z.1 : Int))]) (fun z w' => z.1 ≤ ts.length ∧ (0 ≤ z.2 ∧ z.2 < jsum k (ts.drop z.1) ∧ z.2 ≤ 1000) ∧ jv k ts p = jv k (ts.drop z.1) (p.set k z.2) ∧ Below w.heap.size w w' ∧ w'.ownsRow w.heap.size 3 1 x p.length ((p.set k z.2).map (Value.int .i64))) (fun z => ts.length - z.1) ((0, p.getD k default)) ⟨rfl, rfl, rfl, rfl, trivial⟩ ?_ ?_
  · exact ⟨Nat.zero_le _, ⟨hc.1, hc.2, by show p.getD k default ≤ 1000; omega⟩, by rw [set_id]; rfl, hn1, by show w1.ownsRow _ _ _ _ _ ((p.set k (p.getD k default)).map _); rw [set_id]; exact hx⟩
  clear hx hn1
  rintro ⟨n, c⟩ w2 ⟨hn, ⟨c0, c1, c2⟩, hv, hB, hx⟩
  dsimp only at hn c0 c1 c2 hv hx ⊢
  have hn' : n < ts.length := by
    rcases Nat.lt_or_ge n ts.length with h | h
    · exact h
    · rw [List.drop_of_length_le h] at c1; simp [jsum] at c1; omega
  obtain ⟨t, et, mt, k1, k2⟩ := tens_at hn'
  have hd : ts.drop n = t :: ts.drop (n + 1) := by rw [List.drop_eq_getElem_cons hn', ← et]
  obtain ⟨kt, okt⟩ := hT t mt
  have dt := dim_at ((Shapes.ok_iff t.s).1 okt).2.1 kt
  have h2 := h.bs hB
  have h_t := h2.2 t mt
  have h_t1 := h_t.1
  have hvs := h2.slice hn'
  have b_k2 := b_k.bs hB
  have b_l2 := b_l.bs hB
  have lset : (p.set k c).length = p.length := List.length_set
  have hx' := hx
  rw [← lset] at hx'
  have s_x := own_slT hx'
  clear hx'
  have gk : (p.set k c).getD k default = c := by simp [hk]
  have hkx : k < (p.set k c).length := by omega
  rw [hd] at c1 hv
  have c1' : c < t.s.getD k default + jsum k (ts.drop (n + 1)) := c1
  refine Cw.seq ?_
  refine Cw.seq ?_
  refine Cw.quiet mixed (by kernel_rfl) ?_
  refine Qw.val (fun w1 hq => Ex.move rfl) rfl ?_
  refine Qw.val (fun w1 hq => Ex.ldB (ag_3 _) rfl (Blk.bs (by assumption) hq) rfl) rfl ?_
  refine Qw.val (fun w1 hq => Ex.idxT st_26 rfl rfl (Sl.bs s_x hq) k rfl hkx) rfl ?_
  refine Qw.val (fun w1 hq => (Ex.ldT (ag_3 _) rfl (Sl.bs s_x hq) hkx).as (congrArg (Value.int .i64) gk)) rfl ?_
  refine Qw.val (fun w1 hq => Ex.ldB (ag_22 _) rfl (Blk.bs (by assumption) hq) rfl) rfl ?_
  refine Qw.val (fun w1 hq => Ex.move rfl) rfl ?_
  refine Qw.val (fun w1 hq => Ex.idx st_22 rfl rfl (Sl.bs h2.1 hq) n rfl hn') rfl ?_
  refine Qw.val (fun w1 hq => Ex.fieldAddrE Tryz.underlying29 rfl (sz_26 _) rfl hvs) rfl ?_
  refine Qw.val (fun w1 hq => Ex.ld (ag_26 _) rfl (Sl.bs h2.1 hq) k1) rfl ?_
  refine Qw.val (fun w1 hq => Ex.ldB (ag_3 _) rfl (Blk.bs (by assumption) hq) rfl) rfl ?_
  refine Qw.val (fun w1 hq => Ex.idxT st_26 rfl rfl (Sl.bs h_t1 hq) k rfl kt) rfl ?_
  refine Qw.val (fun w1 hq => Ex.ldT (ag_3 _) rfl (Sl.bs h_t1 hq) kt) rfl ?_
  refine Qw.val (fun w1 hq => Ex.geq rfl rfl) rfl ?_
  refine Qw.nil (fun w3 hq => ?_)
  refine Pw.thenN (Cw.out ?_)
  have hB3 := bt hB hq
  have hx3 := own_bs hx hq
  have h3 := h.bs hB3
  have h_t3 := h3.2 t mt
  have h_t13 := h_t3.1
  have b_k3 := b_k2.bs hq
  have b_l3 := b_l2.bs hq
  have s_x3 := s_x.bs hq
  clear hq
  refine Cw.cond rfl ?_ ?_
  · intro g
    have g := of_decide_eq_true g
    refine Cw.skip ?_
    refine Pw.thenN (Cw.out ?_)
    refine Cw.block ?_
    refine Cw.seq ?_
    refine Cw.tail 14 mixed (by kernel_rfl) ?_
    refine Qw.val (fun w1 hq => Ex.move rfl) rfl ?_
    refine Qw.val (fun w1 hq => Ex.ldB (ag_3 _) rfl (Blk.bs (by assumption) hq) rfl) rfl ?_
    refine Qw.val (fun w1 hq => Ex.idxT st_26 rfl rfl (Sl.bs s_x3 hq) k rfl hkx) rfl ?_
    refine Qw.val (fun w1 hq => (Ex.ldT (ag_3 _) rfl (Sl.bs s_x3 hq) hkx).as (congrArg (Value.int .i64) gk)) rfl ?_
    refine Qw.val (fun w1 hq => Ex.ldB (ag_22 _) rfl (Blk.bs (by assumption) hq) rfl) rfl ?_
    refine Qw.val (fun w1 hq => Ex.move rfl) rfl ?_
    refine Qw.val (fun w1 hq => Ex.idx st_22 rfl rfl (Sl.bs h3.1 hq) n rfl hn') rfl ?_
    refine Qw.val (fun w1 hq => Ex.fieldAddrE Tryz.underlying29 rfl (sz_26 _) rfl hvs) rfl ?_
    refine Qw.val (fun w1 hq => Ex.ld (ag_26 _) rfl (Sl.bs h3.1 hq) k1) rfl ?_
    refine Qw.val (fun w1 hq => Ex.ldB (ag_3 _) rfl (Blk.bs (by assumption) hq) rfl) rfl ?_
    refine Qw.val (fun w1 hq => Ex.idxT st_26 rfl rfl (Sl.bs h_t13 hq) k rfl kt) rfl ?_
    refine Qw.val (fun w1 hq => Ex.ldT (ag_3 _) rfl (Sl.bs h_t13 hq) kt) rfl ?_
    refine Qw.val (fun w1 hq => Ex.subI rfl rfl (by omega)) rfl ?_
    refine Qw.val (fun w1 hq => Ex.idxT st_26 rfl rfl (Sl.bs s_x3 hq) k rfl hkx) rfl ?_
    refine Qw.done (fun w4 hq => ?_)
    have hB4 := bt hB3 hq
    have hx4 := own_bs hx3 hq
    refine Lw.unit (Xu.stO (sz_3 _) rfl rfl rfl hx4 (by rw [List.length_map]; exact hkx)) ?_
    rintro w5 ⟨hx5, hg, -⟩
    rw [← List.map_set, List.set_set] at hx5
    have hB5 := hB4.grown hg (below_size hB4) (fun b e => (own_block hx4 b e).1)
    have ev : jv k (t :: ts.drop (n + 1)) (p.set k c) = jv k (ts.drop (n + 1)) (p.set k (c - t.s.getD k default)) := by
      rw [jv, gk, if_neg (by omega), List.set_set]
    refine Lw.nil ?_
    refine Pw.thenN (Cw.out ?_)
    refine Cw.region ?_
    refine Lw.val (Ex.move rfl) rfl ?_
    refine Lw.val (Ex.addI rfl rfl (by omega)) rfl ?_
    refine Lw.val (Ex.assign rfl) rfl ?_
    refine Lw.nil ?_
    refine Pw.blkN ?_
    exact Pw.thenN (Pw.next ((n + 1, c - t.s.getD k default)) ⟨rfl, rfl, rfl, rfl, trivial⟩ (⟨hn', ⟨by show 0 ≤ c - t.s.getD k default; omega, by show c - t.s.getD k default < jsum k (ts.drop (n + 1)); omega, by show c - t.s.getD k default ≤ 1000; omega⟩, by rw [hv, ev], hB5, hx5⟩) (by simp only; omega))
  intro g
  have g := of_decide_eq_false g
  have ev : jv k (t :: ts.drop (n + 1)) (p.set k c) = tatV t.s t.l (p.set k c) := by rw [jv, gk, if_pos (by omega)]
  refine Cw.exit ?_
  refine Pw.thenE ?_
  refine Pw.thenE ?_
  refine Pw.blkHit ?_
  refine Pw.thenN (Cw.out ?_)
  refine Cw.seq ?_
  refine Cw.region ?_
  refine Lw.val (Ex.ldB (ag_22 _) rfl (by assumption) rfl) rfl ?_
  refine Lw.val (Ex.move rfl) rfl ?_
  refine Lw.val (Ex.idx st_22 rfl rfl h3.1 n rfl hn') rfl ?_
  refine Lw.val (Ex.ldE (cs := [t.x, t.y]) (ag_29 _) (sz_29 _) rfl h3.1 rfl (by decide) (two_cells k1 k2)) rfl ?_
  refine Lw.val (Ex.move rfl) rfl ?_
  refine Lw.callF rfl rfl (tat_c t x (p.set k c) _ h_t3 s_x3) ?_
  rintro _ w4 ⟨rfl, hn4⟩
  refine Lw.val (Ex.move rfl) rfl ?_
  refine Lw.val (Ex.extract (i := 0) rfl rfl) rfl ?_
  refine Lw.val (Ex.extract (i := 1) rfl rfl) rfl ?_
  refine Lw.val (Ex.assign rfl) rfl ?_
  refine Lw.val (Ex.assign rfl) rfl ?_
  refine Lw.nil ?_
  refine Pw.thenN (Cw.out ?_)
  refine Cw.seq ?_
  refine Cw.region ?_
  refine Lw.val (Ex.move rfl) rfl ?_
  refine Lw.val (Ex.assign rfl) rfl ?_
  refine Lw.nil ?_
  refine Pw.thenN (Cw.out ?_)
  refine Cw.ret ?_
  refine Pw.ret1 rfl rfl ?_
  exact ⟨by rw [hv, ev], bt hB3 hn4⟩
theorem jnE_bad {ts : List T4} {al : Int} (h : jnA ts al = true) : jnE ts al = 1 := by unfold jnE; rw [if_pos h]
theorem jnE_ten {ts : List T4} {al : Int} (h : jnA ts al = false) (g : ((ts.all fun t => alk t.s (s0T ts) al.toNat) && Shapes.ok (jnS ts al.toNat)) = false) : jnE ts al = 10 := by unfold jnE; rw [h, if_neg (by decide), g, if_neg (by decide)]
theorem s0T_at {ts : List T4} {t : T4} (h : 0 < ts.length) (e : t = ts[0]) : s0T ts = t.s := by
  match ts, h, e with
  | a :: _, _, e => rw [e]; rfl
theorem badT_at {ts : List T4} (h : badT ts = false) {t : T4} (ht : t ∈ ts) : tok t.s t.l = true := by
  cases hk : tok t.s t.l with
  | true => rfl
  | false =>
    have : badT ts = true := List.any_eq_true.2 ⟨t, ht, by rw [hk]; rfl⟩
    rw [this] at h; cases h
theorem jsum_le {k : Nat} : ∀ {ts : List T4}, (∀ t ∈ ts, 0 ≤ t.s.getD k default ∧ t.s.getD k default ≤ 64) → 0 ≤ jsum k ts ∧ jsum k ts ≤ 64 * ts.length
  | [], _ => by simp [jsum]
  | t :: ts, h => by
    have h1 := h t (by simp)
    have h2 := jsum_le (ts := ts) fun u hu => h u (by simp [hu])
    simp only [jsum, List.length_cons]
    omega
theorem set_set_id {s : List Int} {k : Nat} (h : k < s.length) (c : Int) : (s.set k c).getD k default = c := by simp [h]
set_option maxHeartbeats 1000000 in
theorem mjoin_c (v : Value) (ts : List T4) (al : Int) (W : World) (h : Tens W v ts) :
    Fnc Tryz.prog 8 [v, .int .i64 al] W (fun r w' => Below W.heap.size W w' ∧ AnsK W w' r (jnE ts al) (jnS ts al.toNat) (jnL ts al.toNat)) := by
  have hB := Below.refl W.heap.size W
  have hvo := h.1.one
  have hv := h.1
  refine Fnc.enter (n := 77) Tryz.func8 (by kernel_rfl) rfl rfl rfl ?_
  refine Cw.seq ?_
  refine Cw.region ?_
  refine Lw.boxV (cs := [v]) rfl hvo rfl ?_
  rintro A_l w eA_l b_l hn -
  replace hB := hB.bs hn
  replace h := h.bs hn
  replace hv := hv.bs hn
  clear hn
  refine Lw.boxV (cs := [.int .i64 al]) rfl rfl rfl ?_
  rintro A_k w eA_k b_k hn -
  replace hB := hB.bs hn
  replace h := h.bs hn
  replace hv := hv.bs hn
  replace b_l := b_l.bs hn
  clear hn
  have z0 := below_size hB
  refine Lw.newA it_29 rfl ?_
  rintro A_r w eA_r b_r hn -
  replace hB := hB.bs hn
  replace h := h.bs hn
  replace hv := hv.bs hn
  replace b_l := b_l.bs hn
  replace b_k := b_k.bs hn
  clear hn
  refine Lw.val (Ex.assign rfl) rfl ?_
  refine Lw.nil ?_
  refine Pw.thenN (Cw.out ?_)
  refine Cw.seq ?_
  refine Cw.seq ?_
  have z_r := blk_lt b_r
  refine Cw.quiet mixed (by kernel_rfl) ?_
  refine Qw.val (fun w1 hq => Ex.ldB (ag_22 _) rfl (Blk.bs (by assumption) hq) rfl) rfl ?_
  refine Qw.val (fun w1 hq => Ex.lenS st_22 rfl (Sl.bs (by assumption) hq)) rfl ?_
  refine Qw.val (fun w1 hq => Ex.lss rfl rfl) rfl ?_
  refine Qw.val (fun w1 hq => Ex.move rfl) rfl ?_
  refine Qw.part 12 rfl ?_ ?_
  · intro g
    have g' : ts.length < 1 := by have := of_decide_eq_true g; omega
    refine Qw.pass (dj := 12) rfl rfl rfl rfl ?_
    refine Qw.pass (dj := 12) rfl rfl rfl rfl ?_
    refine Qw.pass (dj := 12) rfl rfl rfl rfl ?_
    refine Qw.val (fun w1 hq => Ex.pickT rfl rfl) rfl ?_
    refine Qw.val (fun w1 hq => Ex.move rfl) rfl ?_
    refine Qw.pass (dj := 17) rfl rfl rfl rfl ?_
    refine Qw.pass (dj := 17) rfl rfl rfl rfl ?_
    refine Qw.val (fun w1 hq => Ex.pickT rfl rfl) rfl ?_
    refine Qw.val (fun w1 hq => Ex.move rfl) rfl ?_
    refine Qw.pass (dj := 21) rfl rfl rfl rfl ?_
    refine Qw.pass (dj := 21) rfl rfl rfl rfl ?_
    refine Qw.val (fun w1 hq => Ex.pickT rfl rfl) rfl ?_
    refine Qw.val (fun w1 hq => Ex.move rfl) rfl ?_
    refine Qw.pass (dj := 25) rfl rfl rfl rfl ?_
    refine Qw.pass (dj := 25) rfl rfl rfl rfl ?_
    refine Qw.pass (dj := 25) rfl rfl rfl rfl ?_
    refine Qw.pass (dj := 25) rfl rfl rfl rfl ?_
    refine Qw.pass (dj := 25) rfl rfl rfl rfl ?_
    refine Qw.pass (dj := 25) rfl rfl rfl rfl ?_
    refine Qw.pass (dj := 25) rfl rfl rfl rfl ?_
    refine Qw.val (fun w1 hq => Ex.pickT rfl rfl) rfl ?_
    refine Qw.nil (fun w1 hq => ?_)
    refine Pw.thenN (Cw.out ?_)
    refine Cw.condT rfl ?_
    refine Cw.seq ?_
    refine Cw.region ?_
    refine Lw.val (Ex.build (vs := []) (cs := [.slice none 0 0, .slice none 0 0]) rfl (by kernel_rfl)) rfl ?_
    have b_r := b_r.bs hq
    have hB := bt hB hq
    refine Lw.unit (Xu.stA (cs := [.slice none 0 0, .slice none 0 0]) rfl rfl rfl rfl rfl b_r rfl) ?_
    rintro w3 ⟨b_r, hg, -⟩
    have hB := hB.grown hg (below_size hB) (by rintro _ ⟨⟩; omega)
    refine Lw.val (Ex.assign rfl) rfl ?_
    refine Lw.nil ?_
    refine Pw.thenN (Cw.out ?_)
    refine Cw.ret ?_
    refine Pw.thenR ?_
    refine Pw.retCT rfl rfl rfl (by assumption) (Tryz.underlying29) rfl rfl rfl ?_
    rw [jnE_bad (by unfold jnA; rw [decide_eq_true g']; rfl)]
    exact ⟨hB, ansK_no (by decide)⟩
  intro g1
  have g1 : ¬ ts.length < 1 := by have := of_decide_eq_false g1; omega
  refine Qw.take (dj := 12) rfl rfl ?_
  refine Qw.val (fun w1 hq => Ex.ldB (ag_22 _) rfl (Blk.bs (by assumption) hq) rfl) rfl ?_
  refine Qw.take (dj := 12) rfl rfl ?_
  refine Qw.val (fun w1 hq => Ex.lenS st_22 rfl (Sl.bs (by assumption) hq)) rfl ?_
  refine Qw.take (dj := 12) rfl rfl ?_
  refine Qw.val (fun w1 hq => Ex.gtr rfl rfl) rfl ?_
  refine Qw.val (fun w1 hq => Ex.pickF rfl rfl) rfl ?_
  refine Qw.val (fun w1 hq => Ex.move rfl) rfl ?_
  refine Qw.part 17 rfl ?_ ?_
  · intro g
    have g' : 4 < ts.length := by have := of_decide_eq_true g; omega
    refine Qw.pass (dj := 17) rfl rfl rfl rfl ?_
    refine Qw.pass (dj := 17) rfl rfl rfl rfl ?_
    refine Qw.val (fun w1 hq => Ex.pickT rfl rfl) rfl ?_
    refine Qw.val (fun w1 hq => Ex.move rfl) rfl ?_
    refine Qw.pass (dj := 21) rfl rfl rfl rfl ?_
    refine Qw.pass (dj := 21) rfl rfl rfl rfl ?_
    refine Qw.val (fun w1 hq => Ex.pickT rfl rfl) rfl ?_
    refine Qw.val (fun w1 hq => Ex.move rfl) rfl ?_
    refine Qw.pass (dj := 25) rfl rfl rfl rfl ?_
    refine Qw.pass (dj := 25) rfl rfl rfl rfl ?_
    refine Qw.pass (dj := 25) rfl rfl rfl rfl ?_
    refine Qw.pass (dj := 25) rfl rfl rfl rfl ?_
    refine Qw.pass (dj := 25) rfl rfl rfl rfl ?_
    refine Qw.pass (dj := 25) rfl rfl rfl rfl ?_
    refine Qw.pass (dj := 25) rfl rfl rfl rfl ?_
    refine Qw.val (fun w1 hq => Ex.pickT rfl rfl) rfl ?_
    refine Qw.nil (fun w1 hq => ?_)
    refine Pw.thenN (Cw.out ?_)
    refine Cw.condT rfl ?_
    refine Cw.seq ?_
    refine Cw.region ?_
    refine Lw.val (Ex.build (vs := []) (cs := [.slice none 0 0, .slice none 0 0]) rfl (by kernel_rfl)) rfl ?_
    have b_r := b_r.bs hq
    have hB := bt hB hq
    refine Lw.unit (Xu.stA (cs := [.slice none 0 0, .slice none 0 0]) rfl rfl rfl rfl rfl b_r rfl) ?_
    rintro w3 ⟨b_r, hg, -⟩
    have hB := hB.grown hg (below_size hB) (by rintro _ ⟨⟩; omega)
    refine Lw.val (Ex.assign rfl) rfl ?_
    refine Lw.nil ?_
    refine Pw.thenN (Cw.out ?_)
    refine Cw.ret ?_
    refine Pw.thenR ?_
    refine Pw.retCT rfl rfl rfl (by assumption) (Tryz.underlying29) rfl rfl rfl ?_
    rw [jnE_bad (by unfold jnA; rw [decide_eq_true g', Bool.or_true]; rfl)]
    exact ⟨hB, ansK_no (by decide)⟩
  intro g2
  have g2 : ¬ 4 < ts.length := by have := of_decide_eq_false g2; omega
  refine Qw.take (dj := 17) rfl rfl ?_
  refine Qw.val (fun w1 hq => Ex.ldB (ag_22 _) rfl (Blk.bs (by assumption) hq) rfl) rfl ?_
  refine Qw.take (dj := 17) rfl rfl ?_
  refine Qw.callF rfl rfl (fun w1 hq => (tBad_c v ts w1 (h.bs hq) (by omega)).q hq) ?_
  refine Qw.val (fun w1 hq => Ex.pickF rfl rfl) rfl ?_
  refine Qw.val (fun w1 hq => Ex.move rfl) rfl ?_
  refine Qw.part 21 rfl ?_ ?_
  · intro g
    refine Qw.pass (dj := 21) rfl rfl rfl rfl ?_
    refine Qw.pass (dj := 21) rfl rfl rfl rfl ?_
    refine Qw.val (fun w1 hq => Ex.pickT rfl rfl) rfl ?_
    refine Qw.val (fun w1 hq => Ex.move rfl) rfl ?_
    refine Qw.pass (dj := 25) rfl rfl rfl rfl ?_
    refine Qw.pass (dj := 25) rfl rfl rfl rfl ?_
    refine Qw.pass (dj := 25) rfl rfl rfl rfl ?_
    refine Qw.pass (dj := 25) rfl rfl rfl rfl ?_
    refine Qw.pass (dj := 25) rfl rfl rfl rfl ?_
    refine Qw.pass (dj := 25) rfl rfl rfl rfl ?_
    refine Qw.pass (dj := 25) rfl rfl rfl rfl ?_
    refine Qw.val (fun w1 hq => Ex.pickT rfl rfl) rfl ?_
    refine Qw.nil (fun w1 hq => ?_)
    refine Pw.thenN (Cw.out ?_)
    refine Cw.condT rfl ?_
    refine Cw.seq ?_
    refine Cw.region ?_
    refine Lw.val (Ex.build (vs := []) (cs := [.slice none 0 0, .slice none 0 0]) rfl (by kernel_rfl)) rfl ?_
    have b_r := b_r.bs hq
    have hB := bt hB hq
    refine Lw.unit (Xu.stA (cs := [.slice none 0 0, .slice none 0 0]) rfl rfl rfl rfl rfl b_r rfl) ?_
    rintro w3 ⟨b_r, hg, -⟩
    have hB := hB.grown hg (below_size hB) (by rintro _ ⟨⟩; omega)
    refine Lw.val (Ex.assign rfl) rfl ?_
    refine Lw.nil ?_
    refine Pw.thenN (Cw.out ?_)
    refine Cw.ret ?_
    refine Pw.thenR ?_
    refine Pw.retCT rfl rfl rfl (by assumption) (Tryz.underlying29) rfl rfl rfl ?_
    rw [jnE_bad (by unfold jnA; rw [g, Bool.or_true]; rfl)]
    exact ⟨hB, ansK_no (by decide)⟩
  intro g3
  refine Qw.take (dj := 21) rfl rfl ?_
  refine Qw.val (fun w1 hq => Ex.ldB (ag_3 _) rfl (Blk.bs (by assumption) hq) rfl) rfl ?_
  refine Qw.take (dj := 21) rfl rfl ?_
  refine Qw.val (fun w1 hq => Ex.lss rfl rfl) rfl ?_
  refine Qw.val (fun w1 hq => Ex.pickF rfl rfl) rfl ?_
  refine Qw.val (fun w1 hq => Ex.move rfl) rfl ?_
  refine Qw.part 25 rfl ?_ ?_
  · intro g
    have g' : al < 0 := of_decide_eq_true g
    refine Qw.pass (dj := 25) rfl rfl rfl rfl ?_
    refine Qw.pass (dj := 25) rfl rfl rfl rfl ?_
    refine Qw.pass (dj := 25) rfl rfl rfl rfl ?_
    refine Qw.pass (dj := 25) rfl rfl rfl rfl ?_
    refine Qw.pass (dj := 25) rfl rfl rfl rfl ?_
    refine Qw.pass (dj := 25) rfl rfl rfl rfl ?_
    refine Qw.pass (dj := 25) rfl rfl rfl rfl ?_
    refine Qw.val (fun w1 hq => Ex.pickT rfl rfl) rfl ?_
    refine Qw.nil (fun w1 hq => ?_)
    refine Pw.thenN (Cw.out ?_)
    refine Cw.condT rfl ?_
    refine Cw.seq ?_
    refine Cw.region ?_
    refine Lw.val (Ex.build (vs := []) (cs := [.slice none 0 0, .slice none 0 0]) rfl (by kernel_rfl)) rfl ?_
    have b_r := b_r.bs hq
    have hB := bt hB hq
    refine Lw.unit (Xu.stA (cs := [.slice none 0 0, .slice none 0 0]) rfl rfl rfl rfl rfl b_r rfl) ?_
    rintro w3 ⟨b_r, hg, -⟩
    have hB := hB.grown hg (below_size hB) (by rintro _ ⟨⟩; omega)
    refine Lw.val (Ex.assign rfl) rfl ?_
    refine Lw.nil ?_
    refine Pw.thenN (Cw.out ?_)
    refine Cw.ret ?_
    refine Pw.thenR ?_
    refine Pw.retCT rfl rfl rfl (by assumption) (Tryz.underlying29) rfl rfl rfl ?_
    rw [jnE_bad (by unfold jnA; rw [decide_eq_true g', Bool.or_true]; rfl)]
    exact ⟨hB, ansK_no (by decide)⟩
  intro g4
  have g4 : ¬ al < 0 := of_decide_eq_false g4
  have hpos : 0 < ts.length := by omega
  obtain ⟨t0, e0, m0, c1, c2⟩ := tens_at hpos
  have h_00 := h.2 t0 m0
  have h_01 := h_00.1
  have es0 := s0T_at hpos e0
  have hvs := h.slice hpos
  refine Qw.take (dj := 25) rfl rfl ?_
  refine Qw.val (fun w1 hq => Ex.ldB (ag_3 _) rfl (Blk.bs (by assumption) hq) rfl) rfl ?_
  refine Qw.take (dj := 25) rfl rfl ?_
  refine Qw.val (fun w1 hq => Ex.ldB (ag_22 _) rfl (Blk.bs (by assumption) hq) rfl) rfl ?_
  refine Qw.take (dj := 25) rfl rfl ?_
  refine Qw.val (fun w1 hq => Ex.idx st_22 rfl rfl (Sl.bs hv hq) 0 rfl hpos) rfl ?_
  refine Qw.take (dj := 25) rfl rfl ?_
  refine Qw.val (fun w1 hq => Ex.fieldAddrE Tryz.underlying29 rfl (sz_26 _) rfl hvs) rfl ?_
  refine Qw.take (dj := 25) rfl rfl ?_
  refine Qw.val (fun w1 hq => Ex.ld (ag_26 _) rfl (Sl.bs hv hq) c1) rfl ?_
  refine Qw.take (dj := 25) rfl rfl ?_
  refine Qw.val (fun w1 hq => Ex.lenS st_26 rfl (Sl.bs (by assumption) hq)) rfl ?_
  refine Qw.take (dj := 25) rfl rfl ?_
  refine Qw.val (fun w1 hq => Ex.geq rfl rfl) rfl ?_
  refine Qw.val (fun w1 hq => Ex.pickF rfl rfl) rfl ?_
  refine Qw.nil (fun w1 hq => ?_)
  refine Pw.thenN (Cw.out ?_)
  refine Cw.cond rfl ?_ ?_
  · intro g
    have g' : ((s0T ts).length : Int) ≤ al := by rw [es0]; exact of_decide_eq_true g
    refine Cw.seq ?_
    refine Cw.region ?_
    refine Lw.val (Ex.build (vs := []) (cs := [.slice none 0 0, .slice none 0 0]) rfl (by kernel_rfl)) rfl ?_
    have b_r := b_r.bs hq
    have hB := bt hB hq
    refine Lw.unit (Xu.stA (cs := [.slice none 0 0, .slice none 0 0]) rfl rfl rfl rfl rfl b_r rfl) ?_
    rintro w3 ⟨b_r, hg, -⟩
    have hB := hB.grown hg (below_size hB) (by rintro _ ⟨⟩; omega)
    refine Lw.val (Ex.assign rfl) rfl ?_
    refine Lw.nil ?_
    refine Pw.thenN (Cw.out ?_)
    refine Cw.ret ?_
    refine Pw.thenR ?_
    refine Pw.retCT rfl rfl rfl (by assumption) (Tryz.underlying29) rfl rfl rfl ?_
    rw [jnE_bad (by unfold jnA; rw [decide_eq_true g', Bool.or_true])]
    exact ⟨hB, ansK_no (by decide)⟩
  intro g5
  have g5 := of_decide_eq_false g5
  have hA : jnA ts al = false := by
    unfold jnA
    rw [decide_eq_false g1, decide_eq_false g2, g3, decide_eq_false g4, es0, decide_eq_false (by omega)]; rfl
  obtain ⟨k, rfl⟩ : ∃ k : Nat, al = (k : Int) := ⟨al.toNat, by omega⟩
  have hk : k < t0.s.length := by omega
  have ok0 := (tok_ok (badT_at g3 m0)).1
  have S0 := (Shapes.ok_iff t0.s).1 ok0
  replace hB := hB.bs hq
  replace h := h.bs hq
  replace hv := hv.bs hq
  replace b_l := b_l.bs hq
  replace b_k := b_k.bs hq
  replace b_r := b_r.bs hq
  replace h_01 := h_01.bs hq
  clear hq h_00
  refine Cw.skip ?_
  refine Pw.thenN (Cw.out ?_)
  refine Cw.seq ?_
  refine Cw.region ?_
  refine Lw.val (Ex.ldB (ag_22 _) rfl (by assumption) rfl) rfl ?_
  refine Lw.val (Ex.idx st_22 rfl rfl hv 0 rfl hpos) rfl ?_
  refine Lw.val (Ex.fieldAddrE Tryz.underlying29 rfl (sz_26 _) rfl hvs) rfl ?_
  refine Lw.val (Ex.ld (ag_26 _) rfl hv c1) rfl ?_
  obtain ⟨B, hBB⟩ : ∃ B, B = w1.heap.size := ⟨_, rfl⟩
  have y_l : A_l < B := hBB ▸ blk_lt b_l
  have y_k : A_k < B := hBB ▸ blk_lt b_k
  have y_r : A_r < B := hBB ▸ blk_lt b_r
  have y_B := below_size hB
  have p_h := h
  have b_l0 := b_l
  have b_k0 := b_k
  have b_r0 := b_r
  have hB0 := hB
  refine Lw.callF rfl rfl (clone_c t0.x t0.s w1 h_01 (by omega)) ?_
  rintro x w2 ⟨hx, hn⟩
  rw [← hBB] at hx
  have zn := hn.size
  replace hB := hB.bs hn
  replace h := h.bs hn
  replace hv := hv.bs hn
  replace b_l := b_l.bs hn
  replace b_k := b_k.bs hn
  replace b_r := b_r.bs hn
  replace h_01 := h_01.bs hn
  have hK := hBB ▸ hn
  clear hn
  have s_x := own_slT hx
  refine Lw.val (Ex.assign rfl) rfl ?_
  refine Lw.nil ?_
  refine Pw.thenN (Cw.out ?_)
  refine Cw.seq ?_
  refine Cw.region ?_
  refine Lw.val (Ex.move rfl) rfl ?_
  refine Lw.val (Ex.ldB (ag_3 _) rfl (by assumption) rfl) rfl ?_
  refine Lw.val (Ex.idxT st_26 rfl rfl s_x k rfl hk) rfl ?_
  refine Lw.unit (Xu.stO (sz_3 _) rfl rfl rfl hx (by rw [List.length_map]; exact hk)) ?_
  rintro w3 ⟨hx3, hg, -⟩
  rw [← List.map_set] at hx3
  have hK3 : Below B w1 w3 := Below.grown hK hg (by omega) (fun b e => (own_block hx b e).1)
  clear s_x hx hg
  clear hv
  have gd : ∀ t ∈ ts, 0 ≤ t.s.getD k default ∧ t.s.getD k default ≤ 64 := fun t ht => by
    have S := (Shapes.ok_iff t.s).1 (tok_ok (badT_at g3 ht)).1
    rcases Nat.lt_or_ge k t.s.length with h | h
    · have := dim_at S.2.1 h; omega
    · rw [List.getD_eq_getElem?_getD, List.getElem?_eq_none h]; decide
  have h3 := p_h.stay p_h (Nat.le_of_eq hBB.symm) hK3
  have hv3 := h3.1
  have b_l3 := b_l0.bl hK3 y_l
  have b_k3 := b_k0.bl hK3 y_k
  clear b_l b_k b_r hB h_01 h
  refine Lw.nil ?_
  refine Pw.thenN (Cw.out ?_)
  refine Cw.seq ?_
  refine Cw.seq ?_
  refine Cw.region ?_
  refine Lw.val (Ex.ldB (ag_22 _) rfl (by assumption) rfl) rfl ?_
  refine Lw.val (Ex.lenS st_22 rfl (by assumption)) rfl ?_
  refine Lw.val (Ex.move rfl) rfl ?_
  refine Lw.nil ?_
  refine Pw.thenN (Cw.out ?_)
  refine Cw.block ?_
  refine Cw.loop (S := Nat) (fun i => [(2, .pointer (some ⟨A_l, 0, none⟩)), (3, .pointer (some ⟨A_k, 0, none⟩)), (4, .pointer (some ⟨A_r, 0, none⟩)), (6, x), (43, v), (44, .int .i64 (ts.length : Int)), (45, .int .i64 (i : Int))]) (fun i w' => i ≤ ts.length ∧ (∀ t ∈ ts.take i, alk t.s t0.s k = true) ∧ Below B w1 w' ∧ w'.ownsRow B 3 1 x t0.s.length ((t0.s.set k (jsum k (ts.take i))).map (Value.int .i64))) (fun i => ts.length - i) (0) ⟨rfl, rfl, rfl, rfl, rfl, rfl, rfl, trivial⟩ ?_ ?_
  · exact ⟨Nat.zero_le _, fun t ht => by simp at ht, hK3, hx3⟩
  clear hx3 hK3 b_l3 b_k3 hv3 h3
  rintro i w4 ⟨hi, hC, hK, hx⟩
  have hK4 := hK
  have zK := hK.size
  have h4 := p_h.stay p_h (Nat.le_of_eq hBB.symm) hK
  have b_k := b_k0.bl hK y_k
  have b_l := b_l0.bl hK y_l
  have b_r := b_r0.bl hK y_r
  have hB := hB0.trans (hK.mono (by omega))
  obtain ⟨s', hs'⟩ : ∃ s', s' = t0.s.set k (jsum k (ts.take i)) := ⟨_, rfl⟩
  have ls' : s'.length = t0.s.length := by rw [hs']; exact List.length_set
  rw [← hs', ← ls'] at hx
  have gk : s'.getD k default = jsum k (ts.take i) := by rw [hs']; exact set_set_id hk _
  have hks : k < s'.length := by omega
  refine Cw.seq ?_
  refine Cw.region ?_
  refine Lw.val (Ex.lss rfl rfl) rfl ?_
  refine Lw.nil ?_
  refine Pw.thenN (Cw.out ?_)
  refine Cw.seq ?_
  refine Cw.cond rfl ?_ ?_
  · intro g
    have hi' : i < ts.length := by have := of_decide_eq_true g; omega
    obtain ⟨t, et, mt, k1, k2⟩ := tens_at hi'
    have h_t := h4.2 t mt
    have e1 : ts.take (i + 1) = ts.take i ++ [t] := by rw [List.take_succ_eq_append_getElem hi', ← et]
    have gt := gd t mt
    have js : jsum k (ts.take (i + 1)) = jsum k (ts.take i) + t.s.getD k default := by rw [e1, jsum_append]; simp [jsum]
    have jl := jsum_le (k := k) (ts := ts.take i) fun u hu => gd u (List.mem_of_mem_take hu)
    rw [List.length_take] at jl
    refine Cw.skip ?_
    refine Pw.thenN (Cw.out ?_)
    refine Cw.seq ?_
    refine Cw.block ?_
    refine Cw.seq ?_
    refine Cw.region ?_
    refine Lw.val (Ex.idx st_22 rfl rfl h4.1 i rfl hi') rfl ?_
    refine Lw.val (Ex.ldE (cs := [t.x, t.y]) (ag_29 _) (sz_29 _) rfl h4.1 rfl (by decide) (two_cells k1 k2)) rfl ?_
    refine Lw.boxed (cs := [t.x, t.y]) it_29 rfl rfl rfl rfl (fun _ => rfl) (h_t.one) ?_
    rintro A_x w5 eA_x b_x hn5 zhn5
    have h_t1 := (h_t.bs hn5).1
    have b_k := b_k.bs hn5
    have b_r := b_r.bs hn5
    have hx := own_bs hx hn5
    have hK := hK.trans (hn5.mono (by omega))
    have zK := hK.size
    have hB := bt hB hn5
    have s_x := own_slT hx
    refine Lw.nil ?_
    refine Pw.thenN (Cw.out ?_)
    refine Cw.seq ?_
    refine Cw.seq ?_
    refine Cw.region ?_
    refine Lw.val (Ex.fieldAddr (q := 0) Tryz.underlying29 rfl (sz_26 _) rfl) rfl ?_
    refine Lw.val (Ex.ldB (ag_26 _) rfl (by assumption) rfl) rfl ?_
    refine Lw.val (Ex.move rfl) rfl ?_
    refine Lw.val (Ex.ldB (ag_3 _) rfl (by assumption) rfl) rfl ?_
    refine Lw.callF rfl rfl (alike_c t.x x t.s s' k w5 h_t1 s_x hks) ?_
    rintro _ w6 ⟨rfl, hn6⟩
    have h_t1 := h_t1.bs hn6
    have b_x := b_x.bs hn6
    have b_k := b_k.bs hn6
    have b_r := b_r.bs hn6
    have hx := own_bs hx hn6
    have hK := hK.trans (hn6.mono (by omega))
    have zK := hK.size
    have hB := bt hB hn6
    have s_x := own_slT hx
    refine Lw.val (Ex.not rfl) rfl ?_
    refine Lw.nil ?_
    refine Pw.thenN (Cw.out ?_)
    refine Cw.cond rfl ?_ ?_
    · intro g2
      have g2 : alk t.s t0.s k = false := by rw [hs', alk_set] at g2; simpa using g2
      refine Cw.seq ?_
      refine Cw.region ?_
      refine Lw.val (Ex.build (vs := []) (cs := [.slice none 0 0, .slice none 0 0]) rfl (by kernel_rfl)) rfl ?_
      refine Lw.unit (Xu.stA (cs := [.slice none 0 0, .slice none 0 0]) rfl rfl rfl rfl rfl b_r rfl) ?_
      rintro w3 ⟨b_r, hg, -⟩
      have hB := hB.grown hg (below_size hB) (by rintro _ ⟨⟩; omega)
      refine Lw.val (Ex.assign rfl) rfl ?_
      refine Lw.nil ?_
      refine Pw.thenN (Cw.out ?_)
      refine Cw.ret ?_
      refine Pw.thenR ?_
      refine Pw.blkR ?_
      refine Pw.thenR ?_
      refine Pw.thenR ?_
      refine Pw.blkR ?_
      refine Pw.thenR ?_
      refine Pw.retCT rfl rfl rfl (by assumption) (Tryz.underlying29) rfl rfl rfl ?_
      rw [jnE_ten hA (by rw [es0, show (ts.all fun t => alk t.s t0.s ((k : Int)).toNat) = false from List.all_eq_false.2 ⟨t, mt, by rw [Int.toNat_natCast, g2]; decide⟩]; rfl)]
      exact ⟨hB, ansK_no (by decide)⟩
    intro g2
    have g2 : alk t.s t0.s k = true := by rw [hs', alk_set] at g2; simpa using g2
    have lk : t.s.length = t0.s.length := by
      unfold alk at g2
      simp only [Bool.and_eq_true, decide_eq_true_eq] at g2
      exact g2.1.1
    have hkt : k < t.s.length := by omega
    refine Cw.skip ?_
    refine Pw.thenN (Cw.out ?_)
    refine Cw.tail 11 mixed (by kernel_rfl) ?_
    refine Qw.val (fun w1 hq => Ex.move rfl) rfl ?_
    refine Qw.val (fun w1 hq => Ex.ldB (ag_3 _) rfl (Blk.bs (by assumption) hq) rfl) rfl ?_
    refine Qw.val (fun w1 hq => Ex.idxT st_26 rfl rfl (Sl.bs s_x hq) k rfl hks) rfl ?_
    refine Qw.val (fun w1 hq => (Ex.ldT (ag_3 _) rfl (Sl.bs s_x hq) hks).as (congrArg (Value.int .i64) gk)) rfl ?_
    refine Qw.val (fun w1 hq => Ex.fieldAddr (q := 0) Tryz.underlying29 rfl (sz_26 _) rfl) rfl ?_
    refine Qw.val (fun w1 hq => Ex.ldB (ag_26 _) rfl (Blk.bs (by assumption) hq) rfl) rfl ?_
    refine Qw.val (fun w1 hq => Ex.ldB (ag_3 _) rfl (Blk.bs (by assumption) hq) rfl) rfl ?_
    refine Qw.val (fun w1 hq => Ex.idxT st_26 rfl rfl (Sl.bs h_t1 hq) k rfl hkt) rfl ?_
    refine Qw.val (fun w1 hq => Ex.ldT (ag_3 _) rfl (Sl.bs h_t1 hq) hkt) rfl ?_
    refine Qw.val (fun w1 hq => Ex.addI rfl rfl (by omega)) rfl ?_
    refine Qw.val (fun w1 hq => Ex.idxT st_26 rfl rfl (Sl.bs s_x hq) k rfl hks) rfl ?_
    refine Qw.done (fun w7 hq => ?_)
    have hx := own_bs hx hq
    have hK := hK.trans (hq.mono (by omega))
    have zK := hK.size
    clear hq
    refine Lw.unit (Xu.stO (sz_3 _) rfl rfl rfl hx (by rw [List.length_map]; exact hks)) ?_
    rintro w8 ⟨hx8, hg, -⟩
    rw [← List.map_set, hs', List.set_set, ← js, ← hs', ls'] at hx8
    have hC' : ∀ u ∈ ts.take (i + 1), alk u.s t0.s k = true := fun u hu => by
      rw [e1] at hu
      rcases List.mem_append.1 hu with h | h
      · exact hC u h
      · rw [List.mem_singleton.1 h]; exact g2
    have hK8 : Below B w1 w8 := Below.grown hK hg (by omega) (fun b e => (own_block hx b e).1)
    refine Lw.nil ?_
    refine Pw.blkN ?_
    refine Pw.thenN (Cw.out ?_)
    refine Cw.region ?_
    refine Lw.val (Ex.addI rfl rfl (by omega)) rfl ?_
    refine Lw.val (Ex.move rfl) rfl ?_
    refine Lw.nil ?_
    exact Pw.thenN (Pw.next (i + 1) ⟨rfl, rfl, rfl, rfl, rfl, rfl, rfl, trivial⟩ (⟨hi', hC', hK8, hx8⟩) (by omega))
  intro g
  have hi' : i = ts.length := by have := of_decide_eq_false g; omega
  subst hi'
  rw [List.take_length] at hC hs' gk
  have eS : s' = jnS ts k := by rw [hs']; unfold jnS; rw [es0]
  have hAll : (ts.all fun t => alk t.s (s0T ts) k) = true := List.all_eq_true.2 fun t ht => by rw [es0]; exact hC t ht
  have hT : ∀ t ∈ ts, k < t.s.length ∧ Shapes.ok t.s = true := fun t ht => ⟨by
    have g2 := hC t ht
    unfold alk at g2
    simp only [Bool.and_eq_true, decide_eq_true_eq] at g2
    have := g2.1.1
    omega, (tok_ok (badT_at g3 ht)).1⟩
  have jl := jsum_le (k := k) (ts := ts) gd
  have s_x := own_slT hx
  refine Cw.exit ?_
  refine Pw.thenE ?_
  refine Pw.thenE ?_
  refine Pw.blkHit ?_
  refine Pw.thenN (Cw.out ?_)
  refine Cw.seq ?_
  refine Cw.seq ?_
  refine Cw.region ?_
  refine Lw.val (Ex.move rfl) rfl ?_
  refine Lw.callF rfl rfl (check_c x s' w4 s_x) ?_
  rintro _ w6 ⟨rfl, hn6⟩
  have h6 := h4.bs hn6
  have b_k := b_k.bs hn6
  have b_l := b_l.bs hn6
  have b_r := b_r.bs hn6
  have hx := own_bs hx hn6
  have hK := hK.trans (hn6.mono (by omega))
  have zK := hK.size
  have hB := bt hB hn6
  have s_x := own_slT hx
  refine Lw.val (Ex.not rfl) rfl ?_
  refine Lw.nil ?_
  refine Pw.thenN (Cw.out ?_)
  refine Cw.cond rfl ?_ ?_
  · intro g2
    have g2 : Shapes.ok s' = false := by simpa using g2
    refine Cw.seq ?_
    refine Cw.region ?_
    refine Lw.val (Ex.build (vs := []) (cs := [.slice none 0 0, .slice none 0 0]) rfl (by kernel_rfl)) rfl ?_
    refine Lw.unit (Xu.stA (cs := [.slice none 0 0, .slice none 0 0]) rfl rfl rfl rfl rfl b_r rfl) ?_
    rintro w3 ⟨b_r, hg, -⟩
    have hB := hB.grown hg (below_size hB) (by rintro _ ⟨⟩; omega)
    refine Lw.val (Ex.assign rfl) rfl ?_
    refine Lw.nil ?_
    refine Pw.thenN (Cw.out ?_)
    refine Cw.ret ?_
    refine Pw.thenR ?_
    refine Pw.retCT rfl rfl rfl (by assumption) (Tryz.underlying29) rfl rfl rfl ?_
    rw [jnE_ten hA (by rw [Int.toNat_natCast, ← eS, g2, Bool.and_false])]
    exact ⟨hB, ansK_no (by decide)⟩
  intro g2
  have okS : Shapes.ok s' = true := by simpa using g2
  have S := (Shapes.ok_iff s').1 okS
  have hE : jnE ts (k : Int) = 0 := by unfold jnE; rw [hA, Int.toNat_natCast, hAll, ← eS, okS]; rfl
  have eL : jnL ts k = (List.range (Shapes.size s').toNat).map fun i : Nat => jv k ts (Shapes.place s' (i : Int)) := by unfold jnL; rw [← eS]
  rw [hE, Int.toNat_natCast, eL, ← eS]
  refine Cw.skip ?_
  refine Pw.thenN (Cw.out ?_)
  refine Cw.seq ?_
  refine Cw.region ?_
  refine Lw.val (Ex.move rfl) rfl ?_
  refine Lw.val (Ex.mkFn (vs := []) (us := [.pointer (some ⟨A_k, 0, none⟩), .pointer (some ⟨A_l, 0, none⟩)]) rfl rfl) rfl ?_
  refine Lw.callF rfl rfl (filled_c x s' 34 [.pointer (some ⟨A_k, 0, none⟩), .pointer (some ⟨A_l, 0, none⟩)] (fun i => jv k ts (Shapes.place s' (i : Int))) _ s_x okS (fun i a w' hb _ ha => joinF_c A_k A_l k v ts (Shapes.place s' i) a w' (b_k.bs hb) (b_l.bs hb) (h6.bs hb) (by omega) hT (by rw [Shapes.place_length]; exact hks) (by rw [Shapes.place_length]; exact S.1.2) (gk ▸ Shapes.inn_at (Shapes.place_in (by omega) S.2.1) (k := k) hks) (by omega) ha)) ?_
  rintro _ w ⟨hn, x1, x2, rfl, hm⟩
  have hm := hm.k
  have zw6 := hn.size
  have b_r := b_r.bs hn
  have hB := bt hB hn
  have q_r : A_r < w6.heap.size := by omega
  refine Lw.val (Ex.extract (i := 0) rfl rfl) rfl ?_
  refine Lw.val (Ex.extract (i := 1) rfl rfl) rfl ?_
  refine Lw.unit (Xu.stA (cs := [x1, x2]) rfl rfl rfl rfl hm.at.one b_r rfl) ?_
  rintro w5 ⟨b_r5, hg, -⟩
  have hB5 := hB.grown hg (below_size hB) (by rintro _ ⟨⟩; omega)
  refine Lw.val (Ex.assign rfl) rfl ?_
  refine Lw.nil ?_
  refine Pw.thenN (Cw.out ?_)
  refine Cw.ret ?_
  refine Pw.retCT rfl rfl rfl (by assumption) (Tryz.underlying29) rfl rfl rfl ?_
  have zz := below_size hB
  exact ⟨hB5, x1, x2, rfl, fun h => absurd rfl h, fun _ => ⟨(bl_krow hm.row hg q_r).mono (by omega), (bl_krow hm.col hg q_r).mono (by omega), hm.apart⟩⟩
end Go.Proofs.YtkhndfaampkbnaaGreatDoor
