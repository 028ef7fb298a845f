/- Contracts: windows, as the document has them. -/
import Derived.Test.YtgjpjpdmkeifeaaGreatDoorWinPool
import Derived.Test.YtgjpjpdmkeifeaaGreatDoorRefCode
namespace Go.Proofs.YtgjpjpdmkeifeaaGreatDoor
open Go Go.Dd Go.RowKit
set_option maxRecDepth 100000

theorem at_stay {w0 w w' : World} {a : T4} {B : Nat} (p : a.at w0) (h : a.at w) (hB : w0.heap.size ≤ B) (g : Below B w w') : a.at w' :=
  ⟨Sl.stay h.1 fun k e hne => g.block k (Nat.lt_of_lt_of_le (Sl.blk p.1 hne k e) hB), Sl.stay h.2 fun k e hne => g.block k (Nat.lt_of_lt_of_le (Sl.blk p.2 hne k e) hB)⟩
theorem rat8_c (a : T4) (c y x : Int) (W : World) (h_a : a.at W) (h3 : a.s.length = 3) (h1 : 0 ≤ a.s.getD 1 default ∧ a.s.getD 1 default ≤ 64) (h2 : 0 ≤ a.s.getD 2 default ∧ a.s.getD 2 default ≤ 64) (hc : 0 ≤ c ∧ c ≤ 4096)
    (hy : -1000000 ≤ y ∧ y ≤ 1000000) (hx : -1000000 ≤ x ∧ x ≤ 1000000) (hl : (c + 1) * (a.s.getD 1 default * a.s.getD 2 default) ≤ a.l.length) :
    Fnc Tryz.prog 31 [a.v, .int .i64 c, .int .i64 y, .int .i64 x] W (fun r w' => r = i32 (pic a.l (a.s.getD 1 default) (a.s.getD 2 default) c y x) ∧ Below W.heap.size W w') := by
  have hB := Below.refl W.heap.size W
  have h_a1 := h_a.1
  have h_a2 := h_a.2
  refine Fnc.enter (n := 50) Tryz.func31 (by kernel_rfl) rfl rfl rfl ?_
  refine Cw.seq ?_
  refine Cw.region ?_
  refine Lw.boxV (cs := [a.x, a.y]) rfl rfl rfl ?_
  rintro A_p w eA_p b_p hn -
  replace hB := hB.bs hn
  replace h_a1 := h_a1.bs hn
  replace h_a2 := h_a2.bs hn
  clear hn
  refine Lw.val (Ex.assign (show _ = some (i32 (0#32)) from rfl)) rfl ?_
  refine Lw.nil ?_
  refine Pw.thenN (Cw.out ?_)
  refine Cw.seq ?_
  refine Cw.seq ?_
  refine Cw.region ?_
  refine Lw.val (Ex.move rfl) rfl ?_
  refine Lw.val (Ex.lss rfl rfl) rfl ?_
  refine Lw.val (Ex.move rfl) rfl ?_
  refine Lw.part 11 rfl ?_ ?_
  · intro g
    have g := of_decide_eq_true g
    refine Lw.pass (dj := 11) rfl rfl rfl rfl ?_
    refine Lw.pass (dj := 11) rfl rfl rfl rfl ?_
    refine Lw.pass (dj := 11) rfl rfl rfl rfl ?_
    refine Lw.pass (dj := 11) rfl rfl rfl rfl ?_
    refine Lw.pass (dj := 11) rfl rfl rfl rfl ?_
    refine Lw.pass (dj := 11) rfl rfl rfl rfl ?_
    refine Lw.val (Ex.pickT rfl rfl) rfl ?_
    refine Lw.val (Ex.move rfl) rfl ?_
    refine Lw.pass (dj := 19) rfl rfl rfl rfl ?_
    refine Lw.pass (dj := 19) rfl rfl rfl rfl ?_
    refine Lw.val (Ex.pickT rfl rfl) rfl ?_
    refine Lw.val (Ex.move rfl) rfl ?_
    refine Lw.pass (dj := 23) rfl rfl rfl rfl ?_
    refine Lw.pass (dj := 23) rfl rfl rfl rfl ?_
    refine Lw.pass (dj := 23) rfl rfl rfl rfl ?_
    refine Lw.pass (dj := 23) rfl rfl rfl rfl ?_
    refine Lw.pass (dj := 23) rfl rfl rfl rfl ?_
    refine Lw.pass (dj := 23) rfl rfl rfl rfl ?_
    refine Lw.val (Ex.pickT rfl rfl) rfl ?_
    refine Lw.nil ?_
    refine Pw.thenN (Cw.out ?_)
    refine Cw.condT rfl ?_
    refine Cw.seq ?_
    refine Cw.region ?_
    refine Lw.val (Ex.assign (show _ = some (i32 (0#32)) from rfl)) rfl ?_
    refine Lw.nil ?_
    refine Pw.thenN (Cw.out ?_)
    refine Cw.ret ?_
    refine Pw.thenR ?_
    refine Pw.ret1 rfl rfl ?_
    exact ⟨congrArg i32 (by rw [pic, if_pos (by omega)]), hB⟩
  intro g1
  have g1 := of_decide_eq_false g1
  refine Lw.take (dj := 11) rfl rfl ?_
  refine Lw.val (Ex.move rfl) rfl ?_
  refine Lw.take (dj := 11) rfl rfl ?_
  refine Lw.val (Ex.fieldAddr (q := 0) Tryz.underlying25 rfl (sz_22 _) rfl) rfl ?_
  refine Lw.take (dj := 11) rfl rfl ?_
  refine Lw.val (Ex.ldB (ag_22 _) rfl (by assumption) rfl) rfl ?_
  refine Lw.take (dj := 11) rfl rfl ?_
  refine Lw.val (Ex.idxT st_22 rfl rfl (by assumption) 1 rfl (by omega)) rfl ?_
  refine Lw.take (dj := 11) rfl rfl ?_
  refine Lw.val (Ex.ldT (ag_3 _) rfl (by assumption) (by omega)) rfl ?_
  refine Lw.take (dj := 11) rfl rfl ?_
  refine Lw.val (Ex.geq rfl rfl) rfl ?_
  refine Lw.val (Ex.pickF rfl rfl) rfl ?_
  refine Lw.val (Ex.move rfl) rfl ?_
  refine Lw.part 19 rfl ?_ ?_
  · intro g
    have g := of_decide_eq_true g
    refine Lw.pass (dj := 19) rfl rfl rfl rfl ?_
    refine Lw.pass (dj := 19) rfl rfl rfl rfl ?_
    refine Lw.val (Ex.pickT rfl rfl) rfl ?_
    refine Lw.val (Ex.move rfl) rfl ?_
    refine Lw.pass (dj := 23) rfl rfl rfl rfl ?_
    refine Lw.pass (dj := 23) rfl rfl rfl rfl ?_
    refine Lw.pass (dj := 23) rfl rfl rfl rfl ?_
    refine Lw.pass (dj := 23) rfl rfl rfl rfl ?_
    refine Lw.pass (dj := 23) rfl rfl rfl rfl ?_
    refine Lw.pass (dj := 23) rfl rfl rfl rfl ?_
    refine Lw.val (Ex.pickT rfl rfl) rfl ?_
    refine Lw.nil ?_
    refine Pw.thenN (Cw.out ?_)
    refine Cw.condT rfl ?_
    refine Cw.seq ?_
    refine Cw.region ?_
    refine Lw.val (Ex.assign (show _ = some (i32 (0#32)) from rfl)) rfl ?_
    refine Lw.nil ?_
    refine Pw.thenN (Cw.out ?_)
    refine Cw.ret ?_
    refine Pw.thenR ?_
    refine Pw.ret1 rfl rfl ?_
    exact ⟨congrArg i32 (by rw [pic, if_pos (by omega)]), hB⟩
  intro g2
  have g2 := of_decide_eq_false g2
  refine Lw.take (dj := 19) rfl rfl ?_
  refine Lw.val (Ex.move rfl) rfl ?_
  refine Lw.take (dj := 19) rfl rfl ?_
  refine Lw.val (Ex.lss rfl rfl) rfl ?_
  refine Lw.val (Ex.pickF rfl rfl) rfl ?_
  refine Lw.val (Ex.move rfl) rfl ?_
  refine Lw.part 23 rfl ?_ ?_
  · intro g
    have g := of_decide_eq_true g
    refine Lw.pass (dj := 23) rfl rfl rfl rfl ?_
    refine Lw.pass (dj := 23) rfl rfl rfl rfl ?_
    refine Lw.pass (dj := 23) rfl rfl rfl rfl ?_
    refine Lw.pass (dj := 23) rfl rfl rfl rfl ?_
    refine Lw.pass (dj := 23) rfl rfl rfl rfl ?_
    refine Lw.pass (dj := 23) rfl rfl rfl rfl ?_
    refine Lw.val (Ex.pickT rfl rfl) rfl ?_
    refine Lw.nil ?_
    refine Pw.thenN (Cw.out ?_)
    refine Cw.condT rfl ?_
    refine Cw.seq ?_
    refine Cw.region ?_
    refine Lw.val (Ex.assign (show _ = some (i32 (0#32)) from rfl)) rfl ?_
    refine Lw.nil ?_
    refine Pw.thenN (Cw.out ?_)
    refine Cw.ret ?_
    refine Pw.thenR ?_
    refine Pw.ret1 rfl rfl ?_
    exact ⟨congrArg i32 (by rw [pic, if_pos (by omega)]), hB⟩
  intro g3
  have g3 := of_decide_eq_false g3
  refine Lw.take (dj := 23) rfl rfl ?_
  refine Lw.val (Ex.move rfl) rfl ?_
  refine Lw.take (dj := 23) rfl rfl ?_
  refine Lw.val (Ex.fieldAddr (q := 0) Tryz.underlying25 rfl (sz_22 _) rfl) rfl ?_
  refine Lw.take (dj := 23) rfl rfl ?_
  refine Lw.val (Ex.ldB (ag_22 _) rfl (by assumption) rfl) rfl ?_
  refine Lw.take (dj := 23) rfl rfl ?_
  refine Lw.val (Ex.idxT st_22 rfl rfl (by assumption) 2 rfl (by omega)) rfl ?_
  refine Lw.take (dj := 23) rfl rfl ?_
  refine Lw.val (Ex.ldT (ag_3 _) rfl (by assumption) (by omega)) rfl ?_
  refine Lw.take (dj := 23) rfl rfl ?_
  refine Lw.val (Ex.geq rfl rfl) rfl ?_
  refine Lw.val (Ex.pickF rfl rfl) rfl ?_
  refine Lw.nil ?_
  refine Pw.thenN (Cw.out ?_)
  refine Cw.cond rfl ?_ ?_
  · intro g
    have g := of_decide_eq_true g
    refine Cw.seq ?_
    refine Cw.region ?_
    refine Lw.val (Ex.assign (show _ = some (i32 (0#32)) from rfl)) rfl ?_
    refine Lw.nil ?_
    refine Pw.thenN (Cw.out ?_)
    refine Cw.ret ?_
    refine Pw.thenR ?_
    refine Pw.ret1 rfl rfl ?_
    exact ⟨congrArg i32 (by rw [pic, if_pos (by omega)]), hB⟩
  intro g4
  have g4 := of_decide_eq_false g4
  have e1 : 0 ≤ c * a.s.getD 1 default ∧ c * a.s.getD 1 default ≤ 4096 * 64 := ⟨Int.mul_nonneg hc.1 h1.1, Int.mul_le_mul hc.2 h1.2 h1.1 (by decide)⟩
  have e2 : 0 ≤ (c * a.s.getD 1 default + y) * a.s.getD 2 default := Int.mul_nonneg (by omega) h2.1
  have e3 : (c * a.s.getD 1 default + y + 1) * a.s.getD 2 default ≤ (c * a.s.getD 1 default + a.s.getD 1 default) * a.s.getD 2 default := Int.mul_le_mul_of_nonneg_right (by omega) h2.1
  have e4 : (c + 1) * (a.s.getD 1 default * a.s.getD 2 default) = (c * a.s.getD 1 default + a.s.getD 1 default) * a.s.getD 2 default := by rw [← Int.mul_assoc, Int.add_mul c 1, Int.one_mul]
  have e5 : (c * a.s.getD 1 default + y + 1) * a.s.getD 2 default = (c * a.s.getD 1 default + y) * a.s.getD 2 default + a.s.getD 2 default := by rw [Int.add_mul _ 1, Int.one_mul]
  have ll := h_a2.le
  obtain ⟨k, hk⟩ : ∃ k : Nat, (c * a.s.getD 1 default + y) * a.s.getD 2 default + x = (k : Int) := ⟨_, (Int.toNat_of_nonneg (by omega)).symm⟩
  have hkl : k < a.l.length := by omega
  refine Cw.skip ?_
  refine Pw.thenN (Cw.out ?_)
  refine Cw.seq ?_
  refine Cw.quiet mixed (by kernel_rfl) ?_
  refine Qw.val (fun w1 hq => Ex.fieldAddr (q := 0) Tryz.underlying25 rfl (sz_23 _) rfl) rfl ?_
  refine Qw.val (fun w1 hq => Ex.ldB (ag_23 _) rfl (Blk.bs (by assumption) hq) rfl) rfl ?_
  refine Qw.val (fun w1 hq => Ex.move rfl) rfl ?_
  refine Qw.val (fun w1 hq => Ex.fieldAddr (q := 0) Tryz.underlying25 rfl (sz_22 _) rfl) rfl ?_
  refine Qw.val (fun w1 hq => Ex.ldB (ag_22 _) rfl (Blk.bs (by assumption) hq) rfl) rfl ?_
  refine Qw.val (fun w1 hq => Ex.idxT st_22 rfl rfl (Sl.bs (by assumption) hq) 1 rfl (by omega)) rfl ?_
  refine Qw.val (fun w1 hq => Ex.ldT (ag_3 _) rfl (Sl.bs (by assumption) hq) (by omega)) rfl ?_
  refine Qw.val (fun w1 hq => Ex.mulI rfl rfl (by omega)) rfl ?_
  refine Qw.val (fun w1 hq => Ex.move rfl) rfl ?_
  refine Qw.val (fun w1 hq => Ex.addI rfl rfl (by omega)) rfl ?_
  refine Qw.val (fun w1 hq => Ex.fieldAddr (q := 0) Tryz.underlying25 rfl (sz_22 _) rfl) rfl ?_
  refine Qw.val (fun w1 hq => Ex.ldB (ag_22 _) rfl (Blk.bs (by assumption) hq) rfl) rfl ?_
  refine Qw.val (fun w1 hq => Ex.idxT st_22 rfl rfl (Sl.bs (by assumption) hq) 2 rfl (by omega)) rfl ?_
  refine Qw.val (fun w1 hq => Ex.ldT (ag_3 _) rfl (Sl.bs (by assumption) hq) (by omega)) rfl ?_
  refine Qw.val (fun w1 hq => Ex.mulI rfl rfl (by omega)) rfl ?_
  refine Qw.val (fun w1 hq => Ex.move rfl) rfl ?_
  refine Qw.val (fun w1 hq => Ex.addI rfl rfl (by omega)) rfl ?_
  refine Qw.val (fun w1 hq => Ex.idxT st_23 rfl rfl (Sl.bs h_a2 hq) k hk hkl) rfl ?_
  refine Qw.val (fun w1 hq => Ex.ldT (ag_21 _) rfl (Sl.bs h_a2 hq) hkl) rfl ?_
  refine Qw.val (fun w1 hq => Ex.assign rfl) rfl ?_
  refine Qw.nil (fun w2 hq => ?_)
  refine Pw.thenN (Cw.out ?_)
  refine Cw.ret ?_
  refine Pw.ret1 rfl rfl ?_
  exact ⟨congrArg i32 (by rw [pic, if_neg (by omega), hk]; rfl), bt hB hq⟩
theorem pshB_1 {t : List Int} {wide : Int} (h : ¬ t.length = 3) : pshB t wide = false := by simp only [pshB, decide_eq_false h, Bool.false_and]
theorem pshB_2 {t : List Int} {wide : Int} (h : ¬ wide ≤ t.getD 1 default) : pshB t wide = false := by simp only [pshB, decide_eq_false h, Bool.false_and, Bool.and_false]
theorem pshB_3 {t : List Int} {wide : Int} (h : ¬ wide ≤ t.getD 2 default) : pshB t wide = false := by simp only [pshB, decide_eq_false h, Bool.and_false]
theorem rpshape_c (t : List Int) (wide : Int) (u : Value) (W : World) (h_u : SlT (Value.int .i64) W u t) :
    Fnc Tryz.prog 10 [u, .int .i64 wide] W (fun r w' => Below W.heap.size W w' ∧ GotI W w' r (poolE t wide) (pshS t wide)) := by
  have hB := Below.refl W.heap.size W
  refine Fnc.enter (n := 48) Tryz.func10 (by kernel_rfl) rfl rfl rfl ?_
  refine Cw.seq ?_
  refine Cw.region ?_
  refine Lw.val (Ex.assign rfl) rfl ?_
  refine Lw.val (Ex.assign rfl) rfl ?_
  refine Lw.nil ?_
  refine Pw.thenN (Cw.out ?_)
  refine Cw.seq ?_
  refine Cw.seq ?_
  refine Cw.region ?_
  refine Lw.val (Ex.move rfl) rfl ?_
  refine Lw.callF rfl rfl (rcheck_c u t _ h_u) ?_
  rintro _ w ⟨rfl, hn⟩
  replace hB := hB.bs hn
  replace h_u := h_u.bs hn
  clear hn
  refine Lw.val (Ex.not rfl) rfl ?_
  refine Lw.val (Ex.move rfl) rfl ?_
  refine Lw.part 9 rfl ?_ ?_
  · intro g1
    refine Lw.pass (dj := 9) rfl rfl rfl rfl ?_
    refine Lw.pass (dj := 9) rfl rfl rfl rfl ?_
    refine Lw.val (Ex.pickT rfl rfl) rfl ?_
    refine Lw.val (Ex.move rfl) rfl ?_
    refine Lw.pass (dj := 13) rfl rfl rfl rfl ?_
    refine Lw.pass (dj := 13) rfl rfl rfl rfl ?_
    refine Lw.val (Ex.pickT rfl rfl) rfl ?_
    refine Lw.nil ?_
    refine Pw.thenN (Cw.out ?_)
    refine Cw.condT rfl ?_
    refine Cw.seq ?_
    refine Cw.region ?_
    refine Lw.val (Ex.assign rfl) rfl ?_
    refine Lw.val (Ex.assign rfl) rfl ?_
    refine Lw.nil ?_
    refine Pw.thenN (Cw.out ?_)
    refine Cw.ret ?_
    refine Pw.thenR ?_
    refine Pw.ret2 rfl rfl rfl ?_
    rw [show poolE t wide = 1 by simp [poolE, show pshA t wide = true by simp_all [pshA]]]
    exact ⟨hB, gotI_no (by decide)⟩
  intro g1
  refine Lw.take (dj := 9) rfl rfl ?_
  refine Lw.val (Ex.move rfl) rfl ?_
  refine Lw.take (dj := 9) rfl rfl ?_
  refine Lw.val (Ex.lss rfl rfl) rfl ?_
  refine Lw.val (Ex.pickF rfl rfl) rfl ?_
  refine Lw.val (Ex.move rfl) rfl ?_
  refine Lw.part 13 rfl ?_ ?_
  · intro g2
    refine Lw.pass (dj := 13) rfl rfl rfl rfl ?_
    refine Lw.pass (dj := 13) rfl rfl rfl rfl ?_
    refine Lw.val (Ex.pickT rfl rfl) rfl ?_
    refine Lw.nil ?_
    refine Pw.thenN (Cw.out ?_)
    refine Cw.condT rfl ?_
    refine Cw.seq ?_
    refine Cw.region ?_
    refine Lw.val (Ex.assign rfl) rfl ?_
    refine Lw.val (Ex.assign rfl) rfl ?_
    refine Lw.nil ?_
    refine Pw.thenN (Cw.out ?_)
    refine Cw.ret ?_
    refine Pw.thenR ?_
    refine Pw.ret2 rfl rfl rfl ?_
    rw [show poolE t wide = 1 by simp [poolE, show pshA t wide = true by simp_all [pshA]]]
    exact ⟨hB, gotI_no (by decide)⟩
  intro g2
  refine Lw.take (dj := 13) rfl rfl ?_
  refine Lw.val (Ex.move rfl) rfl ?_
  refine Lw.take (dj := 13) rfl rfl ?_
  refine Lw.val (Ex.gtr rfl rfl) rfl ?_
  refine Lw.val (Ex.pickF rfl rfl) rfl ?_
  refine Lw.nil ?_
  refine Pw.thenN (Cw.out ?_)
  refine Cw.cond rfl ?_ ?_
  · intro g3
    refine Cw.seq ?_
    refine Cw.region ?_
    refine Lw.val (Ex.assign rfl) rfl ?_
    refine Lw.val (Ex.assign rfl) rfl ?_
    refine Lw.nil ?_
    refine Pw.thenN (Cw.out ?_)
    refine Cw.ret ?_
    refine Pw.thenR ?_
    refine Pw.ret2 rfl rfl rfl ?_
    rw [show poolE t wide = 1 by simp [poolE, show pshA t wide = true by simp_all [pshA]]]
    exact ⟨hB, gotI_no (by decide)⟩
  intro g3
  have gA : pshA t wide = false := by simp_all [pshA]
  have gT : Shapes.ok t = true := by simpa using g1
  have w1 : 1 ≤ wide := by simpa using g2
  have w2 : wide ≤ 64 := by simpa using g3
  have hT := (Shapes.ok_iff t).1 gT
  clear g1 g2 g3
  refine Cw.skip ?_
  refine Pw.thenN (Cw.out ?_)
  refine Cw.seq ?_
  refine Cw.seq ?_
  refine Cw.region ?_
  refine Lw.val (Ex.move rfl) rfl ?_
  refine Lw.val (Ex.lenS st_22 rfl (by assumption)) rfl ?_
  refine Lw.val (Ex.neq rfl rfl) rfl ?_
  refine Lw.val (Ex.move rfl) rfl ?_
  refine Lw.part 20 rfl ?_ ?_
  · intro g4
    have lt : ¬ t.length = 3 := by have := g4; simp at this; omega
    refine Lw.pass (dj := 20) rfl rfl rfl rfl ?_
    refine Lw.pass (dj := 20) rfl rfl rfl rfl ?_
    refine Lw.pass (dj := 20) rfl rfl rfl rfl ?_
    refine Lw.pass (dj := 20) rfl rfl rfl rfl ?_
    refine Lw.pass (dj := 20) rfl rfl rfl rfl ?_
    refine Lw.val (Ex.pickT rfl rfl) rfl ?_
    refine Lw.val (Ex.move rfl) rfl ?_
    refine Lw.pass (dj := 27) rfl rfl rfl rfl ?_
    refine Lw.pass (dj := 27) rfl rfl rfl rfl ?_
    refine Lw.pass (dj := 27) rfl rfl rfl rfl ?_
    refine Lw.pass (dj := 27) rfl rfl rfl rfl ?_
    refine Lw.pass (dj := 27) rfl rfl rfl rfl ?_
    refine Lw.val (Ex.pickT rfl rfl) rfl ?_
    refine Lw.nil ?_
    refine Pw.thenN (Cw.out ?_)
    refine Cw.condT rfl ?_
    refine Cw.seq ?_
    refine Cw.region ?_
    refine Lw.val (Ex.assign rfl) rfl ?_
    refine Lw.val (Ex.assign rfl) rfl ?_
    refine Lw.nil ?_
    refine Pw.thenN (Cw.out ?_)
    refine Cw.ret ?_
    refine Pw.thenR ?_
    refine Pw.ret2 rfl rfl rfl ?_
    rw [show poolE t wide = 10 by rw [poolE, gA, pshB_1 lt]; rfl]
    exact ⟨hB, gotI_no (by decide)⟩
  intro g4
  have lt : t.length = 3 := by have := g4; simp at this; omega
  have t0 := good_at hT.2.1 (k := 0) (by omega)
  have t1 := good_at hT.2.1 (k := 1) (by omega)
  have t2 := good_at hT.2.1 (k := 2) (by omega)
  clear g4
  refine Lw.take (dj := 20) rfl rfl ?_
  refine Lw.val (Ex.move rfl) rfl ?_
  refine Lw.take (dj := 20) rfl rfl ?_
  refine Lw.val (Ex.idxT st_22 rfl rfl (by assumption) 1 rfl (by omega)) rfl ?_
  refine Lw.take (dj := 20) rfl rfl ?_
  refine Lw.val (Ex.ldT (ag_3 _) rfl (by assumption) (by omega)) rfl ?_
  refine Lw.take (dj := 20) rfl rfl ?_
  refine Lw.val (Ex.move rfl) rfl ?_
  refine Lw.take (dj := 20) rfl rfl ?_
  refine Lw.val (Ex.lss rfl rfl) rfl ?_
  refine Lw.val (Ex.pickF rfl rfl) rfl ?_
  refine Lw.val (Ex.move rfl) rfl ?_
  refine Lw.part 27 rfl ?_ ?_
  · intro g5
    have g5 : ¬ wide ≤ t.getD 1 default := by have := of_decide_eq_true g5; omega
    refine Lw.pass (dj := 27) rfl rfl rfl rfl ?_
    refine Lw.pass (dj := 27) rfl rfl rfl rfl ?_
    refine Lw.pass (dj := 27) rfl rfl rfl rfl ?_
    refine Lw.pass (dj := 27) rfl rfl rfl rfl ?_
    refine Lw.pass (dj := 27) rfl rfl rfl rfl ?_
    refine Lw.val (Ex.pickT rfl rfl) rfl ?_
    refine Lw.nil ?_
    refine Pw.thenN (Cw.out ?_)
    refine Cw.condT rfl ?_
    refine Cw.seq ?_
    refine Cw.region ?_
    refine Lw.val (Ex.assign rfl) rfl ?_
    refine Lw.val (Ex.assign rfl) rfl ?_
    refine Lw.nil ?_
    refine Pw.thenN (Cw.out ?_)
    refine Cw.ret ?_
    refine Pw.thenR ?_
    refine Pw.ret2 rfl rfl rfl ?_
    rw [show poolE t wide = 10 by rw [poolE, gA, pshB_2 g5]; rfl]
    exact ⟨hB, gotI_no (by decide)⟩
  intro g5
  have g5 : wide ≤ t.getD 1 default := by have := of_decide_eq_false g5; omega
  refine Lw.take (dj := 27) rfl rfl ?_
  refine Lw.val (Ex.move rfl) rfl ?_
  refine Lw.take (dj := 27) rfl rfl ?_
  refine Lw.val (Ex.idxT st_22 rfl rfl (by assumption) 2 rfl (by omega)) rfl ?_
  refine Lw.take (dj := 27) rfl rfl ?_
  refine Lw.val (Ex.ldT (ag_3 _) rfl (by assumption) (by omega)) rfl ?_
  refine Lw.take (dj := 27) rfl rfl ?_
  refine Lw.val (Ex.move rfl) rfl ?_
  refine Lw.take (dj := 27) rfl rfl ?_
  refine Lw.val (Ex.lss rfl rfl) rfl ?_
  refine Lw.val (Ex.pickF rfl rfl) rfl ?_
  refine Lw.nil ?_
  refine Pw.thenN (Cw.out ?_)
  refine Cw.cond rfl ?_ ?_
  · intro g6
    have g6 : ¬ wide ≤ t.getD 2 default := by have := of_decide_eq_true g6; omega
    refine Cw.seq ?_
    refine Cw.region ?_
    refine Lw.val (Ex.assign rfl) rfl ?_
    refine Lw.val (Ex.assign rfl) rfl ?_
    refine Lw.nil ?_
    refine Pw.thenN (Cw.out ?_)
    refine Cw.ret ?_
    refine Pw.thenR ?_
    refine Pw.ret2 rfl rfl rfl ?_
    rw [show poolE t wide = 10 by rw [poolE, gA, pshB_3 g6]; rfl]
    exact ⟨hB, gotI_no (by decide)⟩
  intro g6
  have g6 : wide ≤ t.getD 2 default := by have := of_decide_eq_false g6; omega
  have gB : pshB t wide = true := by rw [pshB, decide_eq_true lt, decide_eq_true g5, decide_eq_true g6]; rfl
  obtain ⟨c1, -⟩ := slid_same w1 g5
  obtain ⟨c2, -⟩ := slid_same w1 g6
  have eS : pshS t wide = [t.getD 0 default, t.getD 1 default / wide, t.getD 2 default / wide] := by unfold pshS; rw [c1, c2]
  refine Cw.skip ?_
  refine Pw.thenN (Cw.out ?_)
  refine Cw.seq ?_
  refine Cw.tail 13 mixed (by kernel_rfl) ?_
  refine Qw.val (fun w1 hq => Ex.move rfl) rfl ?_
  refine Qw.val (fun w1 hq => Ex.idxT st_22 rfl rfl (Sl.bs (by assumption) hq) 0 rfl (by omega)) rfl ?_
  refine Qw.val (fun w1 hq => Ex.ldT (ag_3 _) rfl (Sl.bs (by assumption) hq) (by omega)) rfl ?_
  refine Qw.val (fun w1 hq => Ex.move rfl) rfl ?_
  refine Qw.val (fun w1 hq => Ex.idxT st_22 rfl rfl (Sl.bs (by assumption) hq) 1 rfl (by omega)) rfl ?_
  refine Qw.val (fun w1 hq => Ex.ldT (ag_3 _) rfl (Sl.bs (by assumption) hq) (by omega)) rfl ?_
  refine Qw.val (fun w1 hq => Ex.move rfl) rfl ?_
  refine Qw.val (fun w1 hq => Ex.quoI rfl rfl (by omega) (by omega)) rfl ?_
  refine Qw.val (fun w1 hq => Ex.move rfl) rfl ?_
  refine Qw.val (fun w1 hq => Ex.idxT st_22 rfl rfl (Sl.bs (by assumption) hq) 2 rfl (by omega)) rfl ?_
  refine Qw.val (fun w1 hq => Ex.ldT (ag_3 _) rfl (Sl.bs (by assumption) hq) (by omega)) rfl ?_
  refine Qw.val (fun w1 hq => Ex.move rfl) rfl ?_
  refine Qw.val (fun w1 hq => Ex.quoI rfl rfl (by omega) (by omega)) rfl ?_
  refine Qw.done (fun w3 hq => ?_)
  replace hB := hB.bs hq
  replace h_u := h_u.bs hq
  clear hq
  have zw := below_size hB
  refine Lw.valW (Xw.lit (vs := (pshS t wide).map (Value.int .i64)) st_22 it_3 rfl (by rw [eS]; rfl) rfl rfl rfl) rfl ?_
  rintro x w ⟨ho, -, hn, -⟩
  have ho := own_mono ho zw
  replace hB := hB.bs hn
  replace h_u := h_u.bs hn
  clear hn
  refine Lw.val (Ex.assign rfl) rfl ?_
  refine Lw.val (Ex.assign rfl) rfl ?_
  refine Lw.nil ?_
  refine Pw.thenN (Cw.out ?_)
  refine Cw.ret ?_
  refine Pw.ret2 rfl rfl rfl ?_
  rw [show poolE t wide = 0 by simp [poolE, gA, gB]]
  exact ⟨hB, x, _, rfl, ho, fun h => absurd rfl h, fun _ => rfl⟩
theorem wsh_no {t s : List Int} {step pad : Int} (h : t.getD 1 default + 2 * pad < s.getD 2 default ∨ t.getD 2 default + 2 * pad < s.getD 3 default) : Shapes.ok (wshS t s step pad) = false := by
  cases hk : Shapes.ok (wshS t s step pad) with
  | false => rfl
  | true =>
    have g := ((Shapes.ok_iff _).1 hk).2.1
    have l3 : (wshS t s step pad).length = 3 := rfl
    have g1 : 1 ≤ slid (t.getD 1 default + 2 * pad) (s.getD 2 default) step := (good_at g (k := 1) (by omega)).1
    have g2 : 1 ≤ slid (t.getD 2 default + 2 * pad) (s.getD 3 default) step := (good_at g (k := 2) (by omega)).1
    unfold slid at g1 g2
    rcases h with h | h
    · rw [if_pos h] at g1; omega
    · rw [if_pos h] at g2; omega
theorem rwshape_c (t s : List Int) (step pad : Int) (u v : Value) (W : World) (h_u : SlT (Value.int .i64) W u t) (h_v : SlT (Value.int .i64) W v s) :
    Fnc Tryz.prog 20 [u, v, .int .i64 step, .int .i64 pad] W (fun r w' => Below W.heap.size W w' ∧ GotI W w' r (wshE t s step pad) (wshS t s step pad)) := by
  have hB := Below.refl W.heap.size W
  refine Fnc.enter (n := 110) Tryz.func20 (by kernel_rfl) rfl rfl rfl ?_
  refine Cw.seq ?_
  refine Cw.region ?_
  refine Lw.val (Ex.assign rfl) rfl ?_
  refine Lw.val (Ex.assign rfl) rfl ?_
  refine Lw.nil ?_
  refine Pw.thenN (Cw.out ?_)
  refine Cw.seq ?_
  refine Cw.seq ?_
  refine Cw.region ?_
  refine Lw.val (Ex.move rfl) rfl ?_
  refine Lw.callF rfl rfl (rcheck_c u t _ h_u) ?_
  rintro _ w ⟨rfl, hn⟩
  replace hB := hB.bs hn
  replace h_u := h_u.bs hn
  replace h_v := h_v.bs hn
  clear hn
  refine Lw.val (Ex.not rfl) rfl ?_
  refine Lw.val (Ex.move rfl) rfl ?_
  refine Lw.part 14 rfl ?_ ?_
  · intro g1
    refine Lw.pass (dj := 14) rfl rfl rfl rfl ?_
    refine Lw.pass (dj := 14) rfl rfl rfl rfl ?_
    refine Lw.pass (dj := 14) rfl rfl rfl rfl ?_
    refine Lw.val (Ex.pickT rfl rfl) rfl ?_
    refine Lw.val (Ex.move rfl) rfl ?_
    refine Lw.pass (dj := 19) rfl rfl rfl rfl ?_
    refine Lw.pass (dj := 19) rfl rfl rfl rfl ?_
    refine Lw.val (Ex.pickT rfl rfl) rfl ?_
    refine Lw.val (Ex.move rfl) rfl ?_
    refine Lw.pass (dj := 23) rfl rfl rfl rfl ?_
    refine Lw.pass (dj := 23) rfl rfl rfl rfl ?_
    refine Lw.val (Ex.pickT rfl rfl) rfl ?_
    refine Lw.val (Ex.move rfl) rfl ?_
    refine Lw.pass (dj := 27) rfl rfl rfl rfl ?_
    refine Lw.pass (dj := 27) rfl rfl rfl rfl ?_
    refine Lw.val (Ex.pickT rfl rfl) rfl ?_
    refine Lw.val (Ex.move rfl) rfl ?_
    refine Lw.pass (dj := 31) rfl rfl rfl rfl ?_
    refine Lw.pass (dj := 31) rfl rfl rfl rfl ?_
    refine Lw.val (Ex.pickT rfl rfl) rfl ?_
    refine Lw.nil ?_
    refine Pw.thenN (Cw.out ?_)
    refine Cw.condT rfl ?_
    refine Cw.seq ?_
    refine Cw.region ?_
    refine Lw.val (Ex.assign rfl) rfl ?_
    refine Lw.val (Ex.assign rfl) rfl ?_
    refine Lw.nil ?_
    refine Pw.thenN (Cw.out ?_)
    refine Cw.ret ?_
    refine Pw.thenR ?_
    refine Pw.ret2 rfl rfl rfl ?_
    rw [show wshE t s step pad = 1 by simp [wshE, show wshA t s step pad = true by simp_all [wshA]]]
    exact ⟨hB, gotI_no (by decide)⟩
  intro g1
  refine Lw.take (dj := 14) rfl rfl ?_
  refine Lw.val (Ex.move rfl) rfl ?_
  refine Lw.take (dj := 14) rfl rfl ?_
  refine Lw.callF rfl rfl (rcheck_c v s _ h_v) ?_
  rintro _ w ⟨rfl, hn⟩
  replace hB := hB.bs hn
  replace h_u := h_u.bs hn
  replace h_v := h_v.bs hn
  clear hn
  refine Lw.take (dj := 14) rfl rfl ?_
  refine Lw.val (Ex.not rfl) rfl ?_
  refine Lw.val (Ex.pickF rfl rfl) rfl ?_
  refine Lw.val (Ex.move rfl) rfl ?_
  refine Lw.part 19 rfl ?_ ?_
  · intro g2
    refine Lw.pass (dj := 19) rfl rfl rfl rfl ?_
    refine Lw.pass (dj := 19) rfl rfl rfl rfl ?_
    refine Lw.val (Ex.pickT rfl rfl) rfl ?_
    refine Lw.val (Ex.move rfl) rfl ?_
    refine Lw.pass (dj := 23) rfl rfl rfl rfl ?_
    refine Lw.pass (dj := 23) rfl rfl rfl rfl ?_
    refine Lw.val (Ex.pickT rfl rfl) rfl ?_
    refine Lw.val (Ex.move rfl) rfl ?_
    refine Lw.pass (dj := 27) rfl rfl rfl rfl ?_
    refine Lw.pass (dj := 27) rfl rfl rfl rfl ?_
    refine Lw.val (Ex.pickT rfl rfl) rfl ?_
    refine Lw.val (Ex.move rfl) rfl ?_
    refine Lw.pass (dj := 31) rfl rfl rfl rfl ?_
    refine Lw.pass (dj := 31) rfl rfl rfl rfl ?_
    refine Lw.val (Ex.pickT rfl rfl) rfl ?_
    refine Lw.nil ?_
    refine Pw.thenN (Cw.out ?_)
    refine Cw.condT rfl ?_
    refine Cw.seq ?_
    refine Cw.region ?_
    refine Lw.val (Ex.assign rfl) rfl ?_
    refine Lw.val (Ex.assign rfl) rfl ?_
    refine Lw.nil ?_
    refine Pw.thenN (Cw.out ?_)
    refine Cw.ret ?_
    refine Pw.thenR ?_
    refine Pw.ret2 rfl rfl rfl ?_
    rw [show wshE t s step pad = 1 by simp [wshE, show wshA t s step pad = true by simp_all [wshA]]]
    exact ⟨hB, gotI_no (by decide)⟩
  intro g2
  refine Lw.take (dj := 19) rfl rfl ?_
  refine Lw.val (Ex.move rfl) rfl ?_
  refine Lw.take (dj := 19) rfl rfl ?_
  refine Lw.val (Ex.lss rfl rfl) rfl ?_
  refine Lw.val (Ex.pickF rfl rfl) rfl ?_
  refine Lw.val (Ex.move rfl) rfl ?_
  refine Lw.part 23 rfl ?_ ?_
  · intro g3
    refine Lw.pass (dj := 23) rfl rfl rfl rfl ?_
    refine Lw.pass (dj := 23) rfl rfl rfl rfl ?_
    refine Lw.val (Ex.pickT rfl rfl) rfl ?_
    refine Lw.val (Ex.move rfl) rfl ?_
    refine Lw.pass (dj := 27) rfl rfl rfl rfl ?_
    refine Lw.pass (dj := 27) rfl rfl rfl rfl ?_
    refine Lw.val (Ex.pickT rfl rfl) rfl ?_
    refine Lw.val (Ex.move rfl) rfl ?_
    refine Lw.pass (dj := 31) rfl rfl rfl rfl ?_
    refine Lw.pass (dj := 31) rfl rfl rfl rfl ?_
    refine Lw.val (Ex.pickT rfl rfl) rfl ?_
    refine Lw.nil ?_
    refine Pw.thenN (Cw.out ?_)
    refine Cw.condT rfl ?_
    refine Cw.seq ?_
    refine Cw.region ?_
    refine Lw.val (Ex.assign rfl) rfl ?_
    refine Lw.val (Ex.assign rfl) rfl ?_
    refine Lw.nil ?_
    refine Pw.thenN (Cw.out ?_)
    refine Cw.ret ?_
    refine Pw.thenR ?_
    refine Pw.ret2 rfl rfl rfl ?_
    rw [show wshE t s step pad = 1 by simp [wshE, show wshA t s step pad = true by simp_all [wshA]]]
    exact ⟨hB, gotI_no (by decide)⟩
  intro g3
  refine Lw.take (dj := 23) rfl rfl ?_
  refine Lw.val (Ex.move rfl) rfl ?_
  refine Lw.take (dj := 23) rfl rfl ?_
  refine Lw.val (Ex.gtr rfl rfl) rfl ?_
  refine Lw.val (Ex.pickF rfl rfl) rfl ?_
  refine Lw.val (Ex.move rfl) rfl ?_
  refine Lw.part 27 rfl ?_ ?_
  · intro g4
    refine Lw.pass (dj := 27) rfl rfl rfl rfl ?_
    refine Lw.pass (dj := 27) rfl rfl rfl rfl ?_
    refine Lw.val (Ex.pickT rfl rfl) rfl ?_
    refine Lw.val (Ex.move rfl) rfl ?_
    refine Lw.pass (dj := 31) rfl rfl rfl rfl ?_
    refine Lw.pass (dj := 31) rfl rfl rfl rfl ?_
    refine Lw.val (Ex.pickT rfl rfl) rfl ?_
    refine Lw.nil ?_
    refine Pw.thenN (Cw.out ?_)
    refine Cw.condT rfl ?_
    refine Cw.seq ?_
    refine Cw.region ?_
    refine Lw.val (Ex.assign rfl) rfl ?_
    refine Lw.val (Ex.assign rfl) rfl ?_
    refine Lw.nil ?_
    refine Pw.thenN (Cw.out ?_)
    refine Cw.ret ?_
    refine Pw.thenR ?_
    refine Pw.ret2 rfl rfl rfl ?_
    rw [show wshE t s step pad = 1 by simp [wshE, show wshA t s step pad = true by simp_all [wshA]]]
    exact ⟨hB, gotI_no (by decide)⟩
  intro g4
  refine Lw.take (dj := 27) rfl rfl ?_
  refine Lw.val (Ex.move rfl) rfl ?_
  refine Lw.take (dj := 27) rfl rfl ?_
  refine Lw.val (Ex.lss rfl rfl) rfl ?_
  refine Lw.val (Ex.pickF rfl rfl) rfl ?_
  refine Lw.val (Ex.move rfl) rfl ?_
  refine Lw.part 31 rfl ?_ ?_
  · intro g5
    refine Lw.pass (dj := 31) rfl rfl rfl rfl ?_
    refine Lw.pass (dj := 31) rfl rfl rfl rfl ?_
    refine Lw.val (Ex.pickT rfl rfl) rfl ?_
    refine Lw.nil ?_
    refine Pw.thenN (Cw.out ?_)
    refine Cw.condT rfl ?_
    refine Cw.seq ?_
    refine Cw.region ?_
    refine Lw.val (Ex.assign rfl) rfl ?_
    refine Lw.val (Ex.assign rfl) rfl ?_
    refine Lw.nil ?_
    refine Pw.thenN (Cw.out ?_)
    refine Cw.ret ?_
    refine Pw.thenR ?_
    refine Pw.ret2 rfl rfl rfl ?_
    rw [show wshE t s step pad = 1 by simp [wshE, show wshA t s step pad = true by simp_all [wshA]]]
    exact ⟨hB, gotI_no (by decide)⟩
  intro g5
  have gT : Shapes.ok t = true := by simpa using g1
  have gS : Shapes.ok s = true := by simpa using g2
  have gst : 1 ≤ step := by simpa using g3
  have gst2 : step ≤ 8 := by simpa using g4
  have gp : 0 ≤ pad := by simpa using g5
  refine Lw.take (dj := 31) rfl rfl ?_
  refine Lw.val (Ex.move rfl) rfl ?_
  refine Lw.take (dj := 31) rfl rfl ?_
  refine Lw.val (Ex.gtr rfl rfl) rfl ?_
  refine Lw.val (Ex.pickF rfl rfl) rfl ?_
  refine Lw.nil ?_
  refine Pw.thenN (Cw.out ?_)
  refine Cw.cond rfl ?_ ?_
  · intro g6
    refine Cw.seq ?_
    refine Cw.region ?_
    refine Lw.val (Ex.assign rfl) rfl ?_
    refine Lw.val (Ex.assign rfl) rfl ?_
    refine Lw.nil ?_
    refine Pw.thenN (Cw.out ?_)
    refine Cw.ret ?_
    refine Pw.thenR ?_
    refine Pw.ret2 rfl rfl rfl ?_
    rw [show wshE t s step pad = 1 by simp [wshE, show wshA t s step pad = true by simp_all [wshA]]]
    exact ⟨hB, gotI_no (by decide)⟩
  intro g6
  have gp2 : pad ≤ 8 := by simpa using g6
  have gA : wshA t s step pad = false := by simp_all [wshA]
  clear g1 g2 g3 g4 g5 g6
  have hT := (Shapes.ok_iff t).1 gT
  have hS := (Shapes.ok_iff s).1 gS
  refine Cw.skip ?_
  refine Pw.thenN (Cw.out ?_)
  refine Cw.seq ?_
  refine Cw.seq ?_
  refine Cw.quiet mixed (by kernel_rfl) ?_
  refine Qw.val (fun w1 hq => Ex.move rfl) rfl ?_
  refine Qw.val (fun w1 hq => Ex.lenS st_22 rfl (Sl.bs (by assumption) hq)) rfl ?_
  refine Qw.val (fun w1 hq => Ex.neq rfl rfl) rfl ?_
  refine Qw.val (fun w1 hq => Ex.move rfl) rfl ?_
  refine Qw.part 38 rfl ?_ ?_
  · intro g
    refine Qw.pass (dj := 38) rfl rfl rfl rfl ?_
    refine Qw.pass (dj := 38) rfl rfl rfl rfl ?_
    refine Qw.pass (dj := 38) rfl rfl rfl rfl ?_
    refine Qw.val (fun w1 hq => Ex.pickT rfl rfl) rfl ?_
    refine Qw.val (fun w1 hq => Ex.move rfl) rfl ?_
    refine Qw.pass (dj := 43) rfl rfl rfl rfl ?_
    refine Qw.pass (dj := 43) rfl rfl rfl rfl ?_
    refine Qw.pass (dj := 43) rfl rfl rfl rfl ?_
    refine Qw.pass (dj := 43) rfl rfl rfl rfl ?_
    refine Qw.pass (dj := 43) rfl rfl rfl rfl ?_
    refine Qw.pass (dj := 43) rfl rfl rfl rfl ?_
    refine Qw.pass (dj := 43) rfl rfl rfl rfl ?_
    refine Qw.val (fun w1 hq => Ex.pickT rfl rfl) rfl ?_
    refine Qw.val (fun w1 hq => Ex.move rfl) rfl ?_
    refine Qw.pass (dj := 52) rfl rfl rfl rfl ?_
    refine Qw.pass (dj := 52) rfl rfl rfl rfl ?_
    refine Qw.pass (dj := 52) rfl rfl rfl rfl ?_
    refine Qw.pass (dj := 52) rfl rfl rfl rfl ?_
    refine Qw.pass (dj := 52) rfl rfl rfl rfl ?_
    refine Qw.pass (dj := 52) rfl rfl rfl rfl ?_
    refine Qw.pass (dj := 52) rfl rfl rfl rfl ?_
    refine Qw.pass (dj := 52) rfl rfl rfl rfl ?_
    refine Qw.pass (dj := 52) rfl rfl rfl rfl ?_
    refine Qw.pass (dj := 52) rfl rfl rfl rfl ?_
    refine Qw.val (fun w1 hq => Ex.pickT rfl rfl) rfl ?_
    refine Qw.val (fun w1 hq => Ex.move rfl) rfl ?_
    refine Qw.pass (dj := 64) rfl rfl rfl rfl ?_
    refine Qw.pass (dj := 64) rfl rfl rfl rfl ?_
    refine Qw.pass (dj := 64) rfl rfl rfl rfl ?_
    refine Qw.pass (dj := 64) rfl rfl rfl rfl ?_
    refine Qw.pass (dj := 64) rfl rfl rfl rfl ?_
    refine Qw.pass (dj := 64) rfl rfl rfl rfl ?_
    refine Qw.pass (dj := 64) rfl rfl rfl rfl ?_
    refine Qw.pass (dj := 64) rfl rfl rfl rfl ?_
    refine Qw.pass (dj := 64) rfl rfl rfl rfl ?_
    refine Qw.pass (dj := 64) rfl rfl rfl rfl ?_
    refine Qw.val (fun w1 hq => Ex.pickT rfl rfl) rfl ?_
    refine Qw.nil (fun w1 hq => ?_)
    refine Pw.thenN (Cw.out ?_)
    refine Cw.condT rfl ?_
    refine Cw.seq ?_
    refine Cw.region ?_
    refine Lw.val (Ex.assign rfl) rfl ?_
    refine Lw.val (Ex.assign rfl) rfl ?_
    refine Lw.nil ?_
    refine Pw.thenN (Cw.out ?_)
    refine Cw.ret ?_
    refine Pw.thenR ?_
    refine Pw.ret2 rfl rfl rfl ?_
    rw [show wshE t s step pad = 10 by rw [wshE, gA, wshB_1 (fun h => by simp [h] at g)]; rfl]
    exact ⟨bt hB hq, gotI_no (by decide)⟩
  intro g7
  have lt : t.length = 3 := by have := g7; simp at this; omega
  refine Qw.take (dj := 38) rfl rfl ?_
  refine Qw.val (fun w1 hq => Ex.move rfl) rfl ?_
  refine Qw.take (dj := 38) rfl rfl ?_
  refine Qw.val (fun w1 hq => Ex.lenS st_22 rfl (Sl.bs (by assumption) hq)) rfl ?_
  refine Qw.take (dj := 38) rfl rfl ?_
  refine Qw.val (fun w1 hq => Ex.neq rfl rfl) rfl ?_
  refine Qw.val (fun w1 hq => Ex.pickF rfl rfl) rfl ?_
  refine Qw.val (fun w1 hq => Ex.move rfl) rfl ?_
  refine Qw.part 43 rfl ?_ ?_
  · intro g
    refine Qw.pass (dj := 43) rfl rfl rfl rfl ?_
    refine Qw.pass (dj := 43) rfl rfl rfl rfl ?_
    refine Qw.pass (dj := 43) rfl rfl rfl rfl ?_
    refine Qw.pass (dj := 43) rfl rfl rfl rfl ?_
    refine Qw.pass (dj := 43) rfl rfl rfl rfl ?_
    refine Qw.pass (dj := 43) rfl rfl rfl rfl ?_
    refine Qw.pass (dj := 43) rfl rfl rfl rfl ?_
    refine Qw.val (fun w1 hq => Ex.pickT rfl rfl) rfl ?_
    refine Qw.val (fun w1 hq => Ex.move rfl) rfl ?_
    refine Qw.pass (dj := 52) rfl rfl rfl rfl ?_
    refine Qw.pass (dj := 52) rfl rfl rfl rfl ?_
    refine Qw.pass (dj := 52) rfl rfl rfl rfl ?_
    refine Qw.pass (dj := 52) rfl rfl rfl rfl ?_
    refine Qw.pass (dj := 52) rfl rfl rfl rfl ?_
    refine Qw.pass (dj := 52) rfl rfl rfl rfl ?_
    refine Qw.pass (dj := 52) rfl rfl rfl rfl ?_
    refine Qw.pass (dj := 52) rfl rfl rfl rfl ?_
    refine Qw.pass (dj := 52) rfl rfl rfl rfl ?_
    refine Qw.pass (dj := 52) rfl rfl rfl rfl ?_
    refine Qw.val (fun w1 hq => Ex.pickT rfl rfl) rfl ?_
    refine Qw.val (fun w1 hq => Ex.move rfl) rfl ?_
    refine Qw.pass (dj := 64) rfl rfl rfl rfl ?_
    refine Qw.pass (dj := 64) rfl rfl rfl rfl ?_
    refine Qw.pass (dj := 64) rfl rfl rfl rfl ?_
    refine Qw.pass (dj := 64) rfl rfl rfl rfl ?_
    refine Qw.pass (dj := 64) rfl rfl rfl rfl ?_
    refine Qw.pass (dj := 64) rfl rfl rfl rfl ?_
    refine Qw.pass (dj := 64) rfl rfl rfl rfl ?_
    refine Qw.pass (dj := 64) rfl rfl rfl rfl ?_
    refine Qw.pass (dj := 64) rfl rfl rfl rfl ?_
    refine Qw.pass (dj := 64) rfl rfl rfl rfl ?_
    refine Qw.val (fun w1 hq => Ex.pickT rfl rfl) rfl ?_
    refine Qw.nil (fun w1 hq => ?_)
    refine Pw.thenN (Cw.out ?_)
    refine Cw.condT rfl ?_
    refine Cw.seq ?_
    refine Cw.region ?_
    refine Lw.val (Ex.assign rfl) rfl ?_
    refine Lw.val (Ex.assign rfl) rfl ?_
    refine Lw.nil ?_
    refine Pw.thenN (Cw.out ?_)
    refine Cw.ret ?_
    refine Pw.thenR ?_
    refine Pw.ret2 rfl rfl rfl ?_
    rw [show wshE t s step pad = 10 by rw [wshE, gA, wshB_2 (fun h => by simp [h] at g)]; rfl]
    exact ⟨bt hB hq, gotI_no (by decide)⟩
  intro g8
  have ls : s.length = 4 := by have := g8; simp at this; omega
  have t1 := good_at hT.2.1 (k := 1) (by omega)
  have t2 := good_at hT.2.1 (k := 2) (by omega)
  have s0 := good_at hS.2.1 (k := 0) (by omega)
  have s2 := good_at hS.2.1 (k := 2) (by omega)
  have s3 := good_at hS.2.1 (k := 3) (by omega)
  refine Qw.take (dj := 43) rfl rfl ?_
  refine Qw.val (fun w1 hq => Ex.move rfl) rfl ?_
  refine Qw.take (dj := 43) rfl rfl ?_
  refine Qw.val (fun w1 hq => Ex.idxT st_22 rfl rfl (Sl.bs (by assumption) hq) 0 rfl (by omega)) rfl ?_
  refine Qw.take (dj := 43) rfl rfl ?_
  refine Qw.val (fun w1 hq => Ex.ldT (ag_3 _) rfl (Sl.bs (by assumption) hq) (by omega)) rfl ?_
  refine Qw.take (dj := 43) rfl rfl ?_
  refine Qw.val (fun w1 hq => Ex.move rfl) rfl ?_
  refine Qw.take (dj := 43) rfl rfl ?_
  refine Qw.val (fun w1 hq => Ex.idxT st_22 rfl rfl (Sl.bs (by assumption) hq) 1 rfl (by omega)) rfl ?_
  refine Qw.take (dj := 43) rfl rfl ?_
  refine Qw.val (fun w1 hq => Ex.ldT (ag_3 _) rfl (Sl.bs (by assumption) hq) (by omega)) rfl ?_
  refine Qw.take (dj := 43) rfl rfl ?_
  refine Qw.val (fun w1 hq => Ex.neq rfl rfl) rfl ?_
  refine Qw.val (fun w1 hq => Ex.pickF rfl rfl) rfl ?_
  refine Qw.val (fun w1 hq => Ex.move rfl) rfl ?_
  refine Qw.part 52 rfl ?_ ?_
  · intro g
    refine Qw.pass (dj := 52) rfl rfl rfl rfl ?_
    refine Qw.pass (dj := 52) rfl rfl rfl rfl ?_
    refine Qw.pass (dj := 52) rfl rfl rfl rfl ?_
    refine Qw.pass (dj := 52) rfl rfl rfl rfl ?_
    refine Qw.pass (dj := 52) rfl rfl rfl rfl ?_
    refine Qw.pass (dj := 52) rfl rfl rfl rfl ?_
    refine Qw.pass (dj := 52) rfl rfl rfl rfl ?_
    refine Qw.pass (dj := 52) rfl rfl rfl rfl ?_
    refine Qw.pass (dj := 52) rfl rfl rfl rfl ?_
    refine Qw.pass (dj := 52) rfl rfl rfl rfl ?_
    refine Qw.val (fun w1 hq => Ex.pickT rfl rfl) rfl ?_
    refine Qw.val (fun w1 hq => Ex.move rfl) rfl ?_
    refine Qw.pass (dj := 64) rfl rfl rfl rfl ?_
    refine Qw.pass (dj := 64) rfl rfl rfl rfl ?_
    refine Qw.pass (dj := 64) rfl rfl rfl rfl ?_
    refine Qw.pass (dj := 64) rfl rfl rfl rfl ?_
    refine Qw.pass (dj := 64) rfl rfl rfl rfl ?_
    refine Qw.pass (dj := 64) rfl rfl rfl rfl ?_
    refine Qw.pass (dj := 64) rfl rfl rfl rfl ?_
    refine Qw.pass (dj := 64) rfl rfl rfl rfl ?_
    refine Qw.pass (dj := 64) rfl rfl rfl rfl ?_
    refine Qw.pass (dj := 64) rfl rfl rfl rfl ?_
    refine Qw.val (fun w1 hq => Ex.pickT rfl rfl) rfl ?_
    refine Qw.nil (fun w1 hq => ?_)
    refine Pw.thenN (Cw.out ?_)
    refine Cw.condT rfl ?_
    refine Cw.seq ?_
    refine Cw.region ?_
    refine Lw.val (Ex.assign rfl) rfl ?_
    refine Lw.val (Ex.assign rfl) rfl ?_
    refine Lw.nil ?_
    refine Pw.thenN (Cw.out ?_)
    refine Cw.ret ?_
    refine Pw.thenR ?_
    refine Pw.ret2 rfl rfl rfl ?_
    rw [show wshE t s step pad = 10 by rw [wshE, gA, wshB_3 (fun h => by rw [decide_eq_true h] at g; cases g)]; rfl]
    exact ⟨bt hB hq, gotI_no (by decide)⟩
  intro g9
  have gB : wshB t s = true := by
    have : t.getD 0 default = s.getD 1 default := by simpa only [Bool.not_eq_false', decide_eq_true_eq] using g9
    rw [wshB, decide_eq_true lt, decide_eq_true ls, decide_eq_true this]; rfl
  refine Qw.take (dj := 52) rfl rfl ?_
  refine Qw.val (fun w1 hq => Ex.move rfl) rfl ?_
  refine Qw.take (dj := 52) rfl rfl ?_
  refine Qw.val (fun w1 hq => Ex.idxT st_22 rfl rfl (Sl.bs (by assumption) hq) 1 rfl (by omega)) rfl ?_
  refine Qw.take (dj := 52) rfl rfl ?_
  refine Qw.val (fun w1 hq => Ex.ldT (ag_3 _) rfl (Sl.bs (by assumption) hq) (by omega)) rfl ?_
  refine Qw.take (dj := 52) rfl rfl ?_
  refine Qw.val (fun w1 hq => Ex.move rfl) rfl ?_
  refine Qw.take (dj := 52) rfl rfl ?_
  refine Qw.val (fun w1 hq => Ex.mulI rfl rfl (by omega)) rfl ?_
  refine Qw.take (dj := 52) rfl rfl ?_
  refine Qw.val (fun w1 hq => Ex.addI rfl rfl (by omega)) rfl ?_
  refine Qw.take (dj := 52) rfl rfl ?_
  refine Qw.val (fun w1 hq => Ex.move rfl) rfl ?_
  refine Qw.take (dj := 52) rfl rfl ?_
  refine Qw.val (fun w1 hq => Ex.idxT st_22 rfl rfl (Sl.bs (by assumption) hq) 2 rfl (by omega)) rfl ?_
  refine Qw.take (dj := 52) rfl rfl ?_
  refine Qw.val (fun w1 hq => Ex.ldT (ag_3 _) rfl (Sl.bs (by assumption) hq) (by omega)) rfl ?_
  refine Qw.take (dj := 52) rfl rfl ?_
  refine Qw.val (fun w1 hq => Ex.lss rfl rfl) rfl ?_
  refine Qw.val (fun w1 hq => Ex.pickF rfl rfl) rfl ?_
  refine Qw.val (fun w1 hq => Ex.move rfl) rfl ?_
  refine Qw.part 64 rfl ?_ ?_
  · intro g
    have g := of_decide_eq_true g
    refine Qw.pass (dj := 64) rfl rfl rfl rfl ?_
    refine Qw.pass (dj := 64) rfl rfl rfl rfl ?_
    refine Qw.pass (dj := 64) rfl rfl rfl rfl ?_
    refine Qw.pass (dj := 64) rfl rfl rfl rfl ?_
    refine Qw.pass (dj := 64) rfl rfl rfl rfl ?_
    refine Qw.pass (dj := 64) rfl rfl rfl rfl ?_
    refine Qw.pass (dj := 64) rfl rfl rfl rfl ?_
    refine Qw.pass (dj := 64) rfl rfl rfl rfl ?_
    refine Qw.pass (dj := 64) rfl rfl rfl rfl ?_
    refine Qw.pass (dj := 64) rfl rfl rfl rfl ?_
    refine Qw.val (fun w1 hq => Ex.pickT rfl rfl) rfl ?_
    refine Qw.nil (fun w1 hq => ?_)
    refine Pw.thenN (Cw.out ?_)
    refine Cw.condT rfl ?_
    refine Cw.seq ?_
    refine Cw.region ?_
    refine Lw.val (Ex.assign rfl) rfl ?_
    refine Lw.val (Ex.assign rfl) rfl ?_
    refine Lw.nil ?_
    refine Pw.thenN (Cw.out ?_)
    refine Cw.ret ?_
    refine Pw.thenR ?_
    refine Pw.ret2 rfl rfl rfl ?_
    rw [show wshE t s step pad = 10 by rw [wshE, gA, wsh_no (.inl g), Bool.and_false]; rfl]
    exact ⟨bt hB hq, gotI_no (by decide)⟩
  intro g10
  have g10 := of_decide_eq_false g10
  refine Qw.take (dj := 64) rfl rfl ?_
  refine Qw.val (fun w1 hq => Ex.move rfl) rfl ?_
  refine Qw.take (dj := 64) rfl rfl ?_
  refine Qw.val (fun w1 hq => Ex.idxT st_22 rfl rfl (Sl.bs (by assumption) hq) 2 rfl (by omega)) rfl ?_
  refine Qw.take (dj := 64) rfl rfl ?_
  refine Qw.val (fun w1 hq => Ex.ldT (ag_3 _) rfl (Sl.bs (by assumption) hq) (by omega)) rfl ?_
  refine Qw.take (dj := 64) rfl rfl ?_
  refine Qw.val (fun w1 hq => Ex.move rfl) rfl ?_
  refine Qw.take (dj := 64) rfl rfl ?_
  refine Qw.val (fun w1 hq => Ex.mulI rfl rfl (by omega)) rfl ?_
  refine Qw.take (dj := 64) rfl rfl ?_
  refine Qw.val (fun w1 hq => Ex.addI rfl rfl (by omega)) rfl ?_
  refine Qw.take (dj := 64) rfl rfl ?_
  refine Qw.val (fun w1 hq => Ex.move rfl) rfl ?_
  refine Qw.take (dj := 64) rfl rfl ?_
  refine Qw.val (fun w1 hq => Ex.idxT st_22 rfl rfl (Sl.bs (by assumption) hq) 3 rfl (by omega)) rfl ?_
  refine Qw.take (dj := 64) rfl rfl ?_
  refine Qw.val (fun w1 hq => Ex.ldT (ag_3 _) rfl (Sl.bs (by assumption) hq) (by omega)) rfl ?_
  refine Qw.take (dj := 64) rfl rfl ?_
  refine Qw.val (fun w1 hq => Ex.lss rfl rfl) rfl ?_
  refine Qw.val (fun w1 hq => Ex.pickF rfl rfl) rfl ?_
  refine Qw.nil (fun w1 hq => ?_)
  refine Pw.thenN (Cw.out ?_)
  refine Cw.cond rfl ?_ ?_
  · intro g
    have g := of_decide_eq_true g
    refine Cw.seq ?_
    refine Cw.region ?_
    refine Lw.val (Ex.assign rfl) rfl ?_
    refine Lw.val (Ex.assign rfl) rfl ?_
    refine Lw.nil ?_
    refine Pw.thenN (Cw.out ?_)
    refine Cw.ret ?_
    refine Pw.thenR ?_
    refine Pw.ret2 rfl rfl rfl ?_
    rw [show wshE t s step pad = 10 by rw [wshE, gA, wsh_no (.inr g), Bool.and_false]; rfl]
    exact ⟨bt hB hq, gotI_no (by decide)⟩
  intro g11
  have g11 := of_decide_eq_false g11
  replace hB := hB.bs hq
  replace h_u := h_u.bs hq
  replace h_v := h_v.bs hq
  clear hq g7 g8 g9
  have q1 := Int.ediv_le_self step (show 0 ≤ t.getD 1 default + 2 * pad - s.getD 2 default by omega)
  have q2 := Int.ediv_nonneg (show 0 ≤ t.getD 1 default + 2 * pad - s.getD 2 default by omega) (show 0 ≤ step by omega)
  have q3 := Int.ediv_le_self step (show 0 ≤ t.getD 2 default + 2 * pad - s.getD 3 default by omega)
  have q4 := Int.ediv_nonneg (show 0 ≤ t.getD 2 default + 2 * pad - s.getD 3 default by omega) (show 0 ≤ step by omega)
  have eS : wshS t s step pad = [s.getD 0 default, (t.getD 1 default + 2 * pad - s.getD 2 default) / step + 1, (t.getD 2 default + 2 * pad - s.getD 3 default) / step + 1] := by
    unfold wshS slid; rw [if_neg g10, if_neg g11]
  refine Cw.skip ?_
  refine Pw.thenN (Cw.out ?_)
  refine Cw.seq ?_
  refine Cw.tail 29 mixed (by kernel_rfl) ?_
  refine Qw.val (fun w1 hq => Ex.move rfl) rfl ?_
  refine Qw.val (fun w1 hq => Ex.idxT st_22 rfl rfl (Sl.bs (by assumption) hq) 0 rfl (by omega)) rfl ?_
  refine Qw.val (fun w1 hq => Ex.ldT (ag_3 _) rfl (Sl.bs (by assumption) hq) (by omega)) rfl ?_
  refine Qw.val (fun w1 hq => Ex.move rfl) rfl ?_
  refine Qw.val (fun w1 hq => Ex.idxT st_22 rfl rfl (Sl.bs (by assumption) hq) 1 rfl (by omega)) rfl ?_
  refine Qw.val (fun w1 hq => Ex.ldT (ag_3 _) rfl (Sl.bs (by assumption) hq) (by omega)) rfl ?_
  refine Qw.val (fun w1 hq => Ex.move rfl) rfl ?_
  refine Qw.val (fun w1 hq => Ex.mulI rfl rfl (by omega)) rfl ?_
  refine Qw.val (fun w1 hq => Ex.addI rfl rfl (by omega)) rfl ?_
  refine Qw.val (fun w1 hq => Ex.move rfl) rfl ?_
  refine Qw.val (fun w1 hq => Ex.idxT st_22 rfl rfl (Sl.bs (by assumption) hq) 2 rfl (by omega)) rfl ?_
  refine Qw.val (fun w1 hq => Ex.ldT (ag_3 _) rfl (Sl.bs (by assumption) hq) (by omega)) rfl ?_
  refine Qw.val (fun w1 hq => Ex.subI rfl rfl (by omega)) rfl ?_
  refine Qw.val (fun w1 hq => Ex.move rfl) rfl ?_
  refine Qw.val (fun w1 hq => Ex.quoI rfl rfl (by omega) (by omega)) rfl ?_
  refine Qw.val (fun w1 hq => Ex.addI rfl rfl (by omega)) rfl ?_
  refine Qw.val (fun w1 hq => Ex.move rfl) rfl ?_
  refine Qw.val (fun w1 hq => Ex.idxT st_22 rfl rfl (Sl.bs (by assumption) hq) 2 rfl (by omega)) rfl ?_
  refine Qw.val (fun w1 hq => Ex.ldT (ag_3 _) rfl (Sl.bs (by assumption) hq) (by omega)) rfl ?_
  refine Qw.val (fun w1 hq => Ex.move rfl) rfl ?_
  refine Qw.val (fun w1 hq => Ex.mulI rfl rfl (by omega)) rfl ?_
  refine Qw.val (fun w1 hq => Ex.addI rfl rfl (by omega)) rfl ?_
  refine Qw.val (fun w1 hq => Ex.move rfl) rfl ?_
  refine Qw.val (fun w1 hq => Ex.idxT st_22 rfl rfl (Sl.bs (by assumption) hq) 3 rfl (by omega)) rfl ?_
  refine Qw.val (fun w1 hq => Ex.ldT (ag_3 _) rfl (Sl.bs (by assumption) hq) (by omega)) rfl ?_
  refine Qw.val (fun w1 hq => Ex.subI rfl rfl (by omega)) rfl ?_
  refine Qw.val (fun w1 hq => Ex.move rfl) rfl ?_
  refine Qw.val (fun w1 hq => Ex.quoI rfl rfl (by omega) (by omega)) rfl ?_
  refine Qw.val (fun w1 hq => Ex.addI rfl rfl (by omega)) rfl ?_
  refine Qw.done (fun w2 hq => ?_)
  replace hB := hB.bs hq
  replace h_u := h_u.bs hq
  replace h_v := h_v.bs hq
  clear hq
  have zw := below_size hB
  refine Lw.valW (Xw.lit (vs := (wshS t s step pad).map (Value.int .i64)) st_22 it_3 rfl (by rw [eS]; rfl) rfl rfl rfl) rfl ?_
  rintro x w ⟨ho, -, hn, -⟩
  have ho := own_mono ho zw
  replace hB := hB.bs hn
  replace h_u := h_u.bs hn
  replace h_v := h_v.bs hn
  clear hn
  refine Lw.val (Ex.assign rfl) rfl ?_
  refine Lw.nil ?_
  refine Pw.thenN (Cw.out ?_)
  refine Cw.seq ?_
  refine Cw.seq ?_
  refine Cw.region ?_
  refine Lw.val (Ex.move rfl) rfl ?_
  refine Lw.callF rfl rfl (rcheck_c x (wshS t s step pad) _ (own_slT ho)) ?_
  rintro _ w ⟨rfl, hn⟩
  replace hB := hB.bs hn
  replace h_u := h_u.bs hn
  replace h_v := h_v.bs hn
  replace ho := ho.bs hn
  clear hn
  refine Lw.val (Ex.not rfl) rfl ?_
  refine Lw.nil ?_
  refine Pw.thenN (Cw.out ?_)
  refine Cw.cond rfl ?_ ?_
  · intro g
    refine Cw.seq ?_
    refine Cw.region ?_
    refine Lw.val (Ex.assign rfl) rfl ?_
    refine Lw.val (Ex.assign rfl) rfl ?_
    refine Lw.nil ?_
    refine Pw.thenN (Cw.out ?_)
    refine Cw.ret ?_
    refine Pw.thenR ?_
    refine Pw.ret2 rfl rfl rfl ?_
    rw [show wshE t s step pad = 10 by simp_all [wshE]]
    exact ⟨hB, gotI_no (by decide)⟩
  intro g
  refine Cw.skip ?_
  refine Pw.thenN (Cw.out ?_)
  refine Cw.seq ?_
  refine Cw.region ?_
  refine Lw.val (Ex.move rfl) rfl ?_
  refine Lw.val (Ex.assign rfl) rfl ?_
  refine Lw.val (Ex.assign rfl) rfl ?_
  refine Lw.nil ?_
  refine Pw.thenN (Cw.out ?_)
  refine Cw.ret ?_
  refine Pw.ret2 rfl rfl rfl ?_
  rw [show wshE t s step pad = 0 by simp_all [wshE]]
  exact ⟨hB, x, _, rfl, ho, fun h => absurd rfl h, fun _ => rfl⟩
/-- Numbers that are put behind one another into a tensor's box. -/
def RP (A : Nat) (x : Value) (B : Nat) (w1 : World) (F : Nat → BitVec 32) (n : Nat) (w' : World) : Prop :=
  ∃ lv, Blk w' A 25 [x, lv] ∧ w'.ownsRow B 21 1 lv n (((List.range n).map F).map i32) ∧ Below B w1 w'
theorem RP.bel {A B n : Nat} {x : Value} {w1 w' : World} {F : Nat → BitVec 32} (h : RP A x B w1 F n w') : Below B w1 w' := by obtain ⟨_, _, _, h⟩ := h; exact h
theorem spot_nat {S : List Int} {d1 d2 o y x : Nat} (h1 : S.getD 1 default = (d1 : Int)) (h2 : S.getD 2 default = (d2 : Int)) (hy : y < d1) (hx : x < d2) :
    spc S (((o * d1 + y) * d2 + x : Nat) : Int) = o ∧ spy S (((o * d1 + y) * d2 + x : Nat) : Int) = y ∧ spx S (((o * d1 + y) * d2 + x : Nat) : Int) = x := by
  have h := spot_back (s := S) (c := (o : Int)) (y := (y : Int)) (x := (x : Int)) (by omega) (by omega)
  rw [h1, h2] at h
  have e : (((o * d1 + y) * d2 + x : Nat) : Int) = ((o : Int) * d1 + y) * d2 + x := by push_cast; rfl
  rw [e]
  exact h
theorem nest_lt {d0 d1 d2 o y x M : Nat} (ho : o < d0) (hy : y < d1) (hx : x < d2) (hM : d0 * (d1 * d2) ≤ M) : (o * d1 + y) * d2 + x < M := by
  have h1 := rc_lt ho hy
  have h2 := rc_lt h1 hx
  rw [Nat.mul_assoc] at h2
  omega
set_option maxHeartbeats 2000000 in
theorem rpool_c (t : T4) (wide : Int) (W : World) (h_t : t.at W) :
    Fnc Tryz.prog 8 [t.v, .int .i64 wide] W (fun r w' => Below W.heap.size W w' ∧ AnsW W w' r (wpoE t wide) (pshS t.s wide) (wpoL t wide)) := by
  have hB := Below.refl W.heap.size W
  refine Fnc.enter (n := 94) Tryz.func8 (by kernel_rfl) rfl rfl rfl ?_
  refine Cw.seq ?_
  refine Cw.region ?_
  refine Lw.boxV (cs := [t.x, t.y]) rfl rfl rfl ?_
  rintro A_t w eA_t b_t hn -
  replace hB := hB.bs hn
  replace h_t := h_t.bs hn
  clear hn
  have z0 := below_size hB
  refine Lw.newA it_25 rfl ?_
  rintro A_r w eA_r b_r hn -
  replace hB := hB.bs hn
  replace h_t := h_t.bs hn
  replace b_t := b_t.bs hn
  clear hn
  refine Lw.val (Ex.assign rfl) rfl ?_
  refine Lw.nil ?_
  refine Pw.thenN (Cw.out ?_)
  refine Cw.seq ?_
  refine Cw.seq ?_
  refine Cw.region ?_
  refine Lw.val (Ex.ldA (ag_25 _) (sz_25 _) rfl rfl (by assumption)) rfl ?_
  have z_r := blk_lt b_r
  refine Lw.callF rfl rfl (rtcheck_c t.x t.y t.s t.l _ h_t.1 h_t.2) ?_
  rintro _ w ⟨rfl, hn⟩
  replace hB := hB.bs hn
  replace h_t := h_t.bs hn
  replace b_t := b_t.bs hn
  replace b_r := b_r.bs hn
  clear hn
  refine Lw.val (Ex.not rfl) rfl ?_
  refine Lw.nil ?_
  refine Pw.thenN (Cw.out ?_)
  refine Cw.cond rfl ?_ ?_
  · intro g
    refine Cw.seq ?_
    refine Cw.region ?_
    refine Lw.val (Ex.build (vs := []) (cs := [.slice none 0 0, .slice none 0 0]) rfl (by kernel_rfl)) rfl ?_
    refine Lw.unit (Xu.stA (cs := [.slice none 0 0, .slice none 0 0]) rfl rfl rfl rfl rfl b_r rfl) ?_
    rintro w3 ⟨b_r, hg, -⟩
    have hB := hB.grown hg (below_size hB) (by rintro _ ⟨⟩; omega)
    refine Lw.val (Ex.assign rfl) rfl ?_
    refine Lw.nil ?_
    refine Pw.thenN (Cw.out ?_)
    refine Cw.ret ?_
    refine Pw.thenR ?_
    refine Pw.retCT rfl rfl rfl (by assumption) (Tryz.underlying25) rfl rfl rfl ?_
    rw [show wpoE t wide = 1 by simp_all [wpoE]]
    exact ⟨hB, ansW_no (by decide)⟩
  intro g1
  have k_t : tok t.s t.l = true := by simpa using g1
  have hE : wpoE t wide = poolE t.s wide := by rw [wpoE, k_t]; rfl
  clear g1
  rw [hE]
  have h_t1 := h_t.1
  have zr0 := blk_lt b_r
  have zrB := below_size hB
  refine Cw.skip ?_
  refine Pw.thenN (Cw.out ?_)
  refine Cw.seq ?_
  refine Cw.region ?_
  refine Lw.val (Ex.fieldAddr (q := 0) Tryz.underlying25 rfl (sz_22 _) rfl) rfl ?_
  refine Lw.val (Ex.ldB (ag_22 _) rfl (by assumption) rfl) rfl ?_
  refine Lw.val (Ex.move rfl) rfl ?_
  refine Lw.callF rfl rfl (rpshape_c t.s wide t.x _ h_t.1) ?_
  rintro _ w1 ⟨hn, x, m', rfl, hx, hno, hyes⟩
  replace hB := hB.bs hn
  replace h_t := h_t.bs hn
  replace b_t := b_t.bs hn
  replace b_r := b_r.bs hn
  clear hn
  refine Lw.val (Ex.move rfl) rfl ?_
  refine Lw.val (Ex.extract (i := 0) rfl rfl) rfl ?_
  refine Lw.val (Ex.extract (i := 1) rfl rfl) rfl ?_
  refine Lw.val (Ex.assign rfl) rfl ?_
  refine Lw.val (Ex.assign rfl) rfl ?_
  refine Lw.nil ?_
  refine Pw.thenN (Cw.out ?_)
  refine Cw.seq ?_
  refine Cw.seq ?_
  refine Cw.region ?_
  refine Lw.val (Ex.move rfl) rfl ?_
  refine Lw.val (Ex.neq rfl rfl) rfl ?_
  refine Lw.nil ?_
  refine Pw.thenN (Cw.out ?_)
  refine Cw.cond rfl ?_ ?_
  · intro g
    have g : poolE t.s wide ≠ 0 := by simpa using g
    refine Cw.seq ?_
    refine Cw.region ?_
    refine Lw.val (Ex.build (vs := []) (cs := [.slice none 0 0, .slice none 0 0]) rfl (by kernel_rfl)) rfl ?_
    refine Lw.val (Ex.move rfl) rfl ?_
    refine Lw.unit (Xu.stA (cs := [.slice none 0 0, .slice none 0 0]) rfl rfl rfl rfl rfl b_r rfl) ?_
    rintro w3 ⟨b_r, hg, -⟩
    have hB := hB.grown hg (below_size hB) (by rintro _ ⟨⟩; omega)
    refine Lw.val (Ex.assign rfl) rfl ?_
    refine Lw.nil ?_
    refine Pw.thenN (Cw.out ?_)
    refine Cw.ret ?_
    refine Pw.thenR ?_
    refine Pw.retCT rfl rfl rfl (by assumption) (Tryz.underlying25) rfl rfl rfl ?_
    exact ⟨hB, ansW_no g⟩
  intro g
  have e0 : poolE t.s wide = 0 := by simpa using g
  clear g
  rw [e0]
  have hm := hyes e0
  have ok := pool_ok k_t e0
  clear hno hyes e0 hE h_t1
  obtain ⟨m, rfl⟩ : ∃ m : Nat, wide = (m : Int) := ⟨wide.toNat, by have := ok.w; omega⟩
  obtain ⟨S, hS⟩ : ∃ S, S = pshS t.s (m : Int) := ⟨_, rfl⟩
  have lS : S.length = 3 := by rw [hS]; rfl
  have S0 : S.getD 0 default = t.s.getD 0 default := by rw [hS]; rfl
  have okS : Shapes.ok S = true := by rw [hS]; exact ok.ok
  have gS := ((Shapes.ok_iff _).1 okS).2.1
  rw [hm, ← hS] at hx
  rw [← hS]
  clear hm
  have szS := Shapes.size_le S
  have szo := Shapes.size_ok okS
  rw [prod3 lS] at szo
  have l3 := ok.lt
  have okw := ok.w
  have g0 := good_at gS (k := 0) (by omega)
  have g1 := good_at gS (k := 1) (by omega)
  have g2 := good_at gS (k := 2) (by omega)
  have t0 := good_at ok.gt (k := 0) (by omega)
  have t1 := good_at ok.gt (k := 1) (by omega)
  have t2 := good_at ok.gt (k := 2) (by omega)
  have mm : 1 * 1 ≤ (m : Int) * (m : Int) := Int.mul_le_mul okw.1 okw.1 (by decide) (by omega)
  have mm2 : (m : Int) * (m : Int) ≤ 64 * 64 := Int.mul_le_mul okw.2 okw.2 (by omega) (by decide)
  have mmc : ((m * m : Nat) : Int) = (m : Int) * (m : Int) := Int.natCast_mul m m
  obtain ⟨d0, h0⟩ : ∃ d : Nat, S.getD 0 default = (d : Int) := ⟨_, (Int.toNat_of_nonneg (by omega)).symm⟩
  obtain ⟨d1, h1⟩ : ∃ d : Nat, S.getD 1 default = (d : Int) := ⟨_, (Int.toNat_of_nonneg (by omega)).symm⟩
  obtain ⟨d2, h2⟩ : ∃ d : Nat, S.getD 2 default = (d : Int) := ⟨_, (Int.toNat_of_nonneg (by omega)).symm⟩
  have hM : d0 * (d1 * d2) = (Shapes.size S).toNat := by
    have : ((d0 * (d1 * d2) : Nat) : Int) = Shapes.size S := by rw [szo, h0, h1, h2]; push_cast; rfl
    omega
  have zW := below_size hB
  obtain ⟨B1, hB1⟩ : ∃ B1, B1 = w1.heap.size := ⟨_, rfl⟩
  have hxl := own_block hx
  have q_t : A_t < B1 := hB1 ▸ blk_lt b_t
  have q_r : A_r < B1 := hB1 ▸ blk_lt b_r
  have h_x := own_slT hx
  refine Cw.skip ?_
  refine Pw.thenN (Cw.out ?_)
  refine Cw.seq ?_
  refine Cw.region ?_
  refine Lw.newA it_25 rfl ?_
  rintro A_o w2 eA_o b_o hn2 zhn2
  have l_o : B1 ≤ A_o := by omega
  refine Lw.nil ?_
  refine Pw.thenN (Cw.out ?_)
  refine Cw.seq ?_
  refine Cw.region ?_
  refine Lw.val (Ex.move rfl) rfl ?_
  refine Lw.val (Ex.fieldAddr (q := 0) Tryz.underlying25 rfl (sz_22 _) rfl) rfl ?_
  refine Lw.unit (Xu.stB (u := x) (sz_22 _) rfl rfl h_x.one' b_o (by decide)) ?_
  rintro w3 ⟨b_o3, hg, -⟩
  have b_o3 : Blk w3 A_o 25 [x, .slice none 0 0] := b_o3
  have hK0 : Below B1 w1 w3 := (hB1 ▸ hn2 : Below B1 w1 w2).grown hg (by have := hn2.size; omega) (by rintro _ ⟨⟩; omega)
  clear b_o hg hn2 zhn2
  refine Lw.nil ?_
  refine Pw.thenN (Cw.out ?_)
  refine Cw.seq ?_
  refine Cw.seq ?_
  refine Cw.region ?_
  refine Lw.val (Ex.assign rfl) rfl ?_
  refine Lw.nil ?_
  refine Pw.thenN (Cw.out ?_)
  refine Cw.block ?_
  refine Cw.loop (S := Nat) (fun o => [(1, .int .i64 (m : Int)), (2, .pointer (some ⟨A_t, 0, none⟩)), (4, .pointer (some ⟨A_r, 0, none⟩)), (6, x), (8, .pointer (some ⟨A_o, 0, none⟩)), (9, .int .i64 (o : Int))]) (fun o w' => o ≤ d0 ∧ RP A_o x B1 w1 (pooV t.l t.s S m) (o * d1 * d2) w') (fun o => d0 - o) (0) ⟨rfl, rfl, rfl, rfl, rfl, rfl, trivial⟩ ?_ ?_
  · exact ⟨Nat.zero_le _, _, b_o3, by rw [Nat.zero_mul, Nat.zero_mul]; exact World.ownsRow_nil _ _ _ _, hK0⟩
  clear b_o3 hK0
  rintro o w4 ⟨ho, hP⟩
  have h_x1 : SlT (Value.int .i64) w4 x S := Sl.stay h_x fun k e hne => hP.bel.block k (by have := hxl k e; omega)
  refine Cw.seq ?_
  refine Cw.seq ?_
  refine Cw.region ?_
  refine Lw.val (Ex.move rfl) rfl ?_
  refine Lw.val (Ex.move rfl) rfl ?_
  refine Lw.val (Ex.idxT st_22 rfl rfl (by assumption) 0 rfl (by omega)) rfl ?_
  refine Lw.val (Ex.ldT (ag_3 _) rfl (by assumption) (by omega)) rfl ?_
  refine Lw.val (Ex.lss rfl rfl) rfl ?_
  refine Lw.nil ?_
  refine Pw.thenN (Cw.out ?_)
  refine Cw.cond rfl ?_ ?_
  · intro h
    have ho' : o < d0 := by have := of_decide_eq_true h; omega
    refine Cw.skip ?_
    refine Pw.thenN (Cw.out ?_)
    refine Cw.seq ?_
    refine Cw.block ?_
    refine Cw.seq ?_
    refine Cw.region ?_
    refine Lw.val (Ex.assign rfl) rfl ?_
    refine Lw.nil ?_
    refine Pw.thenN (Cw.out ?_)
    refine Cw.block ?_
    refine Cw.loop (S := Nat) (fun y => [(1, .int .i64 (m : Int)), (2, .pointer (some ⟨A_t, 0, none⟩)), (4, .pointer (some ⟨A_r, 0, none⟩)), (6, x), (8, .pointer (some ⟨A_o, 0, none⟩)), (9, .int .i64 (o : Int)), (10, .int .i64 (y : Int))]) (fun y w' => y ≤ d1 ∧ RP A_o x B1 w1 (pooV t.l t.s S m) ((o * d1 + y) * d2) w') (fun y => d1 - y) (0) ⟨rfl, rfl, rfl, rfl, rfl, rfl, rfl, trivial⟩ ?_ ?_
    · exact ⟨Nat.zero_le _, hP⟩
    clear hP h_x1
    rintro y w5 ⟨hy, hP⟩
    have h_x1 : SlT (Value.int .i64) w5 x S := Sl.stay h_x fun k e hne => hP.bel.block k (by have := hxl k e; omega)
    refine Cw.seq ?_
    refine Cw.seq ?_
    refine Cw.region ?_
    refine Lw.val (Ex.move rfl) rfl ?_
    refine Lw.val (Ex.move rfl) rfl ?_
    refine Lw.val (Ex.idxT st_22 rfl rfl (by assumption) 1 rfl (by omega)) rfl ?_
    refine Lw.val (Ex.ldT (ag_3 _) rfl (by assumption) (by omega)) rfl ?_
    refine Lw.val (Ex.lss rfl rfl) rfl ?_
    refine Lw.nil ?_
    refine Pw.thenN (Cw.out ?_)
    refine Cw.cond rfl ?_ ?_
    · intro h
      have hy' : y < d1 := by have := of_decide_eq_true h; omega
      refine Cw.skip ?_
      refine Pw.thenN (Cw.out ?_)
      refine Cw.seq ?_
      refine Cw.block ?_
      refine Cw.seq ?_
      refine Cw.region ?_
      refine Lw.val (Ex.assign rfl) rfl ?_
      refine Lw.nil ?_
      refine Pw.thenN (Cw.out ?_)
      refine Cw.block ?_
      refine Cw.loop (S := Nat) (fun v => [(1, .int .i64 (m : Int)), (2, .pointer (some ⟨A_t, 0, none⟩)), (4, .pointer (some ⟨A_r, 0, none⟩)), (6, x), (8, .pointer (some ⟨A_o, 0, none⟩)), (9, .int .i64 (o : Int)), (10, .int .i64 (y : Int)), (11, .int .i64 (v : Int))]) (fun v w' => v ≤ d2 ∧ RP A_o x B1 w1 (pooV t.l t.s S m) ((o * d1 + y) * d2 + v) w') (fun v => d2 - v) (0) ⟨rfl, rfl, rfl, rfl, rfl, rfl, rfl, rfl, trivial⟩ ?_ ?_
      · exact ⟨Nat.zero_le _, hP⟩
      clear hP h_x1
      rintro v w6 ⟨hv, hP⟩
      have h_x1 : SlT (Value.int .i64) w6 x S := Sl.stay h_x fun k e hne => hP.bel.block k (by have := hxl k e; omega)
      refine Cw.seq ?_
      refine Cw.seq ?_
      refine Cw.region ?_
      refine Lw.val (Ex.move rfl) rfl ?_
      refine Lw.val (Ex.move rfl) rfl ?_
      refine Lw.val (Ex.idxT st_22 rfl rfl (by assumption) 2 rfl (by omega)) rfl ?_
      refine Lw.val (Ex.ldT (ag_3 _) rfl (by assumption) (by omega)) rfl ?_
      refine Lw.val (Ex.lss rfl rfl) rfl ?_
      refine Lw.nil ?_
      refine Pw.thenN (Cw.out ?_)
      refine Cw.cond rfl ?_ ?_
      · intro h
        have hv' : v < d2 := by have := of_decide_eq_true h; omega
        obtain ⟨lv, b_o, hl, hK⟩ := hP
        have b_t6 := b_t.bl hK q_t
        have h_t6 := at_stay h_t h_t (Nat.le_of_eq hB1.symm) hK
        have hn0 := nest_lt ho' hy' hv' (Nat.le_of_eq hM)
        obtain ⟨n, hn⟩ : ∃ n, n = (o * d1 + y) * d2 + v := ⟨_, rfl⟩
        obtain ⟨sc, sy, sx⟩ := spot_nat (o := o) h1 h2 hy' hv'
        rw [← hn] at sc sy sx hn0 hl
        have my : 0 ≤ (y : Int) * (m : Int) ∧ (y : Int) * (m : Int) ≤ 64 * 64 := ⟨Int.mul_nonneg (by omega) (by omega), Int.mul_le_mul (by omega) okw.2 (by omega) (by decide)⟩
        have mv : 0 ≤ (v : Int) * (m : Int) ∧ (v : Int) * (m : Int) ≤ 64 * 64 := ⟨Int.mul_nonneg (by omega) (by omega), Int.mul_le_mul (by omega) okw.2 (by omega) (by decide)⟩
        have tl : ((o : Int) + 1) * (t.s.getD 1 default * t.s.getD 2 default) ≤ t.l.length := by
          rw [ok.tl]
          exact Int.mul_le_mul_of_nonneg_right (by omega) (Int.mul_nonneg (by omega) (by omega))
        refine Cw.skip ?_
        refine Pw.thenN (Cw.out ?_)
        refine Cw.seq ?_
        refine Cw.block ?_
        refine Cw.seq ?_
        refine Cw.region ?_
        refine Lw.val (Ex.ldA (ag_25 _) (sz_25 _) rfl rfl (by assumption)) rfl ?_
        refine Lw.val (Ex.move rfl) rfl ?_
        refine Lw.val (Ex.move rfl) rfl ?_
        refine Lw.val (Ex.move rfl) rfl ?_
        refine Lw.val (Ex.mulI rfl rfl (by omega)) rfl ?_
        refine Lw.val (Ex.move rfl) rfl ?_
        refine Lw.val (Ex.move rfl) rfl ?_
        refine Lw.val (Ex.mulI rfl rfl (by omega)) rfl ?_
        refine Lw.callF rfl rfl (rat8_c t (o : Int) ((y : Int) * (m : Int)) ((v : Int) * (m : Int)) _ h_t6 l3 (by omega) (by omega) (by omega) (by omega) (by omega) tl) ?_
        rintro _ w7 ⟨rfl, hn7⟩
        rw [show pic t.l (t.s.getD 1 default) (t.s.getD 2 default) (o : Int) ((y : Int) * (m : Int)) ((v : Int) * (m : Int)) = mx (pooF t.l t.s S m n) (pooF t.l t.s S m n 0) 0 by simp only [mx, pooF, sc, sy, sx]; simp]
        refine Lw.val (Ex.assign rfl) rfl ?_
        refine Lw.nil ?_
        refine Pw.thenN (Cw.out ?_)
        refine Cw.seq ?_
        refine Cw.seq ?_
        refine Cw.region ?_
        refine Lw.val (Ex.assign rfl) rfl ?_
        refine Lw.nil ?_
        refine Pw.thenN (Cw.out ?_)
        refine Cw.block ?_
        refine Cw.loop (S := Nat) (fun k => [(1, .int .i64 (m : Int)), (2, .pointer (some ⟨A_t, 0, none⟩)), (4, .pointer (some ⟨A_r, 0, none⟩)), (6, x), (8, .pointer (some ⟨A_o, 0, none⟩)), (9, .int .i64 (o : Int)), (10, .int .i64 (y : Int)), (11, .int .i64 (v : Int)), (12, i32 (mx (pooF t.l t.s S m n) (pooF t.l t.s S m n 0) k)), (13, .int .i64 (k : Int))]) (fun k w' => k ≤ m * m ∧ Below w6.heap.size w6 w') (fun k => m * m - k) (0) ⟨rfl, rfl, rfl, rfl, rfl, rfl, rfl, rfl, rfl, rfl, trivial⟩ ?_ ?_
        · exact ⟨Nat.zero_le _, hn7⟩
        rintro k w8 ⟨hk, hn8⟩
        refine Cw.seq ?_
        refine Cw.seq ?_
        refine Cw.region ?_
        refine Lw.val (Ex.move rfl) rfl ?_
        refine Lw.val (Ex.move rfl) rfl ?_
        refine Lw.val (Ex.move rfl) rfl ?_
        refine Lw.val (Ex.mulI rfl rfl (by omega)) rfl ?_
        refine Lw.val (Ex.lss rfl rfl) rfl ?_
        refine Lw.nil ?_
        refine Pw.thenN (Cw.out ?_)
        refine Cw.cond rfl ?_ ?_
        · intro h
          have hk' : k < m * m := by have := of_decide_eq_true h; omega
          have km : (0 : Int) ≤ ((k / m : Nat) : Int) ∧ ((k / m : Nat) : Int) < m := ⟨Int.natCast_nonneg _, by have := Nat.div_lt_of_lt_mul hk'; exact_mod_cast this⟩
          have kr : (0 : Int) ≤ ((k % m : Nat) : Int) ∧ ((k % m : Nat) : Int) < m := ⟨Int.natCast_nonneg _, by have := Nat.mod_lt k (show 0 < m by omega); exact_mod_cast this⟩
          obtain ⟨kd, hkd⟩ : ∃ d : Nat, d = k / m := ⟨_, rfl⟩
          obtain ⟨ke, hke⟩ : ∃ d : Nat, d = k % m := ⟨_, rfl⟩
          rw [← hkd] at km
          rw [← hke] at kr
          have eF : pic t.l (t.s.getD 1 default) (t.s.getD 2 default) (o : Int) ((y : Int) * (m : Int) + (kd : Int)) ((v : Int) * (m : Int) + (ke : Int)) = pooF t.l t.s S m n k := by rw [hkd, hke]; simp only [pooF, sc, sy, sx]
          have b_t8 := b_t6.bs hn8
          have h_t8 := h_t6.bs hn8
          refine Cw.skip ?_
          refine Pw.thenN (Cw.out ?_)
          refine Cw.seq ?_
          refine Cw.block ?_
          refine Cw.quiet mixed (by kernel_rfl) ?_
          refine Qw.val (fun w1 hq => Ex.move rfl) rfl ?_
          refine Qw.val (fun w1 hq => Ex.ldA (ag_25 _) (sz_25 _) rfl rfl (Blk.bs (by assumption) hq)) rfl ?_
          refine Qw.val (fun w1 hq => Ex.move rfl) rfl ?_
          refine Qw.val (fun w1 hq => Ex.move rfl) rfl ?_
          refine Qw.val (fun w1 hq => Ex.move rfl) rfl ?_
          refine Qw.val (fun w1 hq => Ex.mulI rfl rfl (by omega)) rfl ?_
          refine Qw.val (fun w1 hq => Ex.move rfl) rfl ?_
          refine Qw.val (fun w1 hq => Ex.move rfl) rfl ?_
          refine Qw.val (fun w1 hq => (Ex.quoI rfl rfl (by omega) (by omega)).as (congrArg (Value.int .i64) (show (k : Int) / (m : Int) = (kd : Int) by rw [hkd]; rfl))) rfl ?_
          refine Qw.val (fun w1 hq => Ex.addI rfl rfl (by omega)) rfl ?_
          refine Qw.val (fun w1 hq => Ex.move rfl) rfl ?_
          refine Qw.val (fun w1 hq => Ex.move rfl) rfl ?_
          refine Qw.val (fun w1 hq => Ex.mulI rfl rfl (by omega)) rfl ?_
          refine Qw.val (fun w1 hq => Ex.move rfl) rfl ?_
          refine Qw.val (fun w1 hq => Ex.move rfl) rfl ?_
          refine Qw.val (fun w1 hq => (Ex.remI rfl rfl (by omega) (by omega)).as (congrArg (Value.int .i64) (show (k : Int) % (m : Int) = (ke : Int) by rw [hke]; rfl))) rfl ?_
          refine Qw.val (fun w1 hq => Ex.addI rfl rfl (by omega)) rfl ?_
          refine Qw.callF rfl rfl (fun w1 hq => (rat8_c t (o : Int) ((y : Int) * (m : Int) + (kd : Int)) ((v : Int) * (m : Int) + (ke : Int)) w1 (h_t8.bs hq) l3 (by omega) (by omega) (by omega) (by omega) (by omega) tl).q hq) ?_
          refine Qw.val (fun w1 hq => (Ex.max2 rfl rfl).as (congrArg (Value.int .i32) (smax_int _ _).symm)) rfl ?_
          refine Qw.val (fun w1 hq => Ex.assign rfl) rfl ?_
          refine Qw.nil (fun w9 hq => ?_)
          refine Pw.blkN ?_
          refine Pw.thenN (Cw.out ?_)
          refine Cw.region ?_
          refine Lw.val (Ex.move rfl) rfl ?_
          refine Lw.val (Ex.addI rfl rfl (by omega)) rfl ?_
          refine Lw.val (Ex.assign rfl) rfl ?_
          refine Lw.nil ?_
          exact Pw.thenN (Pw.next (k + 1) ⟨rfl, rfl, rfl, rfl, rfl, rfl, rfl, rfl, congrArg (fun z => some (i32 (smax _ z))) eF, rfl, trivial⟩ (⟨hk', bt hn8 hq⟩) (by omega))
        intro h
        have hk' : k = m * m := by have := of_decide_eq_false h; omega
        subst hk'
        have b_o := b_o.bs hn8
        have hl := own_bs hl hn8
        have hK8 := hK.trans (hn8.mono (by have := hK.size; omega))
        refine Cw.exit ?_
        refine Pw.thenE ?_
        refine Pw.thenE ?_
        refine Pw.blkHit ?_
        refine Pw.thenN (Cw.out ?_)
        refine Cw.region ?_
        refine Lw.val (Ex.fieldAddr (q := 0) Tryz.underlying25 rfl (sz_23 _) rfl) rfl ?_
        refine Lw.val (Ex.ldB (ag_23 _) rfl (by assumption) rfl) rfl ?_
        refine Lw.val (Ex.move rfl) rfl ?_
        refine Lw.valW (Xw.lit (vs := [pooV t.l t.s S m n].map i32) st_23 it_21 rfl rfl rfl rfl rfl) rfl ?_
        rintro z w5 ⟨hz, -, hn5, -⟩
        have b_o := b_o.bs hn5
        have hl := own_bs hl hn5
        have hK5 := hK8.trans (hn5.mono (by have := hK8.size; omega))
        refine Lw.valW (Xw.append (base := B1) st_23 it_21 rfl (by decide) rfl rfl hl (own_sl hz) (one_map (fun _ => rfl) _) (by omega) (by omega) (by have := hK5.size; omega)) rfl ?_
        rintro lv2 w10 ⟨hl6, hb6, hg6⟩
        rw [← List.map_append, ← List.map_singleton (f := pooV t.l t.s S m), ← List.map_append, ← List.range_succ] at hl6
        have b_o6 := b_o.by hg6 (blk_own_ne hl b_o (by decide))
        have hK6 := hK5.trans hb6
        refine Lw.val (Ex.fieldAddr (q := 0) Tryz.underlying25 rfl (sz_23 _) rfl) rfl ?_
        refine Lw.unit (Xu.stB (u := lv2) (sz_23 _) rfl rfl (own_sl hl6).one' b_o6 Nat.one_lt_two) ?_
        rintro w11 ⟨b_o7, hg7, -⟩
        have hl7 := own_apart hl6 b_o6 (by decide) hg7
        have hK7 := hK6.grown hg7 (by have := hK6.size; omega) (by rintro _ ⟨⟩; omega)
        refine Lw.nil ?_
        refine Pw.blkN ?_
        refine Pw.thenN (Cw.out ?_)
        refine Cw.region ?_
        refine Lw.val (Ex.move rfl) rfl ?_
        refine Lw.val (Ex.addI rfl rfl (by omega)) rfl ?_
        refine Lw.val (Ex.assign rfl) rfl ?_
        refine Lw.nil ?_
        exact Pw.thenN (Pw.next (v + 1) ⟨rfl, rfl, rfl, rfl, rfl, rfl, rfl, rfl, trivial⟩ (⟨hv', lv2, b_o7, by rw [← Nat.add_assoc, ← hn]; exact hl7, hK7⟩) (by omega))
      intro h
      have hv' : v = d2 := by have := of_decide_eq_false h; omega
      subst hv'
      refine Cw.exit ?_
      refine Pw.thenE ?_
      refine Pw.thenE ?_
      refine Pw.blkHit ?_
      refine Pw.blkN ?_
      refine Pw.thenN (Cw.out ?_)
      refine Cw.region ?_
      refine Lw.val (Ex.move rfl) rfl ?_
      refine Lw.val (Ex.addI rfl rfl (by omega)) rfl ?_
      refine Lw.val (Ex.assign rfl) rfl ?_
      refine Lw.nil ?_
      exact Pw.thenN (Pw.next (y + 1) ⟨rfl, rfl, rfl, rfl, rfl, rfl, rfl, trivial⟩ (⟨hy', by rw [← Nat.add_assoc, Nat.succ_mul]; exact hP⟩) (by omega))
    intro h
    have hy' : y = d1 := by have := of_decide_eq_false h; omega
    subst hy'
    refine Cw.exit ?_
    refine Pw.thenE ?_
    refine Pw.thenE ?_
    refine Pw.blkHit ?_
    refine Pw.blkN ?_
    refine Pw.thenN (Cw.out ?_)
    refine Cw.region ?_
    refine Lw.val (Ex.move rfl) rfl ?_
    refine Lw.val (Ex.addI rfl rfl (by omega)) rfl ?_
    refine Lw.val (Ex.assign rfl) rfl ?_
    refine Lw.nil ?_
    exact Pw.thenN (Pw.next (o + 1) ⟨rfl, rfl, rfl, rfl, rfl, rfl, trivial⟩ (⟨ho', by rw [Nat.succ_mul]; exact hP⟩) (by omega))
  intro h
  have ho' : o = d0 := by have := of_decide_eq_false h; omega
  subst ho'
  obtain ⟨lv, b_o, hl, hK⟩ := hP
  have eL : (List.range (o * d1 * d2)).map (pooV t.l t.s S m) = wpoL t (m : Int) := by unfold wpoL pooL; rw [← hS, Int.toNat_natCast, ← hM, Nat.mul_assoc]
  have lL : (wpoL t (m : Int)).length = o * d1 * d2 := by rw [← eL]; simp
  rw [eL, ← lL] at hl
  have b_r4 := b_r.bl hK q_r
  have hx4 := own_heap hx (fun k e => hK.block k (by have := hxl k e; omega))
  have hB4 := hB.trans (hK.mono (by omega))
  have hox := own_block hl
  have hxo := (own_sl hl).one'
  have hxx := (own_sl hx4).one'
  refine Cw.exit ?_
  refine Pw.thenE ?_
  refine Pw.thenE ?_
  refine Pw.blkHit ?_
  refine Pw.thenN (Cw.out ?_)
  refine Cw.seq ?_
  refine Cw.region ?_
  refine Lw.val (Ex.ldA (ag_25 _) (sz_25 _) rfl rfl (by assumption)) rfl ?_
  refine Lw.unit (Xu.stA (cs := [x, lv]) rfl rfl rfl rfl (by simp [hxo, hxx]) b_r4 rfl) ?_
  rintro w5 ⟨b_r5, hg, -⟩
  have hl5 := own_apart hl b_r4 (by decide) hg
  have hx5 := own_apart hx4 b_r4 (by decide) hg
  have hB5 := hB4.grown hg (below_size hB4) (by rintro _ ⟨⟩; omega)
  refine Lw.val (Ex.assign rfl) rfl ?_
  refine Lw.nil ?_
  refine Pw.thenN (Cw.out ?_)
  refine Cw.ret ?_
  refine Pw.retCT rfl rfl rfl (by assumption) (Tryz.underlying25) rfl rfl rfl ?_
  exact ⟨hB5, x, lv, rfl, fun h => absurd rfl h, fun _ => ⟨.inl (own_mono hx5 (by omega)), own_mono hl5 (by omega), fun k e1 e2 => by have := hox k e1; have := hxl k e2; omega⟩⟩
set_option maxHeartbeats 4000000 in
theorem rof_c (t f : T4) (st p : Int) (W : World) (h_t : t.at W) (h_f : f.at W) :
    Fnc Tryz.prog 18 [t.v, f.v, .int .i64 st, .int .i64 p] W (fun r w' => Below W.heap.size W w' ∧ AnsW W w' r (wofE t f st p) (wshS t.s f.s st p) (wofL t f st p)) := by
  have hB := Below.refl W.heap.size W
  refine Fnc.enter (n := 162) Tryz.func18 (by kernel_rfl) rfl rfl rfl ?_
  refine Cw.seq ?_
  refine Cw.region ?_
  refine Lw.boxV (cs := [t.x, t.y]) rfl rfl rfl ?_
  rintro A_t w eA_t b_t hn -
  replace hB := hB.bs hn
  replace h_t := h_t.bs hn
  replace h_f := h_f.bs hn
  clear hn
  refine Lw.boxV (cs := [f.x, f.y]) rfl rfl rfl ?_
  rintro A_f w eA_f b_f hn -
  replace hB := hB.bs hn
  replace h_t := h_t.bs hn
  replace h_f := h_f.bs hn
  replace b_t := b_t.bs hn
  clear hn
  have z0 := below_size hB
  refine Lw.newA it_25 rfl ?_
  rintro A_r w eA_r b_r hn -
  replace hB := hB.bs hn
  replace h_t := h_t.bs hn
  replace h_f := h_f.bs hn
  replace b_t := b_t.bs hn
  replace b_f := b_f.bs hn
  clear hn
  refine Lw.val (Ex.assign rfl) rfl ?_
  refine Lw.nil ?_
  refine Pw.thenN (Cw.out ?_)
  refine Cw.seq ?_
  refine Cw.seq ?_
  refine Cw.region ?_
  refine Lw.val (Ex.ldA (ag_25 _) (sz_25 _) rfl rfl (by assumption)) rfl ?_
  have z_r := blk_lt b_r
  refine Lw.callF rfl rfl (rtcheck_c t.x t.y t.s t.l _ h_t.1 h_t.2) ?_
  rintro _ w ⟨rfl, hn⟩
  replace hB := hB.bs hn
  replace h_t := h_t.bs hn
  replace h_f := h_f.bs hn
  replace b_t := b_t.bs hn
  replace b_f := b_f.bs hn
  replace b_r := b_r.bs hn
  clear hn
  refine Lw.val (Ex.not rfl) rfl ?_
  refine Lw.val (Ex.move rfl) rfl ?_
  refine Lw.part 24 rfl ?_ ?_
  · intro g
    refine Lw.pass (dj := 24) rfl rfl rfl rfl ?_
    refine Lw.pass (dj := 24) rfl rfl rfl rfl ?_
    refine Lw.pass (dj := 24) rfl rfl rfl rfl ?_
    refine Lw.val (Ex.pickT rfl rfl) rfl ?_
    refine Lw.nil ?_
    refine Pw.thenN (Cw.out ?_)
    refine Cw.condT rfl ?_
    refine Cw.seq ?_
    refine Cw.region ?_
    refine Lw.val (Ex.build (vs := []) (cs := [.slice none 0 0, .slice none 0 0]) rfl (by kernel_rfl)) rfl ?_
    refine Lw.unit (Xu.stA (cs := [.slice none 0 0, .slice none 0 0]) rfl rfl rfl rfl rfl b_r rfl) ?_
    rintro w3 ⟨b_r, hg, -⟩
    have hB := hB.grown hg (below_size hB) (by rintro _ ⟨⟩; omega)
    refine Lw.val (Ex.assign rfl) rfl ?_
    refine Lw.nil ?_
    refine Pw.thenN (Cw.out ?_)
    refine Cw.ret ?_
    refine Pw.thenR ?_
    refine Pw.retCT rfl rfl rfl (by assumption) (Tryz.underlying25) rfl rfl rfl ?_
    rw [show wofE t f st p = 1 by simp_all [wofE]]
    exact ⟨hB, ansW_no (by decide)⟩
  intro g1
  have k_t : tok t.s t.l = true := by simpa using g1
  refine Lw.take (dj := 24) rfl rfl ?_
  refine Lw.val (Ex.ldA (ag_25 _) (sz_25 _) rfl rfl (by assumption)) rfl ?_
  refine Lw.take (dj := 24) rfl rfl ?_
  refine Lw.callF rfl rfl (rtcheck_c f.x f.y f.s f.l _ h_f.1 h_f.2) ?_
  rintro _ w ⟨rfl, hn⟩
  replace hB := hB.bs hn
  replace h_t := h_t.bs hn
  replace h_f := h_f.bs hn
  replace b_t := b_t.bs hn
  replace b_f := b_f.bs hn
  replace b_r := b_r.bs hn
  clear hn
  refine Lw.take (dj := 24) rfl rfl ?_
  refine Lw.val (Ex.not rfl) rfl ?_
  refine Lw.val (Ex.pickF rfl rfl) rfl ?_
  refine Lw.nil ?_
  refine Pw.thenN (Cw.out ?_)
  refine Cw.cond rfl ?_ ?_
  · intro g
    refine Cw.seq ?_
    refine Cw.region ?_
    refine Lw.val (Ex.build (vs := []) (cs := [.slice none 0 0, .slice none 0 0]) rfl (by kernel_rfl)) rfl ?_
    refine Lw.unit (Xu.stA (cs := [.slice none 0 0, .slice none 0 0]) rfl rfl rfl rfl rfl b_r rfl) ?_
    rintro w3 ⟨b_r, hg, -⟩
    have hB := hB.grown hg (below_size hB) (by rintro _ ⟨⟩; omega)
    refine Lw.val (Ex.assign rfl) rfl ?_
    refine Lw.nil ?_
    refine Pw.thenN (Cw.out ?_)
    refine Cw.ret ?_
    refine Pw.thenR ?_
    refine Pw.retCT rfl rfl rfl (by assumption) (Tryz.underlying25) rfl rfl rfl ?_
    rw [show wofE t f st p = 1 by simp_all [wofE]]
    exact ⟨hB, ansW_no (by decide)⟩
  intro g2
  have k_f : tok f.s f.l = true := by simpa using g2
  have hE : wofE t f st p = wshE t.s f.s st p := by rw [wofE, k_t, k_f]; rfl
  clear g1 g2
  rw [hE]
  have h_t1 := h_t.1
  have h_f1 := h_f.1
  have zr0 := blk_lt b_r
  have zrB := below_size hB
  refine Cw.skip ?_
  refine Pw.thenN (Cw.out ?_)
  refine Cw.seq ?_
  refine Cw.region ?_
  refine Lw.val (Ex.fieldAddr (q := 0) Tryz.underlying25 rfl (sz_22 _) rfl) rfl ?_
  refine Lw.val (Ex.ldB (ag_22 _) rfl (by assumption) rfl) rfl ?_
  refine Lw.val (Ex.fieldAddr (q := 0) Tryz.underlying25 rfl (sz_22 _) rfl) rfl ?_
  refine Lw.val (Ex.ldB (ag_22 _) rfl (by assumption) rfl) rfl ?_
  refine Lw.val (Ex.move rfl) rfl ?_
  refine Lw.val (Ex.move rfl) rfl ?_
  refine Lw.callF rfl rfl (rwshape_c t.s f.s st p t.x f.x _ h_t.1 h_f.1) ?_
  rintro _ w1 ⟨hn, x, m', rfl, hx, hno, hyes⟩
  replace hB := hB.bs hn
  replace h_t := h_t.bs hn
  replace h_f := h_f.bs hn
  replace b_t := b_t.bs hn
  replace b_f := b_f.bs hn
  replace b_r := b_r.bs hn
  clear hn
  refine Lw.val (Ex.move rfl) rfl ?_
  refine Lw.val (Ex.extract (i := 0) rfl rfl) rfl ?_
  refine Lw.val (Ex.extract (i := 1) rfl rfl) rfl ?_
  refine Lw.val (Ex.assign rfl) rfl ?_
  refine Lw.val (Ex.assign rfl) rfl ?_
  refine Lw.nil ?_
  refine Pw.thenN (Cw.out ?_)
  refine Cw.seq ?_
  refine Cw.seq ?_
  refine Cw.region ?_
  refine Lw.val (Ex.move rfl) rfl ?_
  refine Lw.val (Ex.neq rfl rfl) rfl ?_
  refine Lw.nil ?_
  refine Pw.thenN (Cw.out ?_)
  refine Cw.cond rfl ?_ ?_
  · intro g
    have g : wshE t.s f.s st p ≠ 0 := by simpa using g
    refine Cw.seq ?_
    refine Cw.region ?_
    refine Lw.val (Ex.build (vs := []) (cs := [.slice none 0 0, .slice none 0 0]) rfl (by kernel_rfl)) rfl ?_
    refine Lw.val (Ex.move rfl) rfl ?_
    refine Lw.unit (Xu.stA (cs := [.slice none 0 0, .slice none 0 0]) rfl rfl rfl rfl rfl b_r rfl) ?_
    rintro w3 ⟨b_r, hg, -⟩
    have hB := hB.grown hg (below_size hB) (by rintro _ ⟨⟩; omega)
    refine Lw.val (Ex.assign rfl) rfl ?_
    refine Lw.nil ?_
    refine Pw.thenN (Cw.out ?_)
    refine Cw.ret ?_
    refine Pw.thenR ?_
    refine Pw.retCT rfl rfl rfl (by assumption) (Tryz.underlying25) rfl rfl rfl ?_
    exact ⟨hB, ansW_no g⟩
  intro g
  have e0 : wshE t.s f.s st p = 0 := by simpa using g
  clear g
  rw [e0]
  have hm := hyes e0
  have ok := win_ok k_t k_f e0
  clear hno hyes e0 hE h_t1 h_f1
  obtain ⟨S, hS⟩ : ∃ S, S = wshS t.s f.s st p := ⟨_, rfl⟩
  obtain ⟨N, hN⟩ : ∃ N, N = wofN f := ⟨_, rfl⟩
  rw [hm, ← hS] at hx
  rw [← hS]
  rw [← hS, ← hN] at ok
  clear hm
  have lS := ok.lS
  have okS := ok.ok
  have szS := Shapes.size_le S
  have szo := Shapes.size_ok okS
  rw [prod3 lS] at szo
  have l3 := ok.lt
  have l4 := ok.lf
  have g0 := good_at ok.gS (k := 0) (by omega)
  have g1 := good_at ok.gS (k := 1) (by omega)
  have g2 := good_at ok.gS (k := 2) (by omega)
  have t0 := good_at ok.gt (k := 0) (by omega)
  have t1 := good_at ok.gt (k := 1) (by omega)
  have t2 := good_at ok.gt (k := 2) (by omega)
  have f0 := good_at ok.gf (k := 0) (by omega)
  have f1 := good_at ok.gf (k := 1) (by omega)
  have f2 := good_at ok.gf (k := 2) (by omega)
  have f3 := good_at ok.gf (k := 3) (by omega)
  have okn := ok.n1
  have okst := ok.st
  have okpd := ok.pd
  have nN := ok.n
  have cc := ok.c
  have oo := ok.o
  have fl := ok.fl
  have m12 : 1 * 1 ≤ f.s.getD 1 default * f.s.getD 2 default := Int.mul_le_mul f1.1 f2.1 (by decide) (by omega)
  have m12' : f.s.getD 1 default * f.s.getD 2 default ≤ 64 * 64 := Int.mul_le_mul f1.2 f2.2 (by omega) (by decide)
  have m23 : 1 * 1 ≤ f.s.getD 2 default * f.s.getD 3 default := Int.mul_le_mul f2.1 f3.1 (by decide) (by omega)
  have m23' : f.s.getD 2 default * f.s.getD 3 default ≤ 64 * 64 := Int.mul_le_mul f2.2 f3.2 (by omega) (by decide)
  have nN2 : f.s.getD 1 default * f.s.getD 2 default * f.s.getD 3 default = (N : Int) := by rw [nN, Int.mul_assoc]
  obtain ⟨d0, h0⟩ : ∃ d : Nat, S.getD 0 default = (d : Int) := ⟨_, (Int.toNat_of_nonneg (by omega)).symm⟩
  obtain ⟨d1, h1⟩ : ∃ d : Nat, S.getD 1 default = (d : Int) := ⟨_, (Int.toNat_of_nonneg (by omega)).symm⟩
  obtain ⟨d2, h2⟩ : ∃ d : Nat, S.getD 2 default = (d : Int) := ⟨_, (Int.toNat_of_nonneg (by omega)).symm⟩
  have hM : d0 * (d1 * d2) = (Shapes.size S).toNat := by
    have : ((d0 * (d1 * d2) : Nat) : Int) = Shapes.size S := by rw [szo, h0, h1, h2]; push_cast; rfl
    omega
  have zW := below_size hB
  obtain ⟨B1, hB1⟩ : ∃ B1, B1 = w1.heap.size := ⟨_, rfl⟩
  have hxl := own_block hx
  have q_t : A_t < B1 := hB1 ▸ blk_lt b_t
  have q_f : A_f < B1 := hB1 ▸ blk_lt b_f
  have q_r : A_r < B1 := hB1 ▸ blk_lt b_r
  have h_x := own_slT hx
  have d1' : (f.s.drop 1).getD 0 default = f.s.getD 1 default := by simp
  have d2' : (f.s.drop 1).getD 1 default = f.s.getD 2 default := by simp
  have d3' : (f.s.drop 1).getD 2 default = f.s.getD 3 default := by simp
  have ln : (f.s.drop 1).length = 3 := by rw [List.length_drop, l4]
  refine Cw.skip ?_
  refine Pw.thenN (Cw.out ?_)
  refine Cw.seq ?_
  refine Cw.region ?_
  refine Lw.newA it_25 rfl ?_
  rintro A_o w2 eA_o b_o hn2 zhn2
  have l_o : B1 ≤ A_o := by omega
  refine Lw.nil ?_
  refine Pw.thenN (Cw.out ?_)
  refine Cw.seq ?_
  refine Cw.region ?_
  refine Lw.val (Ex.move rfl) rfl ?_
  refine Lw.val (Ex.fieldAddr (q := 0) Tryz.underlying25 rfl (sz_22 _) rfl) rfl ?_
  refine Lw.unit (Xu.stB (u := x) (sz_22 _) rfl rfl h_x.one' b_o (by decide)) ?_
  rintro w3 ⟨b_o3, hg, -⟩
  have b_o3 : Blk w3 A_o 25 [x, .slice none 0 0] := b_o3
  have hK0 : Below B1 w1 w3 := (hB1 ▸ hn2 : Below B1 w1 w2).grown hg (by have := hn2.size; omega) (by rintro _ ⟨⟩; omega)
  clear b_o hg hn2 zhn2
  refine Lw.nil ?_
  refine Pw.thenN (Cw.out ?_)
  refine Cw.seq ?_
  refine Cw.seq ?_
  refine Cw.region ?_
  refine Lw.val (Ex.assign rfl) rfl ?_
  refine Lw.nil ?_
  refine Pw.thenN (Cw.out ?_)
  refine Cw.block ?_
  refine Cw.loop (S := Nat) (fun o => [(2, .int .i64 st), (3, .int .i64 p), (4, .pointer (some ⟨A_t, 0, none⟩)), (5, .pointer (some ⟨A_f, 0, none⟩)), (8, .pointer (some ⟨A_r, 0, none⟩)), (10, x), (12, .pointer (some ⟨A_o, 0, none⟩)), (13, .int .i64 (o : Int))]) (fun o w' => o ≤ d0 ∧ RP A_o x B1 w1 (wofF t f st p) (o * d1 * d2) w') (fun o => d0 - o) (0) ⟨rfl, rfl, rfl, rfl, rfl, rfl, rfl, rfl, trivial⟩ ?_ ?_
  · exact ⟨Nat.zero_le _, _, b_o3, by rw [Nat.zero_mul, Nat.zero_mul]; exact World.ownsRow_nil _ _ _ _, hK0⟩
  clear b_o3 hK0
  rintro o w4 ⟨ho, hP⟩
  have h_x1 : SlT (Value.int .i64) w4 x S := Sl.stay h_x fun k e hne => hP.bel.block k (by have := hxl k e; omega)
  refine Cw.seq ?_
  refine Cw.seq ?_
  refine Cw.region ?_
  refine Lw.val (Ex.move rfl) rfl ?_
  refine Lw.val (Ex.move rfl) rfl ?_
  refine Lw.val (Ex.idxT st_22 rfl rfl (by assumption) 0 rfl (by omega)) rfl ?_
  refine Lw.val (Ex.ldT (ag_3 _) rfl (by assumption) (by omega)) rfl ?_
  refine Lw.val (Ex.lss rfl rfl) rfl ?_
  refine Lw.nil ?_
  refine Pw.thenN (Cw.out ?_)
  refine Cw.cond rfl ?_ ?_
  · intro h
    have ho' : o < d0 := by have := of_decide_eq_true h; omega
    refine Cw.skip ?_
    refine Pw.thenN (Cw.out ?_)
    refine Cw.seq ?_
    refine Cw.block ?_
    refine Cw.seq ?_
    refine Cw.region ?_
    refine Lw.val (Ex.assign rfl) rfl ?_
    refine Lw.nil ?_
    refine Pw.thenN (Cw.out ?_)
    refine Cw.block ?_
    refine Cw.loop (S := Nat) (fun y => [(2, .int .i64 st), (3, .int .i64 p), (4, .pointer (some ⟨A_t, 0, none⟩)), (5, .pointer (some ⟨A_f, 0, none⟩)), (8, .pointer (some ⟨A_r, 0, none⟩)), (10, x), (12, .pointer (some ⟨A_o, 0, none⟩)), (13, .int .i64 (o : Int)), (14, .int .i64 (y : Int))]) (fun y w' => y ≤ d1 ∧ RP A_o x B1 w1 (wofF t f st p) ((o * d1 + y) * d2) w') (fun y => d1 - y) (0) ⟨rfl, rfl, rfl, rfl, rfl, rfl, rfl, rfl, rfl, trivial⟩ ?_ ?_
    · exact ⟨Nat.zero_le _, hP⟩
    clear hP h_x1
    rintro y w5 ⟨hy, hP⟩
    have h_x1 : SlT (Value.int .i64) w5 x S := Sl.stay h_x fun k e hne => hP.bel.block k (by have := hxl k e; omega)
    refine Cw.seq ?_
    refine Cw.seq ?_
    refine Cw.region ?_
    refine Lw.val (Ex.move rfl) rfl ?_
    refine Lw.val (Ex.move rfl) rfl ?_
    refine Lw.val (Ex.idxT st_22 rfl rfl (by assumption) 1 rfl (by omega)) rfl ?_
    refine Lw.val (Ex.ldT (ag_3 _) rfl (by assumption) (by omega)) rfl ?_
    refine Lw.val (Ex.lss rfl rfl) rfl ?_
    refine Lw.nil ?_
    refine Pw.thenN (Cw.out ?_)
    refine Cw.cond rfl ?_ ?_
    · intro h
      have hy' : y < d1 := by have := of_decide_eq_true h; omega
      refine Cw.skip ?_
      refine Pw.thenN (Cw.out ?_)
      refine Cw.seq ?_
      refine Cw.block ?_
      refine Cw.seq ?_
      refine Cw.region ?_
      refine Lw.val (Ex.assign rfl) rfl ?_
      refine Lw.nil ?_
      refine Pw.thenN (Cw.out ?_)
      refine Cw.block ?_
      refine Cw.loop (S := Nat) (fun v => [(2, .int .i64 st), (3, .int .i64 p), (4, .pointer (some ⟨A_t, 0, none⟩)), (5, .pointer (some ⟨A_f, 0, none⟩)), (8, .pointer (some ⟨A_r, 0, none⟩)), (10, x), (12, .pointer (some ⟨A_o, 0, none⟩)), (13, .int .i64 (o : Int)), (14, .int .i64 (y : Int)), (15, .int .i64 (v : Int))]) (fun v w' => v ≤ d2 ∧ RP A_o x B1 w1 (wofF t f st p) ((o * d1 + y) * d2 + v) w') (fun v => d2 - v) (0) ⟨rfl, rfl, rfl, rfl, rfl, rfl, rfl, rfl, rfl, rfl, trivial⟩ ?_ ?_
      · exact ⟨Nat.zero_le _, hP⟩
      clear hP h_x1
      rintro v w6 ⟨hv, hP⟩
      have h_x1 : SlT (Value.int .i64) w6 x S := Sl.stay h_x fun k e hne => hP.bel.block k (by have := hxl k e; omega)
      refine Cw.seq ?_
      refine Cw.seq ?_
      refine Cw.region ?_
      refine Lw.val (Ex.move rfl) rfl ?_
      refine Lw.val (Ex.move rfl) rfl ?_
      refine Lw.val (Ex.idxT st_22 rfl rfl (by assumption) 2 rfl (by omega)) rfl ?_
      refine Lw.val (Ex.ldT (ag_3 _) rfl (by assumption) (by omega)) rfl ?_
      refine Lw.val (Ex.lss rfl rfl) rfl ?_
      refine Lw.nil ?_
      refine Pw.thenN (Cw.out ?_)
      refine Cw.cond rfl ?_ ?_
      · intro h
        have hv' : v < d2 := by have := of_decide_eq_true h; omega
        obtain ⟨lv, b_o, hl, hK⟩ := hP
        have hn0 := nest_lt ho' hy' hv' (Nat.le_of_eq hM)
        obtain ⟨n, hn⟩ : ∃ n, n = (o * d1 + y) * d2 + v := ⟨_, rfl⟩
        obtain ⟨sc, sy, sx⟩ := spot_nat (o := o) h1 h2 hy' hv'
        rw [← hn] at sc sy sx hn0 hl
        have my : 0 ≤ (y : Int) * st ∧ (y : Int) * st ≤ 64 * 8 := ⟨Int.mul_nonneg (by omega) (by omega), Int.mul_le_mul (by omega) okst.2 (by omega) (by decide)⟩
        have mv : 0 ≤ (v : Int) * st ∧ (v : Int) * st ≤ 64 * 8 := ⟨Int.mul_nonneg (by omega) (by omega), Int.mul_le_mul (by omega) okst.2 (by omega) (by decide)⟩
        have o1 : 0 ≤ (o : Int) * f.s.getD 1 default ∧ (o : Int) * f.s.getD 1 default ≤ 64 * 64 := ⟨Int.mul_nonneg (by omega) (by omega), Int.mul_le_mul (by omega) f1.2 (by omega) (by decide)⟩
        have o2 : 0 ≤ (o : Int) * f.s.getD 1 default * f.s.getD 2 default ∧ (o : Int) * f.s.getD 1 default * f.s.getD 2 default ≤ 64 * 64 * 64 := ⟨Int.mul_nonneg o1.1 (by omega), Int.mul_le_mul o1.2 f2.2 (by omega) (by decide)⟩
        have oN : (o : Int) * f.s.getD 1 default * f.s.getD 2 default * f.s.getD 3 default = (o : Int) * (N : Int) := by rw [← nN2, Int.mul_assoc (o : Int), Int.mul_assoc (o : Int)]
        have oN2 : 0 ≤ (o : Int) * (N : Int) := Int.mul_nonneg (by omega) (by omega)
        have oN3 : ((o : Int) + 1) * (N : Int) ≤ f.s.getD 0 default * (N : Int) := Int.mul_le_mul_of_nonneg_right (by omega) (by omega)
        have f0N : f.s.getD 0 default * (N : Int) ≤ 64 * 4096 := Int.mul_le_mul f0.2 (by omega) (by omega) (by decide)
        rw [Int.add_mul, Int.one_mul] at oN3
        refine Cw.skip ?_
        refine Pw.thenN (Cw.out ?_)
        refine Cw.seq ?_
        refine Cw.block ?_
        refine Cw.seq ?_
        refine Cw.region ?_
        refine Lw.val (Ex.assign (show _ = some (i32 (0#32)) from rfl)) rfl ?_
        refine Lw.nil ?_
        refine Pw.thenN (Cw.out ?_)
        refine Cw.seq ?_
        refine Cw.seq ?_
        refine Cw.region ?_
        refine Lw.val (Ex.assign rfl) rfl ?_
        refine Lw.nil ?_
        refine Pw.thenN (Cw.out ?_)
        refine Cw.block ?_
        refine Cw.loop (S := Nat) (fun k => [(2, .int .i64 st), (3, .int .i64 p), (4, .pointer (some ⟨A_t, 0, none⟩)), (5, .pointer (some ⟨A_f, 0, none⟩)), (8, .pointer (some ⟨A_r, 0, none⟩)), (10, x), (12, .pointer (some ⟨A_o, 0, none⟩)), (13, .int .i64 (o : Int)), (14, .int .i64 (y : Int)), (15, .int .i64 (v : Int)), (16, i32 (winS t.l f.l t.s S (f.s.drop 1) N st p n k)), (17, .int .i64 (k : Int))]) (fun k w' => k ≤ N ∧ Below w6.heap.size w6 w') (fun k => N - k) (0) ⟨rfl, rfl, rfl, rfl, rfl, rfl, rfl, rfl, rfl, rfl, rfl, rfl, trivial⟩ ?_ ?_
        · exact ⟨Nat.zero_le _, Below.refl _ _⟩
        rintro k w8 ⟨hk, hn8⟩
        have hK8 := hK.trans (hn8.mono (by have := hK.size; omega))
        have b_f8 := b_f.bl hK8 q_f
        have h_f8 := at_stay h_f h_f (Nat.le_of_eq hB1.symm) hK8
        have h_f81 := h_f8.1
        refine Cw.seq ?_
        refine Cw.seq ?_
        refine Cw.quiet mixed (by kernel_rfl) ?_
        refine Qw.val (fun w1 hq => Ex.move rfl) rfl ?_
        refine Qw.val (fun w1 hq => Ex.fieldAddr (q := 0) Tryz.underlying25 rfl (sz_22 _) rfl) rfl ?_
        refine Qw.val (fun w1 hq => Ex.ldB (ag_22 _) rfl (Blk.bs (by assumption) hq) rfl) rfl ?_
        refine Qw.val (fun w1 hq => Ex.idxT st_22 rfl rfl (Sl.bs (by assumption) hq) 1 rfl (by omega)) rfl ?_
        refine Qw.val (fun w1 hq => Ex.ldT (ag_3 _) rfl (Sl.bs (by assumption) hq) (by omega)) rfl ?_
        refine Qw.val (fun w1 hq => Ex.fieldAddr (q := 0) Tryz.underlying25 rfl (sz_22 _) rfl) rfl ?_
        refine Qw.val (fun w1 hq => Ex.ldB (ag_22 _) rfl (Blk.bs (by assumption) hq) rfl) rfl ?_
        refine Qw.val (fun w1 hq => Ex.idxT st_22 rfl rfl (Sl.bs (by assumption) hq) 2 rfl (by omega)) rfl ?_
        refine Qw.val (fun w1 hq => Ex.ldT (ag_3 _) rfl (Sl.bs (by assumption) hq) (by omega)) rfl ?_
        refine Qw.val (fun w1 hq => Ex.mulI rfl rfl (by omega)) rfl ?_
        refine Qw.val (fun w1 hq => Ex.fieldAddr (q := 0) Tryz.underlying25 rfl (sz_22 _) rfl) rfl ?_
        refine Qw.val (fun w1 hq => Ex.ldB (ag_22 _) rfl (Blk.bs (by assumption) hq) rfl) rfl ?_
        refine Qw.val (fun w1 hq => Ex.idxT st_22 rfl rfl (Sl.bs (by assumption) hq) 3 rfl (by omega)) rfl ?_
        refine Qw.val (fun w1 hq => Ex.ldT (ag_3 _) rfl (Sl.bs (by assumption) hq) (by omega)) rfl ?_
        refine Qw.val (fun w1 hq => (Ex.mulI rfl rfl (by omega)).as (congrArg (Value.int .i64) nN2)) rfl ?_
        refine Qw.val (fun w1 hq => Ex.lss rfl rfl) rfl ?_
        refine Qw.nil (fun w7 hq => ?_)
        refine Pw.thenN (Cw.out ?_)
        refine Cw.cond rfl ?_ ?_
        · intro h
          have hk' : k < N := by have := of_decide_eq_true h; omega
          have hk0 : (0 : Int) ≤ (k : Int) := by omega
          have hn9 := bt hn8 hq
          clear hq
          have hK9 := hK.trans (hn9.mono (by have := hK.size; omega))
          have b_f9 := b_f.bl hK9 q_f
          have b_t9 := b_t.bl hK9 q_t
          have h_f9 := at_stay h_f h_f (Nat.le_of_eq hB1.symm) hK9
          have h_t9 := at_stay h_t h_t (Nat.le_of_eq hB1.symm) hK9
          have h_f91 := h_f9.1
          have jc : 0 ≤ spc (f.s.drop 1) k ∧ spc (f.s.drop 1) k < f.s.getD 1 default := by rw [← d1']; exact spc_in ok.okf ln (by have := Shapes.size_le (f.s.drop 1); unfold wofN at hN; omega)
          have jy : 0 ≤ spy (f.s.drop 1) k ∧ spy (f.s.drop 1) k < 64 := by
            have h1 := Int.emod_nonneg ((k : Int) / (f.s.drop 1).getD 2 default) (b := (f.s.drop 1).getD 1 default) (by omega)
            have h2 := Int.emod_lt_of_pos ((k : Int) / (f.s.drop 1).getD 2 default) (b := (f.s.drop 1).getD 1 default) (by omega)
            unfold spy; omega
          have jx : 0 ≤ spx (f.s.drop 1) k ∧ spx (f.s.drop 1) k < 64 := by
            have h1 := Int.emod_nonneg (k : Int) (b := (f.s.drop 1).getD 2 default) (by omega)
            have h2 := Int.emod_lt_of_pos (k : Int) (b := (f.s.drop 1).getD 2 default) (by omega)
            unfold spx; omega
          have tl : (spc (f.s.drop 1) k + 1) * (t.s.getD 1 default * t.s.getD 2 default) ≤ t.l.length := by
            rw [ok.tl, ok.c]
            exact Int.mul_le_mul_of_nonneg_right (by omega) (Int.mul_nonneg (by omega) (by omega))
          obtain ⟨K, hKK⟩ : ∃ K : Nat, (o : Int) * (N : Int) + (k : Int) = (K : Int) := ⟨_, (Int.toNat_of_nonneg (by omega)).symm⟩
          have hKl : K < f.l.length := by omega
          have eK : (spc S (n : Int)).toNat * N + k = K := by
            rw [sc, Int.toNat_natCast]
            have h2 : ((o * N + k : Nat) : Int) = (K : Int) := by push_cast; exact hKK
            exact_mod_cast h2
          have eS : winS t.l f.l t.s S (f.s.drop 1) N st p n k + pic t.l (t.s.getD 1 default) (t.s.getD 2 default) (spc (f.s.drop 1) k) ((y : Int) * st - p + spy (f.s.drop 1) k) ((v : Int) * st - p + spx (f.s.drop 1) k) * f.l.getD K default = winS t.l f.l t.s S (f.s.drop 1) N st p n (k + 1) := by
            rw [← eK, ← sy, ← sx]; rfl
          refine Cw.skip ?_
          refine Pw.thenN (Cw.out ?_)
          refine Cw.seq ?_
          refine Cw.block ?_
          refine Cw.seq ?_
          refine Cw.quiet mixed (by kernel_rfl) ?_
          refine Qw.val (fun w1 hq => Ex.move rfl) rfl ?_
          refine Qw.val (fun w1 hq => Ex.fieldAddr (q := 0) Tryz.underlying25 rfl (sz_22 _) rfl) rfl ?_
          refine Qw.val (fun w1 hq => Ex.ldB (ag_22 _) rfl (Blk.bs (by assumption) hq) rfl) rfl ?_
          refine Qw.val (fun w1 hq => Ex.idxT st_22 rfl rfl (Sl.bs (by assumption) hq) 2 rfl (by omega)) rfl ?_
          refine Qw.val (fun w1 hq => Ex.ldT (ag_3 _) rfl (Sl.bs (by assumption) hq) (by omega)) rfl ?_
          refine Qw.val (fun w1 hq => Ex.fieldAddr (q := 0) Tryz.underlying25 rfl (sz_22 _) rfl) rfl ?_
          refine Qw.val (fun w1 hq => Ex.ldB (ag_22 _) rfl (Blk.bs (by assumption) hq) rfl) rfl ?_
          refine Qw.val (fun w1 hq => Ex.idxT st_22 rfl rfl (Sl.bs (by assumption) hq) 3 rfl (by omega)) rfl ?_
          refine Qw.val (fun w1 hq => Ex.ldT (ag_3 _) rfl (Sl.bs (by assumption) hq) (by omega)) rfl ?_
          refine Qw.val (fun w1 hq => Ex.mulI rfl rfl (by omega)) rfl ?_
          refine Qw.val (fun w1 hq => (Ex.quoI rfl rfl (by omega) (by omega)).as (congrArg (Value.int .i64) (show _ = spc (f.s.drop 1) k by unfold spc; rw [d2', d3']))) rfl ?_
          refine Qw.val (fun w1 hq => Ex.assign rfl) rfl ?_
          refine Qw.nil (fun w9 hq => ?_)
          refine Pw.thenN (Cw.out ?_)
          refine Cw.seq ?_
          have hn10 := bt hn9 hq
          have b_f10 := b_f9.bs hq
          have h_f101 := h_f91.bs hq
          have b_t10 := b_t9.bs hq
          have h_f10 := h_f9.bs hq
          have h_t10 := h_t9.bs hq
          clear hq
          refine Cw.quiet mixed (by kernel_rfl) ?_
          refine Qw.val (fun w1 hq => Ex.move rfl) rfl ?_
          refine Qw.val (fun w1 hq => Ex.fieldAddr (q := 0) Tryz.underlying25 rfl (sz_22 _) rfl) rfl ?_
          refine Qw.val (fun w1 hq => Ex.ldB (ag_22 _) rfl (Blk.bs (by assumption) hq) rfl) rfl ?_
          refine Qw.val (fun w1 hq => Ex.idxT st_22 rfl rfl (Sl.bs (by assumption) hq) 3 rfl (by omega)) rfl ?_
          refine Qw.val (fun w1 hq => Ex.ldT (ag_3 _) rfl (Sl.bs (by assumption) hq) (by omega)) rfl ?_
          refine Qw.val (fun w1 hq => Ex.quoI rfl rfl (by omega) (by omega)) rfl ?_
          refine Qw.val (fun w1 hq => Ex.fieldAddr (q := 0) Tryz.underlying25 rfl (sz_22 _) rfl) rfl ?_
          refine Qw.val (fun w1 hq => Ex.ldB (ag_22 _) rfl (Blk.bs (by assumption) hq) rfl) rfl ?_
          refine Qw.val (fun w1 hq => Ex.idxT st_22 rfl rfl (Sl.bs (by assumption) hq) 2 rfl (by omega)) rfl ?_
          refine Qw.val (fun w1 hq => Ex.ldT (ag_3 _) rfl (Sl.bs (by assumption) hq) (by omega)) rfl ?_
          refine Qw.val (fun w1 hq => (Ex.remI rfl rfl (Int.ediv_nonneg (by omega) (by omega)) (by omega)).as (congrArg (Value.int .i64) (show _ = spy (f.s.drop 1) k by unfold spy; rw [d2', d3']))) rfl ?_
          refine Qw.val (fun w1 hq => Ex.assign rfl) rfl ?_
          refine Qw.nil (fun w10 hq => ?_)
          refine Pw.thenN (Cw.out ?_)
          refine Cw.seq ?_
          have hn11 := bt hn10 hq
          have b_f11 := b_f10.bs hq
          have b_t11 := b_t10.bs hq
          have h_f111 := h_f101.bs hq
          have h_f112 := h_f10.2.bs hq
          have h_t11 := h_t10.bs hq
          clear hq
          refine Cw.region ?_
          refine Lw.val (Ex.move rfl) rfl ?_
          refine Lw.val (Ex.fieldAddr (q := 0) Tryz.underlying25 rfl (sz_22 _) rfl) rfl ?_
          refine Lw.val (Ex.ldB (ag_22 _) rfl (by assumption) rfl) rfl ?_
          refine Lw.val (Ex.idxT st_22 rfl rfl (by assumption) 3 rfl (by omega)) rfl ?_
          refine Lw.val (Ex.ldT (ag_3 _) rfl (by assumption) (by omega)) rfl ?_
          refine Lw.val ((Ex.remI rfl rfl (by omega) (by omega)).as (congrArg (Value.int .i64) (show _ = spx (f.s.drop 1) k by unfold spx; rw [d3']))) rfl ?_
          refine Lw.val (Ex.assign rfl) rfl ?_
          refine Lw.nil ?_
          refine Pw.thenN (Cw.out ?_)
          refine Cw.quiet mixed (by kernel_rfl) ?_
          refine Qw.val (fun w1 hq => Ex.move rfl) rfl ?_
          refine Qw.val (fun w1 hq => Ex.ldA (ag_25 _) (sz_25 _) rfl rfl (Blk.bs (by assumption) hq)) rfl ?_
          refine Qw.val (fun w1 hq => Ex.move rfl) rfl ?_
          refine Qw.val (fun w1 hq => Ex.move rfl) rfl ?_
          refine Qw.val (fun w1 hq => Ex.move rfl) rfl ?_
          refine Qw.val (fun w1 hq => Ex.mulI rfl rfl (by omega)) rfl ?_
          refine Qw.val (fun w1 hq => Ex.move rfl) rfl ?_
          refine Qw.val (fun w1 hq => Ex.subI rfl rfl (by omega)) rfl ?_
          refine Qw.val (fun w1 hq => Ex.move rfl) rfl ?_
          refine Qw.val (fun w1 hq => Ex.addI rfl rfl (by omega)) rfl ?_
          refine Qw.val (fun w1 hq => Ex.move rfl) rfl ?_
          refine Qw.val (fun w1 hq => Ex.move rfl) rfl ?_
          refine Qw.val (fun w1 hq => Ex.mulI rfl rfl (by omega)) rfl ?_
          refine Qw.val (fun w1 hq => Ex.move rfl) rfl ?_
          refine Qw.val (fun w1 hq => Ex.subI rfl rfl (by omega)) rfl ?_
          refine Qw.val (fun w1 hq => Ex.move rfl) rfl ?_
          refine Qw.val (fun w1 hq => Ex.addI rfl rfl (by omega)) rfl ?_
          refine Qw.callF rfl rfl (fun w1 hq => (rat8_c t (spc (f.s.drop 1) k) ((y : Int) * st - p + spy (f.s.drop 1) k) ((v : Int) * st - p + spx (f.s.drop 1) k) w1 (h_t11.bs hq) l3 (by omega) (by omega) (by omega) (by omega) (by omega) tl).q hq) ?_
          refine Qw.val (fun w1 hq => Ex.fieldAddr (q := 0) Tryz.underlying25 rfl (sz_23 _) rfl) rfl ?_
          refine Qw.val (fun w1 hq => Ex.ldB (ag_23 _) rfl (Blk.bs (by assumption) hq) rfl) rfl ?_
          refine Qw.val (fun w1 hq => Ex.move rfl) rfl ?_
          refine Qw.val (fun w1 hq => Ex.fieldAddr (q := 0) Tryz.underlying25 rfl (sz_22 _) rfl) rfl ?_
          refine Qw.val (fun w1 hq => Ex.ldB (ag_22 _) rfl (Blk.bs (by assumption) hq) rfl) rfl ?_
          refine Qw.val (fun w1 hq => Ex.idxT st_22 rfl rfl (Sl.bs (by assumption) hq) 1 rfl (by omega)) rfl ?_
          refine Qw.val (fun w1 hq => Ex.ldT (ag_3 _) rfl (Sl.bs (by assumption) hq) (by omega)) rfl ?_
          refine Qw.val (fun w1 hq => Ex.mulI rfl rfl (by omega)) rfl ?_
          refine Qw.val (fun w1 hq => Ex.fieldAddr (q := 0) Tryz.underlying25 rfl (sz_22 _) rfl) rfl ?_
          refine Qw.val (fun w1 hq => Ex.ldB (ag_22 _) rfl (Blk.bs (by assumption) hq) rfl) rfl ?_
          refine Qw.val (fun w1 hq => Ex.idxT st_22 rfl rfl (Sl.bs (by assumption) hq) 2 rfl (by omega)) rfl ?_
          refine Qw.val (fun w1 hq => Ex.ldT (ag_3 _) rfl (Sl.bs (by assumption) hq) (by omega)) rfl ?_
          refine Qw.val (fun w1 hq => Ex.mulI rfl rfl (by omega)) rfl ?_
          refine Qw.val (fun w1 hq => Ex.fieldAddr (q := 0) Tryz.underlying25 rfl (sz_22 _) rfl) rfl ?_
          refine Qw.val (fun w1 hq => Ex.ldB (ag_22 _) rfl (Blk.bs (by assumption) hq) rfl) rfl ?_
          refine Qw.val (fun w1 hq => Ex.idxT st_22 rfl rfl (Sl.bs (by assumption) hq) 3 rfl (by omega)) rfl ?_
          refine Qw.val (fun w1 hq => Ex.ldT (ag_3 _) rfl (Sl.bs (by assumption) hq) (by omega)) rfl ?_
          refine Qw.val (fun w1 hq => (Ex.mulI rfl rfl (by omega)).as (congrArg (Value.int .i64) oN)) rfl ?_
          refine Qw.val (fun w1 hq => Ex.move rfl) rfl ?_
          refine Qw.val (fun w1 hq => Ex.addI rfl rfl (by omega)) rfl ?_
          refine Qw.val (fun w1 hq => Ex.idxT st_23 rfl rfl (Sl.bs h_f112 hq) K hKK hKl) rfl ?_
          refine Qw.val (fun w1 hq => Ex.ldT (ag_21 _) rfl (Sl.bs h_f112 hq) hKl) rfl ?_
          refine Qw.val (fun w1 hq => Ex.muli32 rfl rfl) rfl ?_
          refine Qw.val (fun w1 hq => Ex.addi32 rfl rfl) rfl ?_
          refine Qw.val (fun w1 hq => Ex.assign rfl) rfl ?_
          refine Qw.nil (fun w11 hq => ?_)
          refine Pw.blkN ?_
          refine Pw.thenN (Cw.out ?_)
          refine Cw.region ?_
          refine Lw.val (Ex.move rfl) rfl ?_
          refine Lw.val (Ex.addI rfl rfl (by omega)) rfl ?_
          refine Lw.val (Ex.assign rfl) rfl ?_
          refine Lw.nil ?_
          exact Pw.thenN (Pw.next (k + 1) ⟨rfl, rfl, rfl, rfl, rfl, rfl, rfl, rfl, rfl, rfl, congrArg (fun z => some (i32 z)) eS, rfl, trivial⟩ (⟨hk', bt hn11 hq⟩) (by omega))
        intro h
        have hk' : k = N := by have := of_decide_eq_false h; omega
        have hn8 := bt hn8 hq
        clear hK8 b_f8 h_f8 h_f81 hq
        subst hk'
        rw [show winS t.l f.l t.s S (f.s.drop 1) k st p n k = wofF t f st p n by unfold wofF; rw [← hS, ← hN]]
        have b_o := b_o.bs hn8
        have hl := own_bs hl hn8
        have hK8 := hK.trans (hn8.mono (by have := hK.size; omega))
        refine Cw.exit ?_
        refine Pw.thenE ?_
        refine Pw.thenE ?_
        refine Pw.blkHit ?_
        refine Pw.thenN (Cw.out ?_)
        refine Cw.region ?_
        refine Lw.val (Ex.fieldAddr (q := 0) Tryz.underlying25 rfl (sz_23 _) rfl) rfl ?_
        refine Lw.val (Ex.ldB (ag_23 _) rfl (by assumption) rfl) rfl ?_
        refine Lw.val (Ex.move rfl) rfl ?_
        refine Lw.valW (Xw.lit (vs := [wofF t f st p n].map i32) st_23 it_21 rfl rfl rfl rfl rfl) rfl ?_
        rintro z w5 ⟨hz, -, hn5, -⟩
        have b_o := b_o.bs hn5
        have hl := own_bs hl hn5
        have hK5 := hK8.trans (hn5.mono (by have := hK8.size; omega))
        refine Lw.valW (Xw.append (base := B1) st_23 it_21 rfl (by decide) rfl rfl hl (own_sl hz) (one_map (fun _ => rfl) _) (by omega) (by omega) (by have := hK5.size; omega)) rfl ?_
        rintro lv2 w10 ⟨hl6, hb6, hg6⟩
        rw [← List.map_append, ← List.map_singleton (f := wofF t f st p), ← List.map_append, ← List.range_succ] at hl6
        have b_o6 := b_o.by hg6 (blk_own_ne hl b_o (by decide))
        have hK6 := hK5.trans hb6
        refine Lw.val (Ex.fieldAddr (q := 0) Tryz.underlying25 rfl (sz_23 _) rfl) rfl ?_
        refine Lw.unit (Xu.stB (u := lv2) (sz_23 _) rfl rfl (own_sl hl6).one' b_o6 Nat.one_lt_two) ?_
        rintro w11 ⟨b_o7, hg7, -⟩
        have hl7 := own_apart hl6 b_o6 (by decide) hg7
        have hK7 := hK6.grown hg7 (by have := hK6.size; omega) (by rintro _ ⟨⟩; omega)
        refine Lw.nil ?_
        refine Pw.blkN ?_
        refine Pw.thenN (Cw.out ?_)
        refine Cw.region ?_
        refine Lw.val (Ex.move rfl) rfl ?_
        refine Lw.val (Ex.addI rfl rfl (by omega)) rfl ?_
        refine Lw.val (Ex.assign rfl) rfl ?_
        refine Lw.nil ?_
        exact Pw.thenN (Pw.next (v + 1) ⟨rfl, rfl, rfl, rfl, rfl, rfl, rfl, rfl, rfl, rfl, trivial⟩ (⟨hv', lv2, b_o7, by rw [← Nat.add_assoc, ← hn]; exact hl7, hK7⟩) (by omega))
      intro h
      have hv' : v = d2 := by have := of_decide_eq_false h; omega
      subst hv'
      refine Cw.exit ?_
      refine Pw.thenE ?_
      refine Pw.thenE ?_
      refine Pw.blkHit ?_
      refine Pw.blkN ?_
      refine Pw.thenN (Cw.out ?_)
      refine Cw.region ?_
      refine Lw.val (Ex.move rfl) rfl ?_
      refine Lw.val (Ex.addI rfl rfl (by omega)) rfl ?_
      refine Lw.val (Ex.assign rfl) rfl ?_
      refine Lw.nil ?_
      exact Pw.thenN (Pw.next (y + 1) ⟨rfl, rfl, rfl, rfl, rfl, rfl, rfl, rfl, rfl, trivial⟩ (⟨hy', by rw [← Nat.add_assoc, Nat.succ_mul]; exact hP⟩) (by omega))
    intro h
    have hy' : y = d1 := by have := of_decide_eq_false h; omega
    subst hy'
    refine Cw.exit ?_
    refine Pw.thenE ?_
    refine Pw.thenE ?_
    refine Pw.blkHit ?_
    refine Pw.blkN ?_
    refine Pw.thenN (Cw.out ?_)
    refine Cw.region ?_
    refine Lw.val (Ex.move rfl) rfl ?_
    refine Lw.val (Ex.addI rfl rfl (by omega)) rfl ?_
    refine Lw.val (Ex.assign rfl) rfl ?_
    refine Lw.nil ?_
    exact Pw.thenN (Pw.next (o + 1) ⟨rfl, rfl, rfl, rfl, rfl, rfl, rfl, rfl, trivial⟩ (⟨ho', by rw [Nat.succ_mul]; exact hP⟩) (by omega))
  intro h
  have ho' : o = d0 := by have := of_decide_eq_false h; omega
  subst ho'
  obtain ⟨lv, b_o, hl, hK⟩ := hP
  have eL : (List.range (o * d1 * d2)).map (wofF t f st p) = wofL t f st p := by unfold wofL; rw [← hS, ← hM, Nat.mul_assoc]
  have lL : (wofL t f st p).length = o * d1 * d2 := by rw [← eL]; simp
  rw [eL, ← lL] at hl
  have b_r4 := b_r.bl hK q_r
  have hx4 := own_heap hx (fun k e => hK.block k (by have := hxl k e; omega))
  have hB4 := hB.trans (hK.mono (by omega))
  have hox := own_block hl
  have hxo := (own_sl hl).one'
  have hxx := (own_sl hx4).one'
  refine Cw.exit ?_
  refine Pw.thenE ?_
  refine Pw.thenE ?_
  refine Pw.blkHit ?_
  refine Pw.thenN (Cw.out ?_)
  refine Cw.seq ?_
  refine Cw.region ?_
  refine Lw.val (Ex.ldA (ag_25 _) (sz_25 _) rfl rfl (by assumption)) rfl ?_
  refine Lw.unit (Xu.stA (cs := [x, lv]) rfl rfl rfl rfl (by simp [hxo, hxx]) b_r4 rfl) ?_
  rintro w5 ⟨b_r5, hg, -⟩
  have hl5 := own_apart hl b_r4 (by decide) hg
  have hx5 := own_apart hx4 b_r4 (by decide) hg
  have hB5 := hB4.grown hg (below_size hB4) (by rintro _ ⟨⟩; omega)
  refine Lw.val (Ex.assign rfl) rfl ?_
  refine Lw.nil ?_
  refine Pw.thenN (Cw.out ?_)
  refine Cw.ret ?_
  refine Pw.retCT rfl rfl rfl (by assumption) (Tryz.underlying25) rfl rfl rfl ?_
  exact ⟨hB5, x, lv, rfl, fun h => absurd rfl h, fun _ => ⟨.inl (own_mono hx5 (by omega)), own_mono hl5 (by omega), fun k e1 e2 => by have := hox k e1; have := hxl k e2; omega⟩⟩
end Go.Proofs.YtgjpjpdmkeifeaaGreatDoor
