/- Contracts: the document's rows with columns. -/
import Derived.Test.YtdliencelkdibaaGreatDoorProductsCode
import Derived.Test.YtdliencelkdibaaGreatDoorRefCode
namespace Go.Proofs.YtdliencelkdibaaGreatDoor
open Go Go.Dd Go.RowKit
set_option maxRecDepth 100000

theorem rpshape_c (u v : Value) (a b : List Int) (W : World) (hu : SlT (Value.int .i64) W u a) (hv : SlT (Value.int .i64) W v b) :
    Fnc Tryz.prog 11 [u, v] W (fun r w' => Below W.heap.size W w' ∧ PShp W w' r a b) := by
  have hB := Below.refl W.heap.size W
  refine Fnc.enter (n := 38) Tryz.func11 (by kernel_rfl) rfl rfl rfl ?_
  refine Cw.seq ?_
  refine Cw.region ?_
  refine Lw.val (Ex.assign rfl) rfl ?_
  refine Lw.val (Ex.assign rfl) rfl ?_
  refine Lw.nil ?_
  refine Pw.thenN (Cw.out ?_)
  refine Cw.seq ?_
  refine Cw.seq ?_
  refine Cw.region ?_
  refine Lw.val (Ex.move rfl) rfl ?_
  refine Lw.callF rfl rfl (rcheck_c u a _ hu) ?_
  rintro _ w ⟨rfl, hn⟩
  replace hB := hB.bs hn
  replace hu := hu.bs hn
  replace hv := hv.bs hn
  clear hn
  refine Lw.val (Ex.not rfl) rfl ?_
  refine Lw.val (Ex.move rfl) rfl ?_
  refine Lw.part 9 rfl ?_ ?_
  · intro g
    have e := pshE_no (a := a) (b := b) (.inl (by simpa using g))
    refine Lw.pass (dj := 9) rfl rfl rfl rfl ?_
    refine Lw.pass (dj := 9) rfl rfl rfl rfl ?_
    refine Lw.pass (dj := 9) rfl rfl rfl rfl ?_
    refine Lw.val (Ex.pickT rfl rfl) rfl ?_
    refine Lw.nil ?_
    refine Pw.thenN (Cw.out ?_)
    refine Cw.condT rfl ?_
    refine Cw.seq ?_
    refine Cw.region ?_
    refine Lw.val (Ex.assign rfl) rfl ?_
    refine Lw.val (Ex.assign rfl) rfl ?_
    refine Lw.nil ?_
    refine Pw.thenN (Cw.out ?_)
    refine Cw.ret ?_
    refine Pw.thenR ?_
    refine Pw.ret2 rfl rfl rfl ?_
    exact ⟨hB, _, by rw [e], fun _ => rfl, fun h => by rw [e] at h; cases h⟩
  intro g
  have ka : Shapes.ok a = true := by simpa using g
  refine Lw.take (dj := 9) rfl rfl ?_
  refine Lw.val (Ex.move rfl) rfl ?_
  refine Lw.take (dj := 9) rfl rfl ?_
  refine Lw.callF rfl rfl (rcheck_c v b _ hv) ?_
  rintro _ w ⟨rfl, hn⟩
  replace hB := hB.bs hn
  replace hu := hu.bs hn
  replace hv := hv.bs hn
  clear hn
  refine Lw.take (dj := 9) rfl rfl ?_
  refine Lw.val (Ex.not rfl) rfl ?_
  refine Lw.val (Ex.pickF rfl rfl) rfl ?_
  refine Lw.nil ?_
  refine Pw.thenN (Cw.out ?_)
  refine Cw.cond rfl ?_ ?_
  · intro g
    have e := pshE_no (a := a) (b := b) (.inr (by simpa using g))
    refine Cw.seq ?_
    refine Cw.region ?_
    refine Lw.val (Ex.assign rfl) rfl ?_
    refine Lw.val (Ex.assign rfl) rfl ?_
    refine Lw.nil ?_
    refine Pw.thenN (Cw.out ?_)
    refine Cw.ret ?_
    refine Pw.thenR ?_
    refine Pw.ret2 rfl rfl rfl ?_
    exact ⟨hB, _, by rw [e], fun _ => rfl, fun h => by rw [e] at h; cases h⟩
  intro g
  have kb : Shapes.ok b = true := by simpa using g
  refine Cw.skip ?_
  refine Pw.thenN (Cw.out ?_)
  refine Cw.seq ?_
  refine Cw.seq ?_
  refine Cw.quiet mixed (by kernel_rfl) ?_
  refine Qw.val (fun w1 hq => Ex.move rfl) rfl ?_
  refine Qw.val (fun w1 hq => Ex.lenS st_22 rfl (Sl.bs (by assumption) hq)) rfl ?_
  refine Qw.val (fun w1 hq => Ex.neq rfl rfl) rfl ?_
  refine Qw.val (fun w1 hq => Ex.move rfl) rfl ?_
  refine Qw.part 17 rfl ?_ ?_
  · intro g
    have e : pshE a b = 10 := pshE_ten ka kb fun h => by simp [h.1] at g
    refine Qw.pass (dj := 17) rfl rfl rfl rfl ?_
    refine Qw.pass (dj := 17) rfl rfl rfl rfl ?_
    refine Qw.pass (dj := 17) rfl rfl rfl rfl ?_
    refine Qw.val (fun w1 hq => Ex.pickT rfl rfl) rfl ?_
    refine Qw.val (fun w1 hq => Ex.move rfl) rfl ?_
    refine Qw.pass (dj := 22) rfl rfl rfl rfl ?_
    refine Qw.pass (dj := 22) rfl rfl rfl rfl ?_
    refine Qw.pass (dj := 22) rfl rfl rfl rfl ?_
    refine Qw.pass (dj := 22) rfl rfl rfl rfl ?_
    refine Qw.pass (dj := 22) rfl rfl rfl rfl ?_
    refine Qw.pass (dj := 22) rfl rfl rfl rfl ?_
    refine Qw.pass (dj := 22) rfl rfl rfl rfl ?_
    refine Qw.val (fun w1 hq => Ex.pickT rfl rfl) rfl ?_
    refine Qw.nil (fun w2 hq => ?_)
    refine Pw.thenN (Cw.out ?_)
    refine Cw.condT rfl ?_
    refine Cw.seq ?_
    refine Cw.region ?_
    refine Lw.val (Ex.assign rfl) rfl ?_
    refine Lw.val (Ex.assign rfl) rfl ?_
    refine Lw.nil ?_
    refine Pw.thenN (Cw.out ?_)
    refine Cw.ret ?_
    refine Pw.thenR ?_
    refine Pw.ret2 rfl rfl rfl ?_
    exact ⟨bt hB hq, _, by rw [e], fun _ => rfl, fun h => by rw [e] at h; cases h⟩
  intro g
  have la : a.length = 2 := by simp at g; omega
  refine Qw.take (dj := 17) rfl rfl ?_
  refine Qw.val (fun w1 hq => Ex.move rfl) rfl ?_
  refine Qw.take (dj := 17) rfl rfl ?_
  refine Qw.val (fun w1 hq => Ex.lenS st_22 rfl (Sl.bs (by assumption) hq)) rfl ?_
  refine Qw.take (dj := 17) rfl rfl ?_
  refine Qw.val (fun w1 hq => Ex.neq rfl rfl) rfl ?_
  refine Qw.val (fun w1 hq => Ex.pickF rfl rfl) rfl ?_
  refine Qw.val (fun w1 hq => Ex.move rfl) rfl ?_
  refine Qw.part 22 rfl ?_ ?_
  · intro g
    have e : pshE a b = 10 := pshE_ten ka kb fun h => by simp [h.2.1] at g
    refine Qw.pass (dj := 22) rfl rfl rfl rfl ?_
    refine Qw.pass (dj := 22) rfl rfl rfl rfl ?_
    refine Qw.pass (dj := 22) rfl rfl rfl rfl ?_
    refine Qw.pass (dj := 22) rfl rfl rfl rfl ?_
    refine Qw.pass (dj := 22) rfl rfl rfl rfl ?_
    refine Qw.pass (dj := 22) rfl rfl rfl rfl ?_
    refine Qw.pass (dj := 22) rfl rfl rfl rfl ?_
    refine Qw.val (fun w1 hq => Ex.pickT rfl rfl) rfl ?_
    refine Qw.nil (fun w2 hq => ?_)
    refine Pw.thenN (Cw.out ?_)
    refine Cw.condT rfl ?_
    refine Cw.seq ?_
    refine Cw.region ?_
    refine Lw.val (Ex.assign rfl) rfl ?_
    refine Lw.val (Ex.assign rfl) rfl ?_
    refine Lw.nil ?_
    refine Pw.thenN (Cw.out ?_)
    refine Cw.ret ?_
    refine Pw.thenR ?_
    refine Pw.ret2 rfl rfl rfl ?_
    exact ⟨bt hB hq, _, by rw [e], fun _ => rfl, fun h => by rw [e] at h; cases h⟩
  intro g
  have lb : b.length = 2 := by simp at g; omega
  refine Qw.take (dj := 22) rfl rfl ?_
  refine Qw.val (fun w1 hq => Ex.move rfl) rfl ?_
  refine Qw.take (dj := 22) rfl rfl ?_
  refine Qw.val (fun w1 hq => Ex.idxT st_22 rfl rfl (Sl.bs (by assumption) hq) 1 rfl (by omega)) rfl ?_
  refine Qw.take (dj := 22) rfl rfl ?_
  refine Qw.val (fun w1 hq => Ex.ldT (ag_3 _) rfl (Sl.bs (by assumption) hq) (by omega)) rfl ?_
  refine Qw.take (dj := 22) rfl rfl ?_
  refine Qw.val (fun w1 hq => Ex.move rfl) rfl ?_
  refine Qw.take (dj := 22) rfl rfl ?_
  refine Qw.val (fun w1 hq => Ex.idxT st_22 rfl rfl (Sl.bs (by assumption) hq) 0 rfl (by omega)) rfl ?_
  refine Qw.take (dj := 22) rfl rfl ?_
  refine Qw.val (fun w1 hq => Ex.ldT (ag_3 _) rfl (Sl.bs (by assumption) hq) (by omega)) rfl ?_
  refine Qw.take (dj := 22) rfl rfl ?_
  refine Qw.val (fun w1 hq => Ex.neq rfl rfl) rfl ?_
  refine Qw.val (fun w1 hq => Ex.pickF rfl rfl) rfl ?_
  refine Qw.nil (fun w2 hq => ?_)
  refine Pw.thenN (Cw.out ?_)
  refine Cw.cond rfl ?_ ?_
  · intro g
    have e : pshE a b = 10 := pshE_ten ka kb fun h => by simp at g; exact g (by simpa using h.2.2)
    refine Cw.seq ?_
    refine Cw.region ?_
    refine Lw.val (Ex.assign rfl) rfl ?_
    refine Lw.val (Ex.assign rfl) rfl ?_
    refine Lw.nil ?_
    refine Pw.thenN (Cw.out ?_)
    refine Cw.ret ?_
    refine Pw.thenR ?_
    refine Pw.ret2 rfl rfl rfl ?_
    exact ⟨bt hB hq, _, by rw [e], fun _ => rfl, fun h => by rw [e] at h; cases h⟩
  intro g
  have e : pshE a b = 0 := pshE_yes ka kb ⟨la, lb, by simpa using g⟩
  replace hB := hB.bs hq
  replace hu := hu.bs hq
  replace hv := hv.bs hq
  clear hq
  refine Cw.skip ?_
  refine Pw.thenN (Cw.out ?_)
  refine Cw.seq ?_
  refine Cw.tail 6 mixed (by kernel_rfl) ?_
  refine Qw.val (fun w1 hq => Ex.move rfl) rfl ?_
  refine Qw.val (fun w1 hq => Ex.idxT st_22 rfl rfl (Sl.bs (by assumption) hq) 0 rfl (by omega)) rfl ?_
  refine Qw.val (fun w1 hq => Ex.ldT (ag_3 _) rfl (Sl.bs (by assumption) hq) (by omega)) rfl ?_
  refine Qw.val (fun w1 hq => Ex.move rfl) rfl ?_
  refine Qw.val (fun w1 hq => Ex.idxT st_22 rfl rfl (Sl.bs (by assumption) hq) 1 rfl (by omega)) rfl ?_
  refine Qw.val (fun w1 hq => Ex.ldT (ag_3 _) rfl (Sl.bs (by assumption) hq) (by omega)) rfl ?_
  refine Qw.done (fun w3 hq => ?_)
  replace hB := hB.bs hq
  replace hu := hu.bs hq
  replace hv := hv.bs hq
  clear hq
  refine Lw.valW (Xw.lit (vs := [a.getD 0 default, b.getD 1 default].map (Value.int .i64)) st_22 it_3 rfl rfl rfl rfl rfl) rfl ?_
  rintro x w4 ⟨ho, -, hn, -⟩
  have z := hB.size
  replace hB := hB.bs hn
  replace hu := hu.bs hn
  replace hv := hv.bs hn
  refine Lw.val (Ex.assign rfl) rfl ?_
  refine Lw.val (Ex.assign rfl) rfl ?_
  refine Lw.nil ?_
  refine Pw.thenN (Cw.out ?_)
  refine Cw.ret ?_
  refine Pw.ret2 rfl rfl rfl ?_
  exact ⟨hB, x, by rw [e], fun h => absurd e h, fun _ => own_mono ho z⟩

theorem rprod_c (a b : T4) (W : World) (h_a : a.at W) (h_b : b.at W) :
    Fnc Tryz.prog 9 [a.v, b.v] W (fun r w' => Below W.heap.size W w' ∧ Ans0 W w' r (prdE a b) [a.s.getD 0 default, b.s.getD 1 default] (prdL a b)) := by
  have hB := Below.refl W.heap.size W
  refine Fnc.enter (n := 100) Tryz.func9 (by kernel_rfl) rfl rfl rfl ?_
  refine Cw.seq ?_
  refine Cw.region ?_
  refine Lw.boxV (cs := [a.x, a.y]) rfl rfl rfl ?_
  rintro A_a w eA_a b_a hn -
  replace hB := hB.bs hn
  replace h_a := h_a.bs hn
  replace h_b := h_b.bs hn
  clear hn
  refine Lw.boxV (cs := [b.x, b.y]) rfl rfl rfl ?_
  rintro A_b w eA_b b_b hn -
  replace hB := hB.bs hn
  replace h_a := h_a.bs hn
  replace h_b := h_b.bs hn
  replace b_a := b_a.bs hn
  clear hn
  have z0 := below_size hB
  refine Lw.newA it_25 rfl ?_
  rintro A_r w eA_r b_r hn -
  replace hB := hB.bs hn
  replace h_a := h_a.bs hn
  replace h_b := h_b.bs hn
  replace b_a := b_a.bs hn
  replace b_b := b_b.bs hn
  clear hn
  refine Lw.val (Ex.assign rfl) rfl ?_
  refine Lw.nil ?_
  refine Pw.thenN (Cw.out ?_)
  refine Cw.seq ?_
  refine Cw.seq ?_
  refine Cw.region ?_
  refine Lw.val (Ex.ldA (ag_25 _) (sz_25 _) rfl rfl (by assumption)) rfl ?_
  have z_r := blk_lt b_r
  have zr : W.heap.size ≤ A_r := by omega
  refine Lw.callF rfl rfl (rtcheck_c a.x a.y a.s a.l _ h_a.1 h_a.2) ?_
  rintro _ w ⟨rfl, hn⟩
  replace hB := hB.bs hn
  replace h_a := h_a.bs hn
  replace h_b := h_b.bs hn
  replace b_a := b_a.bs hn
  replace b_b := b_b.bs hn
  replace b_r := b_r.bs hn
  clear hn
  refine Lw.val (Ex.not rfl) rfl ?_
  refine Lw.val (Ex.move rfl) rfl ?_
  refine Lw.part 17 rfl ?_ ?_
  · intro g
    have e : prdE a b = 1 := by unfold prdE; rw [if_neg]; simp at g; simp [g]
    refine Lw.pass (dj := 17) rfl rfl rfl rfl ?_
    refine Lw.pass (dj := 17) rfl rfl rfl rfl ?_
    refine Lw.pass (dj := 17) rfl rfl rfl rfl ?_
    refine Lw.val (Ex.pickT rfl rfl) rfl ?_
    refine Lw.nil ?_
    refine Pw.thenN (Cw.out ?_)
    refine Cw.condT rfl ?_
    refine Cw.seq ?_
    refine Cw.region ?_
    refine Lw.val (Ex.build (vs := []) (cs := [.slice none 0 0, .slice none 0 0]) rfl (by kernel_rfl)) rfl ?_
    have b_r1 := b_r
    refine Lw.unit (Xu.stA (cs := [.slice none 0 0, .slice none 0 0]) rfl rfl rfl rfl rfl b_r rfl) ?_
    rintro w9 ⟨b_r, hg, -⟩
    have hB := hB.grown hg (below_size hB) (by rintro _ ⟨⟩; omega)
    refine Lw.val (Ex.assign rfl) rfl ?_
    refine Lw.nil ?_
    refine Pw.thenN (Cw.out ?_)
    refine Cw.ret ?_
    refine Pw.thenR ?_
    refine Pw.retCT rfl rfl rfl (by assumption) (Tryz.underlying25) rfl rfl rfl ?_
    exact ⟨hB, _, _, by rw [e], fun _ => ⟨rfl, rfl⟩, fun h => by rw [e] at h; cases h⟩
  intro g
  have t_a : tok a.s a.l = true := by simpa using g
  refine Lw.take (dj := 17) rfl rfl ?_
  refine Lw.val (Ex.ldA (ag_25 _) (sz_25 _) rfl rfl (by assumption)) rfl ?_
  refine Lw.take (dj := 17) rfl rfl ?_
  refine Lw.callF rfl rfl (rtcheck_c b.x b.y b.s b.l _ h_b.1 h_b.2) ?_
  rintro _ w ⟨rfl, hn⟩
  replace hB := hB.bs hn
  replace h_a := h_a.bs hn
  replace h_b := h_b.bs hn
  replace b_a := b_a.bs hn
  replace b_b := b_b.bs hn
  replace b_r := b_r.bs hn
  clear hn
  refine Lw.take (dj := 17) rfl rfl ?_
  refine Lw.val (Ex.not rfl) rfl ?_
  refine Lw.val (Ex.pickF rfl rfl) rfl ?_
  refine Lw.nil ?_
  refine Pw.thenN (Cw.out ?_)
  refine Cw.cond rfl ?_ ?_
  · intro g
    have e : prdE a b = 1 := by unfold prdE; rw [if_neg]; simp at g; simp [g]
    refine Cw.seq ?_
    refine Cw.region ?_
    refine Lw.val (Ex.build (vs := []) (cs := [.slice none 0 0, .slice none 0 0]) rfl (by kernel_rfl)) rfl ?_
    have b_r1 := b_r
    refine Lw.unit (Xu.stA (cs := [.slice none 0 0, .slice none 0 0]) rfl rfl rfl rfl rfl b_r rfl) ?_
    rintro w9 ⟨b_r, hg, -⟩
    have hB := hB.grown hg (below_size hB) (by rintro _ ⟨⟩; omega)
    refine Lw.val (Ex.assign rfl) rfl ?_
    refine Lw.nil ?_
    refine Pw.thenN (Cw.out ?_)
    refine Cw.ret ?_
    refine Pw.thenR ?_
    refine Pw.retCT rfl rfl rfl (by assumption) (Tryz.underlying25) rfl rfl rfl ?_
    exact ⟨hB, _, _, by rw [e], fun _ => ⟨rfl, rfl⟩, fun h => by rw [e] at h; cases h⟩
  intro g
  have t_b : tok b.s b.l = true := by simpa using g
  have ee : prdE a b = pshE a.s b.s := by unfold prdE; rw [t_a, t_b]; rfl
  refine Cw.skip ?_
  refine Pw.thenN (Cw.out ?_)
  refine Cw.seq ?_
  refine Cw.region ?_
  refine Lw.val (Ex.fieldAddr (q := 0) Tryz.underlying25 rfl (sz_22 _) rfl) rfl ?_
  refine Lw.val (Ex.ldB (ag_22 _) rfl (by assumption) rfl) rfl ?_
  refine Lw.val (Ex.fieldAddr (q := 0) Tryz.underlying25 rfl (sz_22 _) rfl) rfl ?_
  refine Lw.val (Ex.ldB (ag_22 _) rfl (by assumption) rfl) rfl ?_
  refine Lw.callF rfl rfl (rpshape_c a.x b.x a.s b.s w h_a.1 h_b.1) ?_
  rintro _ w ⟨hn, sv, rfl, hs1, hs2⟩
  have z2 := below_size hB
  replace hB := hB.bs hn
  replace h_a := h_a.bs hn
  replace h_b := h_b.bs hn
  replace b_a := b_a.bs hn
  replace b_b := b_b.bs hn
  replace b_r := b_r.bs hn
  clear hn
  refine Lw.val (Ex.move rfl) rfl ?_
  refine Lw.val (Ex.extract (i := 0) rfl rfl) rfl ?_
  refine Lw.val (Ex.extract (i := 1) rfl rfl) rfl ?_
  refine Lw.val (Ex.assign rfl) rfl ?_
  refine Lw.val (Ex.assign rfl) rfl ?_
  refine Lw.nil ?_
  refine Pw.thenN (Cw.out ?_)
  refine Cw.seq ?_
  refine Cw.seq ?_
  refine Cw.region ?_
  refine Lw.val (Ex.move rfl) rfl ?_
  refine Lw.val (Ex.neq rfl rfl) rfl ?_
  refine Lw.nil ?_
  refine Pw.thenN (Cw.out ?_)
  refine Cw.cond rfl ?_ ?_
  · intro g
    have hne : pshE a.s b.s ≠ 0 := by simpa using g
    refine Cw.seq ?_
    refine Cw.region ?_
    refine Lw.val (Ex.build (vs := []) (cs := [.slice none 0 0, .slice none 0 0]) rfl (by kernel_rfl)) rfl ?_
    refine Lw.val (Ex.move rfl) rfl ?_
    refine Lw.unit (Xu.stA (cs := [.slice none 0 0, .slice none 0 0]) rfl rfl rfl rfl rfl b_r rfl) ?_
    rintro w9 ⟨b_r, hg, -⟩
    have hB := hB.grown hg (below_size hB) (by rintro _ ⟨⟩; omega)
    refine Lw.val (Ex.assign rfl) rfl ?_
    refine Lw.nil ?_
    refine Pw.thenN (Cw.out ?_)
    refine Cw.ret ?_
    refine Pw.thenR ?_
    refine Pw.retCT rfl rfl rfl (by assumption) (Tryz.underlying25) rfl rfl rfl ?_
    exact ⟨hB, _, _, by rw [ee], fun _ => ⟨rfl, rfl⟩, fun h => absurd (ee ▸ h) hne⟩
  intro g
  have e0 : pshE a.s b.s = 0 := by simpa using g
  have hsv := hs2 e0
  have e0' := ee.trans e0
  obtain ⟨la, lb, hmid⟩ : a.s.length = 2 ∧ b.s.length = 2 ∧ a.s.getD 1 default = b.s.getD 0 default := by
    have := e0
    unfold pshE at this
    rw [(tok_ok t_a).1, (tok_ok t_b).1] at this
    simp only [Bool.and_self, if_true] at this
    split at this
    · assumption
    · cases this
  have ka := (tok_ok t_a).1
  have kb := (tok_ok t_b).1
  have d0 := ok_dims ka (i := 0) (by omega)
  have d1 := ok_dims kb (i := 1) (by omega)
  have d2 := ok_dims kb (i := 0) (by omega)
  obtain ⟨m, hm⟩ : ∃ m : Nat, (m : Int) = a.s.getD 0 default := ⟨(a.s.getD 0 default).toNat, by omega⟩
  obtain ⟨n, hnn⟩ : ∃ n : Nat, (n : Int) = b.s.getD 1 default := ⟨(b.s.getD 1 default).toNat, by omega⟩
  obtain ⟨k, hk⟩ : ∃ k : Nat, (k : Int) = b.s.getD 0 default := ⟨(b.s.getD 0 default).toNat, by omega⟩
  have hL : prdL a b = prd m k n a.l b.l := by unfold prdL; rw [← hm, ← hnn, ← hk]; rfl
  have hmn := mul64 d0 d1
  rw [← hm, ← hnn] at hmn
  have hok : Shapes.ok [(m : Int), (n : Int)] = true := by rw [hm, hnn]; exact two_ok d0 d1 (by rw [← hm, ← hnn]; exact hmn.2)
  have hsz : (Shapes.size [(m : Int), (n : Int)]).toNat = m * n := by
    rw [Shapes.size_ok hok]
    simp [Shapes.prod]
    exact_mod_cast Int.toNat_natCast (m * n)
  have la2 : a.l.length = m * k := by
    have h1 := (tok_ok t_a).2
    rw [size_two ka la, hmid, ← hm, ← hk] at h1
    rw [h1]; exact_mod_cast Int.toNat_natCast (m * k)
  have lb2 : b.l.length = k * n := by
    have h1 := (tok_ok t_b).2
    rw [size_two kb lb, ← hnn, ← hk] at h1
    rw [h1]; exact_mod_cast Int.toNat_natCast (k * n)
  rw [← hm, ← hnn] at hsv
  rw [e0']
  have sl_s := own_slT hsv
  refine Cw.skip ?_
  refine Pw.thenN (Cw.out ?_)
  refine Cw.seq ?_
  refine Cw.region ?_
  refine Lw.val (Ex.move rfl) rfl ?_
  refine Lw.callF rfl rfl (rnew_c sv [(m : Int), (n : Int)] w sl_s) ?_
  rintro r w3 ⟨hn3, hcase⟩
  obtain ⟨zx, zy, rfl, hz⟩ : ∃ x y, r = .tuple #[.agg #[x, y], .int .i64 0] ∧ Made1 w w3 x y [(m : Int), (n : Int)] (List.replicate (m * n) 0#32) := by
    rw [hsz] at hcase
    rcases hcase with ⟨_, h⟩ | ⟨h, _⟩
    · exact h
    · rw [hok] at h; cases h
  refine Lw.val (Ex.move rfl) rfl ?_
  refine Lw.val (Ex.extract (i := 0) rfl rfl) rfl ?_
  refine Lw.val (Ex.extract (i := 1) rfl rfl) rfl ?_
  refine Lw.boxed (cs := [zx, zy]) it_25 rfl rfl rfl rfl (fun _ => rfl) (hz.one) ?_
  rintro A_t w4 eA_t b_t hn4 zhn4
  have M := mine_new hz eA_t b_t hn4 zhn4 hn3.size
  have hw4 := bt hn3 hn4
  clear hz b_t hcase eA_t hn3 hn4 zhn4
  have lrep : (List.replicate (m * n) 0#32).length = m * n := by rw [List.length_replicate]
  obtain ⟨pl, hpl⟩ : ∃ pl, pl = prd m k n a.l b.l := ⟨_, rfl⟩
  have npl : pl.length = (List.replicate (m * n) 0#32).length := by rw [hpl, prd_length, lrep]
  have hmid' : (k : Int) = a.s.getD 1 default := by rw [hk, hmid]
  have y_a := h_a.2
  have y_b := h_b.2
  have x_a := h_a.1
  have x_b := h_b.1
  have zrw := blk_lt b_r
  refine Lw.val (Ex.assign rfl) rfl ?_
  refine Lw.nil ?_
  refine Pw.thenN (Cw.out ?_)
  refine Cw.seq ?_
  refine Cw.seq ?_
  refine Cw.region ?_
  refine Lw.val (Ex.assign rfl) rfl ?_
  refine Lw.nil ?_
  refine Pw.thenN (Cw.out ?_)
  refine Cw.block ?_
  refine Cw.loop (S := Nat) (fun i => [(2, .pointer (some ⟨A_a, 0, none⟩)), (3, .pointer (some ⟨A_b, 0, none⟩)), (4, .pointer (some ⟨A_r, 0, none⟩)), (5, .int .i64 0), (6, sv), (8, .pointer (some ⟨A_t, 0, none⟩)), (10, .int .i64 (i : Int))]) (fun i w' => i ≤ m ∧ Below w.heap.size w w' ∧ MineT w' w.heap.size w4.heap.size A_t zx zy [(m : Int), (n : Int)] (pl.take (i * n) ++ (List.replicate (m * n) 0#32).drop (i * n))) (fun i => m - i) (0) ⟨rfl, rfl, rfl, rfl, rfl, rfl, rfl, trivial⟩ ?_ ?_
  · exact ⟨by omega, hw4, by rw [Nat.zero_mul, td_zero]; exact M⟩
  clear M hw4
  rintro i w6 ⟨hi, hw6, M⟩
  have s6 := sl_s.bs hw6
  refine Cw.seq ?_
  refine Cw.seq ?_
  refine Cw.region ?_
  refine Lw.val (Ex.move rfl) rfl ?_
  refine Lw.val (Ex.move rfl) rfl ?_
  refine Lw.val (Ex.idxS st_22 rfl rfl s6.shp 0 rfl (by simp)) rfl ?_
  refine Lw.val ((Ex.ldT (ag_3 _) rfl s6 (by simp)).as (u := .int .i64 (m : Int)) rfl) rfl ?_
  refine Lw.val (Ex.lss rfl rfl) rfl ?_
  refine Lw.nil ?_
  refine Pw.thenN (Cw.out ?_)
  refine Cw.cond rfl ?_ ?_
  · intro h
    have hi' : i < m := by simp at h; omega
    refine Cw.skip ?_
    refine Pw.thenN (Cw.out ?_)
    refine Cw.seq ?_
    refine Cw.block ?_
    refine Cw.seq ?_
    refine Cw.region ?_
    refine Lw.val (Ex.assign rfl) rfl ?_
    refine Lw.nil ?_
    refine Pw.thenN (Cw.out ?_)
    refine Cw.block ?_
    refine Cw.loop (S := Nat) (fun j => [(2, .pointer (some ⟨A_a, 0, none⟩)), (3, .pointer (some ⟨A_b, 0, none⟩)), (4, .pointer (some ⟨A_r, 0, none⟩)), (5, .int .i64 0), (6, sv), (8, .pointer (some ⟨A_t, 0, none⟩)), (10, .int .i64 (i : Int)), (11, .int .i64 (j : Int))]) (fun j w' => j ≤ n ∧ Below w.heap.size w w' ∧ MineT w' w.heap.size w4.heap.size A_t zx zy [(m : Int), (n : Int)] (pl.take (i * n + j) ++ (List.replicate (m * n) 0#32).drop (i * n + j))) (fun j => n - j) (0) ⟨rfl, rfl, rfl, rfl, rfl, rfl, rfl, rfl, trivial⟩ ?_ ?_
    · exact ⟨by omega, hw6, by rw [Nat.add_zero]; exact M⟩
    clear M hw6 s6
    rintro j w7 ⟨hj, hw7, M⟩
    have s7 := sl_s.bs hw7
    refine Cw.seq ?_
    refine Cw.seq ?_
    refine Cw.region ?_
    refine Lw.val (Ex.move rfl) rfl ?_
    refine Lw.val (Ex.move rfl) rfl ?_
    refine Lw.val (Ex.idxS st_22 rfl rfl s7.shp 1 rfl (by simp)) rfl ?_
    refine Lw.val ((Ex.ldT (ag_3 _) rfl s7 (by simp)).as (u := .int .i64 (n : Int)) rfl) rfl ?_
    refine Lw.val (Ex.lss rfl rfl) rfl ?_
    refine Lw.nil ?_
    refine Pw.thenN (Cw.out ?_)
    refine Cw.cond rfl ?_ ?_
    · intro h
      have hj' : j < n := by simp at h; omega
      obtain ⟨f, hf⟩ : ∃ f : Nat → BitVec 32, f = fun p => a.l.getD (i * k + p) default * b.l.getD (p * n + j) default := ⟨_, rfl⟩
      refine Cw.skip ?_
      refine Pw.thenN (Cw.out ?_)
      refine Cw.seq ?_
      refine Cw.block ?_
      refine Cw.seq ?_
      refine Cw.region ?_
      refine Lw.val (Ex.assign (show _ = some (i32 (0#32)) from rfl)) rfl ?_
      refine Lw.nil ?_
      refine Pw.thenN (Cw.out ?_)
      refine Cw.seq ?_
      refine Cw.seq ?_
      refine Cw.region ?_
      refine Lw.val (Ex.assign rfl) rfl ?_
      refine Lw.nil ?_
      refine Pw.thenN (Cw.out ?_)
      refine Cw.block ?_
      refine Cw.loop (S := Nat) (fun p => [(2, .pointer (some ⟨A_a, 0, none⟩)), (3, .pointer (some ⟨A_b, 0, none⟩)), (4, .pointer (some ⟨A_r, 0, none⟩)), (5, .int .i64 0), (6, sv), (8, .pointer (some ⟨A_t, 0, none⟩)), (10, .int .i64 (i : Int)), (11, .int .i64 (j : Int)), (12, i32 (sm p f)), (13, .int .i64 (p : Int))]) (fun p w' => p ≤ k ∧ Below w.heap.size w w' ∧ MineT w' w.heap.size w4.heap.size A_t zx zy [(m : Int), (n : Int)] (pl.take (i * n + j) ++ (List.replicate (m * n) 0#32).drop (i * n + j))) (fun p => k - p) (0) ⟨rfl, rfl, rfl, rfl, rfl, rfl, rfl, rfl, rfl, rfl, trivial⟩ ?_ ?_
      · exact ⟨by omega, hw7, M⟩
      clear M hw7 s7
      rintro p w8 ⟨hp, hw8, M⟩
      have s8 := sl_s.bs hw8
      have xb8 := x_b.bs hw8
      have xa8 := x_a.bs hw8
      have yb8 := y_b.bs hw8
      have ya8 := y_a.bs hw8
      have ba8 := b_a.bs hw8
      have bb8 := b_b.bs hw8
      refine Cw.seq ?_
      refine Cw.seq ?_
      refine Cw.region ?_
      refine Lw.val (Ex.move rfl) rfl ?_
      refine Lw.val (Ex.fieldAddr (q := 0) Tryz.underlying25 rfl (sz_22 _) rfl) rfl ?_
      refine Lw.val (Ex.ldB (ag_22 _) rfl (by assumption) rfl) rfl ?_
      refine Lw.val (Ex.idxS st_22 rfl rfl xb8.shp 0 rfl (by omega)) rfl ?_
      refine Lw.val ((Ex.ldT (ag_3 _) rfl xb8 (by omega)).as (congrArg (Value.int .i64) hk.symm)) rfl ?_
      refine Lw.val (Ex.lss rfl rfl) rfl ?_
      refine Lw.nil ?_
      refine Pw.thenN (Cw.out ?_)
      refine Cw.cond rfl ?_ ?_
      · intro h
        have hp' : p < k := by simp at h; omega
        have hab : i * k + p < a.l.length := by rw [la2]; exact rc_lt hi' hp'
        have hbb : p * n + j < b.l.length := by rw [lb2]; exact rc_lt hp' hj'
        have hla := ya8.le
        have hlb := yb8.le
        have hsm : sm p f + a.l.getD (i * k + p) default * b.l.getD (p * n + j) default = sm (p + 1) f := by rw [sm, hf]
        refine Cw.skip ?_
        refine Pw.thenN (Cw.out ?_)
        refine Cw.seq ?_
        refine Cw.block ?_
        refine Cw.quiet mixed (by kernel_rfl) ?_
        refine Qw.val (fun w1 hq => Ex.move rfl) rfl ?_
        refine Qw.val (fun w1 hq => Ex.fieldAddr (q := 0) Tryz.underlying25 rfl (sz_23 _) rfl) rfl ?_
        refine Qw.val (fun w1 hq => Ex.ldB (ag_23 _) rfl (Blk.bs (by assumption) hq) rfl) rfl ?_
        refine Qw.val (fun w1 hq => Ex.move rfl) rfl ?_
        refine Qw.val (fun w1 hq => Ex.fieldAddr (q := 0) Tryz.underlying25 rfl (sz_22 _) rfl) rfl ?_
        refine Qw.val (fun w1 hq => Ex.ldB (ag_22 _) rfl (Blk.bs (by assumption) hq) rfl) rfl ?_
        refine Qw.val (fun w1 hq => Ex.idxS st_22 rfl rfl xa8.shp 1 rfl (by omega)) rfl ?_
        refine Qw.val (fun w1 hq => (Ex.ldT (ag_3 _) rfl (xa8.bs hq) (by omega)).as (congrArg (Value.int .i64) hmid'.symm)) rfl ?_
        refine Qw.val (fun w1 hq => Ex.mulN rfl rfl (by omega)) rfl ?_
        refine Qw.val (fun w1 hq => Ex.move rfl) rfl ?_
        refine Qw.val (fun w1 hq => Ex.addN rfl rfl (by omega)) rfl ?_
        refine Qw.val (fun w1 hq => Ex.idxT st_23 rfl rfl (ya8.bs hq) _ rfl hab) rfl ?_
        refine Qw.val (fun w1 hq => Ex.ldT (ag_21 _) rfl (ya8.bs hq) hab) rfl ?_
        refine Qw.val (fun w1 hq => Ex.fieldAddr (q := 0) Tryz.underlying25 rfl (sz_23 _) rfl) rfl ?_
        refine Qw.val (fun w1 hq => Ex.ldB (ag_23 _) rfl (Blk.bs (by assumption) hq) rfl) rfl ?_
        refine Qw.val (fun w1 hq => Ex.move rfl) rfl ?_
        refine Qw.val (fun w1 hq => Ex.move rfl) rfl ?_
        refine Qw.val (fun w1 hq => Ex.idxS st_22 rfl rfl s8.shp 1 rfl (by simp)) rfl ?_
        refine Qw.val (fun w1 hq => (Ex.ldT (ag_3 _) rfl (s8.bs hq) (by simp)).as (u := .int .i64 (n : Int)) rfl) rfl ?_
        refine Qw.val (fun w1 hq => Ex.mulN rfl rfl (by omega)) rfl ?_
        refine Qw.val (fun w1 hq => Ex.move rfl) rfl ?_
        refine Qw.val (fun w1 hq => Ex.addN rfl rfl (by omega)) rfl ?_
        refine Qw.val (fun w1 hq => Ex.idxT st_23 rfl rfl (yb8.bs hq) _ rfl hbb) rfl ?_
        refine Qw.val (fun w1 hq => Ex.ldT (ag_21 _) rfl (yb8.bs hq) hbb) rfl ?_
        refine Qw.val (fun w1 hq => Ex.muli32 rfl rfl) rfl ?_
        refine Qw.val (fun w1 hq => Ex.addi32 rfl rfl) rfl ?_
        refine Qw.val (fun w1 hq => Ex.assign rfl) rfl ?_
        refine Qw.nil (fun w9 hq => ?_)
        refine Pw.blkN ?_
        refine Pw.thenN (Cw.out ?_)
        refine Cw.region ?_
        refine Lw.val (Ex.move rfl) rfl ?_
        refine Lw.val (Ex.addI rfl rfl (by omega)) rfl ?_
        refine Lw.val (Ex.assign rfl) rfl ?_
        refine Lw.nil ?_
        exact Pw.thenN (Pw.next (p + 1) ⟨rfl, rfl, rfl, rfl, rfl, rfl, rfl, rfl, (by rw [← hsm]; rfl), rfl, trivial⟩ (⟨hp', bt hw8 hq, M.bs hq⟩) (by omega))
      intro h
      have hp' : p = k := by simp at h; omega
      subst hp'
      have hq0 : i * n + j < m * n := rc_lt hi' hj'
      have hir : i * n + j < (List.replicate (m * n) 0#32).length := by rw [lrep]; exact hq0
      have hfull : pl.getD (i * n + j) default = sm p f := by rw [hpl, hf]; exact prd_at (k := p) a.l b.l hi' hj'
      have hlast : (pl.take (i * n + j) ++ (List.replicate (m * n) 0#32).drop (i * n + j)).set (i * n + j) (sm p f) = pl.take (i * n + (j + 1)) ++ (List.replicate (m * n) 0#32).drop (i * n + (j + 1)) := by rw [← hfull]; exact td_set npl hir
      have lt : (pl.take (i * n + j) ++ (List.replicate (m * n) 0#32).drop (i * n + j)).length = m * n := by rw [td_len npl, lrep]
      have b_t8 := M.box
      have y_t8 := M.sly
      refine Cw.exit ?_
      refine Pw.thenE ?_
      refine Pw.thenE ?_
      refine Pw.blkHit ?_
      refine Pw.thenN (Cw.out ?_)
      refine Cw.tail 11 mixed (by kernel_rfl) ?_
      refine Qw.val (fun w1 hq => Ex.fieldAddr (q := 0) Tryz.underlying25 rfl (sz_23 _) rfl) rfl ?_
      refine Qw.val (fun w1 hq => Ex.ldB (ag_23 _) rfl (Blk.bs (by assumption) hq) rfl) rfl ?_
      refine Qw.val (fun w1 hq => Ex.move rfl) rfl ?_
      refine Qw.val (fun w1 hq => Ex.move rfl) rfl ?_
      refine Qw.val (fun w1 hq => Ex.idxS st_22 rfl rfl s8.shp 1 rfl (by simp)) rfl ?_
      refine Qw.val (fun w1 hq => (Ex.ldT (ag_3 _) rfl (s8.bs hq) (by simp)).as (u := .int .i64 (n : Int)) rfl) rfl ?_
      refine Qw.val (fun w1 hq => Ex.mulN rfl rfl (by omega)) rfl ?_
      refine Qw.val (fun w1 hq => Ex.move rfl) rfl ?_
      refine Qw.val (fun w1 hq => Ex.addN rfl rfl (by omega)) rfl ?_
      refine Qw.val (fun w1 hq => Ex.move rfl) rfl ?_
      refine Qw.val (fun w1 hq => Ex.idxT st_23 rfl rfl (y_t8.bs hq) _ rfl (by omega)) rfl ?_
      refine Qw.done (fun w9 hq => ?_)
      refine Lw.unit ((M.bs hq).st (sz_21 _) rfl rfl (by omega)) ?_
      rintro w10 ⟨M10, hg10, -⟩
      rw [hlast] at M10
      refine Lw.nil ?_
      refine Pw.blkN ?_
      refine Pw.thenN (Cw.out ?_)
      refine Cw.region ?_
      refine Lw.val (Ex.move rfl) rfl ?_
      refine Lw.val (Ex.addI rfl rfl (by omega)) rfl ?_
      refine Lw.val (Ex.assign rfl) rfl ?_
      refine Lw.nil ?_
      exact Pw.thenN (Pw.next (j + 1) ⟨rfl, rfl, rfl, rfl, rfl, rfl, rfl, rfl, trivial⟩ (⟨hj', (M.bs hq).below (bt hw8 hq) (Nat.le_refl _) hg10, M10⟩) (by omega))
    intro h
    have hj' : j = n := by simp at h; omega
    subst hj'
    refine Cw.exit ?_
    refine Pw.thenE ?_
    refine Pw.thenE ?_
    refine Pw.blkHit ?_
    refine Pw.blkN ?_
    refine Pw.thenN (Cw.out ?_)
    refine Cw.region ?_
    refine Lw.val (Ex.move rfl) rfl ?_
    refine Lw.val (Ex.addI rfl rfl (by omega)) rfl ?_
    refine Lw.val (Ex.assign rfl) rfl ?_
    refine Lw.nil ?_
    exact Pw.thenN (Pw.next (i + 1) ⟨rfl, rfl, rfl, rfl, rfl, rfl, rfl, trivial⟩ (⟨hi', hw7, by rw [Nat.succ_mul]; exact M⟩) (by omega))
  intro h
  have hi' : i = m := by simp at h; omega
  subst hi'
  have hall : pl.take (i * n) ++ (List.replicate (i * n) 0#32).drop (i * n) = pl := by
    have := td_all npl
    rwa [lrep] at this
  rw [hall] at M
  have b_t6 := M.box
  have b_r6 := b_r.bs hw6
  refine Cw.exit ?_
  refine Pw.thenE ?_
  refine Pw.thenE ?_
  refine Pw.blkHit ?_
  refine Pw.thenN (Cw.out ?_)
  refine Cw.seq ?_
  refine Cw.region ?_
  refine Lw.val (Ex.ldA (ag_25 _) (sz_25 _) rfl rfl (by assumption)) rfl ?_
  refine Lw.unit (Xu.stA (cs := [zx, zy]) rfl rfl rfl rfl (by simp [M.sh.one', M.sly.one']) b_r6 rfl) ?_
  rintro w9 ⟨b_r9, hg9, -⟩
  have M9 := M.keep hg9 (by rintro _ ⟨⟩; omega)
  have zW := below_size hB
  have hB9 := (bt hB hw6).grown hg9 (below_size (bt hB hw6)) (by rintro _ ⟨⟩; omega)
  refine Lw.val (Ex.assign rfl) rfl ?_
  refine Lw.nil ?_
  refine Pw.thenN (Cw.out ?_)
  refine Cw.ret ?_
  refine Pw.retCT rfl rfl rfl (by assumption) (Tryz.underlying25) rfl rfl rfl ?_
  rw [← hm, ← hnn, hL, ← hpl]
  exact ⟨hB9, zx, zy, rfl, fun h => absurd rfl h, fun _ => ⟨M9.row.mono zW, own_mono M9.lst.own zW, M9.yx⟩⟩
end Go.Proofs.YtdliencelkdibaaGreatDoor
