/- Contracts: a number of a tensor. -/
import Derived.Test.YtkhndfaampkbnaaGreatDoorTensorsLaw
namespace Go.Proofs.YtkhndfaampkbnaaGreatDoor
open Go Go.Dd Go.RowKit
set_option maxRecDepth 100000

theorem index_in {s t : List Int} (h : (Shapes.index s t).2 = 0) : 0 ≤ (Shapes.index s t).1 ∧ (Shapes.index s t).1 < Shapes.size s := by
  unfold Shapes.index at h ⊢
  split
  · rename_i g
    simp only [Bool.and_eq_true] at g
    have h1 := Shapes.idx_lt ((Shapes.ok_iff s).1 g.1).2.1 g.2
    rw [Shapes.size_ok g.1]
    exact h1
  · rename_i g
    rw [if_neg g] at h
    cases h
def tatE (s : List Int) (l : List (BitVec 32)) (t : List Int) : Int := if tok s l then (Shapes.index s t).2 else 1
def tatV (s : List Int) (l : List (BitVec 32)) (t : List Int) : BitVec 32 := if tok s l = true ∧ (Shapes.index s t).2 = 0 then l.getD (Shapes.index s t).1.toNat default else 0#32

theorem tat_c (a : T4) (u : Value) (t : List Int) (W : World) (h_a : a.at W) (h_u : SlT (Value.int .i64) W u t) :
    Fnc Tryz.prog 35 [a.v, u] W (fun r w' => r = .tuple #[i32 (tatV a.s a.l t), .int .i64 (tatE a.s a.l t)] ∧ Below W.heap.size W w') := by
  have hB := Below.refl W.heap.size W
  refine Fnc.enter (n := 26) Tryz.func35 (by kernel_rfl) rfl rfl rfl ?_
  refine Cw.seq ?_
  refine Cw.region ?_
  refine Lw.boxV (cs := [a.x, a.y]) rfl rfl rfl ?_
  rintro A_a w eA_a b_a hn -
  replace hB := hB.bs hn
  replace h_a := h_a.bs hn
  replace h_u := h_u.bs hn
  clear hn
  refine Lw.val (Ex.assign (show _ = some (i32 (0#32)) from rfl)) rfl ?_
  refine Lw.val (Ex.assign rfl) rfl ?_
  refine Lw.nil ?_
  refine Pw.thenN (Cw.out ?_)
  refine Cw.seq ?_
  refine Cw.seq ?_
  refine Cw.region ?_
  refine Lw.val (Ex.ldA (ag_29 _) (sz_29 _) rfl rfl (by assumption)) rfl ?_
  refine Lw.callF rfl rfl (tcheck_c a.x a.y a.s a.l _ h_a.1 h_a.2) ?_
  rintro _ w ⟨rfl, hn⟩
  replace hB := hB.bs hn
  replace h_a := h_a.bs hn
  replace h_u := h_u.bs hn
  replace b_a := b_a.bs hn
  clear hn
  refine Lw.val (Ex.not rfl) rfl ?_
  refine Lw.nil ?_
  refine Pw.thenN (Cw.out ?_)
  refine Cw.cond rfl ?_ ?_
  · intro g
    have ht : tok a.s a.l = false := by simpa using g
    refine Cw.seq ?_
    refine Cw.region ?_
    refine Lw.val (Ex.assign (show _ = some (i32 (0#32)) from rfl)) rfl ?_
    refine Lw.val (Ex.assign rfl) rfl ?_
    refine Lw.nil ?_
    refine Pw.thenN (Cw.out ?_)
    refine Cw.ret ?_
    refine Pw.thenR ?_
    refine Pw.ret2 rfl rfl rfl ?_
    exact ⟨by simp [tatV, tatE, ht], hB⟩
  intro g
  have ht : tok a.s a.l = true := by simpa using g
  refine Cw.skip ?_
  refine Pw.thenN (Cw.out ?_)
  refine Cw.seq ?_
  refine Cw.region ?_
  refine Lw.val (Ex.fieldAddr (q := 0) Tryz.underlying29 rfl (sz_26 _) rfl) rfl ?_
  refine Lw.val (Ex.ldB (ag_26 _) rfl (by assumption) rfl) rfl ?_
  refine Lw.val (Ex.move rfl) rfl ?_
  refine Lw.callF rfl rfl (index_c a.s t a.x u _ h_a.1 h_u) ?_
  rintro _ w ⟨rfl, hn⟩
  replace hB := hB.bs hn
  replace h_a := h_a.bs hn
  replace h_u := h_u.bs hn
  replace b_a := b_a.bs hn
  clear hn
  refine Lw.val (Ex.move rfl) rfl ?_
  refine Lw.val (Ex.extract (i := 0) rfl rfl) rfl ?_
  refine Lw.val (Ex.extract (i := 1) rfl rfl) rfl ?_
  refine Lw.val (Ex.assign rfl) rfl ?_
  refine Lw.val (Ex.assign rfl) rfl ?_
  refine Lw.nil ?_
  refine Pw.thenN (Cw.out ?_)
  refine Cw.seq ?_
  refine Cw.seq ?_
  refine Cw.region ?_
  refine Lw.val (Ex.move rfl) rfl ?_
  refine Lw.val (Ex.neq rfl rfl) rfl ?_
  refine Lw.nil ?_
  refine Pw.thenN (Cw.out ?_)
  refine Cw.cond rfl ?_ ?_
  · intro g
    have g0 : ¬ (Shapes.index a.s t).2 = 0 := by simpa using g
    refine Cw.seq ?_
    refine Cw.region ?_
    refine Lw.val (Ex.move rfl) rfl ?_
    refine Lw.val (Ex.assign (show _ = some (i32 (0#32)) from rfl)) rfl ?_
    refine Lw.val (Ex.assign rfl) rfl ?_
    refine Lw.nil ?_
    refine Pw.thenN (Cw.out ?_)
    refine Cw.ret ?_
    refine Pw.thenR ?_
    refine Pw.ret2 rfl rfl rfl ?_
    exact ⟨by simp [tatV, tatE, ht, g0], hB⟩
  intro g
  have g0 : (Shapes.index a.s t).2 = 0 := by simpa using g
  have hin := index_in g0
  have htl := (tok_ok ht).2
  obtain ⟨i, hi⟩ : ∃ i : Nat, (Shapes.index a.s t).1 = (i : Int) := ⟨_, (Int.toNat_of_nonneg hin.1).symm⟩
  have hil : i < a.l.length := by omega
  have hy := h_a.2
  refine Cw.skip ?_
  refine Pw.thenN (Cw.out ?_)
  refine Cw.seq ?_
  refine Cw.region ?_
  refine Lw.val (Ex.fieldAddr (q := 0) Tryz.underlying29 rfl (sz_27 _) rfl) rfl ?_
  refine Lw.val (Ex.ldB (ag_27 _) rfl (by assumption) rfl) rfl ?_
  refine Lw.val (Ex.move rfl) rfl ?_
  refine Lw.val (Ex.idxT st_27 rfl rfl hy i hi hil) rfl ?_
  refine Lw.val (Ex.ldT (ag_21 _) rfl (by assumption) (by omega)) rfl ?_
  refine Lw.val (Ex.assign rfl) rfl ?_
  refine Lw.val (Ex.assign rfl) rfl ?_
  refine Lw.nil ?_
  refine Pw.thenN (Cw.out ?_)
  refine Cw.ret ?_
  refine Pw.ret2 rfl rfl rfl ?_
  exact ⟨by simp [tatV, tatE, ht, g0, hi], hB⟩
end Go.Proofs.YtkhndfaampkbnaaGreatDoor
