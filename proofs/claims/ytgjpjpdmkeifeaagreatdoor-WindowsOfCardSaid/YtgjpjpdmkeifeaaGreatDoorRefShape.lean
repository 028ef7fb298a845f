/- Contracts: the document's answers on shapes. -/
import Derived.Test.YtgjpjpdmkeifeaaGreatDoorShapesCode
import Derived.Test.YtgjpjpdmkeifeaaGreatDoorBook
namespace Go.Proofs.YtgjpjpdmkeifeaaGreatDoor
open Go Go.Dd Go.RowKit
set_option maxRecDepth 100000

theorem prod_take {s : List Int} {i : Nat} (h : i < s.length) : Shapes.prod (s.take (i + 1)) = Shapes.prod (s.take i) * s.getD i default := by
  rw [List.take_succ_eq_append_getElem h, Shapes.prod_append]
  simp [Shapes.prod, h]
theorem good_take {s : List Int} {i : Nat} (h : i < s.length) (h1 : Shapes.good (s.take i)) (h2 : 1 ≤ s.getD i default ∧ s.getD i default ≤ 64) : Shapes.good (s.take (i + 1)) := by
  rw [List.take_succ_eq_append_getElem h, Shapes.good_append]
  refine ⟨h1, fun x hx => ?_⟩
  have : x = s.getD i default := by simpa [h] using hx
  rw [this]; exact h2
theorem prod_four : ∀ {s : List Int}, Shapes.good s → s.length ≤ 4 → 1 ≤ Shapes.prod s ∧ Shapes.prod s ≤ 16777216
  | s, hg, hl => by
    have key : ∀ (s : List Int), Shapes.good s → Shapes.prod s ≤ 64 ^ s.length := by
      intro s
      induction s with
      | nil => intro _; simp [Shapes.prod]
      | cons x s ih =>
        intro h
        have h1 := (Shapes.good_cons.1 h).1
        have h2 := ih (Shapes.good_cons.1 h).2
        have h3 := Shapes.prod_pos (Shapes.good_cons.1 h).2
        have := Int.mul_le_mul h1.2 h2 (by omega) (by omega)
        rw [List.length_cons, Int.pow_succ, Int.mul_comm ((64 : Int) ^ s.length)]
        exact this
    refine ⟨Shapes.prod_pos hg, Int.le_trans (key s hg) ?_⟩
    have : s.length = 0 ∨ s.length = 1 ∨ s.length = 2 ∨ s.length = 3 ∨ s.length = 4 := by omega
    rcases this with h | h | h | h | h <;> rw [h] <;> decide

theorem rcheck_c (u : Value) (s : List Int) (w : World) (hu : SlT (Value.int .i64) w u s) : Fnc Tryz.prog 34 [u] w (fun r w' => r = .bool (Shapes.ok s) ∧ Below w.heap.size w w') := by
  have no1 : (s.length < 1 ∨ 4 < s.length) → Shapes.ok s = false := fun h => by
    cases hk : Shapes.ok s with
    | false => rfl
    | true => have := (Shapes.ok_iff s).1 hk; omega
  refine Fnc.enter (n := 39) Tryz.func34 (by kernel_rfl) rfl rfl rfl ?_
  refine Cw.seq ?_
  refine Cw.region ?_
  refine Lw.val (Ex.assign rfl) rfl ?_
  refine Lw.nil ?_
  refine Pw.thenN (Cw.out ?_)
  refine Cw.seq ?_
  refine Cw.seq ?_
  refine Cw.region ?_
  refine Lw.val (Ex.move rfl) rfl ?_
  refine Lw.val (Ex.lenS st_22 rfl (by assumption)) rfl ?_
  refine Lw.val (Ex.lss rfl rfl) rfl ?_
  refine Lw.val (Ex.move rfl) rfl ?_
  refine Lw.part 8 rfl ?_ ?_
  · intro g
    refine Lw.pass (dj := 8) rfl rfl rfl rfl ?_
    refine Lw.pass (dj := 8) rfl rfl rfl rfl ?_
    refine Lw.pass (dj := 8) rfl rfl rfl rfl ?_
    refine Lw.val (Ex.pickT rfl rfl) rfl ?_
    refine Lw.nil ?_
    refine Pw.thenN (Cw.out ?_)
    refine Cw.condT rfl ?_
    refine Cw.seq ?_
    refine Cw.region ?_
    refine Lw.val (Ex.assign rfl) rfl ?_
    refine Lw.nil ?_
    refine Pw.thenN (Cw.out ?_)
    refine Cw.ret ?_
    refine Pw.thenR ?_
    refine Pw.ret1 rfl rfl ?_
    exact ⟨by rw [no1 (.inl (by have := of_decide_eq_true g; omega))], Below.refl _ _⟩
  intro g
  have g1 := of_decide_eq_false g
  refine Lw.take (dj := 8) rfl rfl ?_
  refine Lw.val (Ex.move rfl) rfl ?_
  refine Lw.take (dj := 8) rfl rfl ?_
  refine Lw.val (Ex.lenS st_22 rfl (by assumption)) rfl ?_
  refine Lw.take (dj := 8) rfl rfl ?_
  refine Lw.val (Ex.gtr rfl rfl) rfl ?_
  refine Lw.val (Ex.pickF rfl rfl) rfl ?_
  refine Lw.nil ?_
  refine Pw.thenN (Cw.out ?_)
  refine Cw.cond rfl ?_ ?_
  · intro g
    refine Cw.seq ?_
    refine Cw.region ?_
    refine Lw.val (Ex.assign rfl) rfl ?_
    refine Lw.nil ?_
    refine Pw.thenN (Cw.out ?_)
    refine Cw.ret ?_
    refine Pw.thenR ?_
    refine Pw.ret1 rfl rfl ?_
    exact ⟨by rw [no1 (.inr (by have := of_decide_eq_true g; omega))], Below.refl _ _⟩
  intro g
  have g2 := of_decide_eq_false g
  have hl : 1 ≤ s.length ∧ s.length ≤ 4 := by omega
  refine Cw.skip ?_
  refine Pw.thenN (Cw.out ?_)
  refine Cw.seq ?_
  refine Cw.region ?_
  refine Lw.val (Ex.assign rfl) rfl ?_
  refine Lw.nil ?_
  refine Pw.thenN (Cw.out ?_)
  refine Cw.seq ?_
  refine Cw.seq ?_
  refine Cw.region ?_
  refine Lw.val (Ex.assign rfl) rfl ?_
  refine Lw.nil ?_
  refine Pw.thenN (Cw.out ?_)
  refine Cw.block ?_
  refine Cw.loop (S := Nat) (fun i => [(0, u), (2, .bool false), (3, .int .i64 (Shapes.prod (s.take i))), (4, .int .i64 (i : Int))]) (fun i w' => i ≤ s.length ∧ Shapes.good (s.take i) ∧ w' = w) (fun i => s.length - i) (0) ⟨rfl, rfl, rfl, rfl, trivial⟩ ?_ ?_
  · exact ⟨by omega, by simp [Shapes.good], rfl⟩
  rintro i w1 ⟨hi, hg, rfl⟩
  have hp := prod_four hg (by rw [List.length_take]; omega)
  refine Cw.seq ?_
  refine Cw.seq ?_
  refine Cw.region ?_
  refine Lw.val (Ex.move rfl) rfl ?_
  refine Lw.val (Ex.move rfl) rfl ?_
  refine Lw.val (Ex.lenS st_22 rfl (by assumption)) rfl ?_
  refine Lw.val (Ex.lss rfl rfl) rfl ?_
  refine Lw.nil ?_
  refine Pw.thenN (Cw.out ?_)
  refine Cw.cond rfl ?_ ?_
  · intro h
    have hi' : i < s.length := by simp at h; omega
    have bad : (s.getD i default < 1 ∨ 64 < s.getD i default) → Shapes.ok s = false := fun h => by
      cases hk : Shapes.ok s with
      | false => rfl
      | true =>
        have := ((Shapes.ok_iff s).1 hk).2.1 s[i] (List.getElem_mem hi')
        simp [hi'] at h
        omega
    refine Cw.skip ?_
    refine Pw.thenN (Cw.out ?_)
    refine Cw.seq ?_
    refine Cw.block ?_
    refine Cw.seq ?_
    refine Cw.seq ?_
    refine Cw.region ?_
    refine Lw.val (Ex.move rfl) rfl ?_
    refine Lw.val (Ex.move rfl) rfl ?_
    refine Lw.val (Ex.idxT st_22 rfl rfl (by assumption) _ rfl (by omega)) rfl ?_
    refine Lw.val (Ex.ldT (ag_3 _) rfl (by assumption) (by omega)) rfl ?_
    refine Lw.val (Ex.lss rfl rfl) rfl ?_
    refine Lw.val (Ex.move rfl) rfl ?_
    refine Lw.part 24 rfl ?_ ?_
    · intro g
      refine Lw.pass (dj := 24) rfl rfl rfl rfl ?_
      refine Lw.pass (dj := 24) rfl rfl rfl rfl ?_
      refine Lw.pass (dj := 24) rfl rfl rfl rfl ?_
      refine Lw.pass (dj := 24) rfl rfl rfl rfl ?_
      refine Lw.pass (dj := 24) rfl rfl rfl rfl ?_
      refine Lw.val (Ex.pickT rfl rfl) rfl ?_
      refine Lw.nil ?_
      refine Pw.thenN (Cw.out ?_)
      refine Cw.condT rfl ?_
      refine Cw.seq ?_
      refine Cw.region ?_
      refine Lw.val (Ex.assign rfl) rfl ?_
      refine Lw.nil ?_
      refine Pw.thenN (Cw.out ?_)
      refine Cw.ret ?_
      refine Pw.thenR ?_
      refine Pw.blkR ?_
      refine Pw.thenR ?_
      refine Pw.thenR ?_
      refine Pw.blkR ?_
      refine Pw.thenR ?_
      refine Pw.ret1 rfl rfl ?_
      exact ⟨by rw [bad (.inl (of_decide_eq_true g))], Below.refl _ _⟩
    intro g
    have g3 := of_decide_eq_false g
    refine Lw.take (dj := 24) rfl rfl ?_
    refine Lw.val (Ex.move rfl) rfl ?_
    refine Lw.take (dj := 24) rfl rfl ?_
    refine Lw.val (Ex.move rfl) rfl ?_
    refine Lw.take (dj := 24) rfl rfl ?_
    refine Lw.val (Ex.idxT st_22 rfl rfl (by assumption) _ rfl (by omega)) rfl ?_
    refine Lw.take (dj := 24) rfl rfl ?_
    refine Lw.val (Ex.ldT (ag_3 _) rfl (by assumption) (by omega)) rfl ?_
    refine Lw.take (dj := 24) rfl rfl ?_
    refine Lw.val (Ex.gtr rfl rfl) rfl ?_
    refine Lw.val (Ex.pickF rfl rfl) rfl ?_
    refine Lw.nil ?_
    refine Pw.thenN (Cw.out ?_)
    refine Cw.cond rfl ?_ ?_
    · intro g
      refine Cw.seq ?_
      refine Cw.region ?_
      refine Lw.val (Ex.assign rfl) rfl ?_
      refine Lw.nil ?_
      refine Pw.thenN (Cw.out ?_)
      refine Cw.ret ?_
      refine Pw.thenR ?_
      refine Pw.blkR ?_
      refine Pw.thenR ?_
      refine Pw.thenR ?_
      refine Pw.blkR ?_
      refine Pw.thenR ?_
      refine Pw.ret1 rfl rfl ?_
      exact ⟨by rw [bad (.inr (of_decide_eq_true g))], Below.refl _ _⟩
    intro g
    have g4 := of_decide_eq_false g
    have hx : 1 ≤ s.getD i default ∧ s.getD i default ≤ 64 := by omega
    have hg' := good_take hi' hg hx
    have hp' := prod_four hg' (by rw [List.length_take]; omega)
    rw [prod_take hi'] at hp'
    refine Cw.skip ?_
    refine Pw.thenN (Cw.out ?_)
    refine Cw.region ?_
    refine Lw.val (Ex.move rfl) rfl ?_
    refine Lw.val (Ex.move rfl) rfl ?_
    refine Lw.val (Ex.move rfl) rfl ?_
    refine Lw.val (Ex.idxT st_22 rfl rfl (by assumption) _ rfl (by omega)) rfl ?_
    refine Lw.val (Ex.ldT (ag_3 _) rfl (by assumption) (by omega)) rfl ?_
    refine Lw.val (Ex.mulI rfl rfl (by omega)) rfl ?_
    refine Lw.val (Ex.assign rfl) rfl ?_
    refine Lw.nil ?_
    refine Pw.blkN ?_
    refine Pw.thenN (Cw.out ?_)
    refine Cw.region ?_
    refine Lw.val (Ex.move rfl) rfl ?_
    refine Lw.val (Ex.addI rfl rfl (by omega)) rfl ?_
    refine Lw.val (Ex.assign rfl) rfl ?_
    refine Lw.nil ?_
    exact Pw.thenN (Pw.next (i + 1) ⟨rfl, rfl, (by rw [prod_take hi']; rfl), rfl, trivial⟩ (⟨hi', hg', rfl⟩) (by omega))
  intro h
  have hi' : i = s.length := by simp at h; omega
  subst hi'
  rw [List.take_length] at hg hp
  have e : decide (Shapes.prod (s.take s.length) ≤ 4096) = Shapes.ok s := by
    rw [List.take_length]
    cases hk : Shapes.ok s with
    | true => exact decide_eq_true ((Shapes.ok_iff s).1 hk).2.2
    | false =>
      refine decide_eq_false fun h => ?_
      have := (Shapes.ok_iff s).2 ⟨hl, hg, h⟩
      rw [hk] at this; cases this
  refine Cw.exit ?_
  refine Pw.thenE ?_
  refine Pw.thenE ?_
  refine Pw.blkHit ?_
  refine Pw.thenN (Cw.out ?_)
  refine Cw.seq ?_
  refine Cw.region ?_
  refine Lw.val (Ex.move rfl) rfl ?_
  refine Lw.val (Ex.leq rfl rfl) rfl ?_
  refine Lw.val (Ex.assign rfl) rfl ?_
  refine Lw.nil ?_
  refine Pw.thenN (Cw.out ?_)
  refine Cw.ret ?_
  refine Pw.ret1 rfl rfl ?_
  exact ⟨by rw [← e], Below.refl _ _⟩

theorem rsize_c (u : Value) (s : List Int) (w : World) (hu : SlT (Value.int .i64) w u s) : Fnc Tryz.prog 89 [u] w (fun r w' => r = .int .i64 (Shapes.size s) ∧ Below w.heap.size w w') := by
  refine Fnc.enter (n := 21) Tryz.func89 (by kernel_rfl) rfl rfl rfl ?_
  refine Cw.seq ?_
  refine Cw.region ?_
  refine Lw.val (Ex.assign rfl) rfl ?_
  refine Lw.nil ?_
  refine Pw.thenN (Cw.out ?_)
  refine Cw.seq ?_
  refine Cw.seq ?_
  refine Cw.region ?_
  refine Lw.val (Ex.move rfl) rfl ?_
  refine Lw.callF rfl rfl (rcheck_c u s w hu) ?_
  rintro _ w1 ⟨rfl, hn⟩
  have hu := hu.bs hn
  refine Lw.val (Ex.not rfl) rfl ?_
  refine Lw.nil ?_
  refine Pw.thenN (Cw.out ?_)
  refine Cw.cond rfl ?_ ?_
  · intro g
    refine Cw.seq ?_
    refine Cw.region ?_
    refine Lw.val (Ex.assign rfl) rfl ?_
    refine Lw.nil ?_
    refine Pw.thenN (Cw.out ?_)
    refine Cw.ret ?_
    refine Pw.thenR ?_
    refine Pw.ret1 rfl rfl ?_
    exact ⟨by rw [Shapes.size_no (by simpa using g)], hn⟩
  intro g
  have hk : Shapes.ok s = true := by simpa using g
  have h3 := (Shapes.ok_iff s).1 hk
  refine Cw.skip ?_
  refine Pw.thenN (Cw.out ?_)
  refine Cw.seq ?_
  refine Cw.region ?_
  refine Lw.val (Ex.assign rfl) rfl ?_
  refine Lw.nil ?_
  refine Pw.thenN (Cw.out ?_)
  refine Cw.seq ?_
  refine Cw.seq ?_
  refine Cw.region ?_
  refine Lw.val (Ex.assign rfl) rfl ?_
  refine Lw.nil ?_
  refine Pw.thenN (Cw.out ?_)
  refine Cw.block ?_
  refine Cw.loop (S := Nat) (fun i => [(0, u), (3, .int .i64 (Shapes.prod (s.take i))), (4, .int .i64 (i : Int))]) (fun i w' => i ≤ s.length ∧ w' = w1) (fun i => s.length - i) (0) ⟨rfl, rfl, rfl, trivial⟩ ?_ ?_
  · exact ⟨by omega, rfl⟩
  rintro i w2 ⟨hi, rfl⟩
  refine Cw.seq ?_
  refine Cw.seq ?_
  refine Cw.region ?_
  refine Lw.val (Ex.move rfl) rfl ?_
  refine Lw.val (Ex.move rfl) rfl ?_
  refine Lw.val (Ex.lenS st_22 rfl (by assumption)) rfl ?_
  refine Lw.val (Ex.lss rfl rfl) rfl ?_
  refine Lw.nil ?_
  refine Pw.thenN (Cw.out ?_)
  refine Cw.cond rfl ?_ ?_
  · intro h
    have hi' : i < s.length := by simp at h; omega
    have hp' := prod_four (s := s.take (i + 1)) (fun x hx => h3.2.1 x (List.mem_of_mem_take hx)) (by rw [List.length_take]; omega)
    rw [prod_take hi'] at hp'
    refine Cw.skip ?_
    refine Pw.thenN (Cw.out ?_)
    refine Cw.seq ?_
    refine Cw.block ?_
    refine Cw.region ?_
    refine Lw.val (Ex.move rfl) rfl ?_
    refine Lw.val (Ex.move rfl) rfl ?_
    refine Lw.val (Ex.move rfl) rfl ?_
    refine Lw.val (Ex.idxT st_22 rfl rfl (by assumption) _ rfl (by omega)) rfl ?_
    refine Lw.val (Ex.ldT (ag_3 _) rfl (by assumption) (by omega)) rfl ?_
    refine Lw.val (Ex.mulI rfl rfl (by omega)) rfl ?_
    refine Lw.val (Ex.assign rfl) rfl ?_
    refine Lw.nil ?_
    refine Pw.blkN ?_
    refine Pw.thenN (Cw.out ?_)
    refine Cw.region ?_
    refine Lw.val (Ex.move rfl) rfl ?_
    refine Lw.val (Ex.addI rfl rfl (by omega)) rfl ?_
    refine Lw.val (Ex.assign rfl) rfl ?_
    refine Lw.nil ?_
    exact Pw.thenN (Pw.next (i + 1) ⟨rfl, (by rw [prod_take hi']; rfl), rfl, trivial⟩ (⟨hi', rfl⟩) (by omega))
  intro h
  have hi' : i = s.length := by simp at h; omega
  subst hi'
  refine Cw.exit ?_
  refine Pw.thenE ?_
  refine Pw.thenE ?_
  refine Pw.blkHit ?_
  refine Pw.thenN (Cw.out ?_)
  refine Cw.seq ?_
  refine Cw.region ?_
  refine Lw.val (Ex.move rfl) rfl ?_
  refine Lw.val (Ex.assign rfl) rfl ?_
  refine Lw.nil ?_
  refine Pw.thenN (Cw.out ?_)
  refine Cw.ret ?_
  refine Pw.ret1 rfl rfl ?_
  exact ⟨by rw [List.take_length, Shapes.size_ok hk], hn⟩



end Go.Proofs.YtgjpjpdmkeifeaaGreatDoor
