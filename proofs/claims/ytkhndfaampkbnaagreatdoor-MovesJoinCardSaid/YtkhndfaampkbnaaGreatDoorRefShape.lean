/- Contracts: the document's answers on shapes. -/
import Derived.Test.YtkhndfaampkbnaaGreatDoorShapesCode
import Derived.Test.YtkhndfaampkbnaaGreatDoorBook
namespace Go.Proofs.YtkhndfaampkbnaaGreatDoor
open Go Go.Dd Go.RowKit
set_option maxRecDepth 100000

theorem prod_take {s : List Int} {i : Nat} (h : i < s.length) : Shapes.prod (s.take (i + 1)) = Shapes.prod (s.take i) * s.getD i default := by
  rw [List.take_succ_eq_append_getElem h, Shapes.prod_append]
  simp [Shapes.prod, h]
theorem good_take {s : List Int} {i : Nat} (h : i < s.length) (h1 : Shapes.good (s.take i)) (h2 : 1 ≤ s.getD i default ∧ s.getD i default ≤ 64) : Shapes.good (s.take (i + 1)) := by
  rw [List.take_succ_eq_append_getElem h, Shapes.good_append]
  refine ⟨h1, fun x hx => ?_⟩
  have : x = s.getD i default := by simpa [h] using hx
  rw [this]; exact h2
theorem prod_four : ∀ {s : List Int}, Shapes.good s → s.length ≤ 4 → 1 ≤ Shapes.prod s ∧ Shapes.prod s ≤ 16777216
  | s, hg, hl => by
    have key : ∀ (s : List Int), Shapes.good s → Shapes.prod s ≤ 64 ^ s.length := by
      intro s
      induction s with
      | nil => intro _; simp [Shapes.prod]
      | cons x s ih =>
        intro h
        have h1 := (Shapes.good_cons.1 h).1
        have h2 := ih (Shapes.good_cons.1 h).2
        have h3 := Shapes.prod_pos (Shapes.good_cons.1 h).2
        have := Int.mul_le_mul h1.2 h2 (by omega) (by omega)
        rw [List.length_cons, Int.pow_succ, Int.mul_comm ((64 : Int) ^ s.length)]
        exact this
    refine ⟨Shapes.prod_pos hg, Int.le_trans (key s hg) ?_⟩
    have : s.length = 0 ∨ s.length = 1 ∨ s.length = 2 ∨ s.length = 3 ∨ s.length = 4 := by omega
    rcases this with h | h | h | h | h <;> rw [h] <;> decide

theorem rcheck_c (u : Value) (s : List Int) (w : World) (hu : SlT (Value.int .i64) w u s) : Fnc Tryz.prog 104 [u] w (fun r w' => r = .bool (Shapes.ok s) ∧ Below w.heap.size w w') := by
  have no1 : (s.length < 1 ∨ 4 < s.length) → Shapes.ok s = false := fun h => by
    cases hk : Shapes.ok s with
    | false => rfl
    | true => have := (Shapes.ok_iff s).1 hk; omega
  refine Fnc.enter (n := 39) Tryz.func104 (by kernel_rfl) rfl rfl rfl ?_
  refine Cw.seq ?_
  refine Cw.region ?_
  refine Lw.val (Ex.assign rfl) rfl ?_
  refine Lw.nil ?_
  refine Pw.thenN (Cw.out ?_)
  refine Cw.seq ?_
  refine Cw.seq ?_
  refine Cw.region ?_
  refine Lw.val (Ex.move rfl) rfl ?_
  refine Lw.val (Ex.lenS st_26 rfl (by assumption)) rfl ?_
  refine Lw.val (Ex.lss rfl rfl) rfl ?_
  refine Lw.val (Ex.move rfl) rfl ?_
  refine Lw.part 8 rfl ?_ ?_
  · intro g
    refine Lw.pass (dj := 8) rfl rfl rfl rfl ?_
    refine Lw.pass (dj := 8) rfl rfl rfl rfl ?_
    refine Lw.pass (dj := 8) rfl rfl rfl rfl ?_
    refine Lw.val (Ex.pickT rfl rfl) rfl ?_
    refine Lw.nil ?_
    refine Pw.thenN (Cw.out ?_)
    refine Cw.condT rfl ?_
    refine Cw.seq ?_
    refine Cw.region ?_
    refine Lw.val (Ex.assign rfl) rfl ?_
    refine Lw.nil ?_
    refine Pw.thenN (Cw.out ?_)
    refine Cw.ret ?_
    refine Pw.thenR ?_
    refine Pw.ret1 rfl rfl ?_
    exact ⟨by rw [no1 (.inl (by have := of_decide_eq_true g; omega))], Below.refl _ _⟩
  intro g
  have g1 := of_decide_eq_false g
  refine Lw.take (dj := 8) rfl rfl ?_
  refine Lw.val (Ex.move rfl) rfl ?_
  refine Lw.take (dj := 8) rfl rfl ?_
  refine Lw.val (Ex.lenS st_26 rfl (by assumption)) rfl ?_
  refine Lw.take (dj := 8) rfl rfl ?_
  refine Lw.val (Ex.gtr rfl rfl) rfl ?_
  refine Lw.val (Ex.pickF rfl rfl) rfl ?_
  refine Lw.nil ?_
  refine Pw.thenN (Cw.out ?_)
  refine Cw.cond rfl ?_ ?_
  · intro g
    refine Cw.seq ?_
    refine Cw.region ?_
    refine Lw.val (Ex.assign rfl) rfl ?_
    refine Lw.nil ?_
    refine Pw.thenN (Cw.out ?_)
    refine Cw.ret ?_
    refine Pw.thenR ?_
    refine Pw.ret1 rfl rfl ?_
    exact ⟨by rw [no1 (.inr (by have := of_decide_eq_true g; omega))], Below.refl _ _⟩
  intro g
  have g2 := of_decide_eq_false g
  have hl : 1 ≤ s.length ∧ s.length ≤ 4 := by omega
  refine Cw.skip ?_
  refine Pw.thenN (Cw.out ?_)
  refine Cw.seq ?_
  refine Cw.region ?_
  refine Lw.val (Ex.assign rfl) rfl ?_
  refine Lw.nil ?_
  refine Pw.thenN (Cw.out ?_)
  refine Cw.seq ?_
  refine Cw.seq ?_
  refine Cw.region ?_
  refine Lw.val (Ex.assign rfl) rfl ?_
  refine Lw.nil ?_
  refine Pw.thenN (Cw.out ?_)
  refine Cw.block ?_
  refine Cw.loop (S := Nat) (fun i => [(0, u), (2, .bool false), (3, .int .i64 (Shapes.prod (s.take i))), (4, .int .i64 (i : Int))]) (fun i w' => i ≤ s.length ∧ Shapes.good (s.take i) ∧ w' = w) (fun i => s.length - i) (0) ⟨rfl, rfl, rfl, rfl, trivial⟩ ?_ ?_
  · exact ⟨by omega, by simp [Shapes.good], rfl⟩
  rintro i w1 ⟨hi, hg, rfl⟩
  have hp := prod_four hg (by rw [List.length_take]; omega)
  refine Cw.seq ?_
  refine Cw.seq ?_
  refine Cw.region ?_
  refine Lw.val (Ex.move rfl) rfl ?_
  refine Lw.val (Ex.move rfl) rfl ?_
  refine Lw.val (Ex.lenS st_26 rfl (by assumption)) rfl ?_
  refine Lw.val (Ex.lss rfl rfl) rfl ?_
  refine Lw.nil ?_
  refine Pw.thenN (Cw.out ?_)
  refine Cw.cond rfl ?_ ?_
  · intro h
    have hi' : i < s.length := by simp at h; omega
    have bad : (s.getD i default < 1 ∨ 64 < s.getD i default) → Shapes.ok s = false := fun h => by
      cases hk : Shapes.ok s with
      | false => rfl
      | true =>
        have := ((Shapes.ok_iff s).1 hk).2.1 s[i] (List.getElem_mem hi')
        simp [hi'] at h
        omega
    refine Cw.skip ?_
    refine Pw.thenN (Cw.out ?_)
    refine Cw.seq ?_
    refine Cw.block ?_
    refine Cw.seq ?_
    refine Cw.seq ?_
    refine Cw.region ?_
    refine Lw.val (Ex.move rfl) rfl ?_
    refine Lw.val (Ex.move rfl) rfl ?_
    refine Lw.val (Ex.idxT st_26 rfl rfl (by assumption) _ rfl (by omega)) rfl ?_
    refine Lw.val (Ex.ldT (ag_3 _) rfl (by assumption) (by omega)) rfl ?_
    refine Lw.val (Ex.lss rfl rfl) rfl ?_
    refine Lw.val (Ex.move rfl) rfl ?_
    refine Lw.part 24 rfl ?_ ?_
    · intro g
      refine Lw.pass (dj := 24) rfl rfl rfl rfl ?_
      refine Lw.pass (dj := 24) rfl rfl rfl rfl ?_
      refine Lw.pass (dj := 24) rfl rfl rfl rfl ?_
      refine Lw.pass (dj := 24) rfl rfl rfl rfl ?_
      refine Lw.pass (dj := 24) rfl rfl rfl rfl ?_
      refine Lw.val (Ex.pickT rfl rfl) rfl ?_
      refine Lw.nil ?_
      refine Pw.thenN (Cw.out ?_)
      refine Cw.condT rfl ?_
      refine Cw.seq ?_
      refine Cw.region ?_
      refine Lw.val (Ex.assign rfl) rfl ?_
      refine Lw.nil ?_
      refine Pw.thenN (Cw.out ?_)
      refine Cw.ret ?_
      refine Pw.thenR ?_
      refine Pw.blkR ?_
      refine Pw.thenR ?_
      refine Pw.thenR ?_
      refine Pw.blkR ?_
      refine Pw.thenR ?_
      refine Pw.ret1 rfl rfl ?_
      exact ⟨by rw [bad (.inl (of_decide_eq_true g))], Below.refl _ _⟩
    intro g
    have g3 := of_decide_eq_false g
    refine Lw.take (dj := 24) rfl rfl ?_
    refine Lw.val (Ex.move rfl) rfl ?_
    refine Lw.take (dj := 24) rfl rfl ?_
    refine Lw.val (Ex.move rfl) rfl ?_
    refine Lw.take (dj := 24) rfl rfl ?_
    refine Lw.val (Ex.idxT st_26 rfl rfl (by assumption) _ rfl (by omega)) rfl ?_
    refine Lw.take (dj := 24) rfl rfl ?_
    refine Lw.val (Ex.ldT (ag_3 _) rfl (by assumption) (by omega)) rfl ?_
    refine Lw.take (dj := 24) rfl rfl ?_
    refine Lw.val (Ex.gtr rfl rfl) rfl ?_
    refine Lw.val (Ex.pickF rfl rfl) rfl ?_
    refine Lw.nil ?_
    refine Pw.thenN (Cw.out ?_)
    refine Cw.cond rfl ?_ ?_
    · intro g
      refine Cw.seq ?_
      refine Cw.region ?_
      refine Lw.val (Ex.assign rfl) rfl ?_
      refine Lw.nil ?_
      refine Pw.thenN (Cw.out ?_)
      refine Cw.ret ?_
      refine Pw.thenR ?_
      refine Pw.blkR ?_
      refine Pw.thenR ?_
      refine Pw.thenR ?_
      refine Pw.blkR ?_
      refine Pw.thenR ?_
      refine Pw.ret1 rfl rfl ?_
      exact ⟨by rw [bad (.inr (of_decide_eq_true g))], Below.refl _ _⟩
    intro g
    have g4 := of_decide_eq_false g
    have hx : 1 ≤ s.getD i default ∧ s.getD i default ≤ 64 := by omega
    have hg' := good_take hi' hg hx
    have hp' := prod_four hg' (by rw [List.length_take]; omega)
    rw [prod_take hi'] at hp'
    refine Cw.skip ?_
    refine Pw.thenN (Cw.out ?_)
    refine Cw.region ?_
    refine Lw.val (Ex.move rfl) rfl ?_
    refine Lw.val (Ex.move rfl) rfl ?_
    refine Lw.val (Ex.move rfl) rfl ?_
    refine Lw.val (Ex.idxT st_26 rfl rfl (by assumption) _ rfl (by omega)) rfl ?_
    refine Lw.val (Ex.ldT (ag_3 _) rfl (by assumption) (by omega)) rfl ?_
    refine Lw.val (Ex.mulI rfl rfl (by omega)) rfl ?_
    refine Lw.val (Ex.assign rfl) rfl ?_
    refine Lw.nil ?_
    refine Pw.blkN ?_
    refine Pw.thenN (Cw.out ?_)
    refine Cw.region ?_
    refine Lw.val (Ex.move rfl) rfl ?_
    refine Lw.val (Ex.addI rfl rfl (by omega)) rfl ?_
    refine Lw.val (Ex.assign rfl) rfl ?_
    refine Lw.nil ?_
    exact Pw.thenN (Pw.next (i + 1) ⟨rfl, rfl, (by rw [prod_take hi']; rfl), rfl, trivial⟩ (⟨hi', hg', rfl⟩) (by omega))
  intro h
  have hi' : i = s.length := by simp at h; omega
  subst hi'
  rw [List.take_length] at hg hp
  have e : decide (Shapes.prod (s.take s.length) ≤ 4096) = Shapes.ok s := by
    rw [List.take_length]
    cases hk : Shapes.ok s with
    | true => exact decide_eq_true ((Shapes.ok_iff s).1 hk).2.2
    | false =>
      refine decide_eq_false fun h => ?_
      have := (Shapes.ok_iff s).2 ⟨hl, hg, h⟩
      rw [hk] at this; cases this
  refine Cw.exit ?_
  refine Pw.thenE ?_
  refine Pw.thenE ?_
  refine Pw.blkHit ?_
  refine Pw.thenN (Cw.out ?_)
  refine Cw.seq ?_
  refine Cw.region ?_
  refine Lw.val (Ex.move rfl) rfl ?_
  refine Lw.val (Ex.leq rfl rfl) rfl ?_
  refine Lw.val (Ex.assign rfl) rfl ?_
  refine Lw.nil ?_
  refine Pw.thenN (Cw.out ?_)
  refine Cw.ret ?_
  refine Pw.ret1 rfl rfl ?_
  exact ⟨by rw [← e], Below.refl _ _⟩

theorem rsize_c (u : Value) (s : List Int) (w : World) (hu : SlT (Value.int .i64) w u s) : Fnc Tryz.prog 105 [u] w (fun r w' => r = .int .i64 (Shapes.size s) ∧ Below w.heap.size w w') := by
  refine Fnc.enter (n := 21) Tryz.func105 (by kernel_rfl) rfl rfl rfl ?_
  refine Cw.seq ?_
  refine Cw.region ?_
  refine Lw.val (Ex.assign rfl) rfl ?_
  refine Lw.nil ?_
  refine Pw.thenN (Cw.out ?_)
  refine Cw.seq ?_
  refine Cw.seq ?_
  refine Cw.region ?_
  refine Lw.val (Ex.move rfl) rfl ?_
  refine Lw.callF rfl rfl (rcheck_c u s w hu) ?_
  rintro _ w1 ⟨rfl, hn⟩
  have hu := hu.bs hn
  refine Lw.val (Ex.not rfl) rfl ?_
  refine Lw.nil ?_
  refine Pw.thenN (Cw.out ?_)
  refine Cw.cond rfl ?_ ?_
  · intro g
    refine Cw.seq ?_
    refine Cw.region ?_
    refine Lw.val (Ex.assign rfl) rfl ?_
    refine Lw.nil ?_
    refine Pw.thenN (Cw.out ?_)
    refine Cw.ret ?_
    refine Pw.thenR ?_
    refine Pw.ret1 rfl rfl ?_
    exact ⟨by rw [Shapes.size_no (by simpa using g)], hn⟩
  intro g
  have hk : Shapes.ok s = true := by simpa using g
  have h3 := (Shapes.ok_iff s).1 hk
  refine Cw.skip ?_
  refine Pw.thenN (Cw.out ?_)
  refine Cw.seq ?_
  refine Cw.region ?_
  refine Lw.val (Ex.assign rfl) rfl ?_
  refine Lw.nil ?_
  refine Pw.thenN (Cw.out ?_)
  refine Cw.seq ?_
  refine Cw.seq ?_
  refine Cw.region ?_
  refine Lw.val (Ex.assign rfl) rfl ?_
  refine Lw.nil ?_
  refine Pw.thenN (Cw.out ?_)
  refine Cw.block ?_
  refine Cw.loop (S := Nat) (fun i => [(0, u), (3, .int .i64 (Shapes.prod (s.take i))), (4, .int .i64 (i : Int))]) (fun i w' => i ≤ s.length ∧ w' = w1) (fun i => s.length - i) (0) ⟨rfl, rfl, rfl, trivial⟩ ?_ ?_
  · exact ⟨by omega, rfl⟩
  rintro i w2 ⟨hi, rfl⟩
  refine Cw.seq ?_
  refine Cw.seq ?_
  refine Cw.region ?_
  refine Lw.val (Ex.move rfl) rfl ?_
  refine Lw.val (Ex.move rfl) rfl ?_
  refine Lw.val (Ex.lenS st_26 rfl (by assumption)) rfl ?_
  refine Lw.val (Ex.lss rfl rfl) rfl ?_
  refine Lw.nil ?_
  refine Pw.thenN (Cw.out ?_)
  refine Cw.cond rfl ?_ ?_
  · intro h
    have hi' : i < s.length := by simp at h; omega
    have hp' := prod_four (s := s.take (i + 1)) (fun x hx => h3.2.1 x (List.mem_of_mem_take hx)) (by rw [List.length_take]; omega)
    rw [prod_take hi'] at hp'
    refine Cw.skip ?_
    refine Pw.thenN (Cw.out ?_)
    refine Cw.seq ?_
    refine Cw.block ?_
    refine Cw.region ?_
    refine Lw.val (Ex.move rfl) rfl ?_
    refine Lw.val (Ex.move rfl) rfl ?_
    refine Lw.val (Ex.move rfl) rfl ?_
    refine Lw.val (Ex.idxT st_26 rfl rfl (by assumption) _ rfl (by omega)) rfl ?_
    refine Lw.val (Ex.ldT (ag_3 _) rfl (by assumption) (by omega)) rfl ?_
    refine Lw.val (Ex.mulI rfl rfl (by omega)) rfl ?_
    refine Lw.val (Ex.assign rfl) rfl ?_
    refine Lw.nil ?_
    refine Pw.blkN ?_
    refine Pw.thenN (Cw.out ?_)
    refine Cw.region ?_
    refine Lw.val (Ex.move rfl) rfl ?_
    refine Lw.val (Ex.addI rfl rfl (by omega)) rfl ?_
    refine Lw.val (Ex.assign rfl) rfl ?_
    refine Lw.nil ?_
    exact Pw.thenN (Pw.next (i + 1) ⟨rfl, (by rw [prod_take hi']; rfl), rfl, trivial⟩ (⟨hi', rfl⟩) (by omega))
  intro h
  have hi' : i = s.length := by simp at h; omega
  subst hi'
  refine Cw.exit ?_
  refine Pw.thenE ?_
  refine Pw.thenE ?_
  refine Pw.blkHit ?_
  refine Pw.thenN (Cw.out ?_)
  refine Cw.seq ?_
  refine Cw.region ?_
  refine Lw.val (Ex.move rfl) rfl ?_
  refine Lw.val (Ex.assign rfl) rfl ?_
  refine Lw.nil ?_
  refine Pw.thenN (Cw.out ?_)
  refine Cw.ret ?_
  refine Pw.ret1 rfl rfl ?_
  exact ⟨by rw [List.take_length, Shapes.size_ok hk], hn⟩


theorem index_no {s t : List Int} (h : Shapes.ok s = false ∨ Shapes.inn s t = false) : Shapes.index s t = (0, 1) := by
  unfold Shapes.index
  rw [if_neg]
  rcases h with h | h <;> simp [h]
theorem index_yes {s t : List Int} (h1 : Shapes.ok s = true) (h2 : Shapes.inn s t = true) : Shapes.index s t = (Shapes.idx s t, 0) := by
  unfold Shapes.index
  rw [h1, h2]
  rfl
/-- One direction more. -/
theorem hor {s t : List Int} {n : Int} {i : Nat} (h1 : i < s.length) (h2 : t.length = s.length) (h : n * Shapes.prod (s.drop i) + Shapes.idx (s.drop i) (t.drop i) = Shapes.idx s t) :
    (n * s.getD i default + t.getD i default) * Shapes.prod (s.drop (i + 1)) + Shapes.idx (s.drop (i + 1)) (t.drop (i + 1)) = Shapes.idx s t := by
  rw [Shapes.prod_drop h1, Shapes.idx_drop h1 h2] at h
  rw [← h, Int.add_mul, Int.mul_assoc, Int.add_assoc]
theorem hor_lt {s : List Int} {n a : Int} {i : Nat} (h1 : i < s.length) (hn : 0 ≤ n ∧ n < Shapes.prod (s.take i)) (ha : 0 ≤ a ∧ a < s.getD i default) : 0 ≤ n * s.getD i default ∧ 0 ≤ n * s.getD i default + a ∧ n * s.getD i default + a < Shapes.prod (s.take (i + 1)) := by
  have h2 := Int.mul_nonneg hn.1 (show 0 ≤ s.getD i default by omega)
  have h3 := Int.mul_le_mul_of_nonneg_right (show n + 1 ≤ Shapes.prod (s.take i) by omega) (show 0 ≤ s.getD i default by omega)
  rw [Int.add_mul] at h3
  rw [prod_take h1]
  omega
theorem rindex_c (s t : List Int) (u v : Value) (W : World) (hu : SlT (Value.int .i64) W u s) (hv : SlT (Value.int .i64) W v t) :
    Fnc Tryz.prog 40 [u, v] W (fun r w' => r = .tuple #[.int .i64 (Shapes.index s t).1, .int .i64 (Shapes.index s t).2] ∧ Below W.heap.size W w') := by
  have hB := Below.refl W.heap.size W
  refine Fnc.enter (n := 52) Tryz.func40 (by kernel_rfl) rfl rfl rfl ?_
  refine Cw.seq ?_
  refine Cw.region ?_
  refine Lw.val (Ex.assign rfl) rfl ?_
  refine Lw.val (Ex.assign rfl) rfl ?_
  refine Lw.nil ?_
  refine Pw.thenN (Cw.out ?_)
  refine Cw.seq ?_
  refine Cw.seq ?_
  refine Cw.region ?_
  refine Lw.val (Ex.move rfl) rfl ?_
  refine Lw.callF rfl rfl (rcheck_c u s _ hu) ?_
  rintro _ w ⟨rfl, hn⟩
  replace hB := hB.bs hn
  replace hu := hu.bs hn
  replace hv := hv.bs hn
  clear hn
  refine Lw.val (Ex.not rfl) rfl ?_
  refine Lw.val (Ex.move rfl) rfl ?_
  refine Lw.part 11 rfl ?_ ?_
  · intro g
    have e := index_no (s := s) (t := t) (.inl (by simpa using g))
    refine Lw.pass (dj := 11) rfl rfl rfl rfl ?_
    refine Lw.pass (dj := 11) rfl rfl rfl rfl ?_
    refine Lw.pass (dj := 11) rfl rfl rfl rfl ?_
    refine Lw.pass (dj := 11) rfl rfl rfl rfl ?_
    refine Lw.pass (dj := 11) rfl rfl rfl rfl ?_
    refine Lw.val (Ex.pickT rfl rfl) rfl ?_
    refine Lw.nil ?_
    refine Pw.thenN (Cw.out ?_)
    refine Cw.condT rfl ?_
    refine Cw.seq ?_
    refine Cw.region ?_
    refine Lw.val (Ex.assign rfl) rfl ?_
    refine Lw.val (Ex.assign rfl) rfl ?_
    refine Lw.nil ?_
    refine Pw.thenN (Cw.out ?_)
    refine Cw.ret ?_
    refine Pw.thenR ?_
    refine Pw.ret2 rfl rfl rfl ?_
    exact ⟨by rw [e], hB⟩
  intro g
  have ks : Shapes.ok s = true := by simpa using g
  refine Lw.take (dj := 11) rfl rfl ?_
  refine Lw.val (Ex.move rfl) rfl ?_
  refine Lw.take (dj := 11) rfl rfl ?_
  refine Lw.val (Ex.lenS st_26 rfl (by assumption)) rfl ?_
  refine Lw.take (dj := 11) rfl rfl ?_
  refine Lw.val (Ex.move rfl) rfl ?_
  refine Lw.take (dj := 11) rfl rfl ?_
  refine Lw.val (Ex.lenS st_26 rfl (by assumption)) rfl ?_
  refine Lw.take (dj := 11) rfl rfl ?_
  refine Lw.val (Ex.neq rfl rfl) rfl ?_
  refine Lw.val (Ex.pickF rfl rfl) rfl ?_
  refine Lw.nil ?_
  refine Pw.thenN (Cw.out ?_)
  refine Cw.cond rfl ?_ ?_
  · intro g
    have e := index_no (s := s) (t := t) (.inr (by
      cases h : Shapes.inn s t with
      | false => rfl
      | true => have := Shapes.inn_length h; simp [this] at g))
    refine Cw.seq ?_
    refine Cw.region ?_
    refine Lw.val (Ex.assign rfl) rfl ?_
    refine Lw.val (Ex.assign rfl) rfl ?_
    refine Lw.nil ?_
    refine Pw.thenN (Cw.out ?_)
    refine Cw.ret ?_
    refine Pw.thenR ?_
    refine Pw.ret2 rfl rfl rfl ?_
    exact ⟨by rw [e], hB⟩
  intro g
  have hl : t.length = s.length := by simp at g; omega
  have hok := (Shapes.ok_iff s).1 ks
  have hle := hu.le
  refine Cw.skip ?_
  refine Pw.thenN (Cw.out ?_)
  refine Cw.seq ?_
  refine Cw.region ?_
  refine Lw.val (Ex.assign rfl) rfl ?_
  refine Lw.nil ?_
  refine Pw.thenN (Cw.out ?_)
  refine Cw.seq ?_
  refine Cw.seq ?_
  refine Cw.region ?_
  refine Lw.val (Ex.assign rfl) rfl ?_
  refine Lw.nil ?_
  refine Pw.thenN (Cw.out ?_)
  refine Cw.block ?_
  refine Cw.loop (S := (Nat × Int)) (fun z => [(0, u), (1, v), (4, .int .i64 0), (5, .int .i64 0), (6, .int .i64 z.2), (7, .int .i64 (z.1 : Int))]) (fun z w' => z.1 ≤ s.length ∧ (0 ≤ z.2 ∧ z.2 < Shapes.prod (s.take z.1)) ∧ z.2 * Shapes.prod (s.drop z.1) + Shapes.idx (s.drop z.1) (t.drop z.1) = Shapes.idx s t ∧ Shapes.inn (s.drop z.1) (t.drop z.1) = Shapes.inn s t ∧ Below w.heap.size w w') (fun z => s.length - z.1) ((0, 0)) ⟨rfl, rfl, rfl, rfl, rfl, rfl, trivial⟩ ?_ ?_
  · exact ⟨by simp, by simp [Shapes.prod], by simp, by simp, Below.refl _ _⟩
  rintro ⟨i, n⟩ w1 ⟨hi, hn, hx, hj, hw⟩
  dsimp only at hi hn hx hj ⊢
  have hu1 := hu.bs hw
  have hv1 := hv.bs hw
  refine Cw.seq ?_
  refine Cw.seq ?_
  refine Cw.region ?_
  refine Lw.val (Ex.move rfl) rfl ?_
  refine Lw.val (Ex.move rfl) rfl ?_
  refine Lw.val (Ex.lenS st_26 rfl (by assumption)) rfl ?_
  refine Lw.val (Ex.lss rfl rfl) rfl ?_
  refine Lw.nil ?_
  refine Pw.thenN (Cw.out ?_)
  refine Cw.cond rfl ?_ ?_
  · intro h
    have hi' : i < s.length := by simp at h; omega
    have hit : i < t.length := by omega
    have hid := Shapes.inn_drop hi' hl
    rw [hj] at hid
    refine Cw.skip ?_
    refine Pw.thenN (Cw.out ?_)
    refine Cw.seq ?_
    refine Cw.block ?_
    refine Cw.seq ?_
    refine Cw.seq ?_
    refine Cw.quiet mixed (by kernel_rfl) ?_
    refine Qw.val (fun w1 hq => Ex.move rfl) rfl ?_
    refine Qw.val (fun w1 hq => Ex.move rfl) rfl ?_
    refine Qw.val (fun w1 hq => Ex.idxT st_26 rfl rfl (Sl.bs (by assumption) hq) _ rfl (by omega)) rfl ?_
    refine Qw.val (fun w1 hq => Ex.ldT (ag_3 _) rfl (Sl.bs (by assumption) hq) (by omega)) rfl ?_
    refine Qw.val (fun w1 hq => Ex.lss rfl rfl) rfl ?_
    refine Qw.val (fun w1 hq => Ex.move rfl) rfl ?_
    refine Qw.part 29 rfl ?_ ?_
    · intro g
      have g' := of_decide_eq_true g
      have e := index_no (s := s) (t := t) (.inr (by rw [hid, decide_eq_false (show ¬ 0 ≤ t.getD i default by omega)]; rfl))
      refine Qw.pass (dj := 29) rfl rfl rfl rfl ?_
      refine Qw.pass (dj := 29) rfl rfl rfl rfl ?_
      refine Qw.pass (dj := 29) rfl rfl rfl rfl ?_
      refine Qw.pass (dj := 29) rfl rfl rfl rfl ?_
      refine Qw.pass (dj := 29) rfl rfl rfl rfl ?_
      refine Qw.pass (dj := 29) rfl rfl rfl rfl ?_
      refine Qw.pass (dj := 29) rfl rfl rfl rfl ?_
      refine Qw.pass (dj := 29) rfl rfl rfl rfl ?_
      refine Qw.pass (dj := 29) rfl rfl rfl rfl ?_
      refine Qw.val (fun w1 hq => Ex.pickT rfl rfl) rfl ?_
      refine Qw.nil (fun w2 hq => ?_)
      refine Pw.thenN (Cw.out ?_)
      refine Cw.condT rfl ?_
      refine Cw.seq ?_
      refine Cw.region ?_
      refine Lw.val (Ex.assign rfl) rfl ?_
      refine Lw.val (Ex.assign rfl) rfl ?_
      refine Lw.nil ?_
      refine Pw.thenN (Cw.out ?_)
      refine Cw.ret ?_
      refine Pw.thenR ?_
      refine Pw.blkR ?_
      refine Pw.thenR ?_
      refine Pw.thenR ?_
      refine Pw.blkR ?_
      refine Pw.thenR ?_
      refine Pw.ret2 rfl rfl rfl ?_
      exact ⟨by rw [e], bt hB (bt hw hq)⟩
    intro g
    have g1 := of_decide_eq_false g
    refine Qw.take (dj := 29) rfl rfl ?_
    refine Qw.val (fun w1 hq => Ex.move rfl) rfl ?_
    refine Qw.take (dj := 29) rfl rfl ?_
    refine Qw.val (fun w1 hq => Ex.move rfl) rfl ?_
    refine Qw.take (dj := 29) rfl rfl ?_
    refine Qw.val (fun w1 hq => Ex.idxT st_26 rfl rfl (Sl.bs (by assumption) hq) _ rfl (by omega)) rfl ?_
    refine Qw.take (dj := 29) rfl rfl ?_
    refine Qw.val (fun w1 hq => Ex.ldT (ag_3 _) rfl (Sl.bs (by assumption) hq) (by omega)) rfl ?_
    refine Qw.take (dj := 29) rfl rfl ?_
    refine Qw.val (fun w1 hq => Ex.move rfl) rfl ?_
    refine Qw.take (dj := 29) rfl rfl ?_
    refine Qw.val (fun w1 hq => Ex.move rfl) rfl ?_
    refine Qw.take (dj := 29) rfl rfl ?_
    refine Qw.val (fun w1 hq => Ex.idxT st_26 rfl rfl (Sl.bs (by assumption) hq) _ rfl (by omega)) rfl ?_
    refine Qw.take (dj := 29) rfl rfl ?_
    refine Qw.val (fun w1 hq => Ex.ldT (ag_3 _) rfl (Sl.bs (by assumption) hq) (by omega)) rfl ?_
    refine Qw.take (dj := 29) rfl rfl ?_
    refine Qw.val (fun w1 hq => Ex.geq rfl rfl) rfl ?_
    refine Qw.val (fun w1 hq => Ex.pickF rfl rfl) rfl ?_
    refine Qw.nil (fun w2 hq => ?_)
    refine Pw.thenN (Cw.out ?_)
    have hw2 := bt hw hq
    refine Cw.cond rfl ?_ ?_
    · intro g
      have g' := of_decide_eq_true g
      have e := index_no (s := s) (t := t) (.inr (by rw [hid, decide_eq_false (show ¬ t.getD i default < s.getD i default by omega), Bool.and_false]; rfl))
      refine Cw.seq ?_
      refine Cw.region ?_
      refine Lw.val (Ex.assign rfl) rfl ?_
      refine Lw.val (Ex.assign rfl) rfl ?_
      refine Lw.nil ?_
      refine Pw.thenN (Cw.out ?_)
      refine Cw.ret ?_
      refine Pw.thenR ?_
      refine Pw.blkR ?_
      refine Pw.thenR ?_
      refine Pw.thenR ?_
      refine Pw.blkR ?_
      refine Pw.thenR ?_
      refine Pw.ret2 rfl rfl rfl ?_
      exact ⟨by rw [e], bt hB hw2⟩
    intro g
    have g2 := of_decide_eq_false g
    have hlt := hor_lt hi' hn (a := t.getD i default) (by omega)
    have hp4 := prod_four (s := s.take (i + 1)) (fun x hx => hok.2.1 x (List.mem_of_mem_take hx)) (by rw [List.length_take]; omega)
    have hu2 := hu.bs hw2
    have hv2 := hv.bs hw2
    have hid' : Shapes.inn (s.drop (i + 1)) (t.drop (i + 1)) = Shapes.inn s t := by
      rw [hid, decide_eq_true (show 0 ≤ t.getD i default by omega), decide_eq_true (show t.getD i default < s.getD i default by omega)]; rfl
    clear hq
    refine Cw.skip ?_
    refine Pw.thenN (Cw.out ?_)
    refine Cw.quiet mixed (by kernel_rfl) ?_
    refine Qw.val (fun w1 hq => Ex.move rfl) rfl ?_
    refine Qw.val (fun w1 hq => Ex.move rfl) rfl ?_
    refine Qw.val (fun w1 hq => Ex.move rfl) rfl ?_
    refine Qw.val (fun w1 hq => Ex.idxT st_26 rfl rfl (Sl.bs (by assumption) hq) _ rfl (by omega)) rfl ?_
    refine Qw.val (fun w1 hq => Ex.ldT (ag_3 _) rfl (Sl.bs (by assumption) hq) (by omega)) rfl ?_
    refine Qw.val (fun w1 hq => Ex.mulI rfl rfl (by omega)) rfl ?_
    refine Qw.val (fun w1 hq => Ex.move rfl) rfl ?_
    refine Qw.val (fun w1 hq => Ex.move rfl) rfl ?_
    refine Qw.val (fun w1 hq => Ex.idxT st_26 rfl rfl (Sl.bs (by assumption) hq) _ rfl (by omega)) rfl ?_
    refine Qw.val (fun w1 hq => Ex.ldT (ag_3 _) rfl (Sl.bs (by assumption) hq) (by omega)) rfl ?_
    refine Qw.val (fun w1 hq => Ex.addI rfl rfl (by omega)) rfl ?_
    refine Qw.val (fun w1 hq => Ex.assign rfl) rfl ?_
    refine Qw.nil (fun w3 hq => ?_)
    refine Pw.blkN ?_
    refine Pw.thenN (Cw.out ?_)
    refine Cw.region ?_
    refine Lw.val (Ex.move rfl) rfl ?_
    refine Lw.val (Ex.addI rfl rfl (by omega)) rfl ?_
    refine Lw.val (Ex.assign rfl) rfl ?_
    refine Lw.nil ?_
    exact Pw.thenN (Pw.next ((i + 1, n * s.getD i default + t.getD i default)) ⟨rfl, rfl, rfl, rfl, rfl, rfl, trivial⟩ (⟨hi', ⟨hlt.2.1, hlt.2.2⟩, hor hi' hl hx, hid', bt hw2 hq⟩) (by simp only; omega))
  intro h
  have hi' : i = s.length := by simp at h; omega
  subst hi'
  have e := index_yes ks (by rw [← hj, List.drop_length, ← hl, List.drop_length]; rfl)
  have e2 : n = Shapes.idx s t := by
    rw [← hx, List.drop_length]
    simp [Shapes.prod, Shapes.idx]
  refine Cw.exit ?_
  refine Pw.thenE ?_
  refine Pw.thenE ?_
  refine Pw.blkHit ?_
  refine Pw.thenN (Cw.out ?_)
  refine Cw.seq ?_
  refine Cw.region ?_
  refine Lw.val (Ex.move rfl) rfl ?_
  refine Lw.val (Ex.assign rfl) rfl ?_
  refine Lw.val (Ex.assign rfl) rfl ?_
  refine Lw.nil ?_
  refine Pw.thenN (Cw.out ?_)
  refine Cw.ret ?_
  refine Pw.ret2 rfl rfl rfl ?_
  exact ⟨by rw [e, e2], bt hB hw⟩

theorem bk_set {f l : List Int} {m : Nat} (hf : f.length = l.length) (h : m < l.length) : (f.take (m + 1) ++ l.drop (m + 1)).set m (l.getD m default) = f.take m ++ l.drop m := by
  apply List.ext_getElem (by simp; omega)
  intro j h1 h2
  have h3 : (f.take m).length = m := by simp; omega
  have h4 : (f.take (m + 1)).length = m + 1 := by simp; omega
  rw [List.getElem_set]
  split
  · rename_i e
    subst e
    rw [List.getElem_append_right (by omega)]
    simp [h3, h]
  · rename_i e
    by_cases h5 : j < m
    · rw [List.getElem_append_left (by omega), List.getElem_append_left (by omega)]
      simp
    · rw [List.getElem_append_right (by omega), List.getElem_append_right (by omega)]
      simp only [List.getElem_drop, h3, h4]
      congr 1
      omega
theorem rat_o (s : List Int) (u : Value) (i : Int) (W : World) (hu : SlT (Value.int .i64) W u s) :
    Fnc Tryz.prog 39 [u, .int .i64 i] W (fun r w' => Below W.heap.size W w' ∧ ∃ x, r = .tuple #[x, .int .i64 (Shapes.ate s i)] ∧ w'.ownsRow W.heap.size 3 1 x (Shapes.atl s i).length ((Shapes.atl s i).map (Value.int .i64))) := by
  have hB := Below.refl W.heap.size W
  have hsz := Shapes.size_le s
  refine Fnc.enter (n := 47) Tryz.func39 (by kernel_rfl) rfl rfl rfl ?_
  refine Cw.seq ?_
  refine Cw.region ?_
  refine Lw.val (Ex.assign rfl) rfl ?_
  refine Lw.val (Ex.assign rfl) rfl ?_
  refine Lw.nil ?_
  refine Pw.thenN (Cw.out ?_)
  refine Cw.seq ?_
  refine Cw.seq ?_
  refine Cw.region ?_
  refine Lw.val (Ex.move rfl) rfl ?_
  refine Lw.callF rfl rfl (rcheck_c u s _ hu) ?_
  rintro _ w ⟨rfl, hn⟩
  replace hB := hB.bs hn
  replace hu := hu.bs hn
  clear hn
  refine Lw.val (Ex.not rfl) rfl ?_
  refine Lw.val (Ex.move rfl) rfl ?_
  refine Lw.part 11 rfl ?_ ?_
  · intro g
    have e : ¬ (0 ≤ i ∧ i < Shapes.size s) := by rw [Shapes.size_no (by simpa using g)]; omega
    refine Lw.pass (dj := 11) rfl rfl rfl rfl ?_
    refine Lw.pass (dj := 11) rfl rfl rfl rfl ?_
    refine Lw.val (Ex.pickT rfl rfl) rfl ?_
    refine Lw.val (Ex.move rfl) rfl ?_
    refine Lw.pass (dj := 15) rfl rfl rfl rfl ?_
    refine Lw.pass (dj := 15) rfl rfl rfl rfl ?_
    refine Lw.pass (dj := 15) rfl rfl rfl rfl ?_
    refine Lw.pass (dj := 15) rfl rfl rfl rfl ?_
    refine Lw.val (Ex.pickT rfl rfl) rfl ?_
    refine Lw.nil ?_
    refine Pw.thenN (Cw.out ?_)
    refine Cw.condT rfl ?_
    refine Cw.seq ?_
    refine Cw.region ?_
    refine Lw.val (Ex.assign rfl) rfl ?_
    refine Lw.val (Ex.assign rfl) rfl ?_
    refine Lw.nil ?_
    refine Pw.thenN (Cw.out ?_)
    refine Cw.ret ?_
    refine Pw.thenR ?_
    refine Pw.ret2 rfl rfl rfl ?_
    exact ⟨hB, _, by rw [Shapes.ate, if_neg e], by rw [Shapes.atl, if_neg e]; exact ⟨rfl, .inl ⟨rfl, rfl⟩⟩⟩
  intro g
  have ks : Shapes.ok s = true := by simpa using g
  refine Lw.take (dj := 11) rfl rfl ?_
  refine Lw.val (Ex.move rfl) rfl ?_
  refine Lw.take (dj := 11) rfl rfl ?_
  refine Lw.val (Ex.lss rfl rfl) rfl ?_
  refine Lw.val (Ex.pickF rfl rfl) rfl ?_
  refine Lw.val (Ex.move rfl) rfl ?_
  refine Lw.part 15 rfl ?_ ?_
  · intro g
    have e : ¬ (0 ≤ i ∧ i < Shapes.size s) := by have := of_decide_eq_true g; omega
    refine Lw.pass (dj := 15) rfl rfl rfl rfl ?_
    refine Lw.pass (dj := 15) rfl rfl rfl rfl ?_
    refine Lw.pass (dj := 15) rfl rfl rfl rfl ?_
    refine Lw.pass (dj := 15) rfl rfl rfl rfl ?_
    refine Lw.val (Ex.pickT rfl rfl) rfl ?_
    refine Lw.nil ?_
    refine Pw.thenN (Cw.out ?_)
    refine Cw.condT rfl ?_
    refine Cw.seq ?_
    refine Cw.region ?_
    refine Lw.val (Ex.assign rfl) rfl ?_
    refine Lw.val (Ex.assign rfl) rfl ?_
    refine Lw.nil ?_
    refine Pw.thenN (Cw.out ?_)
    refine Cw.ret ?_
    refine Pw.thenR ?_
    refine Pw.ret2 rfl rfl rfl ?_
    exact ⟨hB, _, by rw [Shapes.ate, if_neg e], by rw [Shapes.atl, if_neg e]; exact ⟨rfl, .inl ⟨rfl, rfl⟩⟩⟩
  intro g
  have g1 := of_decide_eq_false g
  refine Lw.take (dj := 15) rfl rfl ?_
  refine Lw.val (Ex.move rfl) rfl ?_
  refine Lw.take (dj := 15) rfl rfl ?_
  refine Lw.val (Ex.move rfl) rfl ?_
  refine Lw.take (dj := 15) rfl rfl ?_
  refine Lw.callF rfl rfl (rsize_c u s _ hu) ?_
  rintro _ w ⟨rfl, hn⟩
  replace hB := hB.bs hn
  replace hu := hu.bs hn
  clear hn
  refine Lw.take (dj := 15) rfl rfl ?_
  refine Lw.val (Ex.geq rfl rfl) rfl ?_
  refine Lw.val (Ex.pickF rfl rfl) rfl ?_
  refine Lw.nil ?_
  refine Pw.thenN (Cw.out ?_)
  refine Cw.cond rfl ?_ ?_
  · intro g
    have e : ¬ (0 ≤ i ∧ i < Shapes.size s) := by have := of_decide_eq_true g; omega
    refine Cw.seq ?_
    refine Cw.region ?_
    refine Lw.val (Ex.assign rfl) rfl ?_
    refine Lw.val (Ex.assign rfl) rfl ?_
    refine Lw.nil ?_
    refine Pw.thenN (Cw.out ?_)
    refine Cw.ret ?_
    refine Pw.thenR ?_
    refine Pw.ret2 rfl rfl rfl ?_
    exact ⟨hB, _, by rw [Shapes.ate, if_neg e], by rw [Shapes.atl, if_neg e]; exact ⟨rfl, .inl ⟨rfl, rfl⟩⟩⟩
  intro g
  have e : 0 ≤ i ∧ i < Shapes.size s := by have := of_decide_eq_false g; omega
  have hok := (Shapes.ok_iff s).1 ks
  refine Cw.skip ?_
  refine Pw.thenN (Cw.out ?_)
  refine Cw.seq ?_
  refine Cw.region ?_
  refine Lw.val (Ex.move rfl) rfl ?_
  refine Lw.val (Ex.lenS st_26 rfl (by assumption)) rfl ?_
  refine Lw.valW (Xw.make st_26 it_3 rfl rfl rfl (Nat.le_refl _) (by omega) (by omega)) rfl ?_
  rintro x w1 ⟨ho, hx, hn, -⟩
  obtain ⟨pl, hpl⟩ : ∃ pl, pl = Shapes.place s i := ⟨_, rfl⟩
  obtain ⟨f, hf⟩ : ∃ f, f = List.replicate s.length (0 : Int) := ⟨_, rfl⟩
  have lp : pl.length = s.length := by rw [hpl, Shapes.place_length]
  have lf : f.length = pl.length := by rw [hf, List.length_replicate, lp]
  have hfl : (List.replicate s.length [Value.int .i64 0]).flatten = f.map (Value.int .i64) := by
    rw [hf]
    generalize s.length = k
    induction k with
    | zero => rfl
    | succ k ih => simp [List.replicate_succ]
  rw [hfl] at ho
  have e1 : i / Shapes.prod (s.drop s.length) = i := by rw [List.drop_length]; simp [Shapes.prod]
  have hu1 := hu.bs hn
  refine Lw.val (Ex.assign rfl) rfl ?_
  refine Lw.nil ?_
  refine Pw.thenN (Cw.out ?_)
  refine Cw.seq ?_
  refine Cw.seq ?_
  refine Cw.region ?_
  refine Lw.val (Ex.move rfl) rfl ?_
  refine Lw.val (Ex.lenS st_26 rfl (by assumption)) rfl ?_
  refine Lw.val (Ex.subI rfl rfl (by omega)) rfl ?_
  refine Lw.val (Ex.assign rfl) rfl ?_
  refine Lw.nil ?_
  refine Pw.thenN (Cw.out ?_)
  refine Cw.block ?_
  refine Cw.know 1 (v' := .int .i64 (i / Shapes.prod (s.drop s.length))) rfl (by rw [e1]) ?_
  refine Cw.loop (S := Nat) (fun m => [(0, u), (1, .int .i64 (i / Shapes.prod (s.drop m))), (4, .slice none 0 0), (5, .int .i64 0), (6, x), (7, .int .i64 ((m : Int) - 1))]) (fun m w' => m ≤ s.length ∧ w'.ownsRow w.heap.size 3 1 x s.length ((f.take m ++ pl.drop m).map (Value.int .i64)) ∧ Below w.heap.size w w') (fun m => m) (s.length) ⟨rfl, rfl, rfl, rfl, rfl, rfl, trivial⟩ ?_ ?_
  · exact ⟨Nat.le_refl _, by rw [← lp, List.drop_length, List.append_nil, ← lf, List.take_length, lf, lp]; exact ho, hn⟩
  clear ho
  rintro m w2 ⟨hm, ho2, hw⟩
  have hu2 := hu.bs hw
  have hx2 := own_sl ho2
  refine Cw.seq ?_
  refine Cw.seq ?_
  refine Cw.region ?_
  refine Lw.val (Ex.move rfl) rfl ?_
  refine Lw.val (Ex.geq rfl rfl) rfl ?_
  refine Lw.nil ?_
  refine Pw.thenN (Cw.out ?_)
  refine Cw.cond rfl ?_ ?_
  · intro h
    obtain ⟨q, rfl⟩ : ∃ q, m = q + 1 := ⟨m - 1, by simp at h; omega⟩
    have hq' : q < s.length := by omega
    have hgd := hok.2.1 s[q] (List.getElem_mem hq')
    have hgq : s.getD q default = s[q] := by simp [hq']
    have hpr := Shapes.ok_prod ks (q + 1)
    have hdn := Int.ediv_nonneg e.1 (show 0 ≤ Shapes.prod (s.drop (q + 1)) by omega)
    have hdl := Int.ediv_le_self (Shapes.prod (s.drop (q + 1))) e.1
    have hpl2 := Shapes.place_at (i := i) hq'
    rw [← hpl] at hpl2
    have hset := bk_set lf (show q < pl.length by omega)
    have hdd : i / Shapes.prod (s.drop (q + 1)) / s.getD q default = i / Shapes.prod (s.drop q) := by rw [Shapes.prod_drop hq', Int.ediv_ediv_of_nonneg (by omega), Int.mul_comm]
    refine Cw.skip ?_
    refine Pw.thenN (Cw.out ?_)
    refine Cw.seq ?_
    refine Cw.block ?_
    refine Cw.seq ?_
    refine Cw.region ?_
    refine Lw.val (Ex.move rfl) rfl ?_
    refine Lw.val (Ex.move rfl) rfl ?_
    refine Lw.val (Ex.move rfl) rfl ?_
    refine Lw.val (Ex.move rfl) rfl ?_
    refine Lw.val (Ex.move rfl) rfl ?_
    refine Lw.val (Ex.idxS st_26 rfl rfl hu2.shp q (by omega) hq') rfl ?_
    refine Lw.val (Ex.ldT (ag_3 _) rfl (by assumption) (by omega)) rfl ?_
    refine Lw.val ((Ex.remI rfl rfl hdn (by omega)).as (congrArg (Value.int .i64) hpl2.symm)) rfl ?_
    refine Lw.val (Ex.idxS st_26 rfl rfl hx2.shp q (by omega) hq') rfl ?_
    refine Lw.unit (Xu.stO (sz_3 _) rfl rfl rfl ho2 (by simp; omega)) ?_
    rintro w3 ⟨ho3, hg3, -⟩
    rw [← List.map_set, hset] at ho3
    have hw3 : Below w.heap.size w w3 := hw.grown hg3 (below_size hw) (fun b e => (own_block ho2 b e).1)
    have hu3 := hu.bs hw3
    refine Lw.nil ?_
    refine Pw.thenN (Cw.out ?_)
    refine Cw.region ?_
    refine Lw.val (Ex.move rfl) rfl ?_
    refine Lw.val (Ex.move rfl) rfl ?_
    refine Lw.val (Ex.move rfl) rfl ?_
    refine Lw.val (Ex.idxS st_26 rfl rfl hu3.shp q (by omega) hq') rfl ?_
    refine Lw.val (Ex.ldT (ag_3 _) rfl (by assumption) (by omega)) rfl ?_
    refine Lw.val ((Ex.quoI rfl rfl (by omega) (by omega)).as (congrArg (Value.int .i64) hdd)) rfl ?_
    refine Lw.val (Ex.assign rfl) rfl ?_
    refine Lw.nil ?_
    refine Pw.blkN ?_
    refine Pw.thenN (Cw.out ?_)
    refine Cw.region ?_
    refine Lw.val (Ex.move rfl) rfl ?_
    refine Lw.val (Ex.subI rfl rfl (by omega)) rfl ?_
    refine Lw.val (Ex.assign rfl) rfl ?_
    refine Lw.nil ?_
    exact Pw.thenN (Pw.next (q) ⟨rfl, rfl, rfl, rfl, rfl, (congrArg (fun z => some (Value.int .i64 z)) (by omega)), trivial⟩ (⟨by omega, ho3, hw3⟩) (by omega))
  intro h
  have hm' : m = 0 := by simp at h; omega
  subst hm'
  rw [List.take_zero, List.nil_append, List.drop_zero, hpl] at ho2
  refine Cw.exit ?_
  refine Pw.thenE ?_
  refine Pw.thenE ?_
  refine Pw.blkHit ?_
  refine Pw.thenN (Cw.out ?_)
  refine Cw.seq ?_
  refine Cw.region ?_
  refine Lw.val (Ex.move rfl) rfl ?_
  refine Lw.val (Ex.assign rfl) rfl ?_
  refine Lw.val (Ex.assign rfl) rfl ?_
  refine Lw.nil ?_
  refine Pw.thenN (Cw.out ?_)
  refine Cw.ret ?_
  refine Pw.ret2 rfl rfl rfl ?_
  exact ⟨bt hB hw, x, by rw [Shapes.ate, if_pos e], by rw [Shapes.atl, if_pos e]; have := own_mono ho2 (below_size hB); rwa [← Shapes.place_length s i] at this⟩
theorem rat_c (s : List Int) (u : Value) (i : Int) (W : World) (hu : SlT (Value.int .i64) W u s) :
    Fnc Tryz.prog 39 [u, .int .i64 i] W (fun r w' => Below W.heap.size W w' ∧ ∃ x, r = .tuple #[x, .int .i64 (Shapes.ate s i)] ∧ SlT (Value.int .i64) w' x (Shapes.atl s i)) :=
  (rat_o s u i W hu).mono fun _ _ ⟨h1, x, h2, h3⟩ => ⟨h1, x, h2, own_slT h3⟩
end Go.Proofs.YtkhndfaampkbnaaGreatDoor
