/- Contracts: the document's answers on shapes, tensors, maths. -/
import Derived.Test.YtdliencelkdibaaGreatDoorTensorsLaw
import Derived.Test.YtdliencelkdibaaGreatDoorBook
namespace Go.Proofs.YtdliencelkdibaaGreatDoor
open Go Go.Dd Go.RowKit
set_option maxRecDepth 100000

theorem prod_take {s : List Int} {i : Nat} (h : i < s.length) : Shapes.prod (s.take (i + 1)) = Shapes.prod (s.take i) * s.getD i default := by
  rw [List.take_succ_eq_append_getElem h, Shapes.prod_append]
  simp [Shapes.prod, h]
theorem good_take {s : List Int} {i : Nat} (h : i < s.length) (h1 : Shapes.good (s.take i)) (h2 : 1 ≤ s.getD i default ∧ s.getD i default ≤ 64) : Shapes.good (s.take (i + 1)) := by
  rw [List.take_succ_eq_append_getElem h, Shapes.good_append]
  refine ⟨h1, fun x hx => ?_⟩
  have : x = s.getD i default := by simpa [h] using hx
  rw [this]; exact h2
theorem prod_four : ∀ {s : List Int}, Shapes.good s → s.length ≤ 4 → 1 ≤ Shapes.prod s ∧ Shapes.prod s ≤ 16777216
  | s, hg, hl => by
    have key : ∀ (s : List Int), Shapes.good s → Shapes.prod s ≤ 64 ^ s.length := by
      intro s
      induction s with
      | nil => intro _; simp [Shapes.prod]
      | cons x s ih =>
        intro h
        have h1 := (Shapes.good_cons.1 h).1
        have h2 := ih (Shapes.good_cons.1 h).2
        have h3 := Shapes.prod_pos (Shapes.good_cons.1 h).2
        have := Int.mul_le_mul h1.2 h2 (by omega) (by omega)
        rw [List.length_cons, Int.pow_succ, Int.mul_comm ((64 : Int) ^ s.length)]
        exact this
    refine ⟨Shapes.prod_pos hg, Int.le_trans (key s hg) ?_⟩
    have : s.length = 0 ∨ s.length = 1 ∨ s.length = 2 ∨ s.length = 3 ∨ s.length = 4 := by omega
    rcases this with h | h | h | h | h <;> rw [h] <;> decide

theorem rep_zero (n : Nat) : (List.replicate n [Value.int .i32 0]).flatten = (List.replicate n 0#32).map i32 := by
  induction n with
  | zero => rfl
  | succ n ih => simp [List.replicate_succ, i32]
theorem rcheck_c (u : Value) (s : List Int) (w : World) (hu : SlT (Value.int .i64) w u s) : Fnc Tryz.prog 28 [u] w (fun r w' => r = .bool (Shapes.ok s) ∧ Below w.heap.size w w') := by
  have no1 : (s.length < 1 ∨ 4 < s.length) → Shapes.ok s = false := fun h => by
    cases hk : Shapes.ok s with
    | false => rfl
    | true => have := (Shapes.ok_iff s).1 hk; omega
  refine Fnc.enter (n := 39) Tryz.func28 (by kernel_rfl) rfl rfl rfl ?_
  refine Cw.seq ?_
  refine Cw.region ?_
  refine Lw.val (Ex.assign rfl) rfl ?_
  refine Lw.nil ?_
  refine Pw.thenN (Cw.out ?_)
  refine Cw.seq ?_
  refine Cw.seq ?_
  refine Cw.region ?_
  refine Lw.val (Ex.move rfl) rfl ?_
  refine Lw.val (Ex.lenS st_22 rfl (by assumption)) rfl ?_
  refine Lw.val (Ex.lss rfl rfl) rfl ?_
  refine Lw.val (Ex.move rfl) rfl ?_
  refine Lw.part 8 rfl ?_ ?_
  · intro g
    refine Lw.pass (dj := 8) rfl rfl rfl rfl ?_
    refine Lw.pass (dj := 8) rfl rfl rfl rfl ?_
    refine Lw.pass (dj := 8) rfl rfl rfl rfl ?_
    refine Lw.val (Ex.pickT rfl rfl) rfl ?_
    refine Lw.nil ?_
    refine Pw.thenN (Cw.out ?_)
    refine Cw.condT rfl ?_
    refine Cw.seq ?_
    refine Cw.region ?_
    refine Lw.val (Ex.assign rfl) rfl ?_
    refine Lw.nil ?_
    refine Pw.thenN (Cw.out ?_)
    refine Cw.ret ?_
    refine Pw.thenR ?_
    refine Pw.ret1 rfl rfl ?_
    exact ⟨by rw [no1 (.inl (by have := of_decide_eq_true g; omega))], Below.refl _ _⟩
  intro g
  have g1 := of_decide_eq_false g
  refine Lw.take (dj := 8) rfl rfl ?_
  refine Lw.val (Ex.move rfl) rfl ?_
  refine Lw.take (dj := 8) rfl rfl ?_
  refine Lw.val (Ex.lenS st_22 rfl (by assumption)) rfl ?_
  refine Lw.take (dj := 8) rfl rfl ?_
  refine Lw.val (Ex.gtr rfl rfl) rfl ?_
  refine Lw.val (Ex.pickF rfl rfl) rfl ?_
  refine Lw.nil ?_
  refine Pw.thenN (Cw.out ?_)
  refine Cw.cond rfl ?_ ?_
  · intro g
    refine Cw.seq ?_
    refine Cw.region ?_
    refine Lw.val (Ex.assign rfl) rfl ?_
    refine Lw.nil ?_
    refine Pw.thenN (Cw.out ?_)
    refine Cw.ret ?_
    refine Pw.thenR ?_
    refine Pw.ret1 rfl rfl ?_
    exact ⟨by rw [no1 (.inr (by have := of_decide_eq_true g; omega))], Below.refl _ _⟩
  intro g
  have g2 := of_decide_eq_false g
  have hl : 1 ≤ s.length ∧ s.length ≤ 4 := by omega
  refine Cw.skip ?_
  refine Pw.thenN (Cw.out ?_)
  refine Cw.seq ?_
  refine Cw.region ?_
  refine Lw.val (Ex.assign rfl) rfl ?_
  refine Lw.nil ?_
  refine Pw.thenN (Cw.out ?_)
  refine Cw.seq ?_
  refine Cw.seq ?_
  refine Cw.region ?_
  refine Lw.val (Ex.assign rfl) rfl ?_
  refine Lw.nil ?_
  refine Pw.thenN (Cw.out ?_)
  refine Cw.block ?_
  refine Cw.loop (S := Nat) (fun i => [(0, u), (2, .bool false), (3, .int .i64 (Shapes.prod (s.take i))), (4, .int .i64 (i : Int))]) (fun i w' => i ≤ s.length ∧ Shapes.good (s.take i) ∧ w' = w) (fun i => s.length - i) (0) ⟨rfl, rfl, rfl, rfl, trivial⟩ ?_ ?_
  · exact ⟨by omega, by simp [Shapes.good], rfl⟩
  rintro i w1 ⟨hi, hg, rfl⟩
  have hp := prod_four hg (by rw [List.length_take]; omega)
  refine Cw.seq ?_
  refine Cw.seq ?_
  refine Cw.region ?_
  refine Lw.val (Ex.move rfl) rfl ?_
  refine Lw.val (Ex.move rfl) rfl ?_
  refine Lw.val (Ex.lenS st_22 rfl (by assumption)) rfl ?_
  refine Lw.val (Ex.lss rfl rfl) rfl ?_
  refine Lw.nil ?_
  refine Pw.thenN (Cw.out ?_)
  refine Cw.cond rfl ?_ ?_
  · intro h
    have hi' : i < s.length := by simp at h; omega
    have bad : (s.getD i default < 1 ∨ 64 < s.getD i default) → Shapes.ok s = false := fun h => by
      cases hk : Shapes.ok s with
      | false => rfl
      | true =>
        have := ((Shapes.ok_iff s).1 hk).2.1 s[i] (List.getElem_mem hi')
        simp [hi'] at h
        omega
    refine Cw.skip ?_
    refine Pw.thenN (Cw.out ?_)
    refine Cw.seq ?_
    refine Cw.block ?_
    refine Cw.seq ?_
    refine Cw.seq ?_
    refine Cw.region ?_
    refine Lw.val (Ex.move rfl) rfl ?_
    refine Lw.val (Ex.move rfl) rfl ?_
    refine Lw.val (Ex.idxT st_22 rfl rfl (by assumption) _ rfl (by omega)) rfl ?_
    refine Lw.val (Ex.ldT (ag_3 _) rfl (by assumption) (by omega)) rfl ?_
    refine Lw.val (Ex.lss rfl rfl) rfl ?_
    refine Lw.val (Ex.move rfl) rfl ?_
    refine Lw.part 24 rfl ?_ ?_
    · intro g
      refine Lw.pass (dj := 24) rfl rfl rfl rfl ?_
      refine Lw.pass (dj := 24) rfl rfl rfl rfl ?_
      refine Lw.pass (dj := 24) rfl rfl rfl rfl ?_
      refine Lw.pass (dj := 24) rfl rfl rfl rfl ?_
      refine Lw.pass (dj := 24) rfl rfl rfl rfl ?_
      refine Lw.val (Ex.pickT rfl rfl) rfl ?_
      refine Lw.nil ?_
      refine Pw.thenN (Cw.out ?_)
      refine Cw.condT rfl ?_
      refine Cw.seq ?_
      refine Cw.region ?_
      refine Lw.val (Ex.assign rfl) rfl ?_
      refine Lw.nil ?_
      refine Pw.thenN (Cw.out ?_)
      refine Cw.ret ?_
      refine Pw.thenR ?_
      refine Pw.blkR ?_
      refine Pw.thenR ?_
      refine Pw.thenR ?_
      refine Pw.blkR ?_
      refine Pw.thenR ?_
      refine Pw.ret1 rfl rfl ?_
      exact ⟨by rw [bad (.inl (of_decide_eq_true g))], Below.refl _ _⟩
    intro g
    have g3 := of_decide_eq_false g
    refine Lw.take (dj := 24) rfl rfl ?_
    refine Lw.val (Ex.move rfl) rfl ?_
    refine Lw.take (dj := 24) rfl rfl ?_
    refine Lw.val (Ex.move rfl) rfl ?_
    refine Lw.take (dj := 24) rfl rfl ?_
    refine Lw.val (Ex.idxT st_22 rfl rfl (by assumption) _ rfl (by omega)) rfl ?_
    refine Lw.take (dj := 24) rfl rfl ?_
    refine Lw.val (Ex.ldT (ag_3 _) rfl (by assumption) (by omega)) rfl ?_
    refine Lw.take (dj := 24) rfl rfl ?_
    refine Lw.val (Ex.gtr rfl rfl) rfl ?_
    refine Lw.val (Ex.pickF rfl rfl) rfl ?_
    refine Lw.nil ?_
    refine Pw.thenN (Cw.out ?_)
    refine Cw.cond rfl ?_ ?_
    · intro g
      refine Cw.seq ?_
      refine Cw.region ?_
      refine Lw.val (Ex.assign rfl) rfl ?_
      refine Lw.nil ?_
      refine Pw.thenN (Cw.out ?_)
      refine Cw.ret ?_
      refine Pw.thenR ?_
      refine Pw.blkR ?_
      refine Pw.thenR ?_
      refine Pw.thenR ?_
      refine Pw.blkR ?_
      refine Pw.thenR ?_
      refine Pw.ret1 rfl rfl ?_
      exact ⟨by rw [bad (.inr (of_decide_eq_true g))], Below.refl _ _⟩
    intro g
    have g4 := of_decide_eq_false g
    have hx : 1 ≤ s.getD i default ∧ s.getD i default ≤ 64 := by omega
    have hg' := good_take hi' hg hx
    have hp' := prod_four hg' (by rw [List.length_take]; omega)
    rw [prod_take hi'] at hp'
    refine Cw.skip ?_
    refine Pw.thenN (Cw.out ?_)
    refine Cw.region ?_
    refine Lw.val (Ex.move rfl) rfl ?_
    refine Lw.val (Ex.move rfl) rfl ?_
    refine Lw.val (Ex.move rfl) rfl ?_
    refine Lw.val (Ex.idxT st_22 rfl rfl (by assumption) _ rfl (by omega)) rfl ?_
    refine Lw.val (Ex.ldT (ag_3 _) rfl (by assumption) (by omega)) rfl ?_
    refine Lw.val (Ex.mulI rfl rfl (by omega)) rfl ?_
    refine Lw.val (Ex.assign rfl) rfl ?_
    refine Lw.nil ?_
    refine Pw.blkN ?_
    refine Pw.thenN (Cw.out ?_)
    refine Cw.region ?_
    refine Lw.val (Ex.move rfl) rfl ?_
    refine Lw.val (Ex.addI rfl rfl (by omega)) rfl ?_
    refine Lw.val (Ex.assign rfl) rfl ?_
    refine Lw.nil ?_
    exact Pw.thenN (Pw.next (i + 1) ⟨rfl, rfl, (by rw [prod_take hi']; rfl), rfl, trivial⟩ (⟨hi', hg', rfl⟩) (by omega))
  intro h
  have hi' : i = s.length := by simp at h; omega
  subst hi'
  rw [List.take_length] at hg hp
  have e : decide (Shapes.prod (s.take s.length) ≤ 4096) = Shapes.ok s := by
    rw [List.take_length]
    cases hk : Shapes.ok s with
    | true => exact decide_eq_true ((Shapes.ok_iff s).1 hk).2.2
    | false =>
      refine decide_eq_false fun h => ?_
      have := (Shapes.ok_iff s).2 ⟨hl, hg, h⟩
      rw [hk] at this; cases this
  refine Cw.exit ?_
  refine Pw.thenE ?_
  refine Pw.thenE ?_
  refine Pw.blkHit ?_
  refine Pw.thenN (Cw.out ?_)
  refine Cw.seq ?_
  refine Cw.region ?_
  refine Lw.val (Ex.move rfl) rfl ?_
  refine Lw.val (Ex.leq rfl rfl) rfl ?_
  refine Lw.val (Ex.assign rfl) rfl ?_
  refine Lw.nil ?_
  refine Pw.thenN (Cw.out ?_)
  refine Cw.ret ?_
  refine Pw.ret1 rfl rfl ?_
  exact ⟨by rw [← e], Below.refl _ _⟩

theorem rsize_c (u : Value) (s : List Int) (w : World) (hu : SlT (Value.int .i64) w u s) : Fnc Tryz.prog 82 [u] w (fun r w' => r = .int .i64 (Shapes.size s) ∧ Below w.heap.size w w') := by
  refine Fnc.enter (n := 21) Tryz.func82 (by kernel_rfl) rfl rfl rfl ?_
  refine Cw.seq ?_
  refine Cw.region ?_
  refine Lw.val (Ex.assign rfl) rfl ?_
  refine Lw.nil ?_
  refine Pw.thenN (Cw.out ?_)
  refine Cw.seq ?_
  refine Cw.seq ?_
  refine Cw.region ?_
  refine Lw.val (Ex.move rfl) rfl ?_
  refine Lw.callF rfl rfl (rcheck_c u s w hu) ?_
  rintro _ w1 ⟨rfl, hn⟩
  have hu := hu.bs hn
  refine Lw.val (Ex.not rfl) rfl ?_
  refine Lw.nil ?_
  refine Pw.thenN (Cw.out ?_)
  refine Cw.cond rfl ?_ ?_
  · intro g
    refine Cw.seq ?_
    refine Cw.region ?_
    refine Lw.val (Ex.assign rfl) rfl ?_
    refine Lw.nil ?_
    refine Pw.thenN (Cw.out ?_)
    refine Cw.ret ?_
    refine Pw.thenR ?_
    refine Pw.ret1 rfl rfl ?_
    exact ⟨by rw [Shapes.size_no (by simpa using g)], hn⟩
  intro g
  have hk : Shapes.ok s = true := by simpa using g
  have h3 := (Shapes.ok_iff s).1 hk
  refine Cw.skip ?_
  refine Pw.thenN (Cw.out ?_)
  refine Cw.seq ?_
  refine Cw.region ?_
  refine Lw.val (Ex.assign rfl) rfl ?_
  refine Lw.nil ?_
  refine Pw.thenN (Cw.out ?_)
  refine Cw.seq ?_
  refine Cw.seq ?_
  refine Cw.region ?_
  refine Lw.val (Ex.assign rfl) rfl ?_
  refine Lw.nil ?_
  refine Pw.thenN (Cw.out ?_)
  refine Cw.block ?_
  refine Cw.loop (S := Nat) (fun i => [(0, u), (3, .int .i64 (Shapes.prod (s.take i))), (4, .int .i64 (i : Int))]) (fun i w' => i ≤ s.length ∧ w' = w1) (fun i => s.length - i) (0) ⟨rfl, rfl, rfl, trivial⟩ ?_ ?_
  · exact ⟨by omega, rfl⟩
  rintro i w2 ⟨hi, rfl⟩
  refine Cw.seq ?_
  refine Cw.seq ?_
  refine Cw.region ?_
  refine Lw.val (Ex.move rfl) rfl ?_
  refine Lw.val (Ex.move rfl) rfl ?_
  refine Lw.val (Ex.lenS st_22 rfl (by assumption)) rfl ?_
  refine Lw.val (Ex.lss rfl rfl) rfl ?_
  refine Lw.nil ?_
  refine Pw.thenN (Cw.out ?_)
  refine Cw.cond rfl ?_ ?_
  · intro h
    have hi' : i < s.length := by simp at h; omega
    have hp' := prod_four (s := s.take (i + 1)) (fun x hx => h3.2.1 x (List.mem_of_mem_take hx)) (by rw [List.length_take]; omega)
    rw [prod_take hi'] at hp'
    refine Cw.skip ?_
    refine Pw.thenN (Cw.out ?_)
    refine Cw.seq ?_
    refine Cw.block ?_
    refine Cw.region ?_
    refine Lw.val (Ex.move rfl) rfl ?_
    refine Lw.val (Ex.move rfl) rfl ?_
    refine Lw.val (Ex.move rfl) rfl ?_
    refine Lw.val (Ex.idxT st_22 rfl rfl (by assumption) _ rfl (by omega)) rfl ?_
    refine Lw.val (Ex.ldT (ag_3 _) rfl (by assumption) (by omega)) rfl ?_
    refine Lw.val (Ex.mulI rfl rfl (by omega)) rfl ?_
    refine Lw.val (Ex.assign rfl) rfl ?_
    refine Lw.nil ?_
    refine Pw.blkN ?_
    refine Pw.thenN (Cw.out ?_)
    refine Cw.region ?_
    refine Lw.val (Ex.move rfl) rfl ?_
    refine Lw.val (Ex.addI rfl rfl (by omega)) rfl ?_
    refine Lw.val (Ex.assign rfl) rfl ?_
    refine Lw.nil ?_
    exact Pw.thenN (Pw.next (i + 1) ⟨rfl, (by rw [prod_take hi']; rfl), rfl, trivial⟩ (⟨hi', rfl⟩) (by omega))
  intro h
  have hi' : i = s.length := by simp at h; omega
  subst hi'
  refine Cw.exit ?_
  refine Pw.thenE ?_
  refine Pw.thenE ?_
  refine Pw.blkHit ?_
  refine Pw.thenN (Cw.out ?_)
  refine Cw.seq ?_
  refine Cw.region ?_
  refine Lw.val (Ex.move rfl) rfl ?_
  refine Lw.val (Ex.assign rfl) rfl ?_
  refine Lw.nil ?_
  refine Pw.thenN (Cw.out ?_)
  refine Cw.ret ?_
  refine Pw.ret1 rfl rfl ?_
  exact ⟨by rw [List.take_length, Shapes.size_ok hk], hn⟩

theorem rtcheck_c (x y : Value) (s : List Int) (l : List (BitVec 32)) (w : World) (hx : SlT (Value.int .i64) w x s) (hy : SlT i32 w y l) :
    Fnc Tryz.prog 25 [.agg #[x, y]] w (fun r w' => r = .bool (tok s l) ∧ Below w.heap.size w w') := by
  refine Fnc.enter (n := 15) Tryz.func25 (by kernel_rfl) rfl rfl rfl ?_
  refine Cw.seq ?_
  refine Cw.region ?_
  refine Lw.valW (Xw.box (cs := [x, y]) rfl rfl) rfl ?_
  rintro _ w1 ⟨rfl, hb, hB1, hs1⟩
  have hx1 := hx.bs hB1
  have hy1 := hy.bs hB1
  refine Lw.val (Ex.assign rfl) rfl ?_
  refine Lw.nil ?_
  refine Pw.thenN (Cw.out ?_)
  refine Cw.seq ?_
  refine Cw.quiet mixed (by kernel_rfl) ?_
  refine Qw.val (fun w1 hq => Ex.fieldAddr (q := 0) Tryz.underlying25 rfl (sz_22 _) rfl) rfl ?_
  refine Qw.val (fun w1 hq => Ex.ldB (ag_22 _) rfl (Blk.bs (by assumption) hq) rfl) rfl ?_
  refine Qw.callF rfl rfl (fun w1 hq => (rcheck_c x s w1 (hx1.bs hq)).q hq) ?_
  refine Qw.val (fun w1 hq => Ex.move rfl) rfl ?_
  refine Qw.part 6 rfl ?_ ?_
  · intro g
    refine Qw.take (dj := 6) rfl rfl ?_
    refine Qw.val (fun w1 hq => Ex.fieldAddr (q := 0) Tryz.underlying25 rfl (sz_23 _) rfl) rfl ?_
    refine Qw.take (dj := 6) rfl rfl ?_
    refine Qw.val (fun w1 hq => Ex.ldB (ag_23 _) rfl (Blk.bs (by assumption) hq) rfl) rfl ?_
    refine Qw.take (dj := 6) rfl rfl ?_
    refine Qw.val (fun w1 hq => Ex.lenS st_23 rfl (Sl.bs (by assumption) hq)) rfl ?_
    refine Qw.take (dj := 6) rfl rfl ?_
    refine Qw.val (fun w1 hq => Ex.fieldAddr (q := 0) Tryz.underlying25 rfl (sz_22 _) rfl) rfl ?_
    refine Qw.take (dj := 6) rfl rfl ?_
    refine Qw.val (fun w1 hq => Ex.ldB (ag_22 _) rfl (Blk.bs (by assumption) hq) rfl) rfl ?_
    refine Qw.take (dj := 6) rfl rfl ?_
    refine Qw.callF rfl rfl (fun w1 hq => (rsize_c x s w1 (hx1.bs hq)).q hq) ?_
    refine Qw.take (dj := 6) rfl rfl ?_
    refine Qw.val (fun w1 hq => Ex.eql rfl rfl) rfl ?_
    refine Qw.val (fun w1 hq => Ex.pickT rfl rfl) rfl ?_
    refine Qw.val (fun w1 hq => Ex.assign rfl) rfl ?_
    refine Qw.nil (fun w2 hq => ?_)
    refine Pw.thenN (Cw.out ?_)
    refine Cw.ret ?_
    refine Pw.ret1 rfl rfl ?_
    exact ⟨congrArg Value.bool (by unfold tok; rw [g]; rfl), bt hB1 hq⟩
  · intro g
    refine Qw.pass (dj := 6) rfl rfl rfl rfl ?_
    refine Qw.pass (dj := 6) rfl rfl rfl rfl ?_
    refine Qw.pass (dj := 6) rfl rfl rfl rfl ?_
    refine Qw.pass (dj := 6) rfl rfl rfl rfl ?_
    refine Qw.pass (dj := 6) rfl rfl rfl rfl ?_
    refine Qw.pass (dj := 6) rfl rfl rfl rfl ?_
    refine Qw.pass (dj := 6) rfl rfl rfl rfl ?_
    refine Qw.val (fun w1 hq => Ex.pickF rfl rfl) rfl ?_
    refine Qw.val (fun w1 hq => Ex.assign rfl) rfl ?_
    refine Qw.nil (fun w2 hq => ?_)
    refine Pw.thenN (Cw.out ?_)
    refine Cw.ret ?_
    refine Pw.ret1 rfl rfl ?_
    exact ⟨congrArg Value.bool (by unfold tok; rw [g]; rfl), bt hB1 hq⟩

theorem rnew_c (u : Value) (s : List Int) (W : World) (hu : SlT (Value.int .i64) W u s) :
    Fnc Tryz.prog 26 [u] W (fun r w' => Below W.heap.size W w' ∧ ((Shapes.ok s = true ∧ ∃ x y, r = .tuple #[.agg #[x, y], .int .i64 0] ∧ Made1 W w' x y s (List.replicate (Shapes.size s).toNat 0#32)) ∨ (Shapes.ok s = false ∧ r = .tuple #[.agg #[.slice none 0 0, .slice none 0 0], .int .i64 1]))) := by
  have hB := Below.refl W.heap.size W
  have hsz := Shapes.size_le s
  refine Fnc.enter (n := 14) Tryz.func26 (by kernel_rfl) rfl rfl rfl ?_
  refine Cw.seq ?_
  refine Cw.region ?_
  refine Lw.newA it_25 rfl ?_
  rintro A_r w eA_r b_r hn -
  replace hB := hB.bs hn
  replace hu := hu.bs hn
  clear hn
  refine Lw.val (Ex.assign rfl) rfl ?_
  refine Lw.nil ?_
  refine Pw.thenN (Cw.out ?_)
  refine Cw.seq ?_
  refine Cw.seq ?_
  refine Cw.region ?_
  refine Lw.val (Ex.move rfl) rfl ?_
  refine Lw.callF rfl rfl (rcheck_c u s _ hu) ?_
  rintro _ w ⟨rfl, hn⟩
  replace hB := hB.bs hn
  replace hu := hu.bs hn
  replace b_r := b_r.bs hn
  clear hn
  refine Lw.val (Ex.not rfl) rfl ?_
  refine Lw.nil ?_
  refine Pw.thenN (Cw.out ?_)
  have z := below_size hB
  refine Cw.cond rfl ?_ ?_
  · intro h
    have hno : Shapes.ok s = false := by simpa using h
    refine Cw.seq ?_
    refine Cw.region ?_
    refine Lw.val (Ex.build (vs := []) (cs := [.slice none 0 0, .slice none 0 0]) rfl (by kernel_rfl)) rfl ?_
    refine Lw.unit (Xu.stA (cs := [.slice none 0 0, .slice none 0 0]) rfl rfl rfl rfl rfl b_r rfl) ?_
    rintro w3 ⟨b_r, hg, -⟩
    have hB := hB.grown hg (below_size hB) (by rintro _ ⟨⟩; omega)
    refine Lw.val (Ex.assign rfl) rfl ?_
    refine Lw.nil ?_
    refine Pw.thenN (Cw.out ?_)
    refine Cw.ret ?_
    refine Pw.thenR ?_
    refine Pw.retCT rfl rfl rfl (by assumption) (Tryz.underlying25) rfl rfl rfl ?_
    exact ⟨hB, .inr ⟨hno, rfl⟩⟩
  intro h
  have hok : Shapes.ok s = true := by simpa using h
  have hgd := (Shapes.ok_iff s).1 hok
  refine Cw.skip ?_
  refine Pw.thenN (Cw.out ?_)
  refine Cw.seq ?_
  refine Cw.region ?_
  refine Lw.val (Ex.move rfl) rfl ?_
  refine Lw.valW (Xw.append3 (base := w.heap.size) (k := 0) (xs := []) st_22 it_3 rfl (by decide) rfl rfl ⟨rfl, .inl ⟨rfl, rfl⟩⟩ hu (one_map (fun _ => rfl) _) (by omega) (by omega) (Nat.le_refl _)) rfl ?_
  rintro x w2 ⟨hx, hg, hcase⟩
  have hn : Below w.heap.size w w2 := ⟨hg.os, hg.tape, hg.output, hg.size, fun k hk => hg.block k hk (by simp [Value.ownBlock])⟩
  rw [Nat.zero_add, List.nil_append] at hx
  have zA := blk_lt b_r
  have hxA : ∀ b, x.ownBlock = some b → A_r < b := fun b e => by
    have := (own_block hx b e).1
    omega
  have hk := KRow.mono (.inl hx) z
  replace hB := hB.bs hn
  replace hu := hu.bs hn
  replace b_r := b_r.bs hn
  refine Lw.val (Ex.move rfl) rfl ?_
  refine Lw.callF rfl rfl (rsize_c u s _ hu) ?_
  rintro _ w ⟨rfl, hn⟩
  replace hB := hB.bs hn
  replace hu := hu.bs hn
  replace b_r := b_r.bs hn
  replace hk := hk.bs hn
  clear hn
  refine Lw.know 11 (v' := .int .i64 (((Shapes.size s).toNat : Nat) : Int)) rfl (congrArg (Value.int .i64) (by omega)) ?_
  refine Lw.valW (Xw.make st_23 it_21 rfl rfl rfl (Nat.le_refl _) (by omega) (by omega)) rfl ?_
  rintro y w4 ⟨ho6, hy, hn4, -⟩
  have hxlt := hk.lt
  have zB := below_size hB
  have hap : Apt y x := by
    intro b h1 h2
    rw [hy] at h1
    cases h1
    exact absurd (hxlt _ h2).2 (Nat.lt_irrefl _)
  rw [rep_zero] at ho6
  have hx6 := (hk.bs hn4).slT
  refine Lw.val (Ex.build (vs := [(0, x), (1, y)]) (cs := [x, y]) rfl (bt_ten _ _ hx6.one (own_sl ho6).one)) rfl ?_
  have zC := hn4.size
  have zD := blk_lt b_r
  replace hB := hB.bs hn4
  replace hu := hu.bs hn4
  replace b_r := b_r.bs hn4
  replace hk := hk.bs hn4
  refine Lw.unit (Xu.stA (cs := [x, y]) rfl rfl rfl rfl (by simp [hx6.one', (own_sl ho6).one']) b_r rfl) ?_
  rintro w7 ⟨hb7, hg7, -⟩
  have hB7 : Below W.heap.size W w7 := hB.grown hg7 (below_size hB) (by rintro _ ⟨⟩; omega)
  refine Lw.val (Ex.assign rfl) rfl ?_
  refine Lw.nil ?_
  refine Pw.thenN (Cw.out ?_)
  refine Cw.ret ?_
  refine Pw.retCT rfl rfl rfl (by assumption) (Tryz.underlying25) rfl rfl rfl ?_
  refine ⟨hB7, .inl ⟨hok, x, y, rfl, ?_, ?_, hap⟩⟩
  · exact hk.by' hg7 (by
      cases hc : x.ownBlock with
      | none => exact .inl rfl
      | some b => exact .inr fun h => by have := hxA b hc; cases h; omega)
  · have := ho6.kept hg7 (.inr (by rw [hy]; simp [Value.ownBlock]; omega))
    rw [List.length_replicate]
    exact own_mono this zB

end Go.Proofs.YtdliencelkdibaaGreatDoor
