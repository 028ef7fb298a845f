/- Twin.., Left.., Same.. of the statements' helpers: each once. Printed by a program of ours. -/
import Derived.Test.YtkhndfaampkbnaaFacts
namespace Go.Proofs.Ytkhndfaampkbnaa
open Go Go.Dd Go.RowKit






theorem sameInts_c (u v : Value) (l m : List (Int)) (w : World) (hu : SlT (Value.int .i64) w u l) (hv : SlT (Value.int .i64) w v m) :
    Fnc Try.prog 11 [u, v] w (fun r w' => r = .bool (decide (l = m)) ∧ Below w.heap.size w w') := by
  have hle := hu.le
  refine Fnc.enter (n := 26) Try.func11 (by kernel_rfl) rfl rfl rfl ?_
  refine Cw.seq ?_
  refine Cw.region ?_
  refine Lw.val (Ex.assign rfl) rfl ?_
  refine Lw.nil ?_
  refine Pw.thenN (Cw.out ?_)
  refine Cw.seq ?_
  refine Cw.seq ?_
  refine Cw.region ?_
  refine Lw.val (Ex.move rfl) rfl ?_
  refine Lw.val (Ex.lenS st_22 rfl (by assumption)) rfl ?_
  refine Lw.val (Ex.move rfl) rfl ?_
  refine Lw.val (Ex.lenS st_22 rfl (by assumption)) rfl ?_
  refine Lw.val (Ex.neq rfl rfl) rfl ?_
  refine Lw.nil ?_
  refine Pw.thenN (Cw.out ?_)
  refine Cw.cond rfl ?_ ?_
  · intro h
    have hne : l ≠ m := fun e => by subst e; simp at h
    refine Cw.seq ?_
    refine Cw.region ?_
    refine Lw.val (Ex.assign rfl) rfl ?_
    refine Lw.nil ?_
    refine Pw.thenN (Cw.out ?_)
    refine Cw.ret ?_
    refine Pw.thenR ?_
    refine Pw.ret1 rfl rfl ?_
    exact ⟨by rw [decide_eq_false hne], Below.refl _ _⟩
  · intro h
    have hlen : l.length = m.length := by simp at h; omega
    refine Cw.skip ?_
    refine Pw.thenN (Cw.out ?_)
    refine Cw.seq ?_
    refine Cw.seq ?_
    refine Cw.region ?_
    refine Lw.val (Ex.assign rfl) rfl ?_
    refine Lw.nil ?_
    refine Pw.thenN (Cw.out ?_)
    refine Cw.block ?_
    refine Cw.loop (S := Nat) (fun k => [(0, u), (1, v), (5, .int .i64 (k : Int))]) (fun k w' => k ≤ l.length ∧ l.take k = m.take k ∧ Below w.heap.size w w') (fun k => l.length - k) (0) ⟨rfl, rfl, rfl, trivial⟩ ?_ ?_
    · exact ⟨by omega, by simp, Below.refl _ _⟩
    rintro k w1 ⟨hk, he, hB1⟩
    have hu1 := hu.bs hB1
    have hv1 := hv.bs hB1
    refine Cw.seq ?_
    refine Cw.seq ?_
    refine Cw.region ?_
    refine Lw.val (Ex.move rfl) rfl ?_
    refine Lw.val (Ex.move rfl) rfl ?_
    refine Lw.val (Ex.lenS st_22 rfl (by assumption)) rfl ?_
    refine Lw.val (Ex.lss rfl rfl) rfl ?_
    refine Lw.nil ?_
    refine Pw.thenN (Cw.out ?_)
    refine Cw.cond rfl ?_ ?_
    · intro h
      have hk' : k < l.length := by simp at h; omega
      have hkm : k < m.length := by omega
      refine Cw.skip ?_
      refine Pw.thenN (Cw.out ?_)
      refine Cw.seq ?_
      refine Cw.block ?_
      refine Cw.seq ?_
      refine Cw.quiet mixed (by kernel_rfl) ?_
      refine Qw.val (fun w1 hq => Ex.move rfl) rfl ?_
      refine Qw.val (fun w1 hq => Ex.move rfl) rfl ?_
      refine Qw.val (fun w1 hq => Ex.idxT st_22 rfl rfl (Sl.bs (by assumption) hq) _ rfl (by omega)) rfl ?_
      refine Qw.val (fun w1 hq => Ex.ldT (ag_3 _) rfl (Sl.bs (by assumption) hq) (by omega)) rfl ?_
      refine Qw.val (fun w1 hq => Ex.move rfl) rfl ?_
      refine Qw.val (fun w1 hq => Ex.move rfl) rfl ?_
      refine Qw.val (fun w1 hq => Ex.idxT st_22 rfl rfl (Sl.bs (by assumption) hq) _ rfl (by omega)) rfl ?_
      refine Qw.val (fun w1 hq => Ex.ldT (ag_3 _) rfl (Sl.bs (by assumption) hq) (by omega)) rfl ?_
      refine Qw.val (fun w1 hq => Ex.neq rfl rfl) rfl ?_
      refine Qw.nil (fun w2 hq => ?_)
      refine Pw.thenN (Cw.out ?_)
      have hB2 := bt hB1 hq
      refine Cw.cond rfl ?_ ?_
      · intro h
        have hne : l ≠ m := fun e => by subst e; simp at h
        refine Cw.seq ?_
        refine Cw.region ?_
        refine Lw.val (Ex.assign rfl) rfl ?_
        refine Lw.nil ?_
        refine Pw.thenN (Cw.out ?_)
        refine Cw.ret ?_
        refine Pw.blkR ?_
        refine Pw.thenR ?_
        refine Pw.thenR ?_
        refine Pw.blkR ?_
        refine Pw.thenR ?_
        refine Pw.ret1 rfl rfl ?_
        exact ⟨by rw [decide_eq_false hne], hB2⟩
      · intro h
        refine Cw.skip ?_
        refine Pw.blkN ?_
        refine Pw.thenN (Cw.out ?_)
        refine Cw.region ?_
        refine Lw.val (Ex.move rfl) rfl ?_
        refine Lw.val (Ex.addI rfl rfl (by omega)) rfl ?_
        refine Lw.val (Ex.assign rfl) rfl ?_
        refine Lw.nil ?_
        have he2 : l.take (k + 1) = m.take (k + 1) := by
          rw [List.take_succ_eq_append_getElem hk', List.take_succ_eq_append_getElem hkm, he]
          simp [hk', hkm] at h
          rw [h]
        exact Pw.thenN (Pw.next (k + 1) ⟨rfl, rfl, rfl, trivial⟩ (⟨by omega, he2, hB2⟩) (by omega))
    · intro h
      have hk' : k = l.length := by simp at h; omega
      subst hk'
      rw [List.take_length, hlen, List.take_length] at he
      refine Cw.exit ?_
      refine Pw.thenE ?_
      refine Pw.thenE ?_
      refine Pw.blkHit ?_
      refine Pw.thenN (Cw.out ?_)
      refine Cw.seq ?_
      refine Cw.region ?_
      refine Lw.val (Ex.assign rfl) rfl ?_
      refine Lw.nil ?_
      refine Pw.thenN (Cw.out ?_)
      refine Cw.ret ?_
      refine Pw.ret1 rfl rfl ?_
      exact ⟨by rw [decide_eq_true he], hB1⟩



theorem sameNumbers_c (u v : Value) (l m : List (BitVec 32)) (w : World) (hu : SlT (i32) w u l) (hv : SlT (i32) w v m) :
    Fnc Try.prog 10 [u, v] w (fun r w' => r = .bool (decide (l = m)) ∧ Below w.heap.size w w') := by
  have hle := hu.le
  refine Fnc.enter (n := 26) Try.func10 (by kernel_rfl) rfl rfl rfl ?_
  refine Cw.seq ?_
  refine Cw.region ?_
  refine Lw.val (Ex.assign rfl) rfl ?_
  refine Lw.nil ?_
  refine Pw.thenN (Cw.out ?_)
  refine Cw.seq ?_
  refine Cw.seq ?_
  refine Cw.region ?_
  refine Lw.val (Ex.move rfl) rfl ?_
  refine Lw.val (Ex.lenS st_23 rfl (by assumption)) rfl ?_
  refine Lw.val (Ex.move rfl) rfl ?_
  refine Lw.val (Ex.lenS st_23 rfl (by assumption)) rfl ?_
  refine Lw.val (Ex.neq rfl rfl) rfl ?_
  refine Lw.nil ?_
  refine Pw.thenN (Cw.out ?_)
  refine Cw.cond rfl ?_ ?_
  · intro h
    have hne : l ≠ m := fun e => by subst e; simp at h
    refine Cw.seq ?_
    refine Cw.region ?_
    refine Lw.val (Ex.assign rfl) rfl ?_
    refine Lw.nil ?_
    refine Pw.thenN (Cw.out ?_)
    refine Cw.ret ?_
    refine Pw.thenR ?_
    refine Pw.ret1 rfl rfl ?_
    exact ⟨by rw [decide_eq_false hne], Below.refl _ _⟩
  · intro h
    have hlen : l.length = m.length := by simp at h; omega
    refine Cw.skip ?_
    refine Pw.thenN (Cw.out ?_)
    refine Cw.seq ?_
    refine Cw.seq ?_
    refine Cw.region ?_
    refine Lw.val (Ex.assign rfl) rfl ?_
    refine Lw.nil ?_
    refine Pw.thenN (Cw.out ?_)
    refine Cw.block ?_
    refine Cw.loop (S := Nat) (fun k => [(0, u), (1, v), (5, .int .i64 (k : Int))]) (fun k w' => k ≤ l.length ∧ l.take k = m.take k ∧ Below w.heap.size w w') (fun k => l.length - k) (0) ⟨rfl, rfl, rfl, trivial⟩ ?_ ?_
    · exact ⟨by omega, by simp, Below.refl _ _⟩
    rintro k w1 ⟨hk, he, hB1⟩
    have hu1 := hu.bs hB1
    have hv1 := hv.bs hB1
    refine Cw.seq ?_
    refine Cw.seq ?_
    refine Cw.region ?_
    refine Lw.val (Ex.move rfl) rfl ?_
    refine Lw.val (Ex.move rfl) rfl ?_
    refine Lw.val (Ex.lenS st_23 rfl (by assumption)) rfl ?_
    refine Lw.val (Ex.lss rfl rfl) rfl ?_
    refine Lw.nil ?_
    refine Pw.thenN (Cw.out ?_)
    refine Cw.cond rfl ?_ ?_
    · intro h
      have hk' : k < l.length := by simp at h; omega
      have hkm : k < m.length := by omega
      refine Cw.skip ?_
      refine Pw.thenN (Cw.out ?_)
      refine Cw.seq ?_
      refine Cw.block ?_
      refine Cw.seq ?_
      refine Cw.quiet mixed (by kernel_rfl) ?_
      refine Qw.val (fun w1 hq => Ex.move rfl) rfl ?_
      refine Qw.val (fun w1 hq => Ex.move rfl) rfl ?_
      refine Qw.val (fun w1 hq => Ex.idxT st_23 rfl rfl (Sl.bs (by assumption) hq) _ rfl (by omega)) rfl ?_
      refine Qw.val (fun w1 hq => Ex.ldT (ag_21 _) rfl (Sl.bs (by assumption) hq) (by omega)) rfl ?_
      refine Qw.val (fun w1 hq => Ex.move rfl) rfl ?_
      refine Qw.val (fun w1 hq => Ex.move rfl) rfl ?_
      refine Qw.val (fun w1 hq => Ex.idxT st_23 rfl rfl (Sl.bs (by assumption) hq) _ rfl (by omega)) rfl ?_
      refine Qw.val (fun w1 hq => Ex.ldT (ag_21 _) rfl (Sl.bs (by assumption) hq) (by omega)) rfl ?_
      refine Qw.val (fun w1 hq => Ex.neqi32 rfl rfl) rfl ?_
      refine Qw.nil (fun w2 hq => ?_)
      refine Pw.thenN (Cw.out ?_)
      have hB2 := bt hB1 hq
      refine Cw.cond rfl ?_ ?_
      · intro h
        have hne : l ≠ m := fun e => by subst e; simp at h
        refine Cw.seq ?_
        refine Cw.region ?_
        refine Lw.val (Ex.assign rfl) rfl ?_
        refine Lw.nil ?_
        refine Pw.thenN (Cw.out ?_)
        refine Cw.ret ?_
        refine Pw.blkR ?_
        refine Pw.thenR ?_
        refine Pw.thenR ?_
        refine Pw.blkR ?_
        refine Pw.thenR ?_
        refine Pw.ret1 rfl rfl ?_
        exact ⟨by rw [decide_eq_false hne], hB2⟩
      · intro h
        refine Cw.skip ?_
        refine Pw.blkN ?_
        refine Pw.thenN (Cw.out ?_)
        refine Cw.region ?_
        refine Lw.val (Ex.move rfl) rfl ?_
        refine Lw.val (Ex.addI rfl rfl (by omega)) rfl ?_
        refine Lw.val (Ex.assign rfl) rfl ?_
        refine Lw.nil ?_
        have he2 : l.take (k + 1) = m.take (k + 1) := by
          rw [List.take_succ_eq_append_getElem hk', List.take_succ_eq_append_getElem hkm, he]
          simp [hk', hkm] at h
          rw [h]
        exact Pw.thenN (Pw.next (k + 1) ⟨rfl, rfl, rfl, trivial⟩ (⟨by omega, he2, hB2⟩) (by omega))
    · intro h
      have hk' : k = l.length := by simp at h; omega
      subst hk'
      rw [List.take_length, hlen, List.take_length] at he
      refine Cw.exit ?_
      refine Pw.thenE ?_
      refine Pw.thenE ?_
      refine Pw.blkHit ?_
      refine Pw.thenN (Cw.out ?_)
      refine Cw.seq ?_
      refine Cw.region ?_
      refine Lw.val (Ex.assign rfl) rfl ?_
      refine Lw.nil ?_
      refine Pw.thenN (Cw.out ?_)
      refine Cw.ret ?_
      refine Pw.ret1 rfl rfl ?_
      exact ⟨by rw [decide_eq_true he], hB1⟩



end Go.Proofs.Ytkhndfaampkbnaa
