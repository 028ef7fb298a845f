/- Twin.., Left.., Same.. of the statements' helpers: each once. Printed by a program of ours. -/
import Derived.Test.YtkhndfaampkbnaaGreatDoorFacts
namespace Go.Proofs.YtkhndfaampkbnaaGreatDoor
open Go Go.Dd Go.RowKit
set_option maxRecDepth 100000




theorem twinInts_c (v : Value) (l : List (Int)) (w : World) (hv : SlT (Value.int .i64) w v l) (hl : l.length ≤ 4194304) :
    Fnc Tryz.prog 17 [v] w (fun r w' => Twn w' w.heap.size 3 (Value.int .i64) (Value.int .i64 (77)) r l ∧ Below w.heap.size w w') := by
  refine Fnc.enter (n := 28) Tryz.func17 (by kernel_rfl) rfl rfl rfl ?_
  refine Cw.seq ?_
  refine Cw.region ?_
  refine Lw.val (Ex.assign rfl) rfl ?_
  refine Lw.nil ?_
  refine Pw.thenN (Cw.out ?_)
  refine Cw.seq ?_
  refine Cw.region ?_
  refine Lw.val (Ex.move rfl) rfl ?_
  refine Lw.val (Ex.lenS st_26 rfl (by assumption)) rfl ?_
  refine Lw.val (Ex.addI rfl rfl (by omega)) rfl ?_
  refine Lw.valW (Xw.make (l := 0) (c := l.length + 1) st_26 it_3 rfl rfl rfl (by omega) (by omega) (by omega)) rfl ?_
  rintro v1 w1 ⟨ho1, -, hB1, hs1⟩
  refine Lw.val (Ex.assign rfl) rfl ?_
  refine Lw.nil ?_
  refine Pw.thenN (Cw.out ?_)
  refine Cw.seq ?_
  refine Cw.seq ?_
  refine Cw.region ?_
  refine Lw.val (Ex.assign rfl) rfl ?_
  refine Lw.nil ?_
  refine Pw.thenN (Cw.out ?_)
  refine Cw.block ?_
  refine Cw.loop (S := (Nat × Value)) (fun s => [(0, v), (3, s.2), (4, .int .i64 (s.1 : Int))]) (fun s w' => s.1 ≤ l.length ∧ w'.ownsRow w.heap.size 3 1 s.2 s.1 ((l.take s.1).map (Value.int .i64)) ∧ Below w.heap.size w w') (fun s => l.length - s.1) ((0, v1)) ⟨rfl, rfl, rfl, trivial⟩ ?_ ?_
  · exact ⟨by omega, by simpa using ho1, hB1⟩
  clear ho1 hB1 hs1 v1 w1
  rintro ⟨k, v1⟩ w1 ⟨hk, ho1, hB1⟩
  simp only at hk ho1
  have hv1 := hv.bs hB1
  have hs1 := hB1.size
  refine Cw.seq ?_
  refine Cw.seq ?_
  refine Cw.region ?_
  refine Lw.val (Ex.move rfl) rfl ?_
  refine Lw.val (Ex.move rfl) rfl ?_
  refine Lw.val (Ex.lenS st_26 rfl (by assumption)) rfl ?_
  refine Lw.val (Ex.lss rfl rfl) rfl ?_
  refine Lw.nil ?_
  refine Pw.thenN (Cw.out ?_)
  refine Cw.cond rfl ?_ ?_
  · intro h
    have hk' : k < l.length := by simp at h; omega
    refine Cw.skip ?_
    refine Pw.thenN (Cw.out ?_)
    refine Cw.seq ?_
    refine Cw.block ?_
    refine Cw.region ?_
    refine Lw.val (Ex.move rfl) rfl ?_
    refine Lw.val (Ex.move rfl) rfl ?_
    refine Lw.val (Ex.move rfl) rfl ?_
    refine Lw.val (Ex.idxT st_26 rfl rfl (by assumption) _ rfl (by omega)) rfl ?_
    refine Lw.val (Ex.ldT (ag_3 _) rfl (by assumption) (by omega)) rfl ?_
    refine Lw.valW (Xw.lit (vs := [Value.int .i64 (l.getD k default)]) st_26 it_3 rfl rfl rfl rfl rfl) rfl ?_
    rintro v2 w2 ⟨ho2, -, hB2, hs2⟩
    refine Lw.valW (Xw.append (base := w.heap.size) st_26 it_3 rfl (by decide) rfl rfl (own_bs ho1 hB2) (own_sl ho2) rfl (by omega) (by omega) (by omega)) rfl ?_
    rintro v3 w3 ⟨ho3, hB3, _⟩
    refine Lw.val (Ex.assign rfl) rfl ?_
    refine Lw.nil ?_
    refine Pw.blkN ?_
    refine Pw.thenN (Cw.out ?_)
    refine Cw.region ?_
    refine Lw.val (Ex.move rfl) rfl ?_
    refine Lw.val (Ex.addI rfl rfl (by omega)) rfl ?_
    refine Lw.val (Ex.assign rfl) rfl ?_
    refine Lw.nil ?_
    have e : (l.take k).map (Value.int .i64) ++ [Value.int .i64 (l.getD k default)] = (l.take (k + 1)).map (Value.int .i64) := by
      rw [List.take_succ_eq_append_getElem hk', List.map_append]; simp [hk']
    rw [e] at ho3
    exact Pw.thenN (Pw.next ((k + 1, v3)) ⟨rfl, rfl, rfl, trivial⟩ (⟨hk', ho3, (bt hB1 hB2).trans hB3⟩) (by simp only; omega))
  · intro h
    have hk' : k = l.length := by simp at h; omega
    subst hk'
    refine Cw.exit ?_
    refine Pw.thenE ?_
    refine Pw.thenE ?_
    refine Pw.blkHit ?_
    refine Pw.thenN (Cw.out ?_)
    refine Cw.seq ?_
    refine Cw.region ?_
    refine Lw.val (Ex.move rfl) rfl ?_
    refine Lw.valW (Xw.lit (vs := [Value.int .i64 (77)]) st_26 it_3 rfl rfl rfl rfl rfl) rfl ?_
    rintro v2 w2 ⟨ho2, -, hB2, hs2⟩
    refine Lw.valW (Xw.append (base := w.heap.size) st_26 it_3 rfl (by decide) rfl rfl (own_bs ho1 hB2) (own_sl ho2) rfl (by omega) (by omega) (by omega)) rfl ?_
    rintro v3 w3 ⟨ho3, hB3, _⟩
    have hB3' := (bt hB1 hB2).trans hB3
    have hv3 := hv.bs hB3'
    rcases ho3.2 with ⟨_, h0⟩ | ⟨g, cap, cur, rfl, hg, hgg, hnc, hcm, hcs, htake⟩
    · omega
    refine Lw.val (Ex.move rfl) rfl ?_
    refine Lw.val (Ex.lenS st_26 rfl (by assumption)) rfl ?_
    refine Lw.val (Ex.extH st_26 rfl rfl (by omega)) rfl ?_
    refine Lw.val (Ex.assign rfl) rfl ?_
    refine Lw.nil ?_
    refine Pw.thenN (Cw.out ?_)
    refine Cw.ret ?_
    refine Pw.ret1 rfl rfl ?_
    exact ⟨⟨g, cap, rfl, by simpa using ho3⟩, hB3'⟩

theorem leftInts_c (t v : Value) (l : List (Int)) (base : Nat) (w : World) (ht : Twn w base 3 (Value.int .i64) (Value.int .i64 (77)) t l) (hv : SlT (Value.int .i64) w v l) :
    Fnc Tryz.prog 25 [t, v] w (fun r w' => r = .bool true ∧ Below w.heap.size w w') := by
  have hts := ht.sl
  have hle := hv.le
  obtain ⟨b, cap, rfl, ho⟩ := ht
  have hcap : l.length + 1 ≤ cap ∧ cap ≤ 9223372036854775807 := by
    obtain ⟨_, ao, cap', he, h1, h2, _⟩ := own_sl ho
    cases he; unfold maxLen at h2; exact ⟨h1, by omega⟩
  refine Fnc.enter (n := 45) Tryz.func25 (by kernel_rfl) rfl rfl rfl ?_
  refine Cw.seq ?_
  refine Cw.region ?_
  refine Lw.val (Ex.assign rfl) rfl ?_
  refine Lw.nil ?_
  refine Pw.thenN (Cw.out ?_)
  refine Cw.seq ?_
  refine Cw.seq ?_
  refine Cw.region ?_
  refine Lw.val (Ex.move rfl) rfl ?_
  refine Lw.val (Ex.lenS st_26 rfl (by assumption)) rfl ?_
  refine Lw.val (Ex.move rfl) rfl ?_
  refine Lw.val (Ex.lenS st_26 rfl (by assumption)) rfl ?_
  refine Lw.val (Ex.neq rfl rfl) rfl ?_
  refine Lw.val (Ex.move rfl) rfl ?_
  refine Lw.know 12 (v' := .bool false) rfl (congrArg Value.bool ((by simp))) ?_
  refine Lw.take (dj := 12) rfl rfl ?_
  refine Lw.val (Ex.move rfl) rfl ?_
  refine Lw.take (dj := 12) rfl rfl ?_
  refine Lw.val (Ex.capS st_26 rfl) rfl ?_
  refine Lw.take (dj := 12) rfl rfl ?_
  refine Lw.val (Ex.move rfl) rfl ?_
  refine Lw.take (dj := 12) rfl rfl ?_
  refine Lw.val (Ex.lenS st_26 rfl (by assumption)) rfl ?_
  refine Lw.take (dj := 12) rfl rfl ?_
  refine Lw.val (Ex.leq rfl rfl) rfl ?_
  refine Lw.val (Ex.pickF rfl rfl) rfl ?_
  refine Lw.nil ?_
  refine Pw.thenN (Cw.out ?_)
  refine Cw.condB rfl false ((by simp; omega)) ?_
  refine Cw.skip ?_
  refine Pw.thenN (Cw.out ?_)
  refine Cw.seq ?_
  refine Cw.seq ?_
  refine Cw.region ?_
  refine Lw.val (Ex.assign rfl) rfl ?_
  refine Lw.nil ?_
  refine Pw.thenN (Cw.out ?_)
  refine Cw.block ?_
  refine Cw.loop (S := Nat) (fun k => [(0, .slice (some ⟨b, 0, none⟩) l.length cap), (1, v), (5, .int .i64 (k : Int))]) (fun k w' => k ≤ l.length ∧ Below w.heap.size w w') (fun k => l.length - k) (0) ⟨rfl, rfl, rfl, trivial⟩ ?_ ?_
  · exact ⟨by omega, Below.refl _ _⟩
  rintro k w1 ⟨hk, hB1⟩
  have hv1 := hv.bs hB1
  have hts1 := hts.bs hB1
  refine Cw.seq ?_
  refine Cw.seq ?_
  refine Cw.region ?_
  refine Lw.val (Ex.move rfl) rfl ?_
  refine Lw.val (Ex.move rfl) rfl ?_
  refine Lw.val (Ex.lenS st_26 rfl (by assumption)) rfl ?_
  refine Lw.val (Ex.lss rfl rfl) rfl ?_
  refine Lw.nil ?_
  refine Pw.thenN (Cw.out ?_)
  refine Cw.cond rfl ?_ ?_
  · intro h
    have hk' : k < l.length := by simp at h; omega
    refine Cw.skip ?_
    refine Pw.thenN (Cw.out ?_)
    refine Cw.seq ?_
    refine Cw.block ?_
    refine Cw.seq ?_
    refine Cw.quiet mixed (by kernel_rfl) ?_
    refine Qw.val (fun w1 hq => Ex.move rfl) rfl ?_
    refine Qw.val (fun w1 hq => Ex.move rfl) rfl ?_
    refine Qw.val (fun w1 hq => Ex.idxT st_26 rfl rfl (Sl.bs (by assumption) hq) _ rfl (by omega)) rfl ?_
    refine Qw.val (fun w1 hq => Ex.ldT (ag_3 _) rfl (Sl.bs (by assumption) hq) (by omega)) rfl ?_
    refine Qw.val (fun w1 hq => Ex.move rfl) rfl ?_
    refine Qw.val (fun w1 hq => Ex.move rfl) rfl ?_
    refine Qw.val (fun w1 hq => Ex.idxT st_26 rfl rfl (Sl.bs (by assumption) hq) _ rfl (by omega)) rfl ?_
    refine Qw.val (fun w1 hq => Ex.ldT (ag_3 _) rfl (Sl.bs (by assumption) hq) (by omega)) rfl ?_
    refine Qw.val (fun w1 hq => Ex.neq rfl rfl) rfl ?_
    refine Qw.nil (fun w2 hq => ?_)
    refine Pw.thenN (Cw.out ?_)
    have hB2 := bt hB1 hq
    refine Cw.condB rfl false ((by simp)) ?_
    refine Cw.skip ?_
    refine Pw.blkN ?_
    refine Pw.thenN (Cw.out ?_)
    refine Cw.region ?_
    refine Lw.val (Ex.move rfl) rfl ?_
    refine Lw.val (Ex.addI rfl rfl (by omega)) rfl ?_
    refine Lw.val (Ex.assign rfl) rfl ?_
    refine Lw.nil ?_
    exact Pw.thenN (Pw.next (k + 1) ⟨rfl, rfl, rfl, trivial⟩ (⟨by omega, hB2⟩) (by omega))
  · intro h
    have hk' : k = l.length := by simp at h; omega
    subst hk'
    have hfull := own_sl (own_bs ho hB1)
    refine Cw.exit ?_
    refine Pw.thenE ?_
    refine Pw.thenE ?_
    refine Pw.blkHit ?_
    refine Pw.thenN (Cw.out ?_)
    refine Cw.seq ?_
    refine Cw.region ?_
    refine Lw.val (Ex.move rfl) rfl ?_
    refine Lw.val (Ex.move rfl) rfl ?_
    refine Lw.val (Ex.lenS st_26 rfl (by assumption)) rfl ?_
    refine Lw.val (Ex.addI rfl rfl (by omega)) rfl ?_
    refine Lw.val (Ex.extH (j := l.length + 1) st_26 rfl rfl (by omega)) rfl ?_
    refine Lw.val (Ex.move rfl) rfl ?_
    refine Lw.val (Ex.lenS st_26 rfl (by assumption)) rfl ?_
    refine Lw.val (Ex.idx st_26 rfl rfl hfull l.length rfl (by omega)) rfl ?_
    refine Lw.val (Ex.ld (u := Value.int .i64 (77)) (ag_3 _) rfl hfull (by simp)) rfl ?_
    refine Lw.val (Ex.assign rfl) rfl ?_
    refine Lw.nil ?_
    refine Pw.thenN (Cw.out ?_)
    refine Cw.seq ?_
    refine Cw.region ?_
    refine Lw.val (Ex.move rfl) rfl ?_
    refine Lw.val (Ex.eql rfl rfl) rfl ?_
    refine Lw.val (Ex.assign rfl) rfl ?_
    refine Lw.nil ?_
    refine Pw.thenN (Cw.out ?_)
    refine Cw.ret ?_
    refine Pw.ret1 rfl rfl ?_
    exact ⟨congrArg Value.bool (by simp), hB1⟩

theorem sameInts_c (u v : Value) (l m : List (Int)) (w : World) (hu : SlT (Value.int .i64) w u l) (hv : SlT (Value.int .i64) w v m) :
    Fnc Tryz.prog 41 [u, v] w (fun r w' => r = .bool (decide (l = m)) ∧ Below w.heap.size w w') := by
  have hle := hu.le
  refine Fnc.enter (n := 26) Tryz.func41 (by kernel_rfl) rfl rfl rfl ?_
  refine Cw.seq ?_
  refine Cw.region ?_
  refine Lw.val (Ex.assign rfl) rfl ?_
  refine Lw.nil ?_
  refine Pw.thenN (Cw.out ?_)
  refine Cw.seq ?_
  refine Cw.seq ?_
  refine Cw.region ?_
  refine Lw.val (Ex.move rfl) rfl ?_
  refine Lw.val (Ex.lenS st_26 rfl (by assumption)) rfl ?_
  refine Lw.val (Ex.move rfl) rfl ?_
  refine Lw.val (Ex.lenS st_26 rfl (by assumption)) rfl ?_
  refine Lw.val (Ex.neq rfl rfl) rfl ?_
  refine Lw.nil ?_
  refine Pw.thenN (Cw.out ?_)
  refine Cw.cond rfl ?_ ?_
  · intro h
    have hne : l ≠ m := fun e => by subst e; simp at h
    refine Cw.seq ?_
    refine Cw.region ?_
    refine Lw.val (Ex.assign rfl) rfl ?_
    refine Lw.nil ?_
    refine Pw.thenN (Cw.out ?_)
    refine Cw.ret ?_
    refine Pw.thenR ?_
    refine Pw.ret1 rfl rfl ?_
    exact ⟨by rw [decide_eq_false hne], Below.refl _ _⟩
  · intro h
    have hlen : l.length = m.length := by simp at h; omega
    refine Cw.skip ?_
    refine Pw.thenN (Cw.out ?_)
    refine Cw.seq ?_
    refine Cw.seq ?_
    refine Cw.region ?_
    refine Lw.val (Ex.assign rfl) rfl ?_
    refine Lw.nil ?_
    refine Pw.thenN (Cw.out ?_)
    refine Cw.block ?_
    refine Cw.loop (S := Nat) (fun k => [(0, u), (1, v), (5, .int .i64 (k : Int))]) (fun k w' => k ≤ l.length ∧ l.take k = m.take k ∧ Below w.heap.size w w') (fun k => l.length - k) (0) ⟨rfl, rfl, rfl, trivial⟩ ?_ ?_
    · exact ⟨by omega, by simp, Below.refl _ _⟩
    rintro k w1 ⟨hk, he, hB1⟩
    have hu1 := hu.bs hB1
    have hv1 := hv.bs hB1
    refine Cw.seq ?_
    refine Cw.seq ?_
    refine Cw.region ?_
    refine Lw.val (Ex.move rfl) rfl ?_
    refine Lw.val (Ex.move rfl) rfl ?_
    refine Lw.val (Ex.lenS st_26 rfl (by assumption)) rfl ?_
    refine Lw.val (Ex.lss rfl rfl) rfl ?_
    refine Lw.nil ?_
    refine Pw.thenN (Cw.out ?_)
    refine Cw.cond rfl ?_ ?_
    · intro h
      have hk' : k < l.length := by simp at h; omega
      have hkm : k < m.length := by omega
      refine Cw.skip ?_
      refine Pw.thenN (Cw.out ?_)
      refine Cw.seq ?_
      refine Cw.block ?_
      refine Cw.seq ?_
      refine Cw.quiet mixed (by kernel_rfl) ?_
      refine Qw.val (fun w1 hq => Ex.move rfl) rfl ?_
      refine Qw.val (fun w1 hq => Ex.move rfl) rfl ?_
      refine Qw.val (fun w1 hq => Ex.idxT st_26 rfl rfl (Sl.bs (by assumption) hq) _ rfl (by omega)) rfl ?_
      refine Qw.val (fun w1 hq => Ex.ldT (ag_3 _) rfl (Sl.bs (by assumption) hq) (by omega)) rfl ?_
      refine Qw.val (fun w1 hq => Ex.move rfl) rfl ?_
      refine Qw.val (fun w1 hq => Ex.move rfl) rfl ?_
      refine Qw.val (fun w1 hq => Ex.idxT st_26 rfl rfl (Sl.bs (by assumption) hq) _ rfl (by omega)) rfl ?_
      refine Qw.val (fun w1 hq => Ex.ldT (ag_3 _) rfl (Sl.bs (by assumption) hq) (by omega)) rfl ?_
      refine Qw.val (fun w1 hq => Ex.neq rfl rfl) rfl ?_
      refine Qw.nil (fun w2 hq => ?_)
      refine Pw.thenN (Cw.out ?_)
      have hB2 := bt hB1 hq
      refine Cw.cond rfl ?_ ?_
      · intro h
        have hne : l ≠ m := fun e => by subst e; simp at h
        refine Cw.seq ?_
        refine Cw.region ?_
        refine Lw.val (Ex.assign rfl) rfl ?_
        refine Lw.nil ?_
        refine Pw.thenN (Cw.out ?_)
        refine Cw.ret ?_
        refine Pw.blkR ?_
        refine Pw.thenR ?_
        refine Pw.thenR ?_
        refine Pw.blkR ?_
        refine Pw.thenR ?_
        refine Pw.ret1 rfl rfl ?_
        exact ⟨by rw [decide_eq_false hne], hB2⟩
      · intro h
        refine Cw.skip ?_
        refine Pw.blkN ?_
        refine Pw.thenN (Cw.out ?_)
        refine Cw.region ?_
        refine Lw.val (Ex.move rfl) rfl ?_
        refine Lw.val (Ex.addI rfl rfl (by omega)) rfl ?_
        refine Lw.val (Ex.assign rfl) rfl ?_
        refine Lw.nil ?_
        have he2 : l.take (k + 1) = m.take (k + 1) := by
          rw [List.take_succ_eq_append_getElem hk', List.take_succ_eq_append_getElem hkm, he]
          simp [hk', hkm] at h
          rw [h]
        exact Pw.thenN (Pw.next (k + 1) ⟨rfl, rfl, rfl, trivial⟩ (⟨by omega, he2, hB2⟩) (by omega))
    · intro h
      have hk' : k = l.length := by simp at h; omega
      subst hk'
      rw [List.take_length, hlen, List.take_length] at he
      refine Cw.exit ?_
      refine Pw.thenE ?_
      refine Pw.thenE ?_
      refine Pw.blkHit ?_
      refine Pw.thenN (Cw.out ?_)
      refine Cw.seq ?_
      refine Cw.region ?_
      refine Lw.val (Ex.assign rfl) rfl ?_
      refine Lw.nil ?_
      refine Pw.thenN (Cw.out ?_)
      refine Cw.ret ?_
      refine Pw.ret1 rfl rfl ?_
      exact ⟨by rw [decide_eq_true he], hB1⟩

theorem twinNumbers_c (v : Value) (l : List (BitVec 32)) (w : World) (hv : SlT (i32) w v l) (hl : l.length ≤ 4194304) :
    Fnc Tryz.prog 92 [v] w (fun r w' => Twn w' w.heap.size 21 (i32) (i32 (77#32)) r l ∧ Below w.heap.size w w') := by
  refine Fnc.enter (n := 28) Tryz.func92 (by kernel_rfl) rfl rfl rfl ?_
  refine Cw.seq ?_
  refine Cw.region ?_
  refine Lw.val (Ex.assign rfl) rfl ?_
  refine Lw.nil ?_
  refine Pw.thenN (Cw.out ?_)
  refine Cw.seq ?_
  refine Cw.region ?_
  refine Lw.val (Ex.move rfl) rfl ?_
  refine Lw.val (Ex.lenS st_27 rfl (by assumption)) rfl ?_
  refine Lw.val (Ex.addI rfl rfl (by omega)) rfl ?_
  refine Lw.valW (Xw.make (l := 0) (c := l.length + 1) st_27 it_21 rfl rfl rfl (by omega) (by omega) (by omega)) rfl ?_
  rintro v1 w1 ⟨ho1, -, hB1, hs1⟩
  refine Lw.val (Ex.assign rfl) rfl ?_
  refine Lw.nil ?_
  refine Pw.thenN (Cw.out ?_)
  refine Cw.seq ?_
  refine Cw.seq ?_
  refine Cw.region ?_
  refine Lw.val (Ex.assign rfl) rfl ?_
  refine Lw.nil ?_
  refine Pw.thenN (Cw.out ?_)
  refine Cw.block ?_
  refine Cw.loop (S := (Nat × Value)) (fun s => [(0, v), (3, s.2), (4, .int .i64 (s.1 : Int))]) (fun s w' => s.1 ≤ l.length ∧ w'.ownsRow w.heap.size 21 1 s.2 s.1 ((l.take s.1).map (i32)) ∧ Below w.heap.size w w') (fun s => l.length - s.1) ((0, v1)) ⟨rfl, rfl, rfl, trivial⟩ ?_ ?_
  · exact ⟨by omega, by simpa using ho1, hB1⟩
  clear ho1 hB1 hs1 v1 w1
  rintro ⟨k, v1⟩ w1 ⟨hk, ho1, hB1⟩
  simp only at hk ho1
  have hv1 := hv.bs hB1
  have hs1 := hB1.size
  refine Cw.seq ?_
  refine Cw.seq ?_
  refine Cw.region ?_
  refine Lw.val (Ex.move rfl) rfl ?_
  refine Lw.val (Ex.move rfl) rfl ?_
  refine Lw.val (Ex.lenS st_27 rfl (by assumption)) rfl ?_
  refine Lw.val (Ex.lss rfl rfl) rfl ?_
  refine Lw.nil ?_
  refine Pw.thenN (Cw.out ?_)
  refine Cw.cond rfl ?_ ?_
  · intro h
    have hk' : k < l.length := by simp at h; omega
    refine Cw.skip ?_
    refine Pw.thenN (Cw.out ?_)
    refine Cw.seq ?_
    refine Cw.block ?_
    refine Cw.region ?_
    refine Lw.val (Ex.move rfl) rfl ?_
    refine Lw.val (Ex.move rfl) rfl ?_
    refine Lw.val (Ex.move rfl) rfl ?_
    refine Lw.val (Ex.idxT st_27 rfl rfl (by assumption) _ rfl (by omega)) rfl ?_
    refine Lw.val (Ex.ldT (ag_21 _) rfl (by assumption) (by omega)) rfl ?_
    refine Lw.valW (Xw.lit (vs := [i32 (l.getD k default)]) st_27 it_21 rfl rfl rfl rfl rfl) rfl ?_
    rintro v2 w2 ⟨ho2, -, hB2, hs2⟩
    refine Lw.valW (Xw.append (base := w.heap.size) st_27 it_21 rfl (by decide) rfl rfl (own_bs ho1 hB2) (own_sl ho2) rfl (by omega) (by omega) (by omega)) rfl ?_
    rintro v3 w3 ⟨ho3, hB3, _⟩
    refine Lw.val (Ex.assign rfl) rfl ?_
    refine Lw.nil ?_
    refine Pw.blkN ?_
    refine Pw.thenN (Cw.out ?_)
    refine Cw.region ?_
    refine Lw.val (Ex.move rfl) rfl ?_
    refine Lw.val (Ex.addI rfl rfl (by omega)) rfl ?_
    refine Lw.val (Ex.assign rfl) rfl ?_
    refine Lw.nil ?_
    have e : (l.take k).map (i32) ++ [i32 (l.getD k default)] = (l.take (k + 1)).map (i32) := by
      rw [List.take_succ_eq_append_getElem hk', List.map_append]; simp [hk']
    rw [e] at ho3
    exact Pw.thenN (Pw.next ((k + 1, v3)) ⟨rfl, rfl, rfl, trivial⟩ (⟨hk', ho3, (bt hB1 hB2).trans hB3⟩) (by simp only; omega))
  · intro h
    have hk' : k = l.length := by simp at h; omega
    subst hk'
    refine Cw.exit ?_
    refine Pw.thenE ?_
    refine Pw.thenE ?_
    refine Pw.blkHit ?_
    refine Pw.thenN (Cw.out ?_)
    refine Cw.seq ?_
    refine Cw.region ?_
    refine Lw.val (Ex.move rfl) rfl ?_
    refine Lw.valW (Xw.lit (vs := [i32 (77#32)]) st_27 it_21 rfl rfl rfl rfl rfl) rfl ?_
    rintro v2 w2 ⟨ho2, -, hB2, hs2⟩
    refine Lw.valW (Xw.append (base := w.heap.size) st_27 it_21 rfl (by decide) rfl rfl (own_bs ho1 hB2) (own_sl ho2) rfl (by omega) (by omega) (by omega)) rfl ?_
    rintro v3 w3 ⟨ho3, hB3, _⟩
    have hB3' := (bt hB1 hB2).trans hB3
    have hv3 := hv.bs hB3'
    rcases ho3.2 with ⟨_, h0⟩ | ⟨g, cap, cur, rfl, hg, hgg, hnc, hcm, hcs, htake⟩
    · omega
    refine Lw.val (Ex.move rfl) rfl ?_
    refine Lw.val (Ex.lenS st_27 rfl (by assumption)) rfl ?_
    refine Lw.val (Ex.extH st_27 rfl rfl (by omega)) rfl ?_
    refine Lw.val (Ex.assign rfl) rfl ?_
    refine Lw.nil ?_
    refine Pw.thenN (Cw.out ?_)
    refine Cw.ret ?_
    refine Pw.ret1 rfl rfl ?_
    exact ⟨⟨g, cap, rfl, by simpa using ho3⟩, hB3'⟩

theorem leftNumbers_c (t v : Value) (l : List (BitVec 32)) (base : Nat) (w : World) (ht : Twn w base 21 (i32) (i32 (77#32)) t l) (hv : SlT (i32) w v l) :
    Fnc Tryz.prog 109 [t, v] w (fun r w' => r = .bool true ∧ Below w.heap.size w w') := by
  have hts := ht.sl
  have hle := hv.le
  obtain ⟨b, cap, rfl, ho⟩ := ht
  have hcap : l.length + 1 ≤ cap ∧ cap ≤ 9223372036854775807 := by
    obtain ⟨_, ao, cap', he, h1, h2, _⟩ := own_sl ho
    cases he; unfold maxLen at h2; exact ⟨h1, by omega⟩
  refine Fnc.enter (n := 45) Tryz.func109 (by kernel_rfl) rfl rfl rfl ?_
  refine Cw.seq ?_
  refine Cw.region ?_
  refine Lw.val (Ex.assign rfl) rfl ?_
  refine Lw.nil ?_
  refine Pw.thenN (Cw.out ?_)
  refine Cw.seq ?_
  refine Cw.seq ?_
  refine Cw.region ?_
  refine Lw.val (Ex.move rfl) rfl ?_
  refine Lw.val (Ex.lenS st_27 rfl (by assumption)) rfl ?_
  refine Lw.val (Ex.move rfl) rfl ?_
  refine Lw.val (Ex.lenS st_27 rfl (by assumption)) rfl ?_
  refine Lw.val (Ex.neq rfl rfl) rfl ?_
  refine Lw.val (Ex.move rfl) rfl ?_
  refine Lw.know 12 (v' := .bool false) rfl (congrArg Value.bool ((by simp))) ?_
  refine Lw.take (dj := 12) rfl rfl ?_
  refine Lw.val (Ex.move rfl) rfl ?_
  refine Lw.take (dj := 12) rfl rfl ?_
  refine Lw.val (Ex.capS st_27 rfl) rfl ?_
  refine Lw.take (dj := 12) rfl rfl ?_
  refine Lw.val (Ex.move rfl) rfl ?_
  refine Lw.take (dj := 12) rfl rfl ?_
  refine Lw.val (Ex.lenS st_27 rfl (by assumption)) rfl ?_
  refine Lw.take (dj := 12) rfl rfl ?_
  refine Lw.val (Ex.leq rfl rfl) rfl ?_
  refine Lw.val (Ex.pickF rfl rfl) rfl ?_
  refine Lw.nil ?_
  refine Pw.thenN (Cw.out ?_)
  refine Cw.condB rfl false ((by simp; omega)) ?_
  refine Cw.skip ?_
  refine Pw.thenN (Cw.out ?_)
  refine Cw.seq ?_
  refine Cw.seq ?_
  refine Cw.region ?_
  refine Lw.val (Ex.assign rfl) rfl ?_
  refine Lw.nil ?_
  refine Pw.thenN (Cw.out ?_)
  refine Cw.block ?_
  refine Cw.loop (S := Nat) (fun k => [(0, .slice (some ⟨b, 0, none⟩) l.length cap), (1, v), (5, .int .i64 (k : Int))]) (fun k w' => k ≤ l.length ∧ Below w.heap.size w w') (fun k => l.length - k) (0) ⟨rfl, rfl, rfl, trivial⟩ ?_ ?_
  · exact ⟨by omega, Below.refl _ _⟩
  rintro k w1 ⟨hk, hB1⟩
  have hv1 := hv.bs hB1
  have hts1 := hts.bs hB1
  refine Cw.seq ?_
  refine Cw.seq ?_
  refine Cw.region ?_
  refine Lw.val (Ex.move rfl) rfl ?_
  refine Lw.val (Ex.move rfl) rfl ?_
  refine Lw.val (Ex.lenS st_27 rfl (by assumption)) rfl ?_
  refine Lw.val (Ex.lss rfl rfl) rfl ?_
  refine Lw.nil ?_
  refine Pw.thenN (Cw.out ?_)
  refine Cw.cond rfl ?_ ?_
  · intro h
    have hk' : k < l.length := by simp at h; omega
    refine Cw.skip ?_
    refine Pw.thenN (Cw.out ?_)
    refine Cw.seq ?_
    refine Cw.block ?_
    refine Cw.seq ?_
    refine Cw.quiet mixed (by kernel_rfl) ?_
    refine Qw.val (fun w1 hq => Ex.move rfl) rfl ?_
    refine Qw.val (fun w1 hq => Ex.move rfl) rfl ?_
    refine Qw.val (fun w1 hq => Ex.idxT st_27 rfl rfl (Sl.bs (by assumption) hq) _ rfl (by omega)) rfl ?_
    refine Qw.val (fun w1 hq => Ex.ldT (ag_21 _) rfl (Sl.bs (by assumption) hq) (by omega)) rfl ?_
    refine Qw.val (fun w1 hq => Ex.move rfl) rfl ?_
    refine Qw.val (fun w1 hq => Ex.move rfl) rfl ?_
    refine Qw.val (fun w1 hq => Ex.idxT st_27 rfl rfl (Sl.bs (by assumption) hq) _ rfl (by omega)) rfl ?_
    refine Qw.val (fun w1 hq => Ex.ldT (ag_21 _) rfl (Sl.bs (by assumption) hq) (by omega)) rfl ?_
    refine Qw.val (fun w1 hq => Ex.neqi32 rfl rfl) rfl ?_
    refine Qw.nil (fun w2 hq => ?_)
    refine Pw.thenN (Cw.out ?_)
    have hB2 := bt hB1 hq
    refine Cw.condB rfl false ((by simp)) ?_
    refine Cw.skip ?_
    refine Pw.blkN ?_
    refine Pw.thenN (Cw.out ?_)
    refine Cw.region ?_
    refine Lw.val (Ex.move rfl) rfl ?_
    refine Lw.val (Ex.addI rfl rfl (by omega)) rfl ?_
    refine Lw.val (Ex.assign rfl) rfl ?_
    refine Lw.nil ?_
    exact Pw.thenN (Pw.next (k + 1) ⟨rfl, rfl, rfl, trivial⟩ (⟨by omega, hB2⟩) (by omega))
  · intro h
    have hk' : k = l.length := by simp at h; omega
    subst hk'
    have hfull := own_sl (own_bs ho hB1)
    refine Cw.exit ?_
    refine Pw.thenE ?_
    refine Pw.thenE ?_
    refine Pw.blkHit ?_
    refine Pw.thenN (Cw.out ?_)
    refine Cw.seq ?_
    refine Cw.region ?_
    refine Lw.val (Ex.move rfl) rfl ?_
    refine Lw.val (Ex.move rfl) rfl ?_
    refine Lw.val (Ex.lenS st_27 rfl (by assumption)) rfl ?_
    refine Lw.val (Ex.addI rfl rfl (by omega)) rfl ?_
    refine Lw.val (Ex.extH (j := l.length + 1) st_27 rfl rfl (by omega)) rfl ?_
    refine Lw.val (Ex.move rfl) rfl ?_
    refine Lw.val (Ex.lenS st_27 rfl (by assumption)) rfl ?_
    refine Lw.val (Ex.idx st_27 rfl rfl hfull l.length rfl (by omega)) rfl ?_
    refine Lw.val (Ex.ld (u := i32 (77#32)) (ag_21 _) rfl hfull (by simp)) rfl ?_
    refine Lw.val (Ex.assign rfl) rfl ?_
    refine Lw.nil ?_
    refine Pw.thenN (Cw.out ?_)
    refine Cw.seq ?_
    refine Cw.region ?_
    refine Lw.val (Ex.move rfl) rfl ?_
    refine Lw.val (Ex.eqli32 rfl (show _ = some (i32 (77#32)) from rfl)) rfl ?_
    refine Lw.val (Ex.assign rfl) rfl ?_
    refine Lw.nil ?_
    refine Pw.thenN (Cw.out ?_)
    refine Cw.ret ?_
    refine Pw.ret1 rfl rfl ?_
    exact ⟨congrArg Value.bool (by simp), hB1⟩

theorem sameNumbers_c (u v : Value) (l m : List (BitVec 32)) (w : World) (hu : SlT (i32) w u l) (hv : SlT (i32) w v m) :
    Fnc Tryz.prog 42 [u, v] w (fun r w' => r = .bool (decide (l = m)) ∧ Below w.heap.size w w') := by
  have hle := hu.le
  refine Fnc.enter (n := 26) Tryz.func42 (by kernel_rfl) rfl rfl rfl ?_
  refine Cw.seq ?_
  refine Cw.region ?_
  refine Lw.val (Ex.assign rfl) rfl ?_
  refine Lw.nil ?_
  refine Pw.thenN (Cw.out ?_)
  refine Cw.seq ?_
  refine Cw.seq ?_
  refine Cw.region ?_
  refine Lw.val (Ex.move rfl) rfl ?_
  refine Lw.val (Ex.lenS st_27 rfl (by assumption)) rfl ?_
  refine Lw.val (Ex.move rfl) rfl ?_
  refine Lw.val (Ex.lenS st_27 rfl (by assumption)) rfl ?_
  refine Lw.val (Ex.neq rfl rfl) rfl ?_
  refine Lw.nil ?_
  refine Pw.thenN (Cw.out ?_)
  refine Cw.cond rfl ?_ ?_
  · intro h
    have hne : l ≠ m := fun e => by subst e; simp at h
    refine Cw.seq ?_
    refine Cw.region ?_
    refine Lw.val (Ex.assign rfl) rfl ?_
    refine Lw.nil ?_
    refine Pw.thenN (Cw.out ?_)
    refine Cw.ret ?_
    refine Pw.thenR ?_
    refine Pw.ret1 rfl rfl ?_
    exact ⟨by rw [decide_eq_false hne], Below.refl _ _⟩
  · intro h
    have hlen : l.length = m.length := by simp at h; omega
    refine Cw.skip ?_
    refine Pw.thenN (Cw.out ?_)
    refine Cw.seq ?_
    refine Cw.seq ?_
    refine Cw.region ?_
    refine Lw.val (Ex.assign rfl) rfl ?_
    refine Lw.nil ?_
    refine Pw.thenN (Cw.out ?_)
    refine Cw.block ?_
    refine Cw.loop (S := Nat) (fun k => [(0, u), (1, v), (5, .int .i64 (k : Int))]) (fun k w' => k ≤ l.length ∧ l.take k = m.take k ∧ Below w.heap.size w w') (fun k => l.length - k) (0) ⟨rfl, rfl, rfl, trivial⟩ ?_ ?_
    · exact ⟨by omega, by simp, Below.refl _ _⟩
    rintro k w1 ⟨hk, he, hB1⟩
    have hu1 := hu.bs hB1
    have hv1 := hv.bs hB1
    refine Cw.seq ?_
    refine Cw.seq ?_
    refine Cw.region ?_
    refine Lw.val (Ex.move rfl) rfl ?_
    refine Lw.val (Ex.move rfl) rfl ?_
    refine Lw.val (Ex.lenS st_27 rfl (by assumption)) rfl ?_
    refine Lw.val (Ex.lss rfl rfl) rfl ?_
    refine Lw.nil ?_
    refine Pw.thenN (Cw.out ?_)
    refine Cw.cond rfl ?_ ?_
    · intro h
      have hk' : k < l.length := by simp at h; omega
      have hkm : k < m.length := by omega
      refine Cw.skip ?_
      refine Pw.thenN (Cw.out ?_)
      refine Cw.seq ?_
      refine Cw.block ?_
      refine Cw.seq ?_
      refine Cw.quiet mixed (by kernel_rfl) ?_
      refine Qw.val (fun w1 hq => Ex.move rfl) rfl ?_
      refine Qw.val (fun w1 hq => Ex.move rfl) rfl ?_
      refine Qw.val (fun w1 hq => Ex.idxT st_27 rfl rfl (Sl.bs (by assumption) hq) _ rfl (by omega)) rfl ?_
      refine Qw.val (fun w1 hq => Ex.ldT (ag_21 _) rfl (Sl.bs (by assumption) hq) (by omega)) rfl ?_
      refine Qw.val (fun w1 hq => Ex.move rfl) rfl ?_
      refine Qw.val (fun w1 hq => Ex.move rfl) rfl ?_
      refine Qw.val (fun w1 hq => Ex.idxT st_27 rfl rfl (Sl.bs (by assumption) hq) _ rfl (by omega)) rfl ?_
      refine Qw.val (fun w1 hq => Ex.ldT (ag_21 _) rfl (Sl.bs (by assumption) hq) (by omega)) rfl ?_
      refine Qw.val (fun w1 hq => Ex.neqi32 rfl rfl) rfl ?_
      refine Qw.nil (fun w2 hq => ?_)
      refine Pw.thenN (Cw.out ?_)
      have hB2 := bt hB1 hq
      refine Cw.cond rfl ?_ ?_
      · intro h
        have hne : l ≠ m := fun e => by subst e; simp at h
        refine Cw.seq ?_
        refine Cw.region ?_
        refine Lw.val (Ex.assign rfl) rfl ?_
        refine Lw.nil ?_
        refine Pw.thenN (Cw.out ?_)
        refine Cw.ret ?_
        refine Pw.blkR ?_
        refine Pw.thenR ?_
        refine Pw.thenR ?_
        refine Pw.blkR ?_
        refine Pw.thenR ?_
        refine Pw.ret1 rfl rfl ?_
        exact ⟨by rw [decide_eq_false hne], hB2⟩
      · intro h
        refine Cw.skip ?_
        refine Pw.blkN ?_
        refine Pw.thenN (Cw.out ?_)
        refine Cw.region ?_
        refine Lw.val (Ex.move rfl) rfl ?_
        refine Lw.val (Ex.addI rfl rfl (by omega)) rfl ?_
        refine Lw.val (Ex.assign rfl) rfl ?_
        refine Lw.nil ?_
        have he2 : l.take (k + 1) = m.take (k + 1) := by
          rw [List.take_succ_eq_append_getElem hk', List.take_succ_eq_append_getElem hkm, he]
          simp [hk', hkm] at h
          rw [h]
        exact Pw.thenN (Pw.next (k + 1) ⟨rfl, rfl, rfl, trivial⟩ (⟨by omega, he2, hB2⟩) (by omega))
    · intro h
      have hk' : k = l.length := by simp at h; omega
      subst hk'
      rw [List.take_length, hlen, List.take_length] at he
      refine Cw.exit ?_
      refine Pw.thenE ?_
      refine Pw.thenE ?_
      refine Pw.blkHit ?_
      refine Pw.thenN (Cw.out ?_)
      refine Cw.seq ?_
      refine Cw.region ?_
      refine Lw.val (Ex.assign rfl) rfl ?_
      refine Lw.nil ?_
      refine Pw.thenN (Cw.out ?_)
      refine Cw.ret ?_
      refine Pw.ret1 rfl rfl ?_
      exact ⟨by rw [decide_eq_true he], hB1⟩



end Go.Proofs.YtkhndfaampkbnaaGreatDoor
