/- Noughts change no sum, and make every product noughts; ones change no product; a tensor and its negative are noughts: for any tensor; no condition. -/
import Derived.Test.YthgckokpdgiilaaMathsMore
namespace Go.Proofs.Ythgckokpdgiilaa
open Go Go.Dd Go.RowKit Go.ChangeShapes Go.WideShapes Go.ChangeAt


theorem mathsNoughts_w (a : T4) (W : World) (h_a : a.at W) (b1 : a.s.length ≤ 1125899906842624) (b2 : a.l.length ≤ 1125899906842624) :
    Fnc Try.prog 4 [a.v] W (fun r w' => r = .bool true ∧ Below W.heap.size W w') := by
  have hB := Below.refl W.heap.size W
  have tz : 0 ≤ tsz a.s a.l ∧ tsz a.s a.l ≤ 4503599627370496 := by unfold tsz; split <;> omega
  refine Fnc.enter (n := 125) Try.func4 (by kernel_rfl) rfl rfl rfl ?_
  refine Cw.seq ?_
  refine Cw.region ?_
  refine Lw.boxV (cs := [a.x, a.y]) rfl rfl rfl ?_
  rintro A_a w eA_a b_a hn -
  replace hB := hB.bs hn
  replace h_a := h_a.bs hn
  clear hn
  refine Lw.val (Ex.assign rfl) rfl ?_
  refine Lw.nil ?_
  refine Pw.thenN (Cw.out ?_)
  refine Cw.seq ?_
  refine Cw.seq ?_
  refine Cw.region ?_
  refine Lw.callF rfl rfl (alive_c _) ?_
  rintro _ w ⟨rfl, hn⟩
  replace hB := hB.bs hn
  replace h_a := h_a.bs hn
  replace b_a := b_a.bs hn
  clear hn
  refine Lw.val (Ex.not rfl) rfl ?_
  refine Lw.val (Ex.move rfl) rfl ?_
  refine Lw.know 20 (v' := .bool false) rfl (congrArg Value.bool (rfl)) ?_
  refine Lw.take (dj := 20) rfl rfl ?_
  refine Lw.val (Ex.ldA (ag_25 _) (sz_25 _) rfl rfl (by assumption)) rfl ?_
  refine Lw.take (dj := 20) rfl rfl ?_
  refine Lw.callF rfl rfl (tsize_c a _ h_a b1 b2) ?_
  rintro _ w ⟨rfl, hn⟩
  replace hB := hB.bs hn
  replace h_a := h_a.bs hn
  replace b_a := b_a.bs hn
  clear hn
  refine Lw.take (dj := 20) rfl rfl ?_
  refine Lw.valW (Xw.lit (vs := [tsz a.s a.l].map (Value.int .i64)) st_22 it_3 rfl rfl rfl rfl rfl) rfl ?_
  rintro u w ⟨ho, -, hn, -⟩
  replace hB := hB.bs hn
  replace h_a := h_a.bs hn
  replace b_a := b_a.bs hn
  clear hn
  refine Lw.take (dj := 20) rfl rfl ?_
  refine Lw.callF rfl rfl (beyond_c u [tsz a.s a.l] _ (own_slT ho) (by intro x hx; simp at hx; subst hx; exact tz)) ?_
  rintro _ w ⟨rfl, hn⟩
  replace hB := hB.bs hn
  replace h_a := h_a.bs hn
  replace b_a := b_a.bs hn
  clear hn
  refine Lw.val (Ex.pickF rfl rfl) rfl ?_
  refine Lw.val (Ex.move rfl) rfl ?_
  refine Lw.part 26 rfl ?_ ?_
  · intro _
    refine Lw.pass (dj := 26) rfl rfl rfl rfl ?_
    refine Lw.pass (dj := 26) rfl rfl rfl rfl ?_
    refine Lw.pass (dj := 26) rfl rfl rfl rfl ?_
    refine Lw.val (Ex.pickT rfl rfl) rfl ?_
    refine Lw.nil ?_
    refine Pw.thenN (Cw.out ?_)
    refine Cw.condT rfl ?_
    refine Cw.seq ?_
    refine Cw.region ?_
    refine Lw.callF rfl rfl (alive_c _) ?_
    rintro _ w ⟨rfl, hn⟩
    replace hB := hB.bs hn
    replace h_a := h_a.bs hn
    replace b_a := b_a.bs hn
    clear hn
    refine Lw.val (Ex.assign rfl) rfl ?_
    refine Lw.nil ?_
    refine Pw.thenN (Cw.out ?_)
    refine Cw.ret ?_
    refine Pw.thenR ?_
    refine Pw.ret1 rfl rfl ?_
    exact ⟨rfl, hB⟩
  intro hbe
  have hsm := bey_no (Int.le_refl 0) (by intro x hx; simp at hx; subst hx; exact tz.1) hbe (tsz a.s a.l) (by simp)
  have hl1 : a.l.length ≤ 1048576 := by unfold tsz at hsm; split at hsm <;> omega
  clear ho hbe hsm
  refine Lw.take (dj := 26) rfl rfl ?_
  refine Lw.val (Ex.ldA (ag_25 _) (sz_25 _) rfl rfl (by assumption)) rfl ?_
  refine Lw.take (dj := 26) rfl rfl ?_
  refine Lw.callF rfl rfl (tcheck_c a.x a.y a.s a.l _ h_a.1 h_a.2) ?_
  rintro _ w ⟨rfl, hn⟩
  replace hB := hB.bs hn
  replace h_a := h_a.bs hn
  replace b_a := b_a.bs hn
  clear hn
  refine Lw.take (dj := 26) rfl rfl ?_
  refine Lw.val (Ex.not rfl) rfl ?_
  refine Lw.val (Ex.pickF rfl rfl) rfl ?_
  refine Lw.nil ?_
  refine Pw.thenN (Cw.out ?_)
  refine Cw.cond rfl ?_ ?_
  · intro _
    refine Cw.seq ?_
    refine Cw.region ?_
    refine Lw.callF rfl rfl (alive_c _) ?_
    rintro _ w ⟨rfl, hn⟩
    replace hB := hB.bs hn
    replace h_a := h_a.bs hn
    replace b_a := b_a.bs hn
    clear hn
    refine Lw.val (Ex.assign rfl) rfl ?_
    refine Lw.nil ?_
    refine Pw.thenN (Cw.out ?_)
    refine Cw.ret ?_
    refine Pw.thenR ?_
    refine Pw.ret1 rfl rfl ?_
    exact ⟨rfl, hB⟩
  intro hk
  have t_a : tok a.s a.l = true := by simpa using hk
  obtain ⟨hok, ln_a⟩ := tok_ok t_a
  have hgd := (Shapes.ok_iff a.s).1 hok
  clear hk
  refine Cw.skip ?_
  refine Pw.thenN (Cw.out ?_)
  refine Cw.seq ?_
  refine Cw.region ?_
  refine Lw.val (Ex.fieldAddr (q := 0) Try.underlying25 rfl (sz_22 _) rfl) rfl ?_
  refine Lw.val (Ex.ldB (ag_22 _) rfl (by assumption) rfl) rfl ?_
  refine Lw.callF rfl rfl (new_c a.x a.s w h_a.1) ?_
  rintro r w1 ⟨hn, hcase⟩
  replace hB := hB.bs hn
  replace h_a := h_a.bs hn
  replace b_a := b_a.bs hn
  obtain ⟨zx, zy, rfl, hz⟩ : ∃ x y, r = .tuple #[.agg #[x, y], .int .i64 0] ∧ Made1 w w1 x y a.s (List.replicate (Shapes.size a.s).toNat 0#32) := by
    rcases hcase with ⟨_, h⟩ | ⟨h, _⟩
    · exact h
    · rw [hok] at h; cases h
  obtain ⟨z, hzz⟩ : ∃ z : T4, z = T4.mk zx zy a.s (List.replicate (Shapes.size a.s).toNat 0#32) := ⟨_, rfl⟩
  obtain ⟨rfl, rfl, s_z, l_z⟩ : zx = z.x ∧ zy = z.y ∧ z.s = a.s ∧ z.l = List.replicate (Shapes.size a.s).toNat 0#32 := by rw [hzz]; exact ⟨rfl, rfl, rfl, rfl⟩
  have h_z : z.at w1 := by rw [hzz]; exact ⟨hz.sh, own_sl hz.own⟩
  have n_z : z.l.length = a.l.length := by rw [l_z, List.length_replicate, ln_a]
  have t_z : tok z.s z.l = true := by rw [s_z]; exact tok_len t_a n_z
  clear hn hcase hz hzz
  refine Lw.val (Ex.move rfl) rfl ?_
  refine Lw.val (Ex.extract (i := 0) rfl rfl) rfl ?_
  refine Lw.val (Ex.extract (i := 1) rfl rfl) rfl ?_
  refine Lw.boxed (cs := [z.x, z.y]) it_25 rfl rfl rfl rfl (fun _ => rfl) (h_z.one) ?_
  rintro A_z w eA_z b_z hn -
  replace hB := hB.bs hn
  replace h_a := h_a.bs hn
  replace b_a := b_a.bs hn
  replace h_z := h_z.bs hn
  clear hn
  refine Lw.val (Ex.assign rfl) rfl ?_
  refine Lw.nil ?_
  refine Pw.thenN (Cw.out ?_)
  refine Cw.seq ?_
  refine Cw.region ?_
  refine Lw.val (Ex.ldA (ag_25 _) (sz_25 _) rfl rfl (by assumption)) rfl ?_
  refine Lw.callF rfl rfl (twinTensor_c z w h_z (by rw [s_z]; omega) (by omega)) ?_
  rintro _ w7 ⟨hn7, mx, my, rfl, hm⟩
  refine Lw.boxed (cs := [mx, my]) it_25 rfl rfl rfl rfl (fun _ => rfl) (hm.one) ?_
  rintro A_m w8 eA_m b_m hn8 zhn8
  have M := mine_new hm eA_m b_m hn8 zhn8 hn7.size
  have hw8 := bt hn7 hn8
  have b_z8 := b_z.bs hw8
  clear hm b_m hn7 hn8 eA_m zhn8
  refine Lw.nil ?_
  refine Pw.thenN (Cw.out ?_)
  refine Cw.seq ?_
  refine Cw.region ?_
  refine Lw.val (Ex.ldA (ag_25 _) (sz_25 _) rfl rfl (by assumption)) rfl ?_
  refine Lw.callF rfl rfl (twinTensor_c z w8 (h_z.bs hw8) (by rw [s_z]; omega) (by omega)) ?_
  rintro _ w9 ⟨hn9, ox, oy, rfl, ho⟩
  refine Lw.boxed (cs := [ox, oy]) it_25 rfl rfl rfl rfl (fun _ => rfl) (ho.one) ?_
  rintro A_o w10 eA_o b_o hn10 zhn10
  have O := mine_new ho eA_o b_o hn10 zhn10 hn9.size
  have M := M.bs (bt hn9 hn10)
  have hw10 := bt hw8 (bt hn9 hn10)
  have hs8 := hw8.size
  clear ho b_o hn9 hn10 eA_o zhn10 b_z8 hw8
  obtain ⟨one, hone⟩ : ∃ l, l = List.replicate z.l.length 1#32 := ⟨_, rfl⟩
  obtain ⟨neg, hneg⟩ : ∃ l, l = List.replicate z.l.length (BitVec.ofInt 32 (-1)) := ⟨_, rfl⟩
  have n1 : one.length = z.l.length := by rw [hone, List.length_replicate]
  have n2 : neg.length = z.l.length := by rw [hneg, List.length_replicate]
  refine Lw.nil ?_
  refine Pw.thenN (Cw.out ?_)
  refine Cw.seq ?_
  refine Cw.seq ?_
  refine Cw.region ?_
  refine Lw.val (Ex.assign rfl) rfl ?_
  refine Lw.nil ?_
  refine Pw.thenN (Cw.out ?_)
  refine Cw.block ?_
  refine Cw.loop (S := Nat) (fun i => [(1, .pointer (some ⟨A_a, 0, none⟩)), (3, .pointer (some ⟨A_z, 0, none⟩)), (5, .pointer (some ⟨A_m, 0, none⟩)), (6, .pointer (some ⟨A_o, 0, none⟩)), (7, .int .i64 (i : Int))]) (fun i w' => i ≤ z.l.length ∧ Below w.heap.size w w' ∧ MineT w' w.heap.size w8.heap.size A_m mx my z.s (one.take i ++ z.l.drop i) ∧ MineT w' w8.heap.size w10.heap.size A_o ox oy z.s (neg.take i ++ z.l.drop i)) (fun i => z.l.length - i) (0) ⟨rfl, rfl, rfl, rfl, rfl, trivial⟩ ?_ ?_
  · exact ⟨by omega, hw10, by rw [td_zero]; exact M, by rw [td_zero]; exact O⟩
  clear M O hw10
  rintro i w11 ⟨hi, hw, M, O⟩
  have b_m := M.box
  have y_m := M.sly
  have e1 := td_len (i := i) n1
  have e2 := td_len (i := i) n2
  refine Cw.seq ?_
  refine Cw.seq ?_
  refine Cw.region ?_
  refine Lw.val (Ex.move rfl) rfl ?_
  refine Lw.val (Ex.fieldAddr (q := 0) Try.underlying25 rfl (sz_23 _) rfl) rfl ?_
  refine Lw.val (Ex.ldB (ag_23 _) rfl (by assumption) rfl) rfl ?_
  refine Lw.val (Ex.lenS st_23 rfl (by assumption)) rfl ?_
  refine Lw.val (Ex.lss rfl rfl) rfl ?_
  refine Lw.nil ?_
  refine Pw.thenN (Cw.out ?_)
  refine Cw.cond rfl ?_ ?_
  · intro h
    have hi' : i < z.l.length := by simp at h; omega
    refine Cw.skip ?_
    refine Pw.thenN (Cw.out ?_)
    refine Cw.seq ?_
    refine Cw.block ?_
    refine Cw.seq ?_
    refine Cw.region ?_
    refine Lw.val (Ex.fieldAddr (q := 0) Try.underlying25 rfl (sz_23 _) rfl) rfl ?_
    refine Lw.val (Ex.ldB (ag_23 _) rfl (by assumption) rfl) rfl ?_
    refine Lw.val (Ex.move rfl) rfl ?_
    refine Lw.val (Ex.idxT st_23 rfl rfl (by assumption) _ rfl (by omega)) rfl ?_
    refine Lw.unit (M.st (a := 1#32) (sz_21 _) rfl rfl (by omega)) ?_
    rintro w12 ⟨M2, hg2, -⟩
    have hw2 := M.below hw (Nat.le_refl _) hg2
    have O2 := O.keep hg2 (M.other (.inl (Nat.le_refl _)))
    have b_o := O2.box
    have y_o := O2.sly
    refine Lw.nil ?_
    refine Pw.thenN (Cw.out ?_)
    refine Cw.region ?_
    refine Lw.val (Ex.fieldAddr (q := 0) Try.underlying25 rfl (sz_23 _) rfl) rfl ?_
    refine Lw.val (Ex.ldB (ag_23 _) rfl (by assumption) rfl) rfl ?_
    refine Lw.val (Ex.move rfl) rfl ?_
    refine Lw.val (Ex.idxT st_23 rfl rfl (by assumption) _ rfl (by omega)) rfl ?_
    refine Lw.unit (O2.st (a := BitVec.ofInt 32 (-1)) (sz_21 _) rfl rfl (by omega)) ?_
    rintro w13 ⟨O3, hg3, -⟩
    have M3 := M2.keep hg3 (O2.other (.inr (Nat.le_refl _)))
    have hw3 := hw2.grown hg3 (below_size hw2) (fun b hb => by have := O2.lst.blk b hb; omega)
    have q1 : (one.take i ++ z.l.drop i).set i 1#32 = one.take (i + 1) ++ z.l.drop (i + 1) := by
      rw [← td_set n1 hi', hone, getD_rep hi']
    have q2 : (neg.take i ++ z.l.drop i).set i (BitVec.ofInt 32 (-1)) = neg.take (i + 1) ++ z.l.drop (i + 1) := by
      rw [← td_set n2 hi', hneg, getD_rep hi']
    rw [q1] at M3
    rw [q2] at O3
    refine Lw.nil ?_
    refine Pw.blkN ?_
    refine Pw.thenN (Cw.out ?_)
    refine Cw.region ?_
    refine Lw.val (Ex.move rfl) rfl ?_
    refine Lw.val (Ex.addI rfl rfl (by omega)) rfl ?_
    refine Lw.val (Ex.assign rfl) rfl ?_
    refine Lw.nil ?_
    exact Pw.thenN (Pw.next (i + 1) ⟨rfl, rfl, rfl, rfl, rfl, trivial⟩ (⟨hi', hw3, M3, O3⟩) (by omega))
  intro h
  have hi' : i = z.l.length := by simp at h; omega
  subst hi'
  rw [td_all n1] at M
  rw [td_all n2] at O
  obtain ⟨m, hmm⟩ : ∃ m : T4, m = T4.mk mx my z.s one := ⟨_, rfl⟩
  obtain ⟨o, hoo⟩ : ∃ o : T4, o = T4.mk ox oy z.s neg := ⟨_, rfl⟩
  have h_m : m.at w11 := by rw [hmm]; exact mine_at M
  have h_o : o.at w11 := by rw [hoo]; exact mine_at O
  have b_m : Blk w11 A_m 25 [m.x, m.y] := by rw [hmm]; exact M.box
  have b_o : Blk w11 A_o 25 [o.x, o.y] := by rw [hoo]; exact O.box
  have t_m : tok m.s m.l = true := by rw [hmm]; exact tok_len t_z n1
  have t_o : tok o.s o.l = true := by rw [hoo]; exact tok_len t_z n2
  have s_m : m.s = a.s := by rw [hmm]; exact s_z
  have s_o : o.s = a.s := by rw [hoo]; exact s_z
  have l_m : m.l = List.replicate a.l.length 1#32 := by rw [hmm, ← n_z]; exact hone
  have l_o : o.l = List.replicate a.l.length (BitVec.ofInt 32 (-1)) := by rw [hoo, ← n_z]; exact hneg
  have s_a : a.s = a.s := rfl
  rw [← ln_a] at l_z
  have n_m : m.l.length = a.l.length := by rw [l_m, List.length_replicate]
  have n_o : o.l.length = a.l.length := by rw [l_o, List.length_replicate]
  clear M O hmm hoo y_m hneg hone n1 n2 e1 e2
  replace hB := hB.bs hw
  replace h_a := h_a.bs hw
  replace b_a := b_a.bs hw
  replace h_z := h_z.bs hw
  replace b_z := b_z.bs hw
  clear hw
  refine Cw.exit ?_
  refine Pw.thenE ?_
  refine Pw.thenE ?_
  refine Pw.blkHit ?_
  refine Pw.thenN (Cw.out ?_)
  refine Cw.seq ?_
  refine Cw.region ?_
  refine Lw.val (Ex.ldA (ag_25 _) (sz_25 _) rfl rfl (by assumption)) rfl ?_
  refine Lw.val (Ex.ldA (ag_25 _) (sz_25 _) rfl rfl (by assumption)) rfl ?_
  refine Lw.callF rfl rfl (add_p a z _ h_a h_z) ?_
  rintro r w ⟨hn, p, rfl, h_p, -, hz⟩
  replace hB := hB.bs hn
  replace h_a := h_a.bs hn
  replace b_a := b_a.bs hn
  replace h_z := h_z.bs hn
  replace b_z := b_z.bs hn
  replace b_m := b_m.bs hn
  replace h_m := h_m.bs hn
  replace b_o := b_o.bs hn
  replace h_o := h_o.bs hn
  clear hn
  obtain ⟨s_p, l_p, -⟩ := hz (e2_no t_a t_z (s_z.trans s_a.symm))
  rw [e2_no t_a t_z (s_z.trans s_a.symm)]
  have n_p : p.l.length = a.l.length := by rw [l_p]; exact z2_len t_a
  have t_p : tok p.s p.l = true := by rw [s_p]; exact tok_len t_a n_p
  have s_p := s_p.trans s_a
  clear hz
  refine Lw.val (Ex.move rfl) rfl ?_
  refine Lw.val (Ex.extract (i := 0) rfl rfl) rfl ?_
  refine Lw.val (Ex.extract (i := 1) rfl rfl) rfl ?_
  refine Lw.boxed (cs := [p.x, p.y]) it_25 rfl rfl rfl rfl (fun _ => rfl) (h_p.one) ?_
  rintro A_p w eA_p b_p hn -
  replace hB := hB.bs hn
  replace h_a := h_a.bs hn
  replace b_a := b_a.bs hn
  replace h_z := h_z.bs hn
  replace b_z := b_z.bs hn
  replace b_m := b_m.bs hn
  replace h_m := h_m.bs hn
  replace b_o := b_o.bs hn
  replace h_o := h_o.bs hn
  replace h_p := h_p.bs hn
  clear hn
  refine Lw.val (Ex.assign rfl) rfl ?_
  refine Lw.nil ?_
  refine Pw.thenN (Cw.out ?_)
  refine Cw.seq ?_
  refine Cw.region ?_
  refine Lw.val (Ex.ldA (ag_25 _) (sz_25 _) rfl rfl (by assumption)) rfl ?_
  refine Lw.val (Ex.ldA (ag_25 _) (sz_25 _) rfl rfl (by assumption)) rfl ?_
  refine Lw.callF rfl rfl (mul_p a z _ h_a h_z) ?_
  rintro r w ⟨hn, q, rfl, h_q, -, hz⟩
  replace hB := hB.bs hn
  replace h_a := h_a.bs hn
  replace b_a := b_a.bs hn
  replace h_z := h_z.bs hn
  replace b_z := b_z.bs hn
  replace b_m := b_m.bs hn
  replace h_m := h_m.bs hn
  replace b_o := b_o.bs hn
  replace h_o := h_o.bs hn
  replace h_p := h_p.bs hn
  replace b_p := b_p.bs hn
  clear hn
  obtain ⟨s_q, l_q, -⟩ := hz (e2_no t_a t_z (s_z.trans s_a.symm))
  rw [e2_no t_a t_z (s_z.trans s_a.symm)]
  have n_q : q.l.length = a.l.length := by rw [l_q]; exact z2_len t_a
  have t_q : tok q.s q.l = true := by rw [s_q]; exact tok_len t_a n_q
  have s_q := s_q.trans s_a
  clear hz
  refine Lw.val (Ex.move rfl) rfl ?_
  refine Lw.val (Ex.extract (i := 0) rfl rfl) rfl ?_
  refine Lw.val (Ex.extract (i := 1) rfl rfl) rfl ?_
  refine Lw.boxed (cs := [q.x, q.y]) it_25 rfl rfl rfl rfl (fun _ => rfl) (h_q.one) ?_
  rintro A_q w eA_q b_q hn -
  replace hB := hB.bs hn
  replace h_a := h_a.bs hn
  replace b_a := b_a.bs hn
  replace h_z := h_z.bs hn
  replace b_z := b_z.bs hn
  replace b_m := b_m.bs hn
  replace h_m := h_m.bs hn
  replace b_o := b_o.bs hn
  replace h_o := h_o.bs hn
  replace h_p := h_p.bs hn
  replace b_p := b_p.bs hn
  replace h_q := h_q.bs hn
  clear hn
  refine Lw.val (Ex.assign rfl) rfl ?_
  refine Lw.nil ?_
  refine Pw.thenN (Cw.out ?_)
  refine Cw.seq ?_
  refine Cw.region ?_
  refine Lw.val (Ex.ldA (ag_25 _) (sz_25 _) rfl rfl (by assumption)) rfl ?_
  refine Lw.val (Ex.ldA (ag_25 _) (sz_25 _) rfl rfl (by assumption)) rfl ?_
  refine Lw.callF rfl rfl (mul_p m a _ h_m h_a) ?_
  rintro r w ⟨hn, c, rfl, h_c, -, hz⟩
  replace hB := hB.bs hn
  replace h_a := h_a.bs hn
  replace b_a := b_a.bs hn
  replace h_z := h_z.bs hn
  replace b_z := b_z.bs hn
  replace b_m := b_m.bs hn
  replace h_m := h_m.bs hn
  replace b_o := b_o.bs hn
  replace h_o := h_o.bs hn
  replace h_p := h_p.bs hn
  replace b_p := b_p.bs hn
  replace h_q := h_q.bs hn
  replace b_q := b_q.bs hn
  clear hn
  obtain ⟨s_c, l_c, -⟩ := hz (e2_no t_m t_a (s_a.trans s_m.symm))
  rw [e2_no t_m t_a (s_a.trans s_m.symm)]
  have n_c : c.l.length = m.l.length := by rw [l_c]; exact z2_len t_m
  have t_c : tok c.s c.l = true := by rw [s_c]; exact tok_len t_m n_c
  have s_c := s_c.trans s_m
  clear hz
  refine Lw.val (Ex.move rfl) rfl ?_
  refine Lw.val (Ex.extract (i := 0) rfl rfl) rfl ?_
  refine Lw.val (Ex.extract (i := 1) rfl rfl) rfl ?_
  refine Lw.boxed (cs := [c.x, c.y]) it_25 rfl rfl rfl rfl (fun _ => rfl) (h_c.one) ?_
  rintro A_c w eA_c b_c hn -
  replace hB := hB.bs hn
  replace h_a := h_a.bs hn
  replace b_a := b_a.bs hn
  replace h_z := h_z.bs hn
  replace b_z := b_z.bs hn
  replace b_m := b_m.bs hn
  replace h_m := h_m.bs hn
  replace b_o := b_o.bs hn
  replace h_o := h_o.bs hn
  replace h_p := h_p.bs hn
  replace b_p := b_p.bs hn
  replace h_q := h_q.bs hn
  replace b_q := b_q.bs hn
  replace h_c := h_c.bs hn
  clear hn
  refine Lw.val (Ex.assign rfl) rfl ?_
  refine Lw.nil ?_
  refine Pw.thenN (Cw.out ?_)
  refine Cw.seq ?_
  refine Cw.region ?_
  refine Lw.val (Ex.ldA (ag_25 _) (sz_25 _) rfl rfl (by assumption)) rfl ?_
  refine Lw.val (Ex.ldA (ag_25 _) (sz_25 _) rfl rfl (by assumption)) rfl ?_
  refine Lw.callF rfl rfl (mul_p a o _ h_a h_o) ?_
  rintro r w ⟨hn, d, rfl, h_d, -, hz⟩
  replace hB := hB.bs hn
  replace h_a := h_a.bs hn
  replace b_a := b_a.bs hn
  replace h_z := h_z.bs hn
  replace b_z := b_z.bs hn
  replace b_m := b_m.bs hn
  replace h_m := h_m.bs hn
  replace b_o := b_o.bs hn
  replace h_o := h_o.bs hn
  replace h_p := h_p.bs hn
  replace b_p := b_p.bs hn
  replace h_q := h_q.bs hn
  replace b_q := b_q.bs hn
  replace h_c := h_c.bs hn
  replace b_c := b_c.bs hn
  clear hn
  obtain ⟨s_d, l_d, -⟩ := hz (e2_no t_a t_o (s_o.trans s_a.symm))
  rw [e2_no t_a t_o (s_o.trans s_a.symm)]
  have n_d : d.l.length = a.l.length := by rw [l_d]; exact z2_len t_a
  have t_d : tok d.s d.l = true := by rw [s_d]; exact tok_len t_a n_d
  have s_d := s_d.trans s_a
  clear hz
  refine Lw.val (Ex.move rfl) rfl ?_
  refine Lw.val (Ex.extract (i := 0) rfl rfl) rfl ?_
  refine Lw.val (Ex.extract (i := 1) rfl rfl) rfl ?_
  refine Lw.boxed (cs := [d.x, d.y]) it_25 rfl rfl rfl rfl (fun _ => rfl) (h_d.one) ?_
  rintro A_d w eA_d b_d hn -
  replace hB := hB.bs hn
  replace h_a := h_a.bs hn
  replace b_a := b_a.bs hn
  replace h_z := h_z.bs hn
  replace b_z := b_z.bs hn
  replace b_m := b_m.bs hn
  replace h_m := h_m.bs hn
  replace b_o := b_o.bs hn
  replace h_o := h_o.bs hn
  replace h_p := h_p.bs hn
  replace b_p := b_p.bs hn
  replace h_q := h_q.bs hn
  replace b_q := b_q.bs hn
  replace h_c := h_c.bs hn
  replace b_c := b_c.bs hn
  replace h_d := h_d.bs hn
  clear hn
  refine Lw.val (Ex.assign rfl) rfl ?_
  refine Lw.nil ?_
  refine Pw.thenN (Cw.out ?_)
  refine Cw.seq ?_
  refine Cw.region ?_
  refine Lw.val (Ex.ldA (ag_25 _) (sz_25 _) rfl rfl (by assumption)) rfl ?_
  refine Lw.val (Ex.ldA (ag_25 _) (sz_25 _) rfl rfl (by assumption)) rfl ?_
  refine Lw.callF rfl rfl (add_p d a _ h_d h_a) ?_
  rintro r w ⟨hn, x, rfl, h_x, -, hz⟩
  replace hB := hB.bs hn
  replace h_a := h_a.bs hn
  replace b_a := b_a.bs hn
  replace h_z := h_z.bs hn
  replace b_z := b_z.bs hn
  replace b_m := b_m.bs hn
  replace h_m := h_m.bs hn
  replace b_o := b_o.bs hn
  replace h_o := h_o.bs hn
  replace h_p := h_p.bs hn
  replace b_p := b_p.bs hn
  replace h_q := h_q.bs hn
  replace b_q := b_q.bs hn
  replace h_c := h_c.bs hn
  replace b_c := b_c.bs hn
  replace h_d := h_d.bs hn
  replace b_d := b_d.bs hn
  clear hn
  obtain ⟨s_x, l_x, -⟩ := hz (e2_no t_d t_a (s_a.trans s_d.symm))
  rw [e2_no t_d t_a (s_a.trans s_d.symm)]
  have n_x : x.l.length = d.l.length := by rw [l_x]; exact z2_len t_d
  have t_x : tok x.s x.l = true := by rw [s_x]; exact tok_len t_d n_x
  have s_x := s_x.trans s_d
  clear hz
  refine Lw.val (Ex.move rfl) rfl ?_
  refine Lw.val (Ex.extract (i := 0) rfl rfl) rfl ?_
  refine Lw.val (Ex.extract (i := 1) rfl rfl) rfl ?_
  refine Lw.boxed (cs := [x.x, x.y]) it_25 rfl rfl rfl rfl (fun _ => rfl) (h_x.one) ?_
  rintro A_x w eA_x b_x hn -
  replace hB := hB.bs hn
  replace h_a := h_a.bs hn
  replace b_a := b_a.bs hn
  replace h_z := h_z.bs hn
  replace b_z := b_z.bs hn
  replace b_m := b_m.bs hn
  replace h_m := h_m.bs hn
  replace b_o := b_o.bs hn
  replace h_o := h_o.bs hn
  replace h_p := h_p.bs hn
  replace b_p := b_p.bs hn
  replace h_q := h_q.bs hn
  replace b_q := b_q.bs hn
  replace h_c := h_c.bs hn
  replace b_c := b_c.bs hn
  replace h_d := h_d.bs hn
  replace b_d := b_d.bs hn
  replace h_x := h_x.bs hn
  clear hn
  refine Lw.val (Ex.assign rfl) rfl ?_
  refine Lw.nil ?_
  refine Pw.thenN (Cw.out ?_)
  refine Cw.seq ?_
  refine Cw.region ?_
  refine Lw.val (Ex.move rfl) rfl ?_
  refine Lw.val (Ex.eql rfl rfl) rfl ?_
  refine Lw.val (Ex.move rfl) rfl ?_
  refine Lw.know 89 (v' := .bool true) rfl (congrArg Value.bool (rfl)) ?_
  refine Lw.take (dj := 89) rfl rfl ?_
  refine Lw.val (Ex.move rfl) rfl ?_
  refine Lw.take (dj := 89) rfl rfl ?_
  refine Lw.val (Ex.eql rfl rfl) rfl ?_
  refine Lw.val (Ex.pickT rfl rfl) rfl ?_
  refine Lw.val (Ex.move rfl) rfl ?_
  refine Lw.know 93 (v' := .bool true) rfl (congrArg Value.bool (rfl)) ?_
  refine Lw.take (dj := 93) rfl rfl ?_
  refine Lw.val (Ex.move rfl) rfl ?_
  refine Lw.take (dj := 93) rfl rfl ?_
  refine Lw.val (Ex.eql rfl rfl) rfl ?_
  refine Lw.val (Ex.pickT rfl rfl) rfl ?_
  refine Lw.val (Ex.move rfl) rfl ?_
  refine Lw.know 97 (v' := .bool true) rfl (congrArg Value.bool (rfl)) ?_
  refine Lw.take (dj := 97) rfl rfl ?_
  refine Lw.val (Ex.move rfl) rfl ?_
  refine Lw.take (dj := 97) rfl rfl ?_
  refine Lw.val (Ex.eql rfl rfl) rfl ?_
  refine Lw.val (Ex.pickT rfl rfl) rfl ?_
  refine Lw.val (Ex.move rfl) rfl ?_
  refine Lw.know 101 (v' := .bool true) rfl (congrArg Value.bool (rfl)) ?_
  refine Lw.take (dj := 101) rfl rfl ?_
  refine Lw.val (Ex.move rfl) rfl ?_
  refine Lw.take (dj := 101) rfl rfl ?_
  refine Lw.val (Ex.eql rfl rfl) rfl ?_
  refine Lw.val (Ex.pickT rfl rfl) rfl ?_
  refine Lw.val (Ex.move rfl) rfl ?_
  refine Lw.know 105 (v' := .bool true) rfl (congrArg Value.bool (rfl)) ?_
  refine Lw.take (dj := 105) rfl rfl ?_
  refine Lw.val (Ex.ldA (ag_25 _) (sz_25 _) rfl rfl (by assumption)) rfl ?_
  refine Lw.take (dj := 105) rfl rfl ?_
  refine Lw.val (Ex.ldA (ag_25 _) (sz_25 _) rfl rfl (by assumption)) rfl ?_
  refine Lw.take (dj := 105) rfl rfl ?_
  refine Lw.callF rfl rfl (same_c _ _ _ _ _ _ _ _ _ h_p.1 h_p.2 h_a.1 h_a.2) ?_
  rintro _ w ⟨rfl, hn⟩
  replace hB := hB.bs hn
  replace h_a := h_a.bs hn
  replace b_a := b_a.bs hn
  replace h_z := h_z.bs hn
  replace b_z := b_z.bs hn
  replace b_m := b_m.bs hn
  replace h_m := h_m.bs hn
  replace b_o := b_o.bs hn
  replace h_o := h_o.bs hn
  replace h_p := h_p.bs hn
  replace b_p := b_p.bs hn
  replace h_q := h_q.bs hn
  replace b_q := b_q.bs hn
  replace h_c := h_c.bs hn
  replace b_c := b_c.bs hn
  replace h_d := h_d.bs hn
  replace b_d := b_d.bs hn
  replace h_x := h_x.bs hn
  replace b_x := b_x.bs hn
  clear hn
  refine Lw.val (Ex.pickT rfl rfl) rfl ?_
  refine Lw.val (Ex.move rfl) rfl ?_
  refine Lw.know 110 (v' := .bool true) rfl (congrArg Value.bool (same_yes (s_p.trans s_a.symm) (by rw [l_p, l_z]; exact z2_map t_a (by simp) rfl fun i hi => by rw [getD_rep hi]; exact BitVec.add_zero _))) ?_
  refine Lw.take (dj := 110) rfl rfl ?_
  refine Lw.val (Ex.ldA (ag_25 _) (sz_25 _) rfl rfl (by assumption)) rfl ?_
  refine Lw.take (dj := 110) rfl rfl ?_
  refine Lw.val (Ex.ldA (ag_25 _) (sz_25 _) rfl rfl (by assumption)) rfl ?_
  refine Lw.take (dj := 110) rfl rfl ?_
  refine Lw.callF rfl rfl (same_c _ _ _ _ _ _ _ _ _ h_q.1 h_q.2 h_z.1 h_z.2) ?_
  rintro _ w ⟨rfl, hn⟩
  replace hB := hB.bs hn
  replace h_a := h_a.bs hn
  replace b_a := b_a.bs hn
  replace h_z := h_z.bs hn
  replace b_z := b_z.bs hn
  replace b_m := b_m.bs hn
  replace h_m := h_m.bs hn
  replace b_o := b_o.bs hn
  replace h_o := h_o.bs hn
  replace h_p := h_p.bs hn
  replace b_p := b_p.bs hn
  replace h_q := h_q.bs hn
  replace b_q := b_q.bs hn
  replace h_c := h_c.bs hn
  replace b_c := b_c.bs hn
  replace h_d := h_d.bs hn
  replace b_d := b_d.bs hn
  replace h_x := h_x.bs hn
  replace b_x := b_x.bs hn
  clear hn
  refine Lw.val (Ex.pickT rfl rfl) rfl ?_
  refine Lw.val (Ex.move rfl) rfl ?_
  refine Lw.know 115 (v' := .bool true) rfl (congrArg Value.bool (same_yes (s_q.trans s_z.symm) (by rw [l_q, l_z]; exact z2_map t_a (by simp) (by simp) fun i hi => by rw [getD_rep hi]; exact BitVec.mul_zero))) ?_
  refine Lw.take (dj := 115) rfl rfl ?_
  refine Lw.val (Ex.ldA (ag_25 _) (sz_25 _) rfl rfl (by assumption)) rfl ?_
  refine Lw.take (dj := 115) rfl rfl ?_
  refine Lw.val (Ex.ldA (ag_25 _) (sz_25 _) rfl rfl (by assumption)) rfl ?_
  refine Lw.take (dj := 115) rfl rfl ?_
  refine Lw.callF rfl rfl (same_c _ _ _ _ _ _ _ _ _ h_c.1 h_c.2 h_a.1 h_a.2) ?_
  rintro _ w ⟨rfl, hn⟩
  replace hB := hB.bs hn
  replace h_a := h_a.bs hn
  replace b_a := b_a.bs hn
  replace h_z := h_z.bs hn
  replace b_z := b_z.bs hn
  replace b_m := b_m.bs hn
  replace h_m := h_m.bs hn
  replace b_o := b_o.bs hn
  replace h_o := h_o.bs hn
  replace h_p := h_p.bs hn
  replace b_p := b_p.bs hn
  replace h_q := h_q.bs hn
  replace b_q := b_q.bs hn
  replace h_c := h_c.bs hn
  replace b_c := b_c.bs hn
  replace h_d := h_d.bs hn
  replace b_d := b_d.bs hn
  replace h_x := h_x.bs hn
  replace b_x := b_x.bs hn
  clear hn
  refine Lw.val (Ex.pickT rfl rfl) rfl ?_
  refine Lw.val (Ex.move rfl) rfl ?_
  refine Lw.know 120 (v' := .bool true) rfl (congrArg Value.bool (same_yes (s_c.trans s_a.symm) (by rw [l_c, l_m]; exact z2_map (by rw [← l_m]; exact t_m) (by simp) (by simp) fun i hi => by rw [getD_rep (by simpa using hi)]; exact BitVec.one_mul _))) ?_
  refine Lw.take (dj := 120) rfl rfl ?_
  refine Lw.val (Ex.ldA (ag_25 _) (sz_25 _) rfl rfl (by assumption)) rfl ?_
  refine Lw.take (dj := 120) rfl rfl ?_
  refine Lw.val (Ex.ldA (ag_25 _) (sz_25 _) rfl rfl (by assumption)) rfl ?_
  refine Lw.take (dj := 120) rfl rfl ?_
  refine Lw.callF rfl rfl (same_c _ _ _ _ _ _ _ _ _ h_x.1 h_x.2 h_z.1 h_z.2) ?_
  rintro _ w ⟨rfl, hn⟩
  replace hB := hB.bs hn
  replace h_a := h_a.bs hn
  replace b_a := b_a.bs hn
  replace h_z := h_z.bs hn
  replace b_z := b_z.bs hn
  replace b_m := b_m.bs hn
  replace h_m := h_m.bs hn
  replace b_o := b_o.bs hn
  replace h_o := h_o.bs hn
  replace h_p := h_p.bs hn
  replace b_p := b_p.bs hn
  replace h_q := h_q.bs hn
  replace b_q := b_q.bs hn
  replace h_c := h_c.bs hn
  replace b_c := b_c.bs hn
  replace h_d := h_d.bs hn
  replace b_d := b_d.bs hn
  replace h_x := h_x.bs hn
  replace b_x := b_x.bs hn
  clear hn
  refine Lw.val (Ex.pickT rfl rfl) rfl ?_
  refine Lw.val (Ex.assign rfl) rfl ?_
  refine Lw.nil ?_
  refine Pw.thenN (Cw.out ?_)
  refine Cw.ret ?_
  refine Pw.ret1 rfl rfl ?_
  have hd : ∀ i, i < a.l.length → d.l.getD i default = - a.l.getD i default := fun i hi => by
    rw [l_d, l_o]
    have : i < (Shapes.size a.s).toNat := by omega
    simp only [z2, List.getD_eq_getElem?_getD, List.getElem?_map, List.getElem?_range this, Option.map_some, Option.getD_some]
    rw [← List.getD_eq_getElem?_getD, ← List.getD_eq_getElem?_getD, getD_rep hi]
    have : BitVec.ofInt 32 (-1) = -1#32 := by decide
    rw [this, BitVec.mul_neg, BitVec.mul_one]
  exact ⟨congrArg Value.bool (same_yes (s_x.trans s_z.symm) (by rw [l_x, l_z]; exact z2_map t_d (by omega) (by simp; omega) fun i hi => by rw [hd i (by omega), getD_rep (by omega), BitVec.add_comm, ← BitVec.sub_eq_add_neg, BitVec.sub_self])), hB⟩

set_option maxRecDepth 100000 in
theorem mathsNoughts_lifted (os : Os) (started : os.Started) (H : Type) (enc : TypeId × Value → H) :
    ReturnsInHanded {} Try.checked os 4 .any (Rows.mathsNoughtsSpec.pre6 enc Try.prog Try.f4 Rows.mathsNoughtsRow.domain false) (Rows.mathsNoughtsSpec.post enc Try.prog Try.f4 false true false false) := by
  refine returnsInHanded_of_change_sized (C := Try.checked) own started (by kernel_rfl) Try.func4
    (ChangeSpec.witness6 (enc := enc) (C := Try.checked) false ⟨#[], #[.agg #[.slice none 0 0, .slice none 0 0]], []⟩ 8 (by kernel_rfl) (by kernel_rfl) (by kernel_rfl) (by kernel_rfl)) ?_
  intro W base args ds gs before hval0 hW hcnd hsz0 _
  have hval : ∀ (j : Nat) t v, Try.f4.params[j]? = some t → args[j]? = some v → Value.okWide Try.prog W .any base t v := hval0
  have hW' := hW
  obtain ⟨p, q, hA0, hV, rfl, hfz, hnd⟩ := hW
  have hA : DataW.TrodAll enc Try.prog W 0 (fun _ => true) true Try.f4.params.toList args.toList ds p := hA0
  have hsz : (DataW.weightsEach Try.prog (Try.f4.params.toList ++ Rows.mathsNoughtsSpec.plain.varTypes Try.prog) (ds ++ gs)).all (· ≤ reachBytes) = true := hsz0
  rw [Try.params4] at hA hval hsz
  obtain ⟨v0, vs0, d0, ds0, p0, q0, hargs, rfl, rfl, h0, r0⟩ := trodAll_cons hA
  obtain ⟨rfl, rfl, rfl⟩ := trodAll_nil r0
  obtain rfl : args = #[v0] := by cases args; simp_all
  obtain ⟨rfl, rfl⟩ := trodVars_none hV
  have k0 := h0
  have lt0 : ∀ x ∈ p0, x.block < W.heap.size := by obtain ⟨m, hm⟩ := k0; exact DataW.trod_lt m _ _ _ hm
  have i0 := in_of (j := 0) (t := 25) hsz rfl rfl h0
  have o0 := hval 0 25 v0 rfl rfl
  clear hA0 hval0 hsz0 hsz
  obtain ⟨a, rfl, ha, b1, b2⟩ := arg_ten o0 i0
  refine (law_calls (mathsNoughts_w a W ha (by omega) (by omega))).mono fun e W' ⟨he, bel⟩ => ?_
  subst he
  exact ⟨_, rfl, _, _, _, [], _, [], hW', trodAll_mk1 (shut_bool un_4 _), (trodAll_cons_mk (Below.trod laidOut (by kernel_rfl) (of_decide_eq_true (by kernel_rfl)) k0 bel lt0) trodAll_mk0), rfl, bel.frame _, fun h => by cases h⟩

/-- The statement. -/
theorem mathsNoughts_proved : Rows.MathsNoughtsSaid :=
  OpenClaim.holds_of_wide 4 Try.f4 rfl rfl rfl rfl rfl rfl rfl ⟨rfl, rfl, rfl, rfl, rfl⟩ rfl rfl rfl rfl rfl (by kernel_rfl) Try.func4 (by kernel_rfl)
    (of_decide_eq_true (by kernel_rfl)) (by unfold Func.isWrapper; first | (rw [if_pos (by decide +kernel)]; kernel_rfl) | (rw [if_neg (by decide +kernel)]; exact ⟨rfl, rfl⟩))
    (fun os started H enc _ => mathsNoughts_lifted os started H enc)
#print axioms mathsNoughts_proved
end Go.Proofs.Ythgckokpdgiilaa
