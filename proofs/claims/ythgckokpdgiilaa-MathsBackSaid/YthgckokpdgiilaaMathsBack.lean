/- Small numbers, made 2^n times as great, and shifted by n bits, are what they were: for any tensor, any number of bits; no condition. -/
import Derived.Test.YthgckokpdgiilaaMathsMore
import Derived.Test.YthgckokpdgiilaaInt
namespace Go.Proofs.Ythgckokpdgiilaa
open Go Go.Dd Go.RowKit Go.ChangeShapes Go.WideShapes Go.ChangeAt


theorem back_one (x : BitVec 32) (j : Nat) (hj : j ≤ 23) : shB j (low8 x * (1#32 <<< j)) = low8 x := by
  have h := low8_in x
  obtain ⟨p1, p2⟩ := pow_le j (by omega)
  have p3 : (2 : Int) ^ j ≤ 8388608 := by
    have h2 : 2 ^ j ≤ 2 ^ 23 := Nat.pow_le_pow_right (by decide) hj
    have h3 : (2 : Nat) ^ 23 = 8388608 := by decide
    have e : ((2 ^ j : Nat) : Int) = (2 : Int) ^ j := by simp
    omega
  have e1 : low8 x * (1#32 <<< j) = BitVec.ofInt 32 ((low8 x).toInt * 2 ^ j) := by
    rw [ofInt_mul_pow, ofInt_toInt, BitVec.shiftLeft_eq_mul_twoPow (low8 x), BitVec.shiftLeft_eq_mul_twoPow, BitVec.one_mul]
  generalize hy : (low8 x).toInt = y at *
  have q1 : -128 * 2 ^ j ≤ y * 2 ^ j := Int.mul_le_mul_of_nonneg_right h.1 (by omega)
  have q2 : y * 2 ^ j ≤ 127 * 2 ^ j := Int.mul_le_mul_of_nonneg_right h.2 (by omega)
  have e2 : (BitVec.ofInt 32 (y * 2 ^ j)).toInt = y * 2 ^ j := by
    rw [BitVec.toInt_ofInt, Int.bmod_def]; omega
  unfold shB shI
  rw [e1, e2]
  have e3 : (y * 2 ^ j + 1 * 2 ^ j / 2 ^ 1) / 2 ^ j = y := by
    have : (1 : Int) * 2 ^ j / 2 ^ 1 = 2 ^ j / 2 := by rw [Int.one_mul]; rfl
    rw [this, Int.add_comm, Int.add_mul_ediv_right _ _ (by omega), Int.ediv_eq_zero_of_lt (by omega) (by omega)]
    omega
  rw [e3]
  have e4 : clampI y = y := by unfold clampI; omega
  rw [e4, ← hy, ofInt_toInt]

theorem mathsBack_w (a : T4) (nb : BitVec 8) (W : World) (h_a : a.at W) (b1 : a.s.length ≤ 1125899906842624) (b2 : a.l.length ≤ 1125899906842624) :
    Fnc Try.prog 8 [a.v, b8 nb] W (fun r w' => r = .bool true ∧ Below W.heap.size W w') := by
  have hB := Below.refl W.heap.size W
  have tz : 0 ≤ tsz a.s a.l ∧ tsz a.s a.l ≤ 4503599627370496 := by unfold tsz; split <;> omega
  obtain ⟨k, hk⟩ : ∃ k, k = nb.toNat % 24 := ⟨_, rfl⟩
  have hk2 : k ≤ 23 := by omega
  refine Fnc.enter (n := 81) Try.func8 (by kernel_rfl) rfl rfl rfl ?_
  refine Cw.seq ?_
  refine Cw.region ?_
  refine Lw.boxV (cs := [a.x, a.y]) rfl rfl rfl ?_
  rintro A_a w eA_a b_a hn -
  replace hB := hB.bs hn
  replace h_a := h_a.bs hn
  clear hn
  refine Lw.val (Ex.assign rfl) rfl ?_
  refine Lw.nil ?_
  refine Pw.thenN (Cw.out ?_)
  refine Cw.seq ?_
  refine Cw.seq ?_
  refine Cw.region ?_
  refine Lw.callF rfl rfl (alive_c _) ?_
  rintro _ w ⟨rfl, hn⟩
  replace hB := hB.bs hn
  replace h_a := h_a.bs hn
  replace b_a := b_a.bs hn
  clear hn
  refine Lw.val (Ex.not rfl) rfl ?_
  refine Lw.val (Ex.move rfl) rfl ?_
  refine Lw.know 15 (v' := .bool false) rfl (congrArg Value.bool (rfl)) ?_
  refine Lw.take (dj := 15) rfl rfl ?_
  refine Lw.val (Ex.ldA (ag_25 _) (sz_25 _) rfl rfl (by assumption)) rfl ?_
  refine Lw.take (dj := 15) rfl rfl ?_
  refine Lw.callF rfl rfl (tsize_c a _ h_a b1 b2) ?_
  rintro _ w ⟨rfl, hn⟩
  replace hB := hB.bs hn
  replace h_a := h_a.bs hn
  replace b_a := b_a.bs hn
  clear hn
  refine Lw.take (dj := 15) rfl rfl ?_
  refine Lw.valW (Xw.lit (vs := [tsz a.s a.l].map (Value.int .i64)) st_22 it_3 rfl rfl rfl rfl rfl) rfl ?_
  rintro u w ⟨ho, -, hn, -⟩
  replace hB := hB.bs hn
  replace h_a := h_a.bs hn
  replace b_a := b_a.bs hn
  clear hn
  refine Lw.take (dj := 15) rfl rfl ?_
  refine Lw.callF rfl rfl (beyond_c u [tsz a.s a.l] _ (own_slT ho) (by intro x hx; simp at hx; subst hx; exact tz)) ?_
  rintro _ w ⟨rfl, hn⟩
  replace hB := hB.bs hn
  replace h_a := h_a.bs hn
  replace b_a := b_a.bs hn
  clear hn
  refine Lw.val (Ex.pickF rfl rfl) rfl ?_
  refine Lw.val (Ex.move rfl) rfl ?_
  refine Lw.part 21 rfl ?_ ?_
  · intro _
    refine Lw.pass (dj := 21) rfl rfl rfl rfl ?_
    refine Lw.pass (dj := 21) rfl rfl rfl rfl ?_
    refine Lw.pass (dj := 21) rfl rfl rfl rfl ?_
    refine Lw.val (Ex.pickT rfl rfl) rfl ?_
    refine Lw.nil ?_
    refine Pw.thenN (Cw.out ?_)
    refine Cw.condT rfl ?_
    refine Cw.seq ?_
    refine Cw.region ?_
    refine Lw.callF rfl rfl (alive_c _) ?_
    rintro _ w ⟨rfl, hn⟩
    replace hB := hB.bs hn
    replace h_a := h_a.bs hn
    replace b_a := b_a.bs hn
    clear hn
    refine Lw.val (Ex.assign rfl) rfl ?_
    refine Lw.nil ?_
    refine Pw.thenN (Cw.out ?_)
    refine Cw.ret ?_
    refine Pw.thenR ?_
    refine Pw.ret1 rfl rfl ?_
    exact ⟨rfl, hB⟩
  intro hbe
  have hsm := bey_no (Int.le_refl 0) (by intro x hx; simp at hx; subst hx; exact tz.1) hbe (tsz a.s a.l) (by simp)
  have hl1 : a.l.length ≤ 1048576 := by unfold tsz at hsm; split at hsm <;> omega
  clear ho hbe hsm
  refine Lw.take (dj := 21) rfl rfl ?_
  refine Lw.val (Ex.ldA (ag_25 _) (sz_25 _) rfl rfl (by assumption)) rfl ?_
  refine Lw.take (dj := 21) rfl rfl ?_
  refine Lw.callF rfl rfl (tcheck_c a.x a.y a.s a.l _ h_a.1 h_a.2) ?_
  rintro _ w ⟨rfl, hn⟩
  replace hB := hB.bs hn
  replace h_a := h_a.bs hn
  replace b_a := b_a.bs hn
  clear hn
  refine Lw.take (dj := 21) rfl rfl ?_
  refine Lw.val (Ex.not rfl) rfl ?_
  refine Lw.val (Ex.pickF rfl rfl) rfl ?_
  refine Lw.nil ?_
  refine Pw.thenN (Cw.out ?_)
  refine Cw.cond rfl ?_ ?_
  · intro _
    refine Cw.seq ?_
    refine Cw.region ?_
    refine Lw.callF rfl rfl (alive_c _) ?_
    rintro _ w ⟨rfl, hn⟩
    replace hB := hB.bs hn
    replace h_a := h_a.bs hn
    replace b_a := b_a.bs hn
    clear hn
    refine Lw.val (Ex.assign rfl) rfl ?_
    refine Lw.nil ?_
    refine Pw.thenN (Cw.out ?_)
    refine Cw.ret ?_
    refine Pw.thenR ?_
    refine Pw.ret1 rfl rfl ?_
    exact ⟨rfl, hB⟩
  intro hk
  have t_a : tok a.s a.l = true := by simpa using hk
  obtain ⟨hok, ln_a⟩ := tok_ok t_a
  have hgd := (Shapes.ok_iff a.s).1 hok
  clear hk
  refine Cw.skip ?_
  refine Pw.thenN (Cw.out ?_)
  refine Cw.seq ?_
  refine Cw.region ?_
  refine Lw.val (Ex.move rfl) rfl ?_
  refine Lw.val (Ex.rem8 (c := 24) rfl rfl (by decide)) rfl ?_
  refine Lw.val ((Ex.convI64 us_5 un_3 rfl (by omega)).as (congrArg (fun m : Nat => Value.int .i64 (m : Int)) hk.symm)) rfl ?_
  refine Lw.val (Ex.assign rfl) rfl ?_
  refine Lw.nil ?_
  refine Pw.thenN (Cw.out ?_)
  refine Cw.seq ?_
  refine Cw.region ?_
  refine Lw.val (Ex.ldA (ag_25 _) (sz_25 _) rfl rfl (by assumption)) rfl ?_
  refine Lw.callF rfl rfl (twinTensor_c a w h_a (by omega) (by omega)) ?_
  rintro _ w7 ⟨hn7, mx, my, rfl, hm⟩
  refine Lw.boxed (cs := [mx, my]) it_25 rfl rfl rfl rfl (fun _ => rfl) (hm.one) ?_
  rintro A_m w8 eA_m b_m hn8 zhn8
  have M := mine_new hm eA_m b_m hn8 zhn8 hn7.size
  have hw8 := bt hn7 hn8
  have b_a8 := b_a.bs hw8
  clear hm b_m hn7 hn8 eA_m zhn8
  refine Lw.nil ?_
  refine Pw.thenN (Cw.out ?_)
  refine Cw.seq ?_
  refine Cw.region ?_
  refine Lw.val (Ex.ldA (ag_25 _) (sz_25 _) rfl rfl (by assumption)) rfl ?_
  refine Lw.callF rfl rfl (twinTensor_c a w8 (h_a.bs hw8) (by omega) (by omega)) ?_
  rintro _ w9 ⟨hn9, ox, oy, rfl, ho⟩
  refine Lw.boxed (cs := [ox, oy]) it_25 rfl rfl rfl rfl (fun _ => rfl) (ho.one) ?_
  rintro A_o w10 eA_o b_o hn10 zhn10
  have O := mine_new ho eA_o b_o hn10 zhn10 hn9.size
  have M := M.bs (bt hn9 hn10)
  have hw10 := bt hw8 (bt hn9 hn10)
  have hs8 := hw8.size
  clear ho b_o hn9 hn10 eA_o zhn10 b_a8 hw8
  obtain ⟨sml, hsml⟩ : ∃ l, l = a.l.map low8 := ⟨_, rfl⟩
  obtain ⟨pow, hpow⟩ : ∃ l, l = List.replicate a.l.length (1#32 <<< k) := ⟨_, rfl⟩
  have n1 : sml.length = a.l.length := by rw [hsml, List.length_map]
  have n2 : pow.length = a.l.length := by rw [hpow, List.length_replicate]
  refine Lw.nil ?_
  refine Pw.thenN (Cw.out ?_)
  refine Cw.seq ?_
  refine Cw.seq ?_
  refine Cw.region ?_
  refine Lw.val (Ex.assign rfl) rfl ?_
  refine Lw.nil ?_
  refine Pw.thenN (Cw.out ?_)
  refine Cw.block ?_
  refine Cw.loop (S := Nat) (fun i => [(2, .pointer (some ⟨A_a, 0, none⟩)), (5, .int .i64 (k : Int)), (6, .pointer (some ⟨A_m, 0, none⟩)), (7, .pointer (some ⟨A_o, 0, none⟩)), (8, .int .i64 (i : Int))]) (fun i w' => i ≤ a.l.length ∧ Below w.heap.size w w' ∧ MineT w' w.heap.size w8.heap.size A_m mx my a.s (sml.take i ++ a.l.drop i) ∧ MineT w' w8.heap.size w10.heap.size A_o ox oy a.s (pow.take i ++ a.l.drop i)) (fun i => a.l.length - i) (0) ⟨rfl, rfl, rfl, rfl, rfl, trivial⟩ ?_ ?_
  · exact ⟨by omega, hw10, by rw [td_zero]; exact M, by rw [td_zero]; exact O⟩
  clear M O hw10
  rintro i w11 ⟨hi, hw, M, O⟩
  have b_m := M.box
  have y_m := M.sly
  have e1 := td_len (i := i) n1
  have e2 := td_len (i := i) n2
  refine Cw.seq ?_
  refine Cw.seq ?_
  refine Cw.region ?_
  refine Lw.val (Ex.move rfl) rfl ?_
  refine Lw.val (Ex.fieldAddr (q := 0) Try.underlying25 rfl (sz_23 _) rfl) rfl ?_
  refine Lw.val (Ex.ldB (ag_23 _) rfl (by assumption) rfl) rfl ?_
  refine Lw.val (Ex.lenS st_23 rfl (by assumption)) rfl ?_
  refine Lw.val (Ex.lss rfl rfl) rfl ?_
  refine Lw.nil ?_
  refine Pw.thenN (Cw.out ?_)
  refine Cw.cond rfl ?_ ?_
  · intro h
    have hi' : i < a.l.length := by simp at h; omega
    refine Cw.skip ?_
    refine Pw.thenN (Cw.out ?_)
    refine Cw.seq ?_
    refine Cw.block ?_
    refine Cw.seq ?_
    refine Cw.tail 11 mixed (by kernel_rfl) ?_
    refine Qw.val (fun w1 hq => Ex.fieldAddr (q := 0) Try.underlying25 rfl (sz_23 _) rfl) rfl ?_
    refine Qw.val (fun w1 hq => Ex.ldB (ag_23 _) rfl (Blk.bs (by assumption) hq) rfl) rfl ?_
    refine Qw.val (fun w1 hq => Ex.move rfl) rfl ?_
    refine Qw.val (fun w1 hq => Ex.fieldAddr (q := 0) Try.underlying25 rfl (sz_23 _) rfl) rfl ?_
    refine Qw.val (fun w1 hq => Ex.ldB (ag_23 _) rfl (Blk.bs (by assumption) hq) rfl) rfl ?_
    refine Qw.val (fun w1 hq => Ex.move rfl) rfl ?_
    refine Qw.val (fun w1 hq => Ex.idxT st_23 rfl rfl (Sl.bs (by assumption) hq) _ rfl (by omega)) rfl ?_
    refine Qw.val (fun w1 hq => Ex.ldT (ag_21 _) rfl (Sl.bs (by assumption) hq) (by omega)) rfl ?_
    refine Qw.val (fun w1 hq => Ex.toi8 us_21 un_43 rfl) rfl ?_
    refine Qw.val (fun w1 hq => Ex.ofi8 us_43 un_21 rfl rfl) rfl ?_
    refine Qw.val (fun w1 hq => Ex.idxT st_23 rfl rfl (Sl.bs (by assumption) hq) _ rfl (by omega)) rfl ?_
    refine Qw.done (fun wt hq => ?_)
    refine Lw.unit ((M.bs hq).st (sz_21 _) rfl rfl (by omega)) ?_
    rintro w12 ⟨M2, hg2, -⟩
    have hwq := bt hw hq
    have hw2 := (M.bs hq).below hwq (Nat.le_refl _) hg2
    have O2 := (O.bs hq).keep hg2 (M.other (.inl (Nat.le_refl _)))
    have b_o := O2.box
    have y_o := O2.sly
    clear hq
    refine Lw.nil ?_
    refine Pw.thenN (Cw.out ?_)
    refine Cw.tail 6 mixed (by kernel_rfl) ?_
    refine Qw.val (fun w1 hq => Ex.fieldAddr (q := 0) Try.underlying25 rfl (sz_23 _) rfl) rfl ?_
    refine Qw.val (fun w1 hq => Ex.ldB (ag_23 _) rfl (Blk.bs (by assumption) hq) rfl) rfl ?_
    refine Qw.val (fun w1 hq => Ex.move rfl) rfl ?_
    refine Qw.val (fun w1 hq => Ex.move rfl) rfl ?_
    refine Qw.val (fun w1 hq => Ex.shli32 (p := 1#32) rfl rfl (by omega)) rfl ?_
    refine Qw.val (fun w1 hq => Ex.idxT st_23 rfl rfl (Sl.bs (by assumption) hq) _ rfl (by omega)) rfl ?_
    refine Qw.done (fun wu hq => ?_)
    refine Lw.unit ((O2.bs hq).st (sz_21 _) rfl rfl (by omega)) ?_
    rintro w13 ⟨O3, hg3, -⟩
    have M3 := (M2.bs hq).keep hg3 (O2.other (.inr (Nat.le_refl _)))
    have hw3 := (bt hw2 hq).grown hg3 (below_size (bt hw2 hq)) (fun b hb => by have := O2.lst.blk b hb; omega)
    rw [td_get n1 hi', show low8 (a.l.getD i default) = sml.getD i default by rw [hsml, getD_map hi'], td_set n1 hi'] at M3
    rw [show 1#32 <<< k = pow.getD i default by rw [hpow, getD_rep hi'], td_set n2 hi'] at O3
    refine Lw.nil ?_
    refine Pw.blkN ?_
    refine Pw.thenN (Cw.out ?_)
    refine Cw.region ?_
    refine Lw.val (Ex.move rfl) rfl ?_
    refine Lw.val (Ex.addI rfl rfl (by omega)) rfl ?_
    refine Lw.val (Ex.assign rfl) rfl ?_
    refine Lw.nil ?_
    exact Pw.thenN (Pw.next (i + 1) ⟨rfl, rfl, rfl, rfl, rfl, trivial⟩ (⟨hi', hw3, M3, O3⟩) (by omega))
  intro h
  have hi' : i = a.l.length := by simp at h; omega
  subst hi'
  rw [td_all n1] at M
  rw [td_all n2] at O
  obtain ⟨m, hmm⟩ : ∃ m : T4, m = T4.mk mx my a.s sml := ⟨_, rfl⟩
  obtain ⟨o, hoo⟩ : ∃ o : T4, o = T4.mk ox oy a.s pow := ⟨_, rfl⟩
  have h_m : m.at w11 := by rw [hmm]; exact mine_at M
  have h_o : o.at w11 := by rw [hoo]; exact mine_at O
  have b_m : Blk w11 A_m 25 [m.x, m.y] := by rw [hmm]; exact M.box
  have b_o : Blk w11 A_o 25 [o.x, o.y] := by rw [hoo]; exact O.box
  have t_m : tok m.s m.l = true := by rw [hmm]; exact tok_len t_a n1
  have t_o : tok o.s o.l = true := by rw [hoo]; exact tok_len t_a n2
  have s_m : m.s = a.s := by rw [hmm]
  have s_o : o.s = a.s := by rw [hoo]
  have l_m : m.l = a.l.map low8 := by rw [hmm]; exact hsml
  have l_o : o.l = List.replicate a.l.length (1#32 <<< k) := by rw [hoo]; exact hpow
  clear M O hmm hoo y_m hsml hpow n1 n2 e1 e2
  replace hB := hB.bs hw
  replace h_a := h_a.bs hw
  replace b_a := b_a.bs hw
  clear hw
  refine Cw.exit ?_
  refine Pw.thenE ?_
  refine Pw.thenE ?_
  refine Pw.blkHit ?_
  refine Pw.thenN (Cw.out ?_)
  refine Cw.seq ?_
  refine Cw.region ?_
  refine Lw.val (Ex.ldA (ag_25 _) (sz_25 _) rfl rfl (by assumption)) rfl ?_
  refine Lw.val (Ex.ldA (ag_25 _) (sz_25 _) rfl rfl (by assumption)) rfl ?_
  refine Lw.callF rfl rfl (mul_p m o _ h_m h_o) ?_
  rintro r w ⟨hn, x, rfl, h_x, -, hz⟩
  replace hB := hB.bs hn
  replace h_a := h_a.bs hn
  replace b_a := b_a.bs hn
  replace b_m := b_m.bs hn
  replace h_m := h_m.bs hn
  replace b_o := b_o.bs hn
  replace h_o := h_o.bs hn
  clear hn
  obtain ⟨s_x, l_x, -⟩ := hz (e2_no t_m t_o (s_o.trans s_m.symm))
  rw [e2_no t_m t_o (s_o.trans s_m.symm)]
  have n_x : x.l.length = m.l.length := by rw [l_x]; exact z2_len t_m
  have t_x : tok x.s x.l = true := by rw [s_x]; exact tok_len t_m n_x
  have s_x := s_x.trans s_m
  clear hz
  refine Lw.val (Ex.move rfl) rfl ?_
  refine Lw.val (Ex.extract (i := 0) rfl rfl) rfl ?_
  refine Lw.val (Ex.extract (i := 1) rfl rfl) rfl ?_
  refine Lw.boxed (cs := [x.x, x.y]) it_25 rfl rfl rfl rfl (fun _ => rfl) (h_x.one) ?_
  rintro A_x w eA_x b_x hn -
  replace hB := hB.bs hn
  replace h_a := h_a.bs hn
  replace b_a := b_a.bs hn
  replace b_m := b_m.bs hn
  replace h_m := h_m.bs hn
  replace b_o := b_o.bs hn
  replace h_o := h_o.bs hn
  replace h_x := h_x.bs hn
  clear hn
  refine Lw.val (Ex.assign rfl) rfl ?_
  refine Lw.nil ?_
  refine Pw.thenN (Cw.out ?_)
  refine Cw.seq ?_
  refine Cw.region ?_
  refine Lw.val (Ex.ldA (ag_25 _) (sz_25 _) rfl rfl (by assumption)) rfl ?_
  refine Lw.val (Ex.move rfl) rfl ?_
  refine Lw.callF rfl rfl (shift_p x k _ h_x) ?_
  rintro r w ⟨hn, y, rfl, h_y, -, hz⟩
  replace hB := hB.bs hn
  replace h_a := h_a.bs hn
  replace b_a := b_a.bs hn
  replace b_m := b_m.bs hn
  replace h_m := h_m.bs hn
  replace b_o := b_o.bs hn
  replace h_o := h_o.bs hn
  replace h_x := h_x.bs hn
  replace b_x := b_x.bs hn
  clear hn
  have e0 : eSh x.s x.l (k : Int) = 0 := by
    unfold eSh
    rw [if_neg (by omega)]
    exact e1_zero t_x
  obtain ⟨s_y, l_y, -⟩ := hz e0
  rw [e0]
  rw [z1_map t_x] at l_y
  clear hz
  refine Lw.val (Ex.move rfl) rfl ?_
  refine Lw.val (Ex.extract (i := 0) rfl rfl) rfl ?_
  refine Lw.val (Ex.extract (i := 1) rfl rfl) rfl ?_
  refine Lw.boxed (cs := [y.x, y.y]) it_25 rfl rfl rfl rfl (fun _ => rfl) (h_y.one) ?_
  rintro A_y w eA_y b_y hn -
  replace hB := hB.bs hn
  replace h_a := h_a.bs hn
  replace b_a := b_a.bs hn
  replace b_m := b_m.bs hn
  replace h_m := h_m.bs hn
  replace b_o := b_o.bs hn
  replace h_o := h_o.bs hn
  replace h_x := h_x.bs hn
  replace b_x := b_x.bs hn
  replace h_y := h_y.bs hn
  clear hn
  refine Lw.val (Ex.assign rfl) rfl ?_
  refine Lw.nil ?_
  refine Pw.thenN (Cw.out ?_)
  refine Cw.seq ?_
  refine Cw.region ?_
  refine Lw.val (Ex.move rfl) rfl ?_
  refine Lw.val (Ex.eql rfl rfl) rfl ?_
  refine Lw.val (Ex.move rfl) rfl ?_
  refine Lw.know 72 (v' := .bool true) rfl (congrArg Value.bool (rfl)) ?_
  refine Lw.take (dj := 72) rfl rfl ?_
  refine Lw.val (Ex.move rfl) rfl ?_
  refine Lw.take (dj := 72) rfl rfl ?_
  refine Lw.val (Ex.eql rfl rfl) rfl ?_
  refine Lw.val (Ex.pickT rfl rfl) rfl ?_
  refine Lw.val (Ex.move rfl) rfl ?_
  refine Lw.know 76 (v' := .bool true) rfl (congrArg Value.bool (rfl)) ?_
  refine Lw.take (dj := 76) rfl rfl ?_
  refine Lw.val (Ex.ldA (ag_25 _) (sz_25 _) rfl rfl (by assumption)) rfl ?_
  refine Lw.take (dj := 76) rfl rfl ?_
  refine Lw.val (Ex.ldA (ag_25 _) (sz_25 _) rfl rfl (by assumption)) rfl ?_
  refine Lw.take (dj := 76) rfl rfl ?_
  refine Lw.callF rfl rfl (same_c _ _ _ _ _ _ _ _ _ h_y.1 h_y.2 h_m.1 h_m.2) ?_
  rintro _ w ⟨rfl, hn⟩
  replace hB := hB.bs hn
  replace h_a := h_a.bs hn
  replace b_a := b_a.bs hn
  replace b_m := b_m.bs hn
  replace h_m := h_m.bs hn
  replace b_o := b_o.bs hn
  replace h_o := h_o.bs hn
  replace h_x := h_x.bs hn
  replace b_x := b_x.bs hn
  replace h_y := h_y.bs hn
  replace b_y := b_y.bs hn
  clear hn
  refine Lw.val (Ex.pickT rfl rfl) rfl ?_
  refine Lw.val (Ex.assign rfl) rfl ?_
  refine Lw.nil ?_
  refine Pw.thenN (Cw.out ?_)
  refine Cw.ret ?_
  refine Pw.ret1 rfl rfl ?_
  exact ⟨congrArg Value.bool (same_yes (s_y.trans (s_x.trans s_m.symm)) (by
    have n_m : m.l.length = a.l.length := by rw [l_m, List.length_map]
    rw [l_y, l_x]
    apply List.ext_getElem (by rw [List.length_map]; exact z2_len t_m)
    intro i h1 h2
    have h3 : i < (Shapes.size m.s).toNat := by rw [s_m]; omega
    have h4 : i < a.l.length := by omega
    simp only [List.getElem_map, z2, List.getElem_range, l_m, l_o]
    rw [getD_map h4, getD_rep h4, Int.toNat_natCast, back_one _ _ hk2]
    simp [h4])), hB⟩

set_option maxRecDepth 100000 in
theorem mathsBack_lifted (os : Os) (started : os.Started) (H : Type) (enc : TypeId × Value → H) :
    ReturnsInHanded {} Try.checked os 8 .any (Rows.mathsBackSpec.pre6 enc Try.prog Try.f8 Rows.mathsBackRow.domain false) (Rows.mathsBackSpec.post enc Try.prog Try.f8 false true false false) := by
  refine returnsInHanded_of_change_sized (C := Try.checked) own started (by kernel_rfl) Try.func8
    (ChangeSpec.witness6 (enc := enc) (C := Try.checked) false ⟨#[], #[.agg #[.slice none 0 0, .slice none 0 0], .int .u8 0], []⟩ 8 (by kernel_rfl) (by kernel_rfl) (by kernel_rfl) (by kernel_rfl)) ?_
  intro W base args ds gs before hval0 hW hcnd hsz0 _
  have hval : ∀ (j : Nat) t v, Try.f8.params[j]? = some t → args[j]? = some v → Value.okWide Try.prog W .any base t v := hval0
  have hW' := hW
  obtain ⟨p, q, hA0, hV, rfl, hfz, hnd⟩ := hW
  have hA : DataW.TrodAll enc Try.prog W 0 (fun _ => true) true Try.f8.params.toList args.toList ds p := hA0
  have hsz : (DataW.weightsEach Try.prog (Try.f8.params.toList ++ Rows.mathsBackSpec.plain.varTypes Try.prog) (ds ++ gs)).all (· ≤ reachBytes) = true := hsz0
  rw [Try.params8] at hA hval hsz
  obtain ⟨v0, vs0, d0, ds0, p0, q0, hargs, rfl, rfl, h0, r0⟩ := trodAll_cons hA
  obtain ⟨v1, vs1, d1, ds1, p1, q1, rfl, rfl, rfl, h1, r1⟩ := trodAll_cons r0
  obtain ⟨rfl, rfl, rfl⟩ := trodAll_nil r1
  obtain rfl : args = #[v0, v1] := by cases args; simp_all
  obtain ⟨rfl, rfl⟩ := trodVars_none hV
  have k0 := h0
  have lt0 : ∀ x ∈ p0, x.block < W.heap.size := by obtain ⟨m, hm⟩ := k0; exact DataW.trod_lt m _ _ _ hm
  have i0 := in_of (j := 0) (t := 25) hsz rfl rfl h0
  have o0 := hval 0 25 v0 rfl rfl
  have k1 := h1
  have lt1 : ∀ x ∈ p1, x.block < W.heap.size := by obtain ⟨m, hm⟩ := k1; exact DataW.trod_lt m _ _ _ hm
  have i1 := in_of (j := 1) (t := 5) hsz rfl rfl h1
  have o1 := hval 1 5 v1 rfl rfl
  clear hA0 hval0 hsz0 hsz
  obtain ⟨a, rfl, ha, b1, b2⟩ := arg_ten o0 i0
  obtain ⟨nb, rfl⟩ := arg_num (BitVec.ofInt 8) b8 (fun _ h => wf_u8 h) un_5 o1 i1
  refine (law_calls (mathsBack_w a nb W ha (by omega) (by omega))).mono fun e W' ⟨he, bel⟩ => ?_
  subst he
  exact ⟨_, rfl, _, _, _, [], _, [], hW', trodAll_mk1 (shut_bool un_4 _), (trodAll_cons_mk (Below.trod laidOut (by kernel_rfl) (of_decide_eq_true (by kernel_rfl)) k0 bel lt0) (trodAll_cons_mk (Below.trod laidOut (by kernel_rfl) (of_decide_eq_true (by kernel_rfl)) k1 bel lt1) trodAll_mk0)), rfl, bel.frame _, fun h => by cases h⟩

/-- The statement. -/
theorem mathsBack_proved : Rows.MathsBackSaid :=
  OpenClaim.holds_of_wide 8 Try.f8 rfl rfl rfl rfl rfl rfl rfl ⟨rfl, rfl, rfl, rfl, rfl⟩ rfl rfl rfl rfl rfl (by kernel_rfl) Try.func8 (by kernel_rfl)
    (of_decide_eq_true (by kernel_rfl)) (by unfold Func.isWrapper; first | (rw [if_pos (by decide +kernel)]; kernel_rfl) | (rw [if_neg (by decide +kernel)]; exact ⟨rfl, rfl⟩))
    (fun os started H enc _ => mathsBack_lifted os started H enc)
#print axioms mathsBack_proved
end Go.Proofs.Ythgckokpdgiilaa
