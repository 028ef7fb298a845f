/- What is below 0 made 0 stays so, is never below 0, and with that of the negative one told again by what it was: for any tensor; no condition. -/
import Derived.Test.YthgckokpdgiilaaMathsMore
namespace Go.Proofs.Ythgckokpdgiilaa
open Go Go.Dd Go.RowKit Go.ChangeShapes Go.WideShapes Go.ChangeAt


theorem relu_nn (x : BitVec 32) : 0 ≤ (reluB x).toInt := by
  unfold reluB
  split
  · omega
  · exact Int.le_refl _
theorem relu_relu (x : BitVec 32) : reluB (reluB x) = reluB x := by unfold reluB; split <;> simp_all
theorem relu_sub (x : BitVec 32) (h : x ≠ 2147483648#32) : reluB x - reluB (-x) = x := by
  have hx : x.toInt ≠ -2147483648 := fun e => h (by apply BitVec.eq_of_toInt_eq; rw [e]; decide)
  have h1 := BitVec.toInt_lt (x := x)
  have h2 := BitVec.le_toInt x
  have hn : (-x).toInt = -x.toInt := by rw [BitVec.toInt_neg]; simp [Int.bmod]; omega
  unfold reluB
  rw [hn]
  by_cases a : 0 < x.toInt
  · rw [if_pos a, if_neg (by omega)]; simp
  · rw [if_neg a]
    by_cases b : 0 < -x.toInt
    · rw [if_pos b]; simp
    · rw [if_neg b]
      have : x.toInt = 0 := by omega
      have : x = 0#32 := BitVec.eq_of_toInt_eq (by rw [this]; rfl)
      rw [this]; rfl

theorem mathsRelu_w (a : T4) (W : World) (h_a : a.at W) (b1 : a.s.length ≤ 1125899906842624) (b2 : a.l.length ≤ 1125899906842624) :
    Fnc Try.prog 5 [a.v] W (fun r w' => r = .bool true ∧ Below W.heap.size W w') := by
  have hB := Below.refl W.heap.size W
  have tz : 0 ≤ tsz a.s a.l ∧ tsz a.s a.l ≤ 4503599627370496 := by unfold tsz; split <;> omega
  refine Fnc.enter (n := 134) Try.func5 (by kernel_rfl) rfl rfl rfl ?_
  refine Cw.seq ?_
  refine Cw.region ?_
  refine Lw.boxV (cs := [a.x, a.y]) rfl rfl rfl ?_
  rintro A_a w eA_a b_a hn -
  replace hB := hB.bs hn
  replace h_a := h_a.bs hn
  clear hn
  refine Lw.val (Ex.assign rfl) rfl ?_
  refine Lw.nil ?_
  refine Pw.thenN (Cw.out ?_)
  refine Cw.seq ?_
  refine Cw.seq ?_
  refine Cw.region ?_
  refine Lw.callF rfl rfl (alive_c _) ?_
  rintro _ w ⟨rfl, hn⟩
  replace hB := hB.bs hn
  replace h_a := h_a.bs hn
  replace b_a := b_a.bs hn
  clear hn
  refine Lw.val (Ex.not rfl) rfl ?_
  refine Lw.val (Ex.move rfl) rfl ?_
  refine Lw.know 14 (v' := .bool false) rfl (congrArg Value.bool (rfl)) ?_
  refine Lw.take (dj := 14) rfl rfl ?_
  refine Lw.val (Ex.ldA (ag_25 _) (sz_25 _) rfl rfl (by assumption)) rfl ?_
  refine Lw.take (dj := 14) rfl rfl ?_
  refine Lw.callF rfl rfl (tsize_c a _ h_a b1 b2) ?_
  rintro _ w ⟨rfl, hn⟩
  replace hB := hB.bs hn
  replace h_a := h_a.bs hn
  replace b_a := b_a.bs hn
  clear hn
  refine Lw.take (dj := 14) rfl rfl ?_
  refine Lw.valW (Xw.lit (vs := [tsz a.s a.l].map (Value.int .i64)) st_22 it_3 rfl rfl rfl rfl rfl) rfl ?_
  rintro u w ⟨ho, -, hn, -⟩
  replace hB := hB.bs hn
  replace h_a := h_a.bs hn
  replace b_a := b_a.bs hn
  clear hn
  refine Lw.take (dj := 14) rfl rfl ?_
  refine Lw.callF rfl rfl (beyond_c u [tsz a.s a.l] _ (own_slT ho) (by intro x hx; simp at hx; subst hx; exact tz)) ?_
  rintro _ w ⟨rfl, hn⟩
  replace hB := hB.bs hn
  replace h_a := h_a.bs hn
  replace b_a := b_a.bs hn
  clear hn
  refine Lw.val (Ex.pickF rfl rfl) rfl ?_
  refine Lw.val (Ex.move rfl) rfl ?_
  refine Lw.part 20 rfl ?_ ?_
  · intro _
    refine Lw.pass (dj := 20) rfl rfl rfl rfl ?_
    refine Lw.pass (dj := 20) rfl rfl rfl rfl ?_
    refine Lw.pass (dj := 20) rfl rfl rfl rfl ?_
    refine Lw.val (Ex.pickT rfl rfl) rfl ?_
    refine Lw.nil ?_
    refine Pw.thenN (Cw.out ?_)
    refine Cw.condT rfl ?_
    refine Cw.seq ?_
    refine Cw.region ?_
    refine Lw.callF rfl rfl (alive_c _) ?_
    rintro _ w ⟨rfl, hn⟩
    replace hB := hB.bs hn
    replace h_a := h_a.bs hn
    replace b_a := b_a.bs hn
    clear hn
    refine Lw.val (Ex.assign rfl) rfl ?_
    refine Lw.nil ?_
    refine Pw.thenN (Cw.out ?_)
    refine Cw.ret ?_
    refine Pw.thenR ?_
    refine Pw.ret1 rfl rfl ?_
    exact ⟨rfl, hB⟩
  intro hbe
  have hsm := bey_no (Int.le_refl 0) (by intro x hx; simp at hx; subst hx; exact tz.1) hbe (tsz a.s a.l) (by simp)
  have hl1 : a.l.length ≤ 1048576 := by unfold tsz at hsm; split at hsm <;> omega
  clear ho hbe hsm
  refine Lw.take (dj := 20) rfl rfl ?_
  refine Lw.val (Ex.ldA (ag_25 _) (sz_25 _) rfl rfl (by assumption)) rfl ?_
  refine Lw.take (dj := 20) rfl rfl ?_
  refine Lw.callF rfl rfl (tcheck_c a.x a.y a.s a.l _ h_a.1 h_a.2) ?_
  rintro _ w ⟨rfl, hn⟩
  replace hB := hB.bs hn
  replace h_a := h_a.bs hn
  replace b_a := b_a.bs hn
  clear hn
  refine Lw.take (dj := 20) rfl rfl ?_
  refine Lw.val (Ex.not rfl) rfl ?_
  refine Lw.val (Ex.pickF rfl rfl) rfl ?_
  refine Lw.nil ?_
  refine Pw.thenN (Cw.out ?_)
  refine Cw.cond rfl ?_ ?_
  · intro _
    refine Cw.seq ?_
    refine Cw.region ?_
    refine Lw.callF rfl rfl (alive_c _) ?_
    rintro _ w ⟨rfl, hn⟩
    replace hB := hB.bs hn
    replace h_a := h_a.bs hn
    replace b_a := b_a.bs hn
    clear hn
    refine Lw.val (Ex.assign rfl) rfl ?_
    refine Lw.nil ?_
    refine Pw.thenN (Cw.out ?_)
    refine Cw.ret ?_
    refine Pw.thenR ?_
    refine Pw.ret1 rfl rfl ?_
    exact ⟨rfl, hB⟩
  intro hk
  have t_a : tok a.s a.l = true := by simpa using hk
  obtain ⟨hok, ln_a⟩ := tok_ok t_a
  have hgd := (Shapes.ok_iff a.s).1 hok
  clear hk
  refine Cw.skip ?_
  refine Pw.thenN (Cw.out ?_)
  refine Cw.seq ?_
  refine Cw.region ?_
  refine Lw.val (Ex.ldA (ag_25 _) (sz_25 _) rfl rfl (by assumption)) rfl ?_
  refine Lw.callF rfl rfl (twinTensor_c a w h_a (by omega) (by omega)) ?_
  rintro _ w7 ⟨hn7, mx, my, rfl, hm⟩
  refine Lw.boxed (cs := [mx, my]) it_25 rfl rfl rfl rfl (fun _ => rfl) (hm.one) ?_
  rintro A_m w8 eA_m b_m hn8 zhn8
  refine Lw.nil ?_
  refine Pw.thenN (Cw.out ?_)
  refine Cw.seq ?_
  refine Cw.seq ?_
  refine Cw.region ?_
  refine Lw.val (Ex.assign rfl) rfl ?_
  refine Lw.nil ?_
  refine Pw.thenN (Cw.out ?_)
  refine Cw.block ?_
  have M := mine_new hm eA_m b_m hn8 zhn8 hn7.size
  have hw8 := bt hn7 hn8
  clear hm b_m hn7 hn8 eA_m zhn8
  obtain ⟨neg, hneg⟩ : ∃ neg, neg = a.l.map fun x => -x := ⟨_, rfl⟩
  have hnl : neg.length = a.l.length := by rw [hneg, List.length_map]
  refine Cw.loop (S := Nat) (fun i => [(1, .pointer (some ⟨A_a, 0, none⟩)), (3, .pointer (some ⟨A_m, 0, none⟩)), (4, .int .i64 (i : Int))]) (fun i w' => i ≤ a.l.length ∧ Below w.heap.size w w' ∧ MineT w' w.heap.size w8.heap.size A_m mx my a.s (neg.take i ++ a.l.drop i)) (fun i => a.l.length - i) (0) ⟨rfl, rfl, rfl, trivial⟩ ?_ ?_
  · exact ⟨by omega, hw8, by rw [td_zero]; exact M⟩
  clear M hw8
  rintro i w9 ⟨hi, hw, M⟩
  have b_m := M.box
  have y_m := M.sly
  have hyl := td_len (i := i) hnl
  refine Cw.seq ?_
  refine Cw.seq ?_
  refine Cw.region ?_
  refine Lw.val (Ex.move rfl) rfl ?_
  refine Lw.val (Ex.fieldAddr (q := 0) Try.underlying25 rfl (sz_23 _) rfl) rfl ?_
  refine Lw.val (Ex.ldB (ag_23 _) rfl (by assumption) rfl) rfl ?_
  refine Lw.val (Ex.lenS st_23 rfl (by assumption)) rfl ?_
  refine Lw.val (Ex.lss rfl rfl) rfl ?_
  refine Lw.nil ?_
  refine Pw.thenN (Cw.out ?_)
  refine Cw.cond rfl ?_ ?_
  · intro h
    have hi' : i < a.l.length := by simp at h; omega
    refine Cw.skip ?_
    refine Pw.thenN (Cw.out ?_)
    refine Cw.seq ?_
    refine Cw.block ?_
    refine Cw.tail 10 mixed (by kernel_rfl) ?_
    refine Qw.val (fun w1 hq => Ex.fieldAddr (q := 0) Try.underlying25 rfl (sz_23 _) rfl) rfl ?_
    refine Qw.val (fun w1 hq => Ex.ldB (ag_23 _) rfl (Blk.bs (by assumption) hq) rfl) rfl ?_
    refine Qw.val (fun w1 hq => Ex.move rfl) rfl ?_
    refine Qw.val (fun w1 hq => Ex.fieldAddr (q := 0) Try.underlying25 rfl (sz_23 _) rfl) rfl ?_
    refine Qw.val (fun w1 hq => Ex.ldB (ag_23 _) rfl (Blk.bs (by assumption) hq) rfl) rfl ?_
    refine Qw.val (fun w1 hq => Ex.move rfl) rfl ?_
    refine Qw.val (fun w1 hq => Ex.idxT st_23 rfl rfl (Sl.bs (by assumption) hq) _ rfl (by omega)) rfl ?_
    refine Qw.val (fun w1 hq => Ex.ldT (ag_21 _) rfl (Sl.bs (by assumption) hq) (by omega)) rfl ?_
    refine Qw.val (fun w1 hq => Ex.negi32 rfl) rfl ?_
    refine Qw.val (fun w1 hq => Ex.idxT st_23 rfl rfl (Sl.bs (by assumption) hq) _ rfl (by omega)) rfl ?_
    refine Qw.done (fun w10 hq => ?_)
    refine Lw.unit ((M.bs hq).st (sz_21 _) rfl rfl (by omega)) ?_
    rintro w11 ⟨M', hg, -⟩
    have hset : (neg.take i ++ a.l.drop i).set i (-(neg.take i ++ a.l.drop i).getD i default) = neg.take (i + 1) ++ a.l.drop (i + 1) := by
      rw [td_get hnl hi', ← td_set hnl hi', hneg, getD_map hi']
    rw [hset] at M'
    refine Lw.nil ?_
    refine Pw.blkN ?_
    refine Pw.thenN (Cw.out ?_)
    refine Cw.region ?_
    refine Lw.val (Ex.move rfl) rfl ?_
    refine Lw.val (Ex.addI rfl rfl (by omega)) rfl ?_
    refine Lw.val (Ex.assign rfl) rfl ?_
    refine Lw.nil ?_
    exact Pw.thenN (Pw.next (i + 1) ⟨rfl, rfl, rfl, trivial⟩ (⟨hi', (M.bs hq).below (bt hw hq) (Nat.le_refl _) hg, M'⟩) (by omega))
  intro h
  have hi' : i = a.l.length := by simp at h; omega
  subst hi'
  rw [td_all hnl] at M
  obtain ⟨m, hmm⟩ : ∃ m : T4, m = T4.mk mx my a.s neg := ⟨_, rfl⟩
  have h_m : m.at w9 := by rw [hmm]; exact mine_at M
  have b_m : Blk w9 A_m 25 [m.x, m.y] := by rw [hmm]; exact M.box
  have t_m : tok m.s m.l = true := by rw [hmm]; exact tok_len t_a hnl
  have l_m : m.l = a.l.map fun x => -x := by rw [hmm]; exact hneg
  clear M hmm hyl y_m hneg
  replace hB := hB.bs hw
  replace h_a := h_a.bs hw
  replace b_a := b_a.bs hw
  clear hw
  refine Cw.exit ?_
  refine Pw.thenE ?_
  refine Pw.thenE ?_
  refine Pw.blkHit ?_
  refine Pw.thenN (Cw.out ?_)
  refine Cw.seq ?_
  refine Cw.region ?_
  refine Lw.val (Ex.ldA (ag_25 _) (sz_25 _) rfl rfl (by assumption)) rfl ?_
  refine Lw.callF rfl rfl (relu_p a _ h_a) ?_
  rintro r w ⟨hn, p, rfl, h_p, -, hz⟩
  replace hB := hB.bs hn
  replace h_a := h_a.bs hn
  replace b_a := b_a.bs hn
  replace b_m := b_m.bs hn
  replace h_m := h_m.bs hn
  clear hn
  obtain ⟨s_p, l_p, -⟩ := hz (e1_zero t_a)
  rw [e1_zero t_a]
  rw [z1_map t_a] at l_p
  have n_p : p.l.length = a.l.length := by rw [l_p, List.length_map]
  have t_p : tok p.s p.l = true := by rw [s_p]; exact tok_len t_a n_p
  clear hz
  refine Lw.val (Ex.move rfl) rfl ?_
  refine Lw.val (Ex.extract (i := 0) rfl rfl) rfl ?_
  refine Lw.val (Ex.extract (i := 1) rfl rfl) rfl ?_
  refine Lw.boxed (cs := [p.x, p.y]) it_25 rfl rfl rfl rfl (fun _ => rfl) (h_p.one) ?_
  rintro A_p w eA_p b_p hn -
  replace hB := hB.bs hn
  replace h_a := h_a.bs hn
  replace b_a := b_a.bs hn
  replace b_m := b_m.bs hn
  replace h_m := h_m.bs hn
  replace h_p := h_p.bs hn
  clear hn
  refine Lw.val (Ex.assign rfl) rfl ?_
  refine Lw.nil ?_
  refine Pw.thenN (Cw.out ?_)
  refine Cw.seq ?_
  refine Cw.region ?_
  refine Lw.val (Ex.ldA (ag_25 _) (sz_25 _) rfl rfl (by assumption)) rfl ?_
  refine Lw.callF rfl rfl (relu_p m _ h_m) ?_
  rintro r w ⟨hn, q, rfl, h_q, -, hz⟩
  replace hB := hB.bs hn
  replace h_a := h_a.bs hn
  replace b_a := b_a.bs hn
  replace b_m := b_m.bs hn
  replace h_m := h_m.bs hn
  replace h_p := h_p.bs hn
  replace b_p := b_p.bs hn
  clear hn
  obtain ⟨s_q, l_q, -⟩ := hz (e1_zero t_m)
  rw [e1_zero t_m]
  rw [z1_map t_m] at l_q
  have n_q : q.l.length = m.l.length := by rw [l_q, List.length_map]
  have t_q : tok q.s q.l = true := by rw [s_q]; exact tok_len t_m n_q
  clear hz
  refine Lw.val (Ex.move rfl) rfl ?_
  refine Lw.val (Ex.extract (i := 0) rfl rfl) rfl ?_
  refine Lw.val (Ex.extract (i := 1) rfl rfl) rfl ?_
  refine Lw.boxed (cs := [q.x, q.y]) it_25 rfl rfl rfl rfl (fun _ => rfl) (h_q.one) ?_
  rintro A_q w eA_q b_q hn -
  replace hB := hB.bs hn
  replace h_a := h_a.bs hn
  replace b_a := b_a.bs hn
  replace b_m := b_m.bs hn
  replace h_m := h_m.bs hn
  replace h_p := h_p.bs hn
  replace b_p := b_p.bs hn
  replace h_q := h_q.bs hn
  clear hn
  refine Lw.val (Ex.assign rfl) rfl ?_
  refine Lw.nil ?_
  refine Pw.thenN (Cw.out ?_)
  refine Cw.seq ?_
  refine Cw.region ?_
  refine Lw.val (Ex.ldA (ag_25 _) (sz_25 _) rfl rfl (by assumption)) rfl ?_
  refine Lw.callF rfl rfl (relu_p p _ h_p) ?_
  rintro r w ⟨hn, r1, rfl, h_r1, -, hz⟩
  replace hB := hB.bs hn
  replace h_a := h_a.bs hn
  replace b_a := b_a.bs hn
  replace b_m := b_m.bs hn
  replace h_m := h_m.bs hn
  replace h_p := h_p.bs hn
  replace b_p := b_p.bs hn
  replace h_q := h_q.bs hn
  replace b_q := b_q.bs hn
  clear hn
  obtain ⟨s_r1, l_r1, -⟩ := hz (e1_zero t_p)
  rw [e1_zero t_p]
  rw [z1_map t_p] at l_r1
  have n_r1 : r1.l.length = p.l.length := by rw [l_r1, List.length_map]
  have t_r1 : tok r1.s r1.l = true := by rw [s_r1]; exact tok_len t_p n_r1
  clear hz
  refine Lw.val (Ex.move rfl) rfl ?_
  refine Lw.val (Ex.extract (i := 0) rfl rfl) rfl ?_
  refine Lw.val (Ex.extract (i := 1) rfl rfl) rfl ?_
  refine Lw.boxed (cs := [r1.x, r1.y]) it_25 rfl rfl rfl rfl (fun _ => rfl) (h_r1.one) ?_
  rintro A_r1 w eA_r1 b_r1 hn -
  replace hB := hB.bs hn
  replace h_a := h_a.bs hn
  replace b_a := b_a.bs hn
  replace b_m := b_m.bs hn
  replace h_m := h_m.bs hn
  replace h_p := h_p.bs hn
  replace b_p := b_p.bs hn
  replace h_q := h_q.bs hn
  replace b_q := b_q.bs hn
  replace h_r1 := h_r1.bs hn
  clear hn
  refine Lw.val (Ex.assign rfl) rfl ?_
  refine Lw.nil ?_
  refine Pw.thenN (Cw.out ?_)
  refine Cw.seq ?_
  refine Cw.seq ?_
  refine Cw.region ?_
  refine Lw.val (Ex.move rfl) rfl ?_
  refine Lw.val (Ex.neq rfl rfl) rfl ?_
  refine Lw.val (Ex.move rfl) rfl ?_
  refine Lw.know 62 (v' := .bool false) rfl (congrArg Value.bool (rfl)) ?_
  refine Lw.take (dj := 62) rfl rfl ?_
  refine Lw.val (Ex.move rfl) rfl ?_
  refine Lw.take (dj := 62) rfl rfl ?_
  refine Lw.val (Ex.neq rfl rfl) rfl ?_
  refine Lw.val (Ex.pickF rfl rfl) rfl ?_
  refine Lw.val (Ex.move rfl) rfl ?_
  refine Lw.know 66 (v' := .bool false) rfl (congrArg Value.bool (rfl)) ?_
  refine Lw.take (dj := 66) rfl rfl ?_
  refine Lw.val (Ex.move rfl) rfl ?_
  refine Lw.take (dj := 66) rfl rfl ?_
  refine Lw.val (Ex.neq rfl rfl) rfl ?_
  refine Lw.val (Ex.pickF rfl rfl) rfl ?_
  refine Lw.val (Ex.move rfl) rfl ?_
  refine Lw.know 70 (v' := .bool false) rfl (congrArg Value.bool (rfl)) ?_
  refine Lw.take (dj := 70) rfl rfl ?_
  refine Lw.val (Ex.ldA (ag_25 _) (sz_25 _) rfl rfl (by assumption)) rfl ?_
  refine Lw.take (dj := 70) rfl rfl ?_
  refine Lw.val (Ex.ldA (ag_25 _) (sz_25 _) rfl rfl (by assumption)) rfl ?_
  refine Lw.take (dj := 70) rfl rfl ?_
  refine Lw.callF rfl rfl (same_c _ _ _ _ _ _ _ _ _ h_p.1 h_p.2 h_r1.1 h_r1.2) ?_
  rintro _ w ⟨rfl, hn⟩
  replace hB := hB.bs hn
  replace h_a := h_a.bs hn
  replace b_a := b_a.bs hn
  replace b_m := b_m.bs hn
  replace h_m := h_m.bs hn
  replace h_p := h_p.bs hn
  replace b_p := b_p.bs hn
  replace h_q := h_q.bs hn
  replace b_q := b_q.bs hn
  replace h_r1 := h_r1.bs hn
  replace b_r1 := b_r1.bs hn
  clear hn
  refine Lw.take (dj := 70) rfl rfl ?_
  refine Lw.val (Ex.not rfl) rfl ?_
  refine Lw.val (Ex.pickF rfl rfl) rfl ?_
  refine Lw.val (Ex.move rfl) rfl ?_
  have y_a := h_a.2
  have y_p := h_p.2
  have y_q := h_q.2
  have n_m : m.l.length = a.l.length := by rw [l_m, List.length_map]
  refine Lw.know 76 (v' := .bool false) rfl (congrArg Value.bool (same_not s_r1.symm (by rw [l_r1, l_p, List.map_map]; exact List.map_congr_left fun x _ => (relu_relu x).symm))) ?_
  refine Lw.take (dj := 76) rfl rfl ?_
  refine Lw.val (Ex.fieldAddr (q := 0) Try.underlying25 rfl (sz_23 _) rfl) rfl ?_
  refine Lw.take (dj := 76) rfl rfl ?_
  refine Lw.val (Ex.ldB (ag_23 _) rfl (by assumption) rfl) rfl ?_
  refine Lw.take (dj := 76) rfl rfl ?_
  refine Lw.val (Ex.lenS st_23 rfl (by assumption)) rfl ?_
  refine Lw.take (dj := 76) rfl rfl ?_
  refine Lw.val (Ex.fieldAddr (q := 0) Try.underlying25 rfl (sz_23 _) rfl) rfl ?_
  refine Lw.take (dj := 76) rfl rfl ?_
  refine Lw.val (Ex.ldB (ag_23 _) rfl (by assumption) rfl) rfl ?_
  refine Lw.take (dj := 76) rfl rfl ?_
  refine Lw.val (Ex.lenS st_23 rfl (by assumption)) rfl ?_
  refine Lw.take (dj := 76) rfl rfl ?_
  refine Lw.val (Ex.neq rfl rfl) rfl ?_
  refine Lw.val (Ex.pickF rfl rfl) rfl ?_
  refine Lw.val (Ex.move rfl) rfl ?_
  refine Lw.know 85 (v' := .bool false) rfl (congrArg Value.bool (by simp [n_p])) ?_
  refine Lw.take (dj := 85) rfl rfl ?_
  refine Lw.val (Ex.fieldAddr (q := 0) Try.underlying25 rfl (sz_23 _) rfl) rfl ?_
  refine Lw.take (dj := 85) rfl rfl ?_
  refine Lw.val (Ex.ldB (ag_23 _) rfl (by assumption) rfl) rfl ?_
  refine Lw.take (dj := 85) rfl rfl ?_
  refine Lw.val (Ex.lenS st_23 rfl (by assumption)) rfl ?_
  refine Lw.take (dj := 85) rfl rfl ?_
  refine Lw.val (Ex.fieldAddr (q := 0) Try.underlying25 rfl (sz_23 _) rfl) rfl ?_
  refine Lw.take (dj := 85) rfl rfl ?_
  refine Lw.val (Ex.ldB (ag_23 _) rfl (by assumption) rfl) rfl ?_
  refine Lw.take (dj := 85) rfl rfl ?_
  refine Lw.val (Ex.lenS st_23 rfl (by assumption)) rfl ?_
  refine Lw.take (dj := 85) rfl rfl ?_
  refine Lw.val (Ex.neq rfl rfl) rfl ?_
  refine Lw.val (Ex.pickF rfl rfl) rfl ?_
  refine Lw.nil ?_
  refine Pw.thenN (Cw.out ?_)
  refine Cw.condB rfl false (by simp [n_q, n_m]) ?_
  refine Cw.skip ?_
  refine Pw.thenN (Cw.out ?_)
  refine Cw.seq ?_
  refine Cw.seq ?_
  refine Cw.region ?_
  refine Lw.val (Ex.assign rfl) rfl ?_
  refine Lw.nil ?_
  refine Pw.thenN (Cw.out ?_)
  refine Cw.block ?_
  refine Cw.loop (S := Nat) (fun i => [(1, .pointer (some ⟨A_a, 0, none⟩)), (5, .pointer (some ⟨A_p, 0, none⟩)), (7, .pointer (some ⟨A_q, 0, none⟩)), (11, .int .i64 (i : Int))]) (fun i w' => i ≤ a.l.length ∧ Below w.heap.size w w') (fun i => a.l.length - i) (0) ⟨rfl, rfl, rfl, rfl, trivial⟩ ?_ ?_
  · exact ⟨by omega, Below.refl _ _⟩
  rintro i w' ⟨hi, hw⟩
  replace hB := hB.bs hw
  replace h_a := h_a.bs hw
  replace b_a := b_a.bs hw
  replace b_m := b_m.bs hw
  replace h_m := h_m.bs hw
  replace h_p := h_p.bs hw
  replace b_p := b_p.bs hw
  replace h_q := h_q.bs hw
  replace b_q := b_q.bs hw
  replace h_r1 := h_r1.bs hw
  replace b_r1 := b_r1.bs hw
  replace y_a := y_a.bs hw
  replace y_p := y_p.bs hw
  replace y_q := y_q.bs hw
  refine Cw.seq ?_
  refine Cw.seq ?_
  refine Cw.region ?_
  refine Lw.val (Ex.move rfl) rfl ?_
  refine Lw.val (Ex.fieldAddr (q := 0) Try.underlying25 rfl (sz_23 _) rfl) rfl ?_
  refine Lw.val (Ex.ldB (ag_23 _) rfl (by assumption) rfl) rfl ?_
  refine Lw.val (Ex.lenS st_23 rfl (by assumption)) rfl ?_
  refine Lw.val (Ex.lss rfl rfl) rfl ?_
  refine Lw.nil ?_
  refine Pw.thenN (Cw.out ?_)
  refine Cw.cond rfl ?_ ?_
  · intro h
    have hi' : i < a.l.length := by simp at h; omega
    have v_p : p.l.getD i default = reluB (a.l.getD i default) := by rw [l_p, getD_map hi']
    have v_q : q.l.getD i default = reluB (-(a.l.getD i default)) := by rw [l_q, l_m, getD_map (by simpa using hi'), getD_map hi']
    refine Cw.skip ?_
    refine Pw.thenN (Cw.out ?_)
    refine Cw.seq ?_
    refine Cw.block ?_
    refine Cw.seq ?_
    refine Cw.quiet mixed (by kernel_rfl) ?_
    refine Qw.val (fun w1 hq => Ex.fieldAddr (q := 0) Try.underlying25 rfl (sz_23 _) rfl) rfl ?_
    refine Qw.val (fun w1 hq => Ex.ldB (ag_23 _) rfl (Blk.bs (by assumption) hq) rfl) rfl ?_
    refine Qw.val (fun w1 hq => Ex.move rfl) rfl ?_
    refine Qw.val (fun w1 hq => Ex.idxT st_23 rfl rfl (Sl.bs (by assumption) hq) _ rfl (by omega)) rfl ?_
    refine Qw.val (fun w1 hq => Ex.ldT (ag_21 _) rfl (Sl.bs (by assumption) hq) (by omega)) rfl ?_
    refine Qw.val (fun w1 hq => Ex.lss rfl rfl) rfl ?_
    refine Qw.val (fun w1 hq => Ex.move rfl) rfl ?_
    refine Qw.know 107 (v' := .bool false) rfl (congrArg Value.bool (by rw [v_p]; simpa using relu_nn _)) ?_
    refine Qw.take (dj := 107) rfl rfl ?_
    refine Qw.val (fun w1 hq => Ex.fieldAddr (q := 0) Try.underlying25 rfl (sz_23 _) rfl) rfl ?_
    refine Qw.take (dj := 107) rfl rfl ?_
    refine Qw.val (fun w1 hq => Ex.ldB (ag_23 _) rfl (Blk.bs (by assumption) hq) rfl) rfl ?_
    refine Qw.take (dj := 107) rfl rfl ?_
    refine Qw.val (fun w1 hq => Ex.move rfl) rfl ?_
    refine Qw.take (dj := 107) rfl rfl ?_
    refine Qw.val (fun w1 hq => Ex.idxT st_23 rfl rfl (Sl.bs (by assumption) hq) _ rfl (by omega)) rfl ?_
    refine Qw.take (dj := 107) rfl rfl ?_
    refine Qw.val (fun w1 hq => Ex.ldT (ag_21 _) rfl (Sl.bs (by assumption) hq) (by omega)) rfl ?_
    refine Qw.take (dj := 107) rfl rfl ?_
    refine Qw.val (fun w1 hq => Ex.fieldAddr (q := 0) Try.underlying25 rfl (sz_23 _) rfl) rfl ?_
    refine Qw.take (dj := 107) rfl rfl ?_
    refine Qw.val (fun w1 hq => Ex.ldB (ag_23 _) rfl (Blk.bs (by assumption) hq) rfl) rfl ?_
    refine Qw.take (dj := 107) rfl rfl ?_
    refine Qw.val (fun w1 hq => Ex.move rfl) rfl ?_
    refine Qw.take (dj := 107) rfl rfl ?_
    refine Qw.val (fun w1 hq => Ex.idxT st_23 rfl rfl (Sl.bs (by assumption) hq) _ rfl (by omega)) rfl ?_
    refine Qw.take (dj := 107) rfl rfl ?_
    refine Qw.val (fun w1 hq => Ex.ldT (ag_21 _) rfl (Sl.bs (by assumption) hq) (by omega)) rfl ?_
    refine Qw.take (dj := 107) rfl rfl ?_
    refine Qw.val (fun w1 hq => Ex.subi32 rfl rfl) rfl ?_
    refine Qw.take (dj := 107) rfl rfl ?_
    refine Qw.val (fun w1 hq => Ex.fieldAddr (q := 0) Try.underlying25 rfl (sz_23 _) rfl) rfl ?_
    refine Qw.take (dj := 107) rfl rfl ?_
    refine Qw.val (fun w1 hq => Ex.ldB (ag_23 _) rfl (Blk.bs (by assumption) hq) rfl) rfl ?_
    refine Qw.take (dj := 107) rfl rfl ?_
    refine Qw.val (fun w1 hq => Ex.move rfl) rfl ?_
    refine Qw.take (dj := 107) rfl rfl ?_
    refine Qw.val (fun w1 hq => Ex.idxT st_23 rfl rfl (Sl.bs (by assumption) hq) _ rfl (by omega)) rfl ?_
    refine Qw.take (dj := 107) rfl rfl ?_
    refine Qw.val (fun w1 hq => Ex.ldT (ag_21 _) rfl (Sl.bs (by assumption) hq) (by omega)) rfl ?_
    refine Qw.take (dj := 107) rfl rfl ?_
    refine Qw.val (fun w1 hq => Ex.neqi32 rfl rfl) rfl ?_
    refine Qw.take (dj := 107) rfl rfl ?_
    refine Qw.val (fun w1 hq => Ex.move rfl) rfl ?_
    refine Qw.part 125 rfl ?_ ?_
    · intro g
      refine Qw.take (dj := 125) rfl rfl ?_
      refine Qw.val (fun w1 hq => Ex.fieldAddr (q := 0) Try.underlying25 rfl (sz_23 _) rfl) rfl ?_
      refine Qw.take (dj := 125) rfl rfl ?_
      refine Qw.val (fun w1 hq => Ex.ldB (ag_23 _) rfl (Blk.bs (by assumption) hq) rfl) rfl ?_
      refine Qw.take (dj := 125) rfl rfl ?_
      refine Qw.val (fun w1 hq => Ex.move rfl) rfl ?_
      refine Qw.take (dj := 125) rfl rfl ?_
      refine Qw.val (fun w1 hq => Ex.idxT st_23 rfl rfl (Sl.bs (by assumption) hq) _ rfl (by omega)) rfl ?_
      refine Qw.take (dj := 125) rfl rfl ?_
      refine Qw.val (fun w1 hq => Ex.ldT (ag_21 _) rfl (Sl.bs (by assumption) hq) (by omega)) rfl ?_
      refine Qw.take (dj := 125) rfl rfl ?_
      refine Qw.val (fun w1 hq => Ex.neqi32 rfl (show _ = some (i32 (BitVec.ofInt 32 (-2147483648))) from rfl)) rfl ?_
      refine Qw.take (dj := 107) rfl rfl ?_
      refine Qw.val (fun w1 hq => Ex.pickT rfl rfl) rfl ?_
      refine Qw.val (fun w1 hq => Ex.pickF rfl rfl) rfl ?_
      refine Qw.nil (fun w2 hq => ?_)
      refine Pw.thenN (Cw.out ?_)
      have hm : a.l.getD i default = 2147483648#32 := by
        refine Classical.byContradiction fun hx => ?_
        have := relu_sub _ hx
        rw [v_p, v_q] at g
        rw [this] at g
        simp at g
      refine Cw.condB rfl false ((by rw [hm]; rfl)) ?_
      refine Cw.skip ?_
      refine Pw.blkN ?_
      refine Pw.thenN (Cw.out ?_)
      refine Cw.region ?_
      refine Lw.val (Ex.move rfl) rfl ?_
      refine Lw.val (Ex.addI rfl rfl (by omega)) rfl ?_
      refine Lw.val (Ex.assign rfl) rfl ?_
      refine Lw.nil ?_
      exact Pw.thenN (Pw.next (i + 1) ⟨rfl, rfl, rfl, rfl, trivial⟩ (⟨hi', bt hw hq⟩) (by omega))
    · intro g
      refine Qw.pass (dj := 125) rfl rfl rfl rfl ?_
      refine Qw.pass (dj := 125) rfl rfl rfl rfl ?_
      refine Qw.pass (dj := 125) rfl rfl rfl rfl ?_
      refine Qw.pass (dj := 125) rfl rfl rfl rfl ?_
      refine Qw.pass (dj := 125) rfl rfl rfl rfl ?_
      refine Qw.pass (dj := 125) rfl rfl rfl rfl ?_
      refine Qw.take (dj := 107) rfl rfl ?_
      refine Qw.val (fun w1 hq => Ex.pickF rfl rfl) rfl ?_
      refine Qw.val (fun w1 hq => Ex.pickF rfl rfl) rfl ?_
      refine Qw.nil (fun w2 hq => ?_)
      refine Pw.thenN (Cw.out ?_)
      refine Cw.condF rfl ?_
      refine Cw.skip ?_
      refine Pw.blkN ?_
      refine Pw.thenN (Cw.out ?_)
      refine Cw.region ?_
      refine Lw.val (Ex.move rfl) rfl ?_
      refine Lw.val (Ex.addI rfl rfl (by omega)) rfl ?_
      refine Lw.val (Ex.assign rfl) rfl ?_
      refine Lw.nil ?_
      exact Pw.thenN (Pw.next (i + 1) ⟨rfl, rfl, rfl, rfl, trivial⟩ (⟨hi', bt hw hq⟩) (by omega))
  intro h
  refine Cw.exit ?_
  refine Pw.thenE ?_
  refine Pw.thenE ?_
  refine Pw.blkHit ?_
  refine Pw.thenN (Cw.out ?_)
  refine Cw.seq ?_
  refine Cw.region ?_
  refine Lw.val (Ex.assign rfl) rfl ?_
  refine Lw.nil ?_
  refine Pw.thenN (Cw.out ?_)
  refine Cw.ret ?_
  refine Pw.ret1 rfl rfl ?_
  exact ⟨rfl, hB⟩

set_option maxRecDepth 100000 in
theorem mathsRelu_lifted (os : Os) (started : os.Started) (H : Type) (enc : TypeId × Value → H) :
    ReturnsInHanded {} Try.checked os 5 .any (Rows.mathsReluSpec.pre6 enc Try.prog Try.f5 Rows.mathsReluRow.domain false) (Rows.mathsReluSpec.post enc Try.prog Try.f5 false true false false) := by
  refine returnsInHanded_of_change_sized (C := Try.checked) own started (by kernel_rfl) Try.func5
    (ChangeSpec.witness6 (enc := enc) (C := Try.checked) false ⟨#[], #[.agg #[.slice none 0 0, .slice none 0 0]], []⟩ 8 (by kernel_rfl) (by kernel_rfl) (by kernel_rfl) (by kernel_rfl)) ?_
  intro W base args ds gs before hval0 hW hcnd hsz0 _
  have hval : ∀ (j : Nat) t v, Try.f5.params[j]? = some t → args[j]? = some v → Value.okWide Try.prog W .any base t v := hval0
  have hW' := hW
  obtain ⟨p, q, hA0, hV, rfl, hfz, hnd⟩ := hW
  have hA : DataW.TrodAll enc Try.prog W 0 (fun _ => true) true Try.f5.params.toList args.toList ds p := hA0
  have hsz : (DataW.weightsEach Try.prog (Try.f5.params.toList ++ Rows.mathsReluSpec.plain.varTypes Try.prog) (ds ++ gs)).all (· ≤ reachBytes) = true := hsz0
  rw [Try.params5] at hA hval hsz
  obtain ⟨v0, vs0, d0, ds0, p0, q0, hargs, rfl, rfl, h0, r0⟩ := trodAll_cons hA
  obtain ⟨rfl, rfl, rfl⟩ := trodAll_nil r0
  obtain rfl : args = #[v0] := by cases args; simp_all
  obtain ⟨rfl, rfl⟩ := trodVars_none hV
  have k0 := h0
  have lt0 : ∀ x ∈ p0, x.block < W.heap.size := by obtain ⟨m, hm⟩ := k0; exact DataW.trod_lt m _ _ _ hm
  have i0 := in_of (j := 0) (t := 25) hsz rfl rfl h0
  have o0 := hval 0 25 v0 rfl rfl
  clear hA0 hval0 hsz0 hsz
  obtain ⟨a, rfl, ha, b1, b2⟩ := arg_ten o0 i0
  refine (law_calls (mathsRelu_w a W ha (by omega) (by omega))).mono fun e W' ⟨he, bel⟩ => ?_
  subst he
  exact ⟨_, rfl, _, _, _, [], _, [], hW', trodAll_mk1 (shut_bool un_4 _), (trodAll_cons_mk (Below.trod laidOut (by kernel_rfl) (of_decide_eq_true (by kernel_rfl)) k0 bel lt0) trodAll_mk0), rfl, bel.frame _, fun h => by cases h⟩

/-- The statement. -/
theorem mathsRelu_proved : Rows.MathsReluSaid :=
  OpenClaim.holds_of_wide 5 Try.f5 rfl rfl rfl rfl rfl rfl rfl ⟨rfl, rfl, rfl, rfl, rfl⟩ rfl rfl rfl rfl rfl (by kernel_rfl) Try.func5 (by kernel_rfl)
    (of_decide_eq_true (by kernel_rfl)) (by unfold Func.isWrapper; first | (rw [if_pos (by decide +kernel)]; kernel_rfl) | (rw [if_neg (by decide +kernel)]; exact ⟨rfl, rfl⟩))
    (fun os started H enc _ => mathsRelu_lifted os started H enc)
#print axioms mathsRelu_proved
end Go.Proofs.Ythgckokpdgiilaa
