/- What is put is got; bytes of which a tensor is got are its; with a byte more, or fewer, there is none: for any tensor, any bytes; no condition. -/
import Derived.Test.YtjfghiepdnonjaaTensorsLaws
import Derived.Test.YtjfghiepdnonjaaTensorsArg
import Derived.Test.YtjfghiepdnonjaaTwinTensor
namespace Go.Proofs.Ytjfghiepdnonjaa
open Go Go.Dd Go.RowKit Go.ChangeShapes Go.WideShapes Go.ChangeAt

theorem same_not {s t : List Int} {l m : List (BitVec 32)} (h1 : s = t) (h2 : l = m) : (!(decide (s = t) && decide (l = m))) = false := by rw [decide_eq_true h1, decide_eq_true h2]; rfl
theorem putE_tok (s : List Int) (l : List (BitVec 32)) : (!(decide (putE s l = 0) == tok s l)) = false := by unfold putE; cases tok s l <;> rfl
theorem tok_of {s : List Int} {l : List (BitVec 32)} (h : putE s l = 0) : tok s l = true := by cases k : tok s l <;> simp [putE, k] at h ⊢
theorem putB_len {s : List Int} {l : List (BitVec 32)} (h : tok s l = true) : (putR s l).length = 1 + s.length + 4 * l.length ∧ (putR s l).length ≤ 20000 := by
  obtain ⟨h1, h2⟩ := tok_ok h
  have h3 := Shapes.size_le s
  have h4 := ((Shapes.ok_iff s).1 h1).1
  have e : (putR s l).length = 1 + s.length + 4 * l.length := by
    rw [show putR s l = putB s l by simp [putR, h]]
    unfold putB
    rw [List.length_append, headB_len, fours_len]
  exact ⟨e, by omega⟩

theorem tensorsBack_w (a : T4) (v : Value) (b : List (BitVec 8)) (W : World) (h_a : a.at W) (h_b : SlT b8 W v b) (b1 : a.s.length ≤ 1125899906842624) (b2 : a.l.length ≤ 1125899906842624) (b3 : b.length ≤ 1125899906842624) :
    Fnc Try.prog 3 [a.v, v] W (fun r w' => r = .bool true ∧ Below W.heap.size W w') := by
  have hB := Below.refl W.heap.size W
  have tz : 0 ≤ tsz a.s a.l ∧ tsz a.s a.l ≤ 4503599627370496 := by unfold tsz; split <;> omega
  refine Fnc.enter (n := 127) Try.func3 (by kernel_rfl) rfl rfl rfl ?_
  refine Cw.seq ?_
  refine Cw.region ?_
  refine Lw.boxV (cs := [a.x, a.y]) rfl rfl rfl ?_
  rintro A_a w eA_a b_a hn -
  replace hB := hB.bs hn
  replace h_a := h_a.bs hn
  replace h_b := h_b.bs hn
  clear hn
  refine Lw.val (Ex.assign rfl) rfl ?_
  refine Lw.nil ?_
  refine Pw.thenN (Cw.out ?_)
  refine Cw.seq ?_
  refine Cw.seq ?_
  refine Cw.region ?_
  refine Lw.callF rfl rfl (alive_c _) ?_
  rintro _ w ⟨rfl, hn⟩
  replace hB := hB.bs hn
  replace h_a := h_a.bs hn
  replace h_b := h_b.bs hn
  replace b_a := b_a.bs hn
  clear hn
  refine Lw.val (Ex.not rfl) rfl ?_
  refine Lw.val (Ex.move rfl) rfl ?_
  refine Lw.know 19 (v' := .bool false) rfl (congrArg Value.bool (rfl)) ?_
  refine Lw.take (dj := 19) rfl rfl ?_
  refine Lw.val (Ex.ldA (ag_25 _) (sz_25 _) rfl rfl (by assumption)) rfl ?_
  refine Lw.take (dj := 19) rfl rfl ?_
  refine Lw.callF rfl rfl (tsize_c a _ h_a b1 b2) ?_
  rintro _ w ⟨rfl, hn⟩
  replace hB := hB.bs hn
  replace h_a := h_a.bs hn
  replace h_b := h_b.bs hn
  replace b_a := b_a.bs hn
  clear hn
  refine Lw.take (dj := 19) rfl rfl ?_
  refine Lw.val (Ex.move rfl) rfl ?_
  refine Lw.take (dj := 19) rfl rfl ?_
  refine Lw.val (Ex.lenS st_26 rfl (by assumption)) rfl ?_
  refine Lw.take (dj := 19) rfl rfl ?_
  refine Lw.valW (Xw.lit (vs := [tsz a.s a.l, (b.length : Int)].map (Value.int .i64)) st_22 it_3 rfl rfl rfl rfl rfl) rfl ?_
  rintro u w ⟨ho, -, hn, -⟩
  replace hB := hB.bs hn
  replace h_a := h_a.bs hn
  replace h_b := h_b.bs hn
  replace b_a := b_a.bs hn
  clear hn
  refine Lw.take (dj := 19) rfl rfl ?_
  refine Lw.callF rfl rfl (beyond_c u [tsz a.s a.l, (b.length : Int)] w (own_slT ho) (by intro x hx; simp at hx; rcases hx with rfl | rfl; exact tz; omega)) ?_
  rintro _ w ⟨rfl, hn⟩
  replace hB := hB.bs hn
  replace h_a := h_a.bs hn
  replace h_b := h_b.bs hn
  replace b_a := b_a.bs hn
  clear hn
  refine Lw.val (Ex.pickF rfl rfl) rfl ?_
  refine Lw.nil ?_
  refine Pw.thenN (Cw.out ?_)
  clear ho
  refine Cw.cond rfl ?_ ?_
  · intro _
    refine Cw.seq ?_
    refine Cw.region ?_
    refine Lw.callF rfl rfl (alive_c _) ?_
    rintro _ w ⟨rfl, hn⟩
    replace hB := hB.bs hn
    replace h_a := h_a.bs hn
    replace h_b := h_b.bs hn
    replace b_a := b_a.bs hn
    clear hn
    refine Lw.val (Ex.assign rfl) rfl ?_
    refine Lw.nil ?_
    refine Pw.thenN (Cw.out ?_)
    refine Cw.ret ?_
    refine Pw.thenR ?_
    refine Pw.ret1 rfl rfl ?_
    exact ⟨rfl, hB⟩
  intro _
  refine Cw.skip ?_
  refine Pw.thenN (Cw.out ?_)
  refine Cw.seq ?_
  refine Cw.region ?_
  refine Lw.val (Ex.ldA (ag_25 _) (sz_25 _) rfl rfl (by assumption)) rfl ?_
  refine Lw.callF rfl rfl (put_p a _ h_a) ?_
  rintro _ w ⟨hn, c, rfl, t_c⟩
  replace hB := hB.bs hn
  replace h_a := h_a.bs hn
  replace h_b := h_b.bs hn
  replace b_a := b_a.bs hn
  clear hn
  refine Lw.val (Ex.move rfl) rfl ?_
  refine Lw.val (Ex.extract (i := 0) rfl rfl) rfl ?_
  refine Lw.val (Ex.extract (i := 1) rfl rfl) rfl ?_
  refine Lw.val (Ex.assign rfl) rfl ?_
  refine Lw.val (Ex.assign rfl) rfl ?_
  refine Lw.nil ?_
  refine Pw.thenN (Cw.out ?_)
  refine Cw.seq ?_
  refine Cw.seq ?_
  refine Cw.region ?_
  refine Lw.val (Ex.move rfl) rfl ?_
  refine Lw.val (Ex.eql rfl rfl) rfl ?_
  refine Lw.val (Ex.ldA (ag_25 _) (sz_25 _) rfl rfl (by assumption)) rfl ?_
  refine Lw.callF rfl rfl (tcheck_c a.x a.y a.s a.l _ h_a.1 h_a.2) ?_
  rintro _ w ⟨rfl, hn⟩
  replace hB := hB.bs hn
  replace h_a := h_a.bs hn
  replace h_b := h_b.bs hn
  replace b_a := b_a.bs hn
  replace t_c := t_c.bs hn
  clear hn
  refine Lw.val (Ex.neqB un_4 rfl rfl) rfl ?_
  refine Lw.nil ?_
  refine Pw.thenN (Cw.out ?_)
  refine Cw.condB rfl false (putE_tok _ _) ?_
  refine Cw.skip ?_
  refine Pw.thenN (Cw.out ?_)
  refine Cw.seq ?_
  refine Cw.seq ?_
  refine Cw.region ?_
  refine Lw.val (Ex.move rfl) rfl ?_
  refine Lw.val (Ex.eql rfl rfl) rfl ?_
  refine Lw.nil ?_
  refine Pw.thenN (Cw.out ?_)
  refine Cw.mid (F := [(1, v)]) (I := fun w' => Below w.heap.size w w') ?_ ?_
  · have hM := Below.refl w.heap.size w
    refine Cw.cond rfl ?_ ?_
    · intro e1
      have k_a := tok_of (of_decide_eq_true e1)
      obtain ⟨l_c, l_c2⟩ := putB_len k_a
      have eR : putR a.s a.l = putB a.s a.l := by simp [putR, k_a]
      obtain ⟨g1, g2, g3⟩ := get_put k_a
      have e_x : gtE (putR a.s a.l) = 0 := by rw [eR]; simp [gtE, g1]
      refine Cw.seq ?_
      refine Cw.region ?_
      refine Lw.val (Ex.move rfl) rfl ?_
      refine Lw.callF rfl rfl (get_p c _ _ t_c) ?_
      rintro r w ⟨hn, x, rfl, h_x, -, hz⟩
      obtain ⟨s_x, l_x, -⟩ := hz e_x
      rw [e_x]
      rw [eR, g2] at s_x
      rw [eR, g3] at l_x
      clear hz
      replace hB := hB.bs hn
      replace h_a := h_a.bs hn
      replace h_b := h_b.bs hn
      replace b_a := b_a.bs hn
      replace t_c := t_c.bs hn
      replace hM := hM.bs hn
      clear hn
      refine Lw.val (Ex.move rfl) rfl ?_
      refine Lw.val (Ex.extract (i := 0) rfl rfl) rfl ?_
      refine Lw.val (Ex.extract (i := 1) rfl rfl) rfl ?_
      refine Lw.boxed (cs := [x.x, x.y]) it_25 rfl rfl rfl rfl (fun _ => rfl) (h_x.one) ?_
      rintro A_x w eA_x b_x hn -
      replace hB := hB.bs hn
      replace h_a := h_a.bs hn
      replace h_b := h_b.bs hn
      replace b_a := b_a.bs hn
      replace t_c := t_c.bs hn
      replace hM := hM.bs hn
      replace h_x := h_x.bs hn
      clear hn
      refine Lw.val (Ex.assign rfl) rfl ?_
      refine Lw.nil ?_
      refine Pw.thenN (Cw.out ?_)
      refine Cw.seq ?_
      refine Cw.region ?_
      refine Lw.val (Ex.move rfl) rfl ?_
      refine Lw.callF rfl rfl (twinBytes_c c _ w t_c (by omega)) ?_
      rintro d w1 ⟨ht, hn1⟩
      have ho := ht.own
      clear ht
      refine Lw.valW (Xw.lit (vs := [0#8].map b8) st_26 it_5 rfl (by kernel_rfl) rfl rfl rfl) rfl ?_
      rintro q w2 ⟨hq, -, hn2, -⟩
      have ho := own_bs ho hn2
      have hn := bt hn1 hn2
      refine Lw.valW (Xw.append (base := w.heap.size) st_26 it_5 rfl (by decide) rfl rfl ho (own_sl hq) rfl (by omega) (by omega) hn.size) rfl ?_
      rintro d2 w3 ⟨ho3, hb3, -⟩
      rw [← List.map_append] at ho3
      have t_d := own_slT ho3
      have hn := hn.trans hb3
      replace hB := hB.bs hn
      replace h_a := h_a.bs hn
      replace h_b := h_b.bs hn
      replace b_a := b_a.bs hn
      replace t_c := t_c.bs hn
      replace hM := hM.bs hn
      replace h_x := h_x.bs hn
      replace b_x := b_x.bs hn
      clear hn ho ho3 hq hb3 hn1 hn2
      have e_y : gtE (putR a.s a.l ++ [0#8]) = 4 := by rw [eR]; simp [gtE, get_more k_a [0#8] (by simp)]
      refine Lw.callF rfl rfl (get_p d2 _ _ t_d) ?_
      rintro r w ⟨hn, y1, rfl, h_y1, -, -⟩
      rw [e_y]
      replace hB := hB.bs hn
      replace h_a := h_a.bs hn
      replace h_b := h_b.bs hn
      replace b_a := b_a.bs hn
      replace t_c := t_c.bs hn
      replace hM := hM.bs hn
      replace h_x := h_x.bs hn
      replace b_x := b_x.bs hn
      clear hn
      refine Lw.val (Ex.move rfl) rfl ?_
      refine Lw.val (Ex.extract (i := 0) rfl rfl) rfl ?_
      refine Lw.val (Ex.extract (i := 1) rfl rfl) rfl ?_
      obtain ⟨m, hm⟩ : ∃ m, m = (putR a.s a.l).length - 1 := ⟨_, rfl⟩
      have hml : m ≤ (putR a.s a.l).length := by omega
      refine Lw.boxed (cs := [y1.x, y1.y]) it_25 rfl rfl rfl rfl (fun _ => rfl) (h_y1.one) ?_
      rintro A_y1 w eA_y1 b_y1 hn -
      replace hB := hB.bs hn
      replace h_a := h_a.bs hn
      replace h_b := h_b.bs hn
      replace b_a := b_a.bs hn
      replace t_c := t_c.bs hn
      replace hM := hM.bs hn
      replace h_x := h_x.bs hn
      replace b_x := b_x.bs hn
      clear hn
      refine Lw.val (Ex.assign rfl) rfl ?_
      refine Lw.nil ?_
      refine Pw.thenN (Cw.out ?_)
      refine Cw.seq ?_
      refine Cw.region ?_
      refine Lw.val (Ex.move rfl) rfl ?_
      refine Lw.val (Ex.move rfl) rfl ?_
      refine Lw.val (Ex.lenS st_26 rfl (by assumption)) rfl ?_
      refine Lw.val ((Ex.subI rfl rfl (by omega)).as (congrArg (Value.int .i64) (show (((putR a.s a.l).length : Nat) : Int) - 1 = (m : Int) by omega))) rfl ?_
      refine Lw.val (Ex.cutH st_26 rfl rfl t_c hml) rfl ?_
      have t_e := SlT.take (l := putR a.s a.l) t_c (j := m) (by omega)
      have e_z : gtE ((putR a.s a.l).take m) = 4 := by rw [hm, eR]; simp [gtE, get_less k_a]
      refine Lw.callF rfl rfl (get_p _ _ _ t_e) ?_
      rintro r w ⟨hn, y2, rfl, h_y2, -, -⟩
      rw [e_z]
      replace hB := hB.bs hn
      replace h_a := h_a.bs hn
      replace h_b := h_b.bs hn
      replace b_a := b_a.bs hn
      replace t_c := t_c.bs hn
      replace hM := hM.bs hn
      replace h_x := h_x.bs hn
      replace b_x := b_x.bs hn
      replace b_y1 := b_y1.bs hn
      clear hn
      refine Lw.val (Ex.move rfl) rfl ?_
      refine Lw.val (Ex.extract (i := 0) rfl rfl) rfl ?_
      refine Lw.val (Ex.extract (i := 1) rfl rfl) rfl ?_
      refine Lw.boxed (cs := [y2.x, y2.y]) it_25 rfl rfl rfl rfl (fun _ => rfl) (h_y2.one) ?_
      rintro A_y2 w eA_y2 b_y2 hn -
      replace hB := hB.bs hn
      replace h_a := h_a.bs hn
      replace h_b := h_b.bs hn
      replace b_a := b_a.bs hn
      replace t_c := t_c.bs hn
      replace hM := hM.bs hn
      replace h_x := h_x.bs hn
      replace b_x := b_x.bs hn
      replace b_y1 := b_y1.bs hn
      clear hn
      refine Lw.val (Ex.assign rfl) rfl ?_
      refine Lw.nil ?_
      refine Pw.thenN (Cw.out ?_)
      refine Cw.seq ?_
      refine Cw.region ?_
      refine Lw.val (Ex.move rfl) rfl ?_
      refine Lw.val (Ex.neq rfl rfl) rfl ?_
      refine Lw.val (Ex.move rfl) rfl ?_
      refine Lw.know 64 (v' := .bool false) rfl (congrArg Value.bool (rfl)) ?_
      refine Lw.take (dj := 64) rfl rfl ?_
      refine Lw.val (Ex.ldA (ag_25 _) (sz_25 _) rfl rfl (by assumption)) rfl ?_
      refine Lw.take (dj := 64) rfl rfl ?_
      refine Lw.val (Ex.ldA (ag_25 _) (sz_25 _) rfl rfl (by assumption)) rfl ?_
      refine Lw.take (dj := 64) rfl rfl ?_
      refine Lw.callF rfl rfl (same_c _ _ _ _ _ _ _ _ _ h_x.1 h_x.2 h_a.1 h_a.2) ?_
      rintro _ w ⟨rfl, hn⟩
      replace hB := hB.bs hn
      replace h_a := h_a.bs hn
      replace h_b := h_b.bs hn
      replace b_a := b_a.bs hn
      replace t_c := t_c.bs hn
      replace hM := hM.bs hn
      replace h_x := h_x.bs hn
      replace b_x := b_x.bs hn
      replace b_y1 := b_y1.bs hn
      replace b_y2 := b_y2.bs hn
      clear hn
      refine Lw.take (dj := 64) rfl rfl ?_
      refine Lw.val (Ex.not rfl) rfl ?_
      refine Lw.val (Ex.pickF rfl rfl) rfl ?_
      refine Lw.val (Ex.move rfl) rfl ?_
      have h_a1 := h_a.1
      have h_a2 := h_a.2
      have la := (tok_ok k_a).2
      have lb := ((Shapes.ok_iff _).1 (tok_ok k_a).1).1
      refine Lw.know 70 (v' := .bool false) rfl (congrArg Value.bool (same_not s_x l_x)) ?_
      refine Lw.take (dj := 70) rfl rfl ?_
      refine Lw.val (Ex.move rfl) rfl ?_
      refine Lw.take (dj := 70) rfl rfl ?_
      refine Lw.val (Ex.lenS st_26 rfl (by assumption)) rfl ?_
      refine Lw.take (dj := 70) rfl rfl ?_
      refine Lw.val (Ex.fieldAddr (q := 0) Try.underlying25 rfl (sz_22 _) rfl) rfl ?_
      refine Lw.take (dj := 70) rfl rfl ?_
      refine Lw.val (Ex.ldB (ag_22 _) rfl (by assumption) rfl) rfl ?_
      refine Lw.take (dj := 70) rfl rfl ?_
      refine Lw.val (Ex.lenS st_22 rfl (by assumption)) rfl ?_
      refine Lw.take (dj := 70) rfl rfl ?_
      refine Lw.val (Ex.addI rfl rfl (by omega)) rfl ?_
      refine Lw.take (dj := 70) rfl rfl ?_
      refine Lw.val (Ex.fieldAddr (q := 0) Try.underlying25 rfl (sz_23 _) rfl) rfl ?_
      refine Lw.take (dj := 70) rfl rfl ?_
      refine Lw.val (Ex.ldB (ag_23 _) rfl (by assumption) rfl) rfl ?_
      refine Lw.take (dj := 70) rfl rfl ?_
      refine Lw.val (Ex.lenS st_23 rfl (by assumption)) rfl ?_
      refine Lw.take (dj := 70) rfl rfl ?_
      refine Lw.val (Ex.mulI rfl rfl (by omega)) rfl ?_
      refine Lw.take (dj := 70) rfl rfl ?_
      refine Lw.val (Ex.addI rfl rfl (by omega)) rfl ?_
      refine Lw.take (dj := 70) rfl rfl ?_
      refine Lw.val (Ex.neq rfl rfl) rfl ?_
      refine Lw.val (Ex.pickF rfl rfl) rfl ?_
      refine Lw.val (Ex.move rfl) rfl ?_
      refine Lw.know 84 (v' := .bool false) rfl (congrArg Value.bool (by simp; omega)) ?_
      refine Lw.take (dj := 84) rfl rfl ?_
      refine Lw.val (Ex.move rfl) rfl ?_
      refine Lw.take (dj := 84) rfl rfl ?_
      refine Lw.val (Ex.neq rfl rfl) rfl ?_
      refine Lw.val (Ex.pickF rfl rfl) rfl ?_
      refine Lw.val (Ex.move rfl) rfl ?_
      refine Lw.know 88 (v' := .bool false) rfl (congrArg Value.bool (rfl)) ?_
      refine Lw.take (dj := 88) rfl rfl ?_
      refine Lw.val (Ex.move rfl) rfl ?_
      refine Lw.take (dj := 88) rfl rfl ?_
      refine Lw.val (Ex.neq rfl rfl) rfl ?_
      refine Lw.val (Ex.pickF rfl rfl) rfl ?_
      refine Lw.nil ?_
      refine Pw.thenN (Cw.out ?_)
      refine Cw.condB rfl false (rfl) ?_
      refine Cw.skip ?_
      exact Pw.mid ⟨rfl, trivial⟩ (hM)
    · intro _
      refine Cw.skip ?_
      exact Pw.mid ⟨rfl, trivial⟩ (hM)
  intro w hn
  replace hB := hB.bs hn
  replace h_a := h_a.bs hn
  replace h_b := h_b.bs hn
  replace b_a := b_a.bs hn
  replace t_c := t_c.bs hn
  clear hn
  refine Cw.out ?_
  refine Cw.seq ?_
  refine Cw.region ?_
  refine Lw.val (Ex.move rfl) rfl ?_
  refine Lw.callF rfl rfl (get_p v b _ h_b) ?_
  rintro r w ⟨hn, y, rfl, h_y, hy0, hy1⟩
  replace hB := hB.bs hn
  replace h_a := h_a.bs hn
  replace h_b := h_b.bs hn
  replace b_a := b_a.bs hn
  replace t_c := t_c.bs hn
  clear hn
  refine Lw.val (Ex.move rfl) rfl ?_
  refine Lw.val (Ex.extract (i := 0) rfl rfl) rfl ?_
  refine Lw.val (Ex.extract (i := 1) rfl rfl) rfl ?_
  refine Lw.boxed (cs := [y.x, y.y]) it_25 rfl rfl rfl rfl (fun _ => rfl) (h_y.one) ?_
  rintro A_y w eA_y b_y hn -
  replace hB := hB.bs hn
  replace h_a := h_a.bs hn
  replace h_b := h_b.bs hn
  replace b_a := b_a.bs hn
  replace t_c := t_c.bs hn
  replace h_y := h_y.bs hn
  clear hn
  refine Lw.val (Ex.assign rfl) rfl ?_
  refine Lw.nil ?_
  refine Pw.thenN (Cw.out ?_)
  refine Cw.seq ?_
  refine Cw.region ?_
  refine Lw.val (Ex.ldA (ag_25 _) (sz_25 _) rfl rfl (by assumption)) rfl ?_
  refine Lw.callF rfl rfl (put_p y _ h_y) ?_
  rintro _ w ⟨hn, d, rfl, t_d⟩
  replace hB := hB.bs hn
  replace h_a := h_a.bs hn
  replace h_b := h_b.bs hn
  replace b_a := b_a.bs hn
  replace t_c := t_c.bs hn
  replace h_y := h_y.bs hn
  replace b_y := b_y.bs hn
  clear hn
  refine Lw.val (Ex.move rfl) rfl ?_
  refine Lw.val (Ex.extract (i := 0) rfl rfl) rfl ?_
  refine Lw.val (Ex.extract (i := 1) rfl rfl) rfl ?_
  refine Lw.val (Ex.assign rfl) rfl ?_
  refine Lw.val (Ex.assign rfl) rfl ?_
  refine Lw.nil ?_
  refine Pw.thenN (Cw.out ?_)
  refine Cw.seq ?_
  refine Cw.region ?_
  refine Lw.val (Ex.move rfl) rfl ?_
  refine Lw.val (Ex.eql rfl rfl) rfl ?_
  refine Lw.val (Ex.move rfl) rfl ?_
  have h_y2 := h_y.2
  cases hk : gtK b
  · have e1 : gtE b = 4 := by simp [gtE, hk]
    obtain ⟨-, l_y⟩ := hy0 (by rw [e1]; decide)
    refine Lw.know 104 (v' := .bool true) rfl (congrArg Value.bool ((by rw [e1]; rfl))) ?_
    refine Lw.take (dj := 104) rfl rfl ?_
    refine Lw.val (Ex.fieldAddr (q := 0) Try.underlying25 rfl (sz_23 _) rfl) rfl ?_
    refine Lw.take (dj := 104) rfl rfl ?_
    refine Lw.val (Ex.ldB (ag_23 _) rfl (by assumption) rfl) rfl ?_
    refine Lw.take (dj := 104) rfl rfl ?_
    refine Lw.val (Ex.lenS st_23 rfl (by assumption)) rfl ?_
    refine Lw.take (dj := 104) rfl rfl ?_
    refine Lw.val (Ex.eql rfl rfl) rfl ?_
    refine Lw.val (Ex.pickT rfl rfl) rfl ?_
    refine Lw.val (Ex.move rfl) rfl ?_
    refine Lw.know 110 (v' := .bool true) rfl (congrArg Value.bool ((by rw [l_y]; rfl))) ?_
    refine Lw.pass (dj := 110) rfl rfl rfl rfl ?_
    refine Lw.pass (dj := 110) rfl rfl rfl rfl ?_
    refine Lw.pass (dj := 110) rfl rfl rfl rfl ?_
    refine Lw.passN (dj := 113) rfl rfl rfl ?_
    refine Lw.passN (dj := 113) rfl rfl rfl ?_
    refine Lw.pass (dj := 110) rfl rfl rfl rfl ?_
    refine Lw.pass (dj := 110) rfl rfl rfl rfl ?_
    refine Lw.passN (dj := 117) rfl rfl rfl ?_
    refine Lw.passN (dj := 117) rfl rfl rfl ?_
    refine Lw.pass (dj := 110) rfl rfl rfl rfl ?_
    refine Lw.pass (dj := 110) rfl rfl rfl rfl ?_
    refine Lw.passN (dj := 121) rfl rfl rfl ?_
    refine Lw.passN (dj := 121) rfl rfl rfl ?_
    refine Lw.passN (dj := 121) rfl rfl rfl ?_
    refine Lw.pass (dj := 110) rfl rfl rfl rfl ?_
    refine Lw.val (Ex.pickT rfl rfl) rfl ?_
    refine Lw.val (Ex.assign rfl) rfl ?_
    refine Lw.nil ?_
    refine Pw.thenN (Cw.out ?_)
    refine Cw.ret ?_
    refine Pw.ret1 rfl rfl ?_
    exact ⟨rfl, hB⟩
  have e1 : gtE b = 0 := by simp [gtE, hk]
  obtain ⟨s_y, l_y, -⟩ := hy1 e1
  obtain ⟨-, -, -, k_y⟩ := gtK_ok hk
  have e2 : tok y.s y.l = true := by rw [s_y, l_y]; exact k_y
  refine Lw.know 104 (v' := .bool false) rfl (congrArg Value.bool ((by rw [e1]; rfl))) ?_
  refine Lw.pass (dj := 104) rfl rfl rfl rfl ?_
  refine Lw.pass (dj := 104) rfl rfl rfl rfl ?_
  refine Lw.pass (dj := 104) rfl rfl rfl rfl ?_
  refine Lw.pass (dj := 104) rfl rfl rfl rfl ?_
  refine Lw.val (Ex.pickF rfl rfl) rfl ?_
  refine Lw.val (Ex.move rfl) rfl ?_
  refine Lw.take (dj := 110) rfl rfl ?_
  refine Lw.val (Ex.move rfl) rfl ?_
  refine Lw.take (dj := 110) rfl rfl ?_
  refine Lw.val (Ex.eql rfl rfl) rfl ?_
  refine Lw.take (dj := 110) rfl rfl ?_
  refine Lw.val (Ex.move rfl) rfl ?_
  refine Lw.know 113 (v' := .bool true) rfl (congrArg Value.bool ((by rw [e1]; rfl))) ?_
  refine Lw.take (dj := 113) rfl rfl ?_
  refine Lw.val (Ex.ldA (ag_25 _) (sz_25 _) rfl rfl (by assumption)) rfl ?_
  refine Lw.take (dj := 113) rfl rfl ?_
  refine Lw.callF rfl rfl (tcheck_c y.x y.y y.s y.l _ h_y.1 h_y.2) ?_
  rintro _ w ⟨rfl, hn⟩
  replace hB := hB.bs hn
  replace h_a := h_a.bs hn
  replace h_b := h_b.bs hn
  replace b_a := b_a.bs hn
  replace t_c := t_c.bs hn
  replace h_y := h_y.bs hn
  replace b_y := b_y.bs hn
  replace t_d := t_d.bs hn
  clear hn
  refine Lw.take (dj := 110) rfl rfl ?_
  refine Lw.val (Ex.pickT rfl rfl) rfl ?_
  refine Lw.take (dj := 110) rfl rfl ?_
  refine Lw.val (Ex.move rfl) rfl ?_
  refine Lw.know 117 (v' := .bool true) rfl (congrArg Value.bool (e2)) ?_
  refine Lw.take (dj := 117) rfl rfl ?_
  refine Lw.val (Ex.move rfl) rfl ?_
  refine Lw.take (dj := 117) rfl rfl ?_
  refine Lw.val (Ex.eql rfl rfl) rfl ?_
  refine Lw.take (dj := 110) rfl rfl ?_
  refine Lw.val (Ex.pickT rfl rfl) rfl ?_
  refine Lw.take (dj := 110) rfl rfl ?_
  refine Lw.val (Ex.move rfl) rfl ?_
  refine Lw.know 121 (v' := .bool true) rfl (congrArg Value.bool ((by simp [putE, e2]))) ?_
  refine Lw.take (dj := 121) rfl rfl ?_
  refine Lw.val (Ex.move rfl) rfl ?_
  refine Lw.take (dj := 121) rfl rfl ?_
  refine Lw.val (Ex.move rfl) rfl ?_
  refine Lw.take (dj := 121) rfl rfl ?_
  refine Lw.callF rfl rfl (sameBytes_c d v _ _ _ t_d h_b) ?_
  rintro _ w ⟨rfl, hn⟩
  replace hB := hB.bs hn
  replace h_a := h_a.bs hn
  replace h_b := h_b.bs hn
  replace b_a := b_a.bs hn
  replace t_c := t_c.bs hn
  replace h_y := h_y.bs hn
  replace b_y := b_y.bs hn
  replace t_d := t_d.bs hn
  clear hn
  refine Lw.take (dj := 110) rfl rfl ?_
  refine Lw.val (Ex.pickT rfl rfl) rfl ?_
  refine Lw.val (Ex.pickF rfl rfl) rfl ?_
  refine Lw.val (Ex.assign rfl) rfl ?_
  refine Lw.nil ?_
  refine Pw.thenN (Cw.out ?_)
  refine Cw.ret ?_
  refine Pw.ret1 rfl rfl ?_
  have e3 : putR y.s y.l = b := by simp only [putR, e2, if_true]; rw [s_y, l_y]; exact put_get hk
  exact ⟨congrArg Value.bool (decide_eq_true e3), hB⟩

set_option maxRecDepth 100000 in
set_option maxHeartbeats 2000000 in
theorem tensorsBack_lifted (os : Os) (started : os.Started) (H : Type) (enc : TypeId × Value → H) :
    ReturnsInHanded {} Try.checked os 3 .any (Rows.tensorsBackSpec.pre6 enc Try.prog Try.f3 Rows.tensorsBackRow.domain false) (Rows.tensorsBackSpec.post enc Try.prog Try.f3 false true false false) := by
  refine returnsInHanded_of_change_sized (C := Try.checked) own started (by kernel_rfl) Try.func3
    (ChangeSpec.witness6 (enc := enc) (C := Try.checked) false ⟨#[], #[.agg #[.slice none 0 0, .slice none 0 0], .slice none 0 0], []⟩ 8 (by kernel_rfl) (by kernel_rfl) (by kernel_rfl) (by kernel_rfl)) ?_
  intro W base args ds gs before hval0 hW hcnd hsz0 _
  have hval : ∀ (j : Nat) t v, Try.f3.params[j]? = some t → args[j]? = some v → Value.okWide Try.prog W .any base t v := hval0
  have hW' := hW
  obtain ⟨p, q, hA0, hV, rfl, hfz, hnd⟩ := hW
  have hA : DataW.TrodAll enc Try.prog W 0 (fun _ => true) true Try.f3.params.toList args.toList ds p := hA0
  have hsz : (DataW.weightsEach Try.prog (Try.f3.params.toList ++ Rows.tensorsBackSpec.plain.varTypes Try.prog) (ds ++ gs)).all (· ≤ reachBytes) = true := hsz0
  rw [Try.params3] at hA hval hsz
  obtain ⟨v0, vs0, d0, ds0, p0, q0, hargs, rfl, rfl, h0, r0⟩ := trodAll_cons hA
  obtain ⟨v1, vs1, d1, ds1, p1, q1, rfl, rfl, rfl, h1, r1⟩ := trodAll_cons r0
  obtain ⟨rfl, rfl, rfl⟩ := trodAll_nil r1
  obtain rfl : args = #[v0, v1] := by cases args; simp_all
  obtain ⟨rfl, rfl⟩ := trodVars_none hV
  have k0 := h0
  have lt0 : ∀ x ∈ p0, x.block < W.heap.size := by obtain ⟨m, hm⟩ := k0; exact DataW.trod_lt m _ _ _ hm
  have i0 := in_of (j := 0) (t := 25) hsz rfl rfl h0
  have o0 := hval 0 25 v0 rfl rfl
  have k1 := h1
  have lt1 : ∀ x ∈ p1, x.block < W.heap.size := by obtain ⟨m, hm⟩ := k1; exact DataW.trod_lt m _ _ _ hm
  have i1 := in_of (j := 1) (t := 26) hsz rfl rfl h1
  have o1 := hval 1 26 v1 rfl rfl
  clear hA0 hval0 hsz0 hsz
  obtain ⟨a, rfl, ha, b1, b2⟩ := arg_ten o0 i0
  obtain ⟨b, hb, lb⟩ := arg_slT un_26 (by kernel_rfl) (fun cs h => In.num (BitVec.ofInt 8) b8 (fun _ h => wf_u8 h) un_5 h) o1 i1
  have e8 : Try.prog.bytesOf 5 = 1 := by kernel_rfl
  rw [e8] at lb
  unfold reachBytes at lb
  refine (law_calls (tensorsBack_w a v1 b W ha hb (by omega) (by omega) (by omega))).mono fun e W' ⟨he, bel⟩ => ?_
  subst he
  exact ⟨_, rfl, _, _, _, [], _, [], hW', trodAll_mk1 (shut_bool un_4 _), (trodAll_cons_mk (Below.trod laidOut (by kernel_rfl) (of_decide_eq_true (by kernel_rfl)) k0 bel lt0) (trodAll_cons_mk (Below.trod laidOut (by kernel_rfl) (of_decide_eq_true (by kernel_rfl)) k1 bel lt1) trodAll_mk0)), rfl, bel.frame _, fun h => by cases h⟩

/-- The statement. -/
theorem tensorsBack_proved : Rows.TensorsBackSaid :=
  OpenClaim.holds_of_wide 3 Try.f3 rfl rfl rfl rfl rfl rfl rfl ⟨rfl, rfl, rfl, rfl, rfl⟩ rfl rfl rfl rfl rfl (by kernel_rfl) Try.func3 (by kernel_rfl)
    (of_decide_eq_true (by kernel_rfl)) (by unfold Func.isWrapper; first | (rw [if_pos (by decide +kernel)]; kernel_rfl) | (rw [if_neg (by decide +kernel)]; exact ⟨rfl, rfl⟩))
    (fun os started H enc _ => tensorsBack_lifted os started H enc)
#print axioms tensorsBack_proved
end Go.Proofs.Ytjfghiepdnonjaa
