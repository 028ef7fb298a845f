/- Tensors as bytes, and back, as the document has them: for any tensor, any bytes; no condition. -/
import Derived.Test.YtjfghiepdnonjaaGreatDoorBookFlat
import Derived.Test.YtjfghiepdnonjaaGreatDoorRefGet
import Derived.Test.YtjfghiepdnonjaaGreatDoorRefPut
import Derived.Test.YtjfghiepdnonjaaGreatDoorBookArg
namespace Go.Proofs.YtjfghiepdnonjaaGreatDoor
open Go Go.Dd Go.RowKit Go.ChangeShapes Go.WideShapes Go.ChangeAt
set_option maxRecDepth 100000

/-- An answer: bytes in memory of their own. -/
def GivesB (W w : World) (r : Value) (e : Int) (l : List (BitVec 8)) : Prop := ∃ v, r = .tuple #[v, .int .i64 e] ∧ HeldB w W.heap.size w.heap.size v l
theorem krow_gb {W w : World} {v : Value} {l : List (BitVec 8)} (h : KRow w W.heap.size 5 1 v l.length (l.map b8)) : HeldB w W.heap.size w.heap.size v l := ⟨h, fun b e => h.lt b e⟩
theorem tput_g (a : T4) (W : World) (h_a : a.at W) : Fnc Tryz.prog 21 [a.v] W (fun r w' => Below W.heap.size W w' ∧ GivesB W w' r (putE a.s a.l) (putR a.s a.l)) :=
  (tput_c a W h_a).mono fun _ _ ⟨h1, x, h2, h3⟩ => ⟨h1, x, h2, krow_gb h3⟩
theorem rtput_g (a : T4) (W : World) (h_a : a.at W) : Fnc Tryz.prog 22 [a.v] W (fun r w' => Below W.heap.size W w' ∧ GivesB W w' r (putE a.s a.l) (putR a.s a.l)) :=
  (rtput_c a W h_a).mono fun _ _ ⟨h1, x, h2, h3⟩ => ⟨h1, x, h2, krow_gb h3⟩
theorem putR_len {s : List Int} {l : List (BitVec 32)} : (putR s l).length ≤ 16777216 := by
  unfold putR
  split
  · rename_i h
    obtain ⟨h1, h2⟩ := tok_ok h
    have h3 := Shapes.size_le s
    have h4 := ((Shapes.ok_iff s).1 h1).1
    unfold putB
    rw [List.length_append, fours_len, headB_len]
    omega
  · simp
theorem got_gives {W w : World} {r : Value} {b : List (BitVec 8)} (h : GotT W w r b) : Gives W w r (gtE b) (gtS b) (gtL b) := by
  obtain ⟨x, y, rfl, h1, h2⟩ := h
  cases hk : gtK b with
  | true => exact ⟨⟨x, y, gtS b, gtL b⟩, rfl, (h2 hk).held, fun h => by simp [gtE, hk] at h, fun _ => ⟨rfl, rfl⟩⟩
  | false =>
    obtain ⟨rfl, rfl⟩ := h1 hk
    exact ⟨⟨_, _, [], []⟩, rfl, held_nil _ _ _, fun _ => ⟨rfl, rfl⟩, fun h => by simp [gtE, hk] at h⟩
theorem get_g (v : Value) (b : List (BitVec 8)) (W : World) (h_b : SlT b8 W v b) : Fnc Tryz.prog 23 [v] W (fun r w' => Below W.heap.size W w' ∧ Gives W w' r (gtE b) (gtS b) (gtL b)) :=
  (get_c v b W h_b).mono fun _ _ ⟨h1, h2⟩ => ⟨h1, got_gives h2⟩
theorem few_get {b : List (BitVec 8)} {s1 : List Int} {l1 : List (BitVec 32)} (a0 : gtE b ≠ 0 → s1 = [] ∧ l1 = []) (a1 : gtE b = 0 → s1 = gtS b ∧ l1 = gtL b) : s1.length ≤ 16777216 ∧ l1.length ≤ 16777216 := by
  refine few_ans a0 a1 ?_ fun h => ?_
  · have := gtS_len b
    have := (b.headD 0#8).isLt
    omega
  · have hk : gtK b = true := by
      cases hk : gtK b with
      | true => rfl
      | false => simp [gtE, hk] at h
    obtain ⟨_, _, h3, _⟩ := gtK_ok hk
    have h4 := Shapes.size_le (gtS b)
    omega

theorem tensorsPut_w (a : T4) (v : Value) (b : List (BitVec 8)) (W : World) (h_a : a.at W) (x_b : SlT b8 W v b) (b1 : a.s.length ≤ 1125899906842624) (b2 : a.l.length ≤ 1125899906842624) (b3 : b.length ≤ 1125899906842624) :
    Fnc Tryz.prog 4 [a.v, v] W (fun r w' => r = .bool true ∧ Below W.heap.size W w') := by
  have hB := Below.refl W.heap.size W
  refine Fnc.enter (n := 118) Tryz.func4 (by kernel_rfl) rfl rfl rfl ?_
  refine Cw.seq ?_
  refine Cw.region ?_
  refine Lw.boxV (cs := [a.x, a.y]) rfl rfl rfl ?_
  rintro A_a w eA_a b_a hn -
  replace hB := hB.bs hn
  replace h_a := h_a.bs hn
  replace x_b := x_b.bs hn
  clear hn
  refine Lw.val (Ex.assign rfl) rfl ?_
  refine Lw.nil ?_
  refine Pw.thenN (Cw.out ?_)
  refine Cw.seq ?_
  refine Cw.seq ?_
  refine Cw.region ?_
  refine Lw.val (Ex.ldA (ag_25 _) (sz_25 _) rfl rfl (by assumption)) rfl ?_
  refine Lw.callF rfl rfl (tsize_c a _ h_a b1 b2) ?_
  rintro _ w ⟨rfl, hn⟩
  replace hB := hB.bs hn
  replace h_a := h_a.bs hn
  replace x_b := x_b.bs hn
  replace b_a := b_a.bs hn
  clear hn
  refine Lw.val (Ex.move rfl) rfl ?_
  refine Lw.val (Ex.lenS st_56 rfl (by assumption)) rfl ?_
  refine Lw.valW (Xw.lit (vs := [tsz a.s a.l, (b.length : Int)].map (Value.int .i64)) st_22 it_3 rfl rfl rfl rfl rfl) rfl ?_
  rintro u w ⟨ho, -, hn, -⟩
  replace hB := hB.bs hn
  replace h_a := h_a.bs hn
  replace x_b := x_b.bs hn
  replace b_a := b_a.bs hn
  clear hn
  refine Lw.callF rfl rfl (beyond_c u [tsz a.s a.l, (b.length : Int)] w (own_slT ho) (by intro x hx; simp at hx; rcases hx with rfl | rfl; exact tsz_bd b1 b2; omega)) ?_
  rintro _ w ⟨rfl, hn⟩
  replace hB := hB.bs hn
  replace h_a := h_a.bs hn
  replace x_b := x_b.bs hn
  replace b_a := b_a.bs hn
  clear hn
  refine Lw.nil ?_
  refine Pw.thenN (Cw.out ?_)
  clear ho
  refine Cw.cond rfl ?_ ?_
  · intro _
    refine Cw.seq ?_
    refine Cw.region ?_
    refine Lw.val (Ex.assign rfl) rfl ?_
    refine Lw.nil ?_
    refine Pw.thenN (Cw.out ?_)
    refine Cw.ret ?_
    refine Pw.thenR ?_
    refine Pw.ret1 rfl rfl ?_
    exact ⟨rfl, hB⟩
  intro g
  have g' : bey 0 [tsz a.s a.l, (b.length : Int)] = false := by simpa using g
  have hbey := bey_no (Int.le_refl 0) (by intro x hx; simp at hx; rcases hx with rfl | rfl; exact (tsz_bd b1 b2).1; omega) g'
  obtain ⟨la, lla⟩ := tsz_le (hbey (tsz a.s a.l) (by simp))
  have lb := hbey (b.length : Int) (by simp)
  clear g' hbey b1 b2 b3
  have t0 := below_size hB
  refine Cw.skip ?_
  refine Pw.thenN (Cw.out ?_)
  refine Cw.seq ?_
  refine Cw.region ?_
  refine Lw.val (Ex.ldA (ag_25 _) (sz_25 _) rfl rfl (by assumption)) rfl ?_
  refine Lw.callF rfl rfl (twin2_c a _ h_a (by omega) (by omega)) ?_
  rintro _ w ⟨hn, tx, ty, rfl, h_t⟩
  have zc_t := hn.size
  replace hB := hB.bs hn
  replace h_a := h_a.bs hn
  replace x_b := x_b.bs hn
  replace b_a := b_a.bs hn
  clear hn
  have o_t := h_t.held.at.one
  refine Lw.boxed (cs := [tx, ty]) it_25 rfl rfl rfl rfl (fun _ => rfl) (o_t) ?_
  rintro A_t w eA_t b_t hn zhn
  have zb_t := hn.size
  replace hB := hB.bs hn
  replace h_a := h_a.bs hn
  replace x_b := x_b.bs hn
  replace b_a := b_a.bs hn
  replace h_t := h_t.bs hn
  clear hn
  refine Lw.nil ?_
  refine Pw.thenN (Cw.out ?_)
  refine Cw.seq ?_
  refine Cw.region ?_
  refine Lw.val (Ex.move rfl) rfl ?_
  refine Lw.callF rfl rfl (twinB_c v b _ x_b (by omega)) ?_
  rintro c w ⟨hn, h_c⟩
  have zc_c := hn.size
  replace hB := hB.bs hn
  replace h_a := h_a.bs hn
  replace x_b := x_b.bs hn
  replace b_a := b_a.bs hn
  replace h_t := h_t.bs hn
  replace b_t := b_t.bs hn
  clear hn
  refine Lw.val (Ex.assign rfl) rfl ?_
  refine Lw.nil ?_
  refine Pw.thenN (Cw.out ?_)
  refine Cw.seq ?_
  refine Cw.region ?_
  refine Lw.val (Ex.ldA (ag_25 _) (sz_25 _) rfl rfl (by assumption)) rfl ?_
  refine Lw.callF rfl rfl (tput_g ⟨tx, ty, a.s, a.l⟩ _ h_t.held.at) ?_
  rintro _ w ⟨hn, x, rfl, h_x⟩
  have zc_x := hn.size
  replace hB := hB.bs hn
  replace h_a := h_a.bs hn
  replace x_b := x_b.bs hn
  replace b_a := b_a.bs hn
  replace h_t := h_t.bs hn
  replace b_t := b_t.bs hn
  replace h_c := h_c.bs hn
  clear hn
  refine Lw.val (Ex.move rfl) rfl ?_
  refine Lw.val (Ex.extract (i := 0) rfl rfl) rfl ?_
  refine Lw.val (Ex.extract (i := 1) rfl rfl) rfl ?_
  refine Lw.val (Ex.assign rfl) rfl ?_
  refine Lw.val (Ex.assign rfl) rfl ?_
  refine Lw.nil ?_
  refine Pw.thenN (Cw.out ?_)
  refine Cw.seq ?_
  refine Cw.region ?_
  refine Lw.val (Ex.ldA (ag_25 _) (sz_25 _) rfl rfl (by assumption)) rfl ?_
  refine Lw.callF rfl rfl (tput_g ⟨tx, ty, a.s, a.l⟩ _ h_t.held.at) ?_
  rintro _ w ⟨hn, y, rfl, h_y⟩
  have zc_y := hn.size
  replace hB := hB.bs hn
  replace h_a := h_a.bs hn
  replace x_b := x_b.bs hn
  replace b_a := b_a.bs hn
  replace h_t := h_t.bs hn
  replace b_t := b_t.bs hn
  replace h_c := h_c.bs hn
  replace h_x := h_x.bs hn
  clear hn
  refine Lw.val (Ex.move rfl) rfl ?_
  refine Lw.val (Ex.extract (i := 0) rfl rfl) rfl ?_
  refine Lw.val (Ex.extract (i := 1) rfl rfl) rfl ?_
  refine Lw.val (Ex.assign rfl) rfl ?_
  refine Lw.val (Ex.assign rfl) rfl ?_
  refine Lw.nil ?_
  refine Pw.thenN (Cw.out ?_)
  refine Cw.seq ?_
  refine Cw.region ?_
  refine Lw.val (Ex.ldA (ag_25 _) (sz_25 _) rfl rfl (by assumption)) rfl ?_
  have hD := Below.refl w.heap.size w
  refine Lw.callF rfl rfl (rtput_g a _ h_a) ?_
  rintro _ w ⟨hn, f, rfl, h_f⟩
  have zc_f := hn.size
  replace hB := hB.bs hn
  replace h_a := h_a.bs hn
  replace x_b := x_b.bs hn
  replace b_a := b_a.bs hn
  replace h_t := h_t.bs hn
  replace b_t := b_t.bs hn
  replace h_c := h_c.bs hn
  replace h_x := h_x.bs hn
  replace h_y := h_y.bs hn
  replace hD := hD.bs hn
  clear hn
  refine Lw.val (Ex.move rfl) rfl ?_
  refine Lw.val (Ex.extract (i := 0) rfl rfl) rfl ?_
  refine Lw.val (Ex.extract (i := 1) rfl rfl) rfl ?_
  refine Lw.val (Ex.assign rfl) rfl ?_
  refine Lw.val (Ex.assign rfl) rfl ?_
  refine Lw.nil ?_
  refine Pw.thenN (Cw.out ?_)
  refine Cw.seq ?_
  refine Cw.region ?_
  refine Lw.val (Ex.move rfl) rfl ?_
  have zD := below_size hD
  refine Lw.callF rfl rfl (get_g c b _ h_c.held.at) ?_
  rintro _ w ⟨hn, p, rfl, h_p, n_p, y_p⟩
  have zc_p := hn.size
  replace hB := hB.bs hn
  replace h_a := h_a.bs hn
  replace x_b := x_b.bs hn
  replace b_a := b_a.bs hn
  replace h_t := h_t.bs hn
  replace b_t := b_t.bs hn
  replace h_c := h_c.bs hn
  replace h_x := h_x.bs hn
  replace h_y := h_y.bs hn
  replace h_f := h_f.bs hn
  clear hn
  refine Lw.val (Ex.move rfl) rfl ?_
  refine Lw.val (Ex.extract (i := 0) rfl rfl) rfl ?_
  refine Lw.val (Ex.extract (i := 1) rfl rfl) rfl ?_
  have o_p := h_p.at.one
  refine Lw.boxed (cs := [p.x, p.y]) it_25 rfl rfl rfl rfl (fun _ => rfl) (o_p) ?_
  rintro A_p w eA_p b_p hn zhn
  have zb_p := hn.size
  replace hB := hB.bs hn
  replace h_a := h_a.bs hn
  replace x_b := x_b.bs hn
  replace b_a := b_a.bs hn
  replace h_t := h_t.bs hn
  replace b_t := b_t.bs hn
  replace h_c := h_c.bs hn
  replace h_x := h_x.bs hn
  replace h_y := h_y.bs hn
  replace h_f := h_f.bs hn
  replace h_p := h_p.bs hn
  clear hn
  refine Lw.val (Ex.assign rfl) rfl ?_
  refine Lw.nil ?_
  refine Pw.thenN (Cw.out ?_)
  refine Cw.seq ?_
  refine Cw.region ?_
  refine Lw.val (Ex.move rfl) rfl ?_
  refine Lw.callF rfl rfl (get_g c b _ h_c.held.at) ?_
  rintro _ w ⟨hn, q, rfl, h_q, n_q, y_q⟩
  have zc_q := hn.size
  replace hB := hB.bs hn
  replace h_a := h_a.bs hn
  replace x_b := x_b.bs hn
  replace b_a := b_a.bs hn
  replace h_t := h_t.bs hn
  replace b_t := b_t.bs hn
  replace h_c := h_c.bs hn
  replace h_x := h_x.bs hn
  replace h_y := h_y.bs hn
  replace h_f := h_f.bs hn
  replace h_p := h_p.bs hn
  replace b_p := b_p.bs hn
  clear hn
  refine Lw.val (Ex.move rfl) rfl ?_
  refine Lw.val (Ex.extract (i := 0) rfl rfl) rfl ?_
  refine Lw.val (Ex.extract (i := 1) rfl rfl) rfl ?_
  have o_q := h_q.at.one
  refine Lw.boxed (cs := [q.x, q.y]) it_25 rfl rfl rfl rfl (fun _ => rfl) (o_q) ?_
  rintro A_q w eA_q b_q hn zhn
  have zb_q := hn.size
  replace hB := hB.bs hn
  replace h_a := h_a.bs hn
  replace x_b := x_b.bs hn
  replace b_a := b_a.bs hn
  replace h_t := h_t.bs hn
  replace b_t := b_t.bs hn
  replace h_c := h_c.bs hn
  replace h_x := h_x.bs hn
  replace h_y := h_y.bs hn
  replace h_f := h_f.bs hn
  replace h_p := h_p.bs hn
  replace b_p := b_p.bs hn
  replace h_q := h_q.bs hn
  clear hn
  refine Lw.val (Ex.assign rfl) rfl ?_
  refine Lw.nil ?_
  refine Pw.thenN (Cw.out ?_)
  refine Cw.seq ?_
  refine Cw.region ?_
  refine Lw.val (Ex.move rfl) rfl ?_
  have hD := Below.refl w.heap.size w
  refine Lw.callF rfl rfl (rget_c v b _ x_b) ?_
  rintro _ w ⟨hn, r, rfl, h_r, n_r, y_r⟩
  have zc_r := hn.size
  replace hB := hB.bs hn
  replace h_a := h_a.bs hn
  replace x_b := x_b.bs hn
  replace b_a := b_a.bs hn
  replace h_t := h_t.bs hn
  replace b_t := b_t.bs hn
  replace h_c := h_c.bs hn
  replace h_x := h_x.bs hn
  replace h_y := h_y.bs hn
  replace h_f := h_f.bs hn
  replace h_p := h_p.bs hn
  replace b_p := b_p.bs hn
  replace h_q := h_q.bs hn
  replace b_q := b_q.bs hn
  replace hD := hD.bs hn
  clear hn
  refine Lw.val (Ex.move rfl) rfl ?_
  refine Lw.val (Ex.extract (i := 0) rfl rfl) rfl ?_
  refine Lw.val (Ex.extract (i := 1) rfl rfl) rfl ?_
  have o_r := h_r.at.one
  refine Lw.boxed (cs := [r.x, r.y]) it_25 rfl rfl rfl rfl (fun _ => rfl) (o_r) ?_
  rintro A_r w eA_r b_r hn zhn
  have zb_r := hn.size
  replace hB := hB.bs hn
  replace h_a := h_a.bs hn
  replace x_b := x_b.bs hn
  replace b_a := b_a.bs hn
  replace h_t := h_t.bs hn
  replace b_t := b_t.bs hn
  replace h_c := h_c.bs hn
  replace h_x := h_x.bs hn
  replace h_y := h_y.bs hn
  replace h_f := h_f.bs hn
  replace h_p := h_p.bs hn
  replace b_p := b_p.bs hn
  replace h_q := h_q.bs hn
  replace b_q := b_q.bs hn
  replace hD := hD.bs hn
  replace h_r := h_r.bs hn
  clear hn
  refine Lw.val (Ex.assign rfl) rfl ?_
  refine Lw.nil ?_
  refine Pw.thenN (Cw.out ?_)
  refine Cw.seq ?_
  refine Cw.seq ?_
  refine Cw.region ?_
  refine Lw.val (Ex.move rfl) rfl ?_
  refine Lw.val (Ex.move rfl) rfl ?_
  have zD2 := below_size hD
  have hE := Below.refl w.heap.size w
  refine Lw.callF rfl rfl (sameBytes_c x f _ _ _ (h_x.at) (h_f.at)) ?_
  rintro _ w ⟨rfl, hn⟩
  replace hB := hB.bs hn
  replace h_a := h_a.bs hn
  replace x_b := x_b.bs hn
  replace b_a := b_a.bs hn
  replace h_t := h_t.bs hn
  replace b_t := b_t.bs hn
  replace h_c := h_c.bs hn
  replace h_x := h_x.bs hn
  replace h_y := h_y.bs hn
  replace h_f := h_f.bs hn
  replace h_p := h_p.bs hn
  replace b_p := b_p.bs hn
  replace h_q := h_q.bs hn
  replace b_q := b_q.bs hn
  replace h_r := h_r.bs hn
  replace b_r := b_r.bs hn
  replace hE := hE.bs hn
  clear hn
  refine Lw.val (Ex.not rfl) rfl ?_
  refine Lw.val (Ex.move rfl) rfl ?_
  refine Lw.know 64 (v' := .bool false) rfl (congrArg Value.bool (by simp)) ?_
  refine Lw.take (dj := 64) rfl rfl ?_
  refine Lw.val (Ex.move rfl) rfl ?_
  refine Lw.take (dj := 64) rfl rfl ?_
  refine Lw.val (Ex.move rfl) rfl ?_
  refine Lw.take (dj := 64) rfl rfl ?_
  refine Lw.callF rfl rfl (sameBytes_c y f _ _ _ (h_y.at) (h_f.at)) ?_
  rintro _ w ⟨rfl, hn⟩
  replace hB := hB.bs hn
  replace h_a := h_a.bs hn
  replace x_b := x_b.bs hn
  replace b_a := b_a.bs hn
  replace h_t := h_t.bs hn
  replace b_t := b_t.bs hn
  replace h_c := h_c.bs hn
  replace h_x := h_x.bs hn
  replace h_y := h_y.bs hn
  replace h_f := h_f.bs hn
  replace h_p := h_p.bs hn
  replace b_p := b_p.bs hn
  replace h_q := h_q.bs hn
  replace b_q := b_q.bs hn
  replace h_r := h_r.bs hn
  replace b_r := b_r.bs hn
  replace hE := hE.bs hn
  clear hn
  refine Lw.take (dj := 64) rfl rfl ?_
  refine Lw.val (Ex.not rfl) rfl ?_
  refine Lw.val (Ex.pickF rfl rfl) rfl ?_
  refine Lw.val (Ex.move rfl) rfl ?_
  refine Lw.know 70 (v' := .bool false) rfl (congrArg Value.bool (by simp)) ?_
  refine Lw.take (dj := 70) rfl rfl ?_
  refine Lw.val (Ex.move rfl) rfl ?_
  refine Lw.take (dj := 70) rfl rfl ?_
  refine Lw.val (Ex.move rfl) rfl ?_
  refine Lw.take (dj := 70) rfl rfl ?_
  refine Lw.val (Ex.neq rfl rfl) rfl ?_
  refine Lw.val (Ex.pickF rfl rfl) rfl ?_
  refine Lw.val (Ex.move rfl) rfl ?_
  refine Lw.know 75 (v' := .bool false) rfl (congrArg Value.bool (by simp)) ?_
  refine Lw.take (dj := 75) rfl rfl ?_
  refine Lw.val (Ex.ldA (ag_25 _) (sz_25 _) rfl rfl (by assumption)) rfl ?_
  refine Lw.take (dj := 75) rfl rfl ?_
  refine Lw.val (Ex.ldA (ag_25 _) (sz_25 _) rfl rfl (by assumption)) rfl ?_
  refine Lw.take (dj := 75) rfl rfl ?_
  refine Lw.callF rfl rfl (sameTensor_c p r _ (h_p.at) (h_r.at)) ?_
  rintro _ w ⟨rfl, hn⟩
  replace hB := hB.bs hn
  replace h_a := h_a.bs hn
  replace x_b := x_b.bs hn
  replace b_a := b_a.bs hn
  replace h_t := h_t.bs hn
  replace b_t := b_t.bs hn
  replace h_c := h_c.bs hn
  replace h_x := h_x.bs hn
  replace h_y := h_y.bs hn
  replace h_f := h_f.bs hn
  replace h_p := h_p.bs hn
  replace b_p := b_p.bs hn
  replace h_q := h_q.bs hn
  replace b_q := b_q.bs hn
  replace h_r := h_r.bs hn
  replace b_r := b_r.bs hn
  replace hE := hE.bs hn
  clear hn
  refine Lw.take (dj := 75) rfl rfl ?_
  refine Lw.val (Ex.not rfl) rfl ?_
  refine Lw.val (Ex.pickF rfl rfl) rfl ?_
  refine Lw.val (Ex.move rfl) rfl ?_
  refine Lw.know 81 (v' := .bool false) rfl (congrArg Value.bool (same_ans n_p y_p n_r y_r)) ?_
  refine Lw.take (dj := 81) rfl rfl ?_
  refine Lw.val (Ex.ldA (ag_25 _) (sz_25 _) rfl rfl (by assumption)) rfl ?_
  refine Lw.take (dj := 81) rfl rfl ?_
  refine Lw.val (Ex.ldA (ag_25 _) (sz_25 _) rfl rfl (by assumption)) rfl ?_
  refine Lw.take (dj := 81) rfl rfl ?_
  refine Lw.callF rfl rfl (sameTensor_c q r _ (h_q.at) (h_r.at)) ?_
  rintro _ w ⟨rfl, hn⟩
  replace hB := hB.bs hn
  replace h_a := h_a.bs hn
  replace x_b := x_b.bs hn
  replace b_a := b_a.bs hn
  replace h_t := h_t.bs hn
  replace b_t := b_t.bs hn
  replace h_c := h_c.bs hn
  replace h_x := h_x.bs hn
  replace h_y := h_y.bs hn
  replace h_f := h_f.bs hn
  replace h_p := h_p.bs hn
  replace b_p := b_p.bs hn
  replace h_q := h_q.bs hn
  replace b_q := b_q.bs hn
  replace h_r := h_r.bs hn
  replace b_r := b_r.bs hn
  replace hE := hE.bs hn
  clear hn
  refine Lw.take (dj := 81) rfl rfl ?_
  refine Lw.val (Ex.not rfl) rfl ?_
  refine Lw.val (Ex.pickF rfl rfl) rfl ?_
  refine Lw.val (Ex.move rfl) rfl ?_
  refine Lw.know 87 (v' := .bool false) rfl (congrArg Value.bool (same_ans n_q y_q n_r y_r)) ?_
  refine Lw.take (dj := 87) rfl rfl ?_
  refine Lw.val (Ex.move rfl) rfl ?_
  refine Lw.take (dj := 87) rfl rfl ?_
  refine Lw.val (Ex.move rfl) rfl ?_
  refine Lw.take (dj := 87) rfl rfl ?_
  refine Lw.val (Ex.neq rfl rfl) rfl ?_
  refine Lw.val (Ex.pickF rfl rfl) rfl ?_
  refine Lw.val (Ex.move rfl) rfl ?_
  refine Lw.know 92 (v' := .bool false) rfl (congrArg Value.bool (by simp)) ?_
  refine Lw.take (dj := 92) rfl rfl ?_
  refine Lw.val (Ex.ldA (ag_25 _) (sz_25 _) rfl rfl (by assumption)) rfl ?_
  refine Lw.take (dj := 92) rfl rfl ?_
  refine Lw.val (Ex.ldA (ag_25 _) (sz_25 _) rfl rfl (by assumption)) rfl ?_
  refine Lw.take (dj := 92) rfl rfl ?_
  refine Lw.callF rfl rfl (leftTensor_c a tx ty _ _ _ (h_a) (h_t)) ?_
  rintro _ w ⟨rfl, hn⟩
  replace hB := hB.bs hn
  replace h_a := h_a.bs hn
  replace x_b := x_b.bs hn
  replace b_a := b_a.bs hn
  replace h_t := h_t.bs hn
  replace b_t := b_t.bs hn
  replace h_c := h_c.bs hn
  replace h_x := h_x.bs hn
  replace h_y := h_y.bs hn
  replace h_f := h_f.bs hn
  replace h_p := h_p.bs hn
  replace b_p := b_p.bs hn
  replace h_q := h_q.bs hn
  replace b_q := b_q.bs hn
  replace h_r := h_r.bs hn
  replace b_r := b_r.bs hn
  replace hE := hE.bs hn
  clear hn
  refine Lw.take (dj := 92) rfl rfl ?_
  refine Lw.val (Ex.not rfl) rfl ?_
  refine Lw.val (Ex.pickF rfl rfl) rfl ?_
  refine Lw.val (Ex.move rfl) rfl ?_
  refine Lw.know 98 (v' := .bool false) rfl (congrArg Value.bool (rfl)) ?_
  refine Lw.take (dj := 98) rfl rfl ?_
  refine Lw.val (Ex.move rfl) rfl ?_
  refine Lw.take (dj := 98) rfl rfl ?_
  refine Lw.val (Ex.move rfl) rfl ?_
  refine Lw.take (dj := 98) rfl rfl ?_
  refine Lw.callF rfl rfl (leftBytes_c c v b _ _ (h_c.tx) (x_b)) ?_
  rintro _ w ⟨rfl, hn⟩
  replace hB := hB.bs hn
  replace h_a := h_a.bs hn
  replace x_b := x_b.bs hn
  replace b_a := b_a.bs hn
  replace h_t := h_t.bs hn
  replace b_t := b_t.bs hn
  replace h_c := h_c.bs hn
  replace h_x := h_x.bs hn
  replace h_y := h_y.bs hn
  replace h_f := h_f.bs hn
  replace h_p := h_p.bs hn
  replace b_p := b_p.bs hn
  replace h_q := h_q.bs hn
  replace b_q := b_q.bs hn
  replace h_r := h_r.bs hn
  replace b_r := b_r.bs hn
  replace hE := hE.bs hn
  clear hn
  refine Lw.take (dj := 98) rfl rfl ?_
  refine Lw.val (Ex.not rfl) rfl ?_
  refine Lw.val (Ex.pickF rfl rfl) rfl ?_
  refine Lw.nil ?_
  refine Pw.thenN (Cw.out ?_)
  refine Cw.condB rfl false (rfl) ?_
  refine Cw.skip ?_
  refine Pw.thenN (Cw.out ?_)
  refine Cw.seq ?_
  have zw := below_size hE
  have pl := putR_len (s := a.s) (l := a.l)
  have ⟨fp1, fp2⟩ := few_get n_p y_p
  have ⟨fq1, fq2⟩ := few_get n_q y_q
  have K := ((((((h_t.held.inn (by show a.s.length ≤ _; omega) (by show a.l.length ≤ _; omega)).app (h_c.held.inn (by omega)) (by omega) (by omega) (by omega)).app (h_x.inn pl) (by omega) (by omega) (by omega)).app (h_y.inn pl) (by omega) (by omega) (by omega)).app (h_p.inn fp1 fp2) (by omega) (by omega) (by omega)).app (h_q.inn fq1 fq2) (by omega) (by omega) (by omega)).wide (lo' := W.heap.size) (hi' := w.heap.size) (by omega) (by omega)
  refine Cw.region ?_
  refine Lw.val (Ex.build (vs := []) (cs := [.int .i64 0, .slice none 0 0, .slice none 0 0, .slice none 0 0, .slice none 0 0, .slice none 0 0, .slice none 0 0, .slice none 0 0, .slice none 0 0, .slice none 0 0, .slice none 0 0, .slice none 0 0, .slice none 0 0, .slice none 0 0, .slice none 0 0, .slice none 0 0]) rfl (by kernel_rfl)) rfl ?_
  refine Lw.boxed (cs := .int .i64 0 :: List.replicate 15 (.slice none 0 0)) it_50 rfl rfl rfl rfl (fun _ => rfl) (rfl) ?_
  rintro A_k w eA_k b_k hn zhn
  replace hB := hB.bs hn
  replace b_t := b_t.bs hn
  replace b_p := b_p.bs hn
  replace b_q := b_q.bs hn
  replace K := K.bs hn
  clear hn
  have h_k := bk_new b_k
  have K := K.wide (hi' := A_k) (Nat.le_refl _) (by omega)
  have z_t := blk_lt b_t
  have z_p := blk_lt b_p
  have z_q := blk_lt b_q
  refine Lw.nil ?_
  refine Pw.thenN (Cw.out ?_)
  refine Cw.seq ?_
  refine Cw.region ?_
  refine Lw.val (Ex.ldA (ag_25 _) (sz_25 _) rfl rfl (by assumption)) rfl ?_
  have s1 := K.sl 0 rfl
  have s2 := K.sl 1 rfl
  refine Lw.callF rfl rfl (bookTensor_c w A_k A_k _ _ _ _ _ _ _ _ _ _ _ _ _ h_k s1 s2 (K.lt 1 rfl) (by decide) (by simp)) ?_
  rintro _ w ⟨rfl, hn, _, _, h_k⟩
  have hB := hB.trans (hn.mono (show W.heap.size ≤ A_k by omega))
  have K := K.below hn (Nat.le_refl _)
  have b_p := b_p.keep (hn.block A_p (by omega))
  have b_q := b_q.keep (hn.block A_q (by omega))
  refine Lw.nil ?_
  refine Pw.thenN (Cw.out ?_)
  refine Cw.seq ?_
  refine Cw.region ?_
  refine Lw.val (Ex.move rfl) rfl ?_
  have s1 := K.sl 2 rfl
  refine Lw.callF rfl rfl (bookBytes2_c w A_k A_k _ _ _ _ _ _ _ _ _ _ h_k s1 (by decide) (by simp)) ?_
  rintro _ w ⟨rfl, hn, _, h_k⟩
  have hB := hB.trans (hn.mono (show W.heap.size ≤ A_k by omega))
  have K := K.below hn (Nat.le_refl _)
  have b_p := b_p.keep (hn.block A_p (by omega))
  have b_q := b_q.keep (hn.block A_q (by omega))
  refine Lw.nil ?_
  refine Pw.thenN (Cw.out ?_)
  refine Cw.seq ?_
  refine Cw.region ?_
  refine Lw.val (Ex.move rfl) rfl ?_
  have s1 := K.sl 3 rfl
  refine Lw.callF rfl rfl (bookBytes2_c w A_k A_k _ _ _ _ _ _ _ _ _ _ h_k s1 (by decide) (by simp)) ?_
  rintro _ w ⟨rfl, hn, _, h_k⟩
  have hB := hB.trans (hn.mono (show W.heap.size ≤ A_k by omega))
  have K := K.below hn (Nat.le_refl _)
  have b_p := b_p.keep (hn.block A_p (by omega))
  have b_q := b_q.keep (hn.block A_q (by omega))
  refine Lw.nil ?_
  refine Pw.thenN (Cw.out ?_)
  refine Cw.seq ?_
  refine Cw.region ?_
  refine Lw.val (Ex.move rfl) rfl ?_
  have s1 := K.sl 4 rfl
  refine Lw.callF rfl rfl (bookBytes2_c w A_k A_k _ _ _ _ _ _ _ _ _ _ h_k s1 (by decide) (by simp)) ?_
  rintro _ w ⟨rfl, hn, _, h_k⟩
  have hB := hB.trans (hn.mono (show W.heap.size ≤ A_k by omega))
  have K := K.below hn (Nat.le_refl _)
  have b_p := b_p.keep (hn.block A_p (by omega))
  have b_q := b_q.keep (hn.block A_q (by omega))
  refine Lw.nil ?_
  refine Pw.thenN (Cw.out ?_)
  refine Cw.seq ?_
  refine Cw.region ?_
  refine Lw.val (Ex.ldA (ag_25 _) (sz_25 _) rfl rfl (by assumption)) rfl ?_
  have s1 := K.sl 5 rfl
  have s2 := K.sl 6 rfl
  refine Lw.callF rfl rfl (bookTensor_c w A_k A_k _ _ _ _ _ _ _ _ _ _ _ _ _ h_k s1 s2 (K.lt 6 rfl) (by decide) (by simp)) ?_
  rintro _ w ⟨rfl, hn, _, _, h_k⟩
  have hB := hB.trans (hn.mono (show W.heap.size ≤ A_k by omega))
  have K := K.below hn (Nat.le_refl _)
  have b_q := b_q.keep (hn.block A_q (by omega))
  refine Lw.nil ?_
  refine Pw.thenN (Cw.out ?_)
  refine Cw.seq ?_
  refine Cw.region ?_
  refine Lw.val (Ex.ldA (ag_25 _) (sz_25 _) rfl rfl (by assumption)) rfl ?_
  have s1 := K.sl 7 rfl
  have s2 := K.sl 8 rfl
  refine Lw.callF rfl rfl (bookTensor_c w A_k A_k _ _ _ _ _ _ _ _ _ _ _ _ _ h_k s1 s2 (K.lt 8 rfl) (by decide) (by simp)) ?_
  rintro _ w ⟨rfl, hn, _, _, h_k⟩
  have hB := hB.trans (hn.mono (show W.heap.size ≤ A_k by omega))
  have K := K.below hn (Nat.le_refl _)
  refine Lw.nil ?_
  refine Pw.thenN (Cw.out ?_)
  refine Cw.seq ?_
  refine Cw.region ?_
  refine Lw.callF rfl rfl (apartF_c w A_k A_k W.heap.size _ _ _ _ _ K h_k (by simp) (by omega)) ?_
  rintro _ w ⟨rfl, hn⟩
  refine Lw.val (Ex.assign rfl) rfl ?_
  refine Lw.nil ?_
  refine Pw.thenN (Cw.out ?_)
  refine Cw.ret ?_
  refine Pw.ret1 rfl rfl ?_
  exact ⟨rfl, hB.trans hn⟩

/-! A world for the witness: the settled one, the tables laid. -/
def laidCells : DataW Unit → Array Value
  | .agg l => (l.map fun d => match d with | .lit (.int k n) => Value.int k n | _ => Value.bool false).toArray
  | _ => #[]
noncomputable def laidWorld (os : Os) : World :=
  { World.holding Tryz.prog os ⟨#[], #[], []⟩ with heap := Rows.tensorsPutRow.laid.foldl (fun h x => h.modify ((Tryz.prog.globalNamed x.1).getD 0) fun | .cells _ t fz => .cells (laidCells x.2) t fz | o => o) (World.holding Tryz.prog os ⟨#[], #[], []⟩).heap }
theorem laid_met (os : Os) (args : Array Value) : laidMetH Tryz.prog Rows.tensorsPutRow.laid ((laidWorld os).forCall (fun _ _ => 0) ⟨#[], args, []⟩).memory :=
  laidMetH_of_parts (laidMet_of_run' 8 (by kernel_rfl) (by kernel_rfl)) (by kernel_rfl)

set_option maxRecDepth 100000 in
set_option maxHeartbeats 2000000 in
theorem tensorsPut_lifted (os : Os) (started : os.Started) (H : Type) (enc : TypeId × Value → H) :
    ReturnsInHanded {} Tryz.checked os 4 .any (fun w args => (Rows.tensorsPutSpec.pre enc Tryz.prog Tryz.f4 Rows.tensorsPutRow.domain false w args ∧ laidMetH Tryz.prog Rows.tensorsPutRow.laid w) ∧ sizedMet enc Tryz.prog Tryz.f4 (OpenSpec.ofChange Rows.tensorsPutSpec) false w args) (Rows.tensorsPutSpec.post enc Tryz.prog Tryz.f4 false true false false) := by
  refine returnsInHanded_of_change_and (C := Tryz.checked) (X := fun w _ => laidMetH Tryz.prog Rows.tensorsPutRow.laid w) (fun _ _ _ hh h => h.of_heap hh) own started (by kernel_rfl) Tryz.func4
    (ChangeSpec.witness_at (enc := enc) (C := Tryz.checked) (os := os) (X := fun w _ => laidMetH Tryz.prog Rows.tensorsPutRow.laid w) false (laidWorld os) #[.agg #[.slice none 0 0, .slice none 0 0], .slice none 0 0] 8 rfl (by kernel_rfl) (by kernel_rfl) (by kernel_rfl) (by kernel_rfl) (by kernel_rfl) (laid_met os _)) ?_
  intro W base args ds gs before hval0 hW hcnd hsz0 _ _
  have hval : ∀ (j : Nat) t v, Tryz.f4.params[j]? = some t → args[j]? = some v → Value.okWide Tryz.prog W .any base t v := hval0
  have hW' := hW
  obtain ⟨p, q, hA0, hV, rfl, hfz, hnd⟩ := hW
  have hA : DataW.TrodAll enc Tryz.prog W 0 (fun _ => true) true Tryz.f4.params.toList args.toList ds p := hA0
  have hsz : (DataW.weightsEach Tryz.prog (Tryz.f4.params.toList ++ Rows.tensorsPutSpec.plain.varTypes Tryz.prog) (ds ++ gs)).all (· ≤ reachBytes) = true := hsz0
  rw [Tryz.params4] at hA hval hsz
  obtain ⟨v0, vs0, d0, ds0, p0, q0, hargs, rfl, rfl, h0, r0⟩ := trodAll_cons hA
  obtain ⟨v1, vs1, d1, ds1, p1, q1, rfl, rfl, rfl, h1, r1⟩ := trodAll_cons r0
  obtain ⟨rfl, rfl, rfl⟩ := trodAll_nil r1
  obtain rfl : args = #[v0, v1] := by cases args; simp_all
  obtain ⟨rfl, rfl⟩ := trodVars_none hV
  have k0 := h0
  have lt0 : ∀ x ∈ p0, x.block < W.heap.size := by obtain ⟨m, hm⟩ := k0; exact DataW.trod_lt m _ _ _ hm
  have i0 := in_of (j := 0) (t := 25) hsz rfl rfl h0
  have o0 := hval 0 25 v0 rfl rfl
  have k1 := h1
  have lt1 : ∀ x ∈ p1, x.block < W.heap.size := by obtain ⟨m, hm⟩ := k1; exact DataW.trod_lt m _ _ _ hm
  have i1 := in_of (j := 1) (t := 56) hsz rfl rfl h1
  have o1 := hval 1 56 v1 rfl rfl
  clear hA0 hval0 hsz0 hsz
  obtain ⟨a, rfl, ha, ba1, ba2⟩ := arg_ten o0 i0
  obtain ⟨l0, h3, q3⟩ := arg_slT un_56 (by kernel_rfl) (fun cs h => In.num (BitVec.ofInt 8) b8 (fun _ h => wf_u8 h) un_5 h) o1 i1
  have kb : Tryz.prog.bytesOf 5 = 1 := by kernel_rfl
  rw [kb] at q3
  have hr : reachBytes ≤ 140737488355328 := by decide
  refine (law_calls (tensorsPut_w a v1 l0 W ha h3 (by omega) (by omega) (by omega))).mono fun e W' ⟨he, bel⟩ => ?_
  subst he
  exact ⟨_, rfl, _, _, _, [], _, [], hW', trodAll_mk1 (shut_bool un_4 _), (trodAll_cons_mk (Below.trod laidOut (by kernel_rfl) (of_decide_eq_true (by kernel_rfl)) k0 bel lt0) (trodAll_cons_mk (Below.trod laidOut (by kernel_rfl) (of_decide_eq_true (by kernel_rfl)) k1 bel lt1) trodAll_mk0)), rfl, bel.frame _, fun h => by cases h⟩

/-- The statement. -/
theorem tensorsPut_holds : Rows.TensorsPutSaid :=
  OpenClaim.holds_of_wide 4 Tryz.f4 rfl rfl rfl rfl rfl rfl rfl ⟨rfl, rfl, rfl, rfl, rfl⟩ rfl rfl rfl rfl rfl (by kernel_rfl) Tryz.func4 (by kernel_rfl)
    (of_decide_eq_true (by kernel_rfl)) (by unfold Func.isWrapper; first | (rw [if_pos (by decide +kernel)]; kernel_rfl) | (rw [if_neg (by decide +kernel)]; exact ⟨rfl, rfl⟩))
    (fun os started H enc _ => tensorsPut_lifted os started H enc)
/-- The card. -/
theorem tensorsPut_proved : Rows.TensorsPutCardSaid :=
  Claim7.holds_tied_plain_at .later [] [.data, .data, .data] true (true, "a79a60944991e0861b3d4b3dcc40c637d990ad043f35a96b5a92c2af1c69eab9") false
    tensorsPut_holds (fun _ h => by cases h) (by kernel_rfl) (fun _ h => by cases h) tensorsPut_row_tie rfl ⟨rfl, rfl⟩ (by kernel_rfl) rfl
    (fun f fn hf hfn => by
      obtain rfl : f = 4 := Option.some.inj ((show Tryz.prog.funcNamed "drydock/drydocklaw05.TensorsPut" = some 4 by kernel_rfl).symm.trans hf) |>.symm
      obtain rfl : fn = Tryz.f4 := (Option.some.inj (Tryz.func4.symm.trans hfn)).symm
      refine ⟨by kernel_rfl, fun j t ht => ?_⟩
      rw [Tryz.params4] at ht
      have h3 : t ∈ [25, 56] := List.mem_of_getElem? (by simpa using ht)
      have h4 : ([25, 56] : List TypeId).all (fun t => Tryz.prog.wantsStandIn t == false) = true := by kernel_rfl
      exact eq_of_beq (List.all_eq_true.1 h4 t h3))
    (by kernel_rfl)
#print axioms tensorsPut_proved
end Go.Proofs.YtjfghiepdnonjaaGreatDoor
