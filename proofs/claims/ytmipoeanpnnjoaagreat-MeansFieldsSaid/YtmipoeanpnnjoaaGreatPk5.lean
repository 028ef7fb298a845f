/- Texts of this proof, one behind the other: WinPool, MovesCode, TensorsAt, MovesJoin. -/
import Derived.Test.YtmipoeanpnnjoaaGreatPk4
import Derived.Test.YtmipoeanpnnjoaaGreatPk1
import Derived.Test.YtmipoeanpnnjoaaGreatPk2

/-! Contract: the greatest of squares. -/
namespace Go.Proofs.YtmipoeanpnnjoaaGreat
open Go Go.Dd Go.RowKit
set_option maxRecDepth 100000

def wpoE (t : T4) (wide : Int) : Int := if tok t.s t.l then poolE t.s wide else 1
def wpoL (t : T4) (wide : Int) : List (BitVec 32) := pooL t.l t.s (pshS t.s wide) wide.toNat
structure PoolOK (t : T4) (wide : Int) : Prop where
  lt : t.s.length = 3
  w : 1 ≤ wide ∧ wide ≤ 64
  w1 : wide ≤ t.s.getD 1 default
  w2 : wide ≤ t.s.getD 2 default
  gt : Shapes.good t.s
  tl : (t.l.length : Int) = t.s.getD 0 default * (t.s.getD 1 default * t.s.getD 2 default)
  ok : Shapes.ok (pshS t.s wide) = true
  s1 : slid (t.s.getD 1 default) wide wide = t.s.getD 1 default / wide
  s2 : slid (t.s.getD 2 default) wide wide = t.s.getD 2 default / wide
theorem slid_same {r w : Int} (h1 : 1 ≤ w) (h2 : w ≤ r) : slid r w w = r / w ∧ 1 ≤ r / w ∧ r / w ≤ r ∧ r / w * w ≤ r := by
  have e : (r - w) / w = r / w - 1 := by
    have := Int.add_mul_ediv_right (r - w) 1 (show w ≠ 0 by omega)
    rw [Int.one_mul, Int.sub_add_cancel] at this
    omega
  have e2 : slid r w w = r / w := by unfold slid; rw [if_neg (by omega), e]; omega
  have e3 := Int.ediv_nonneg (show 0 ≤ r - w by omega) (show 0 ≤ w by omega)
  exact ⟨e2, by omega, Int.ediv_le_self _ (by omega), Int.ediv_mul_le _ (by omega)⟩
theorem pool_ok {t : T4} {wide : Int} (ht : tok t.s t.l = true) (e : poolE t.s wide = 0) : PoolOK t wide := by
  obtain ⟨t1, t2⟩ := tok_ok ht
  have T := (Shapes.ok_iff t.s).1 t1
  have hA : pshA t.s wide = false := by cases h : pshA t.s wide <;> simp [poolE, h] at e ⊢
  have hb : pshB t.s wide = true := by cases h : pshB t.s wide <;> simp [poolE, hA, h] at e ⊢
  simp only [pshB, Bool.and_eq_true, decide_eq_true_eq] at hb
  obtain ⟨⟨lt, b1⟩, b2⟩ := hb
  simp only [pshA, Bool.or_eq_false_iff, decide_eq_false_iff_not] at hA
  obtain ⟨⟨-, a1⟩, a2⟩ := hA
  have g0 := good_at T.2.1 (k := 0) (by omega)
  have g1 := good_at T.2.1 (k := 1) (by omega)
  have g2 := good_at T.2.1 (k := 2) (by omega)
  obtain ⟨c1, c2, c3, -⟩ := slid_same (r := t.s.getD 1 default) (w := wide) (by omega) b1
  obtain ⟨d1, d2, d3, -⟩ := slid_same (r := t.s.getD 2 default) (w := wide) (by omega) b2
  have p3 := prod3 lt
  have hl : (pshS t.s wide).length = 3 := rfl
  have ps : Shapes.prod (pshS t.s wide) = t.s.getD 0 default * (t.s.getD 1 default / wide * (t.s.getD 2 default / wide)) := by
    rw [prod3 hl]
    show t.s.getD 0 default * (slid (t.s.getD 1 default) wide wide * slid (t.s.getD 2 default) wide wide) = _
    rw [c1, d1]
  have q1 : t.s.getD 1 default / wide * (t.s.getD 2 default / wide) ≤ t.s.getD 1 default * t.s.getD 2 default := Int.mul_le_mul c3 d3 (by omega) (by omega)
  have q2 : t.s.getD 0 default * (t.s.getD 1 default / wide * (t.s.getD 2 default / wide)) ≤ t.s.getD 0 default * (t.s.getD 1 default * t.s.getD 2 default) := Int.mul_le_mul_of_nonneg_left q1 (by omega)
  refine ⟨lt, by omega, b1, b2, T.2.1, ?_, (Shapes.ok_iff _).2 ⟨by rw [hl]; omega, ?_, by rw [ps]; omega⟩, c1, d1⟩
  · have := Shapes.size_ok t1
    rw [← p3]; have := Shapes.size_le t.s; omega
  · intro y hy
    simp only [pshS, List.mem_cons, List.not_mem_nil, or_false] at hy
    rw [c1, d1] at hy
    rcases hy with rfl | rfl | rfl <;> omega
set_option maxHeartbeats 2000000 in
theorem wpo0_c (t : T4) (wide : Int) (W : World) (h_t : t.at W) :
    Fnc Tryz.prog 81 [t.v, .int .i64 wide] W (fun r w' => Below W.heap.size W w' ∧ AnsW W w' r (wpoE t wide) (pshS t.s wide) (wpoL t wide)) := by
  have hB := Below.refl W.heap.size W
  have h_t0 := h_t
  refine Fnc.enterG (n := 85) Tryz.func81 (by kernel_rfl) rfl rfl rfl ?_
  refine Cg.seq ?_
  refine Cg.region (by kernel_rfl) ?_
  refine Lw.boxV (cs := [t.x, t.y]) rfl rfl rfl ?_
  rintro A_t w eA_t b_t hn -
  replace hB := hB.bs hn
  replace h_t := h_t.bs hn
  clear hn
  refine Lw.boxV (cs := [.int .i64 wide]) rfl rfl rfl ?_
  rintro A_s w eA_s b_s hn -
  replace hB := hB.bs hn
  replace h_t := h_t.bs hn
  replace b_t := b_t.bs hn
  clear hn
  have z0 := below_size hB
  refine Lw.newA it_29 rfl ?_
  rintro A_r w eA_r b_r hn -
  replace hB := hB.bs hn
  replace h_t := h_t.bs hn
  replace b_t := b_t.bs hn
  replace b_s := b_s.bs hn
  clear hn
  refine Lw.val (Ex.assign rfl) rfl ?_
  refine Lw.nil (Pg.low ?_)
  refine Pg.thenN (Cg.out ?_)
  refine Cg.seq ?_
  refine Cg.seq ?_
  refine Cg.region (by kernel_rfl) ?_
  refine Lw.val (Ex.ldA (ag_29 _) (sz_29 _) rfl rfl (by assumption)) rfl ?_
  have z_r := blk_lt b_r
  refine Lw.callF rfl rfl (tcheck_c t.x t.y t.s t.l _ h_t.1 h_t.2) ?_
  rintro _ w ⟨rfl, hn⟩
  replace hB := hB.bs hn
  replace h_t := h_t.bs hn
  replace b_t := b_t.bs hn
  replace b_s := b_s.bs hn
  replace b_r := b_r.bs hn
  clear hn
  refine Lw.val (Ex.not rfl) rfl ?_
  refine Lw.nil (Pg.low ?_)
  refine Pg.thenN (Cg.out ?_)
  refine Cg.cond rfl ?_ ?_
  · intro g
    refine Cg.seq ?_
    refine Cg.region (by kernel_rfl) ?_
    refine Lw.val (Ex.build (vs := []) (cs := [.slice none 0 0, .slice none 0 0]) rfl (by kernel_rfl)) rfl ?_
    refine Lw.unit (Xu.stA (cs := [.slice none 0 0, .slice none 0 0]) rfl rfl rfl rfl rfl b_r rfl) ?_
    rintro w3 ⟨b_r, hg, -⟩
    have hB := hB.grown hg (below_size hB) (by rintro _ ⟨⟩; omega)
    refine Lw.val (Ex.assign rfl) rfl ?_
    refine Lw.nil (Pg.low ?_)
    refine Pg.thenN (Cg.out ?_)
    refine Cg.ret ?_
    refine Pg.thenR ?_
    refine Pg.close0 ?_
    refine Pw.retCT rfl rfl rfl (by assumption) (Tryz.underlying29) rfl rfl rfl ?_
    rw [show wpoE t wide = 1 by simp_all [wpoE]]
    exact ⟨hB, ansW_no (by decide)⟩
  intro g1
  have k_t : tok t.s t.l = true := by simpa using g1
  have hE : wpoE t wide = poolE t.s wide := by rw [wpoE, k_t]; rfl
  clear g1
  rw [hE]
  have h_t1 := h_t.1
  have zr0 := blk_lt b_r
  have zrB := below_size hB
  refine Cg.skip ?_
  refine Pg.thenN (Cg.out ?_)
  refine Cg.seq ?_
  refine Cg.region (by kernel_rfl) ?_
  refine Lw.val (Ex.fieldAddr (q := 0) Tryz.underlying29 rfl (sz_26 _) rfl) rfl ?_
  refine Lw.val (Ex.ldB (ag_26 _) rfl (by assumption) rfl) rfl ?_
  refine Lw.val (Ex.ldB (ag_3 _) rfl (by assumption) rfl) rfl ?_
  refine Lw.callF rfl rfl (wpshape_c t.s wide t.x _ h_t.1) ?_
  rintro _ w1 ⟨hn, x, m', rfl, hx, hno, hyes⟩
  replace hB := hB.bs hn
  replace h_t := h_t.bs hn
  replace b_t := b_t.bs hn
  replace b_s := b_s.bs hn
  replace b_r := b_r.bs hn
  clear hn
  refine Lw.val (Ex.move rfl) rfl ?_
  refine Lw.val (Ex.extract (i := 0) rfl rfl) rfl ?_
  refine Lw.val (Ex.extract (i := 1) rfl rfl) rfl ?_
  refine Lw.val (Ex.assign rfl) rfl ?_
  refine Lw.val (Ex.assign rfl) rfl ?_
  refine Lw.nil (Pg.low ?_)
  refine Pg.thenN (Cg.out ?_)
  refine Cg.seq ?_
  refine Cg.seq ?_
  refine Cg.region (by kernel_rfl) ?_
  refine Lw.val (Ex.move rfl) rfl ?_
  refine Lw.val (Ex.neq rfl rfl) rfl ?_
  refine Lw.nil (Pg.low ?_)
  refine Pg.thenN (Cg.out ?_)
  refine Cg.cond rfl ?_ ?_
  · intro g
    have g : poolE t.s wide ≠ 0 := by simpa using g
    refine Cg.seq ?_
    refine Cg.region (by kernel_rfl) ?_
    refine Lw.val (Ex.build (vs := []) (cs := [.slice none 0 0, .slice none 0 0]) rfl (by kernel_rfl)) rfl ?_
    refine Lw.val (Ex.move rfl) rfl ?_
    refine Lw.unit (Xu.stA (cs := [.slice none 0 0, .slice none 0 0]) rfl rfl rfl rfl rfl b_r rfl) ?_
    rintro w3 ⟨b_r, hg, -⟩
    have hB := hB.grown hg (below_size hB) (by rintro _ ⟨⟩; omega)
    refine Lw.val (Ex.assign rfl) rfl ?_
    refine Lw.nil (Pg.low ?_)
    refine Pg.thenN (Cg.out ?_)
    refine Cg.ret ?_
    refine Pg.thenR ?_
    refine Pg.close0 ?_
    refine Pw.retCT rfl rfl rfl (by assumption) (Tryz.underlying29) rfl rfl rfl ?_
    exact ⟨hB, ansW_no g⟩
  intro g
  have e0 : poolE t.s wide = 0 := by simpa using g
  clear g
  rw [e0]
  have hm := hyes e0
  have ok := pool_ok k_t e0
  clear hno hyes e0 hE
  obtain ⟨m, rfl⟩ : ∃ m : Nat, wide = (m : Int) := ⟨wide.toNat, by have := ok.w; omega⟩
  obtain ⟨S, hS⟩ : ∃ S, S = pshS t.s (m : Int) := ⟨_, rfl⟩
  have lS : S.length = 3 := by rw [hS]; rfl
  have S0 : S.getD 0 default = t.s.getD 0 default := by rw [hS]; rfl
  have okS : Shapes.ok S = true := by rw [hS]; exact ok.ok
  have gS := ((Shapes.ok_iff _).1 okS).2.1
  rw [hm, ← hS] at hx
  rw [← hS]
  clear hm
  have szS := Shapes.size_le S
  obtain ⟨M, hM⟩ : ∃ M, M = (Shapes.size S).toNat := ⟨_, rfl⟩
  have l3 := ok.lt
  have okw := ok.w
  refine Cg.skip ?_
  refine Pg.thenN (Cg.out ?_)
  refine Cg.seq ?_
  have zW := below_size hB
  obtain ⟨B1, hB1⟩ : ∃ B1, B1 = w1.heap.size := ⟨_, rfl⟩
  have hxl := own_block hx
  have q_t : A_t < B1 := hB1 ▸ blk_lt b_t
  have q_s : A_s < B1 := hB1 ▸ blk_lt b_s
  have q_r : A_r < B1 := hB1 ▸ blk_lt b_r
  refine Cg.midS (St := Value × Nat × Nat) (fun z => [(2, .pointer (some ⟨A_t, 0, none⟩)), (3, .pointer (some ⟨A_s, 0, none⟩)), (4, .pointer (some ⟨A_r, 0, none⟩)), (6, x), (8, .pointer (some ⟨z.2.1, 0, none⟩)), (9, .pointer (some ⟨z.2.2, 0, none⟩))]) (fun z w' => Below w1.heap.size w1 w' ∧ w'.ownsRow B1 21 1 z.1 0 [] ∧ B1 ≤ z.2.1 ∧ Blk w' z.2.1 27 [z.1] ∧ B1 ≤ z.2.2 ∧ Blk w' z.2.2 131 [.func (.func 110) #[picV t] #[]]) ?_ ?_
  · refine Cg.any mixed (by kernel_rfl) (fun w hcw _ => ?_)
    refine Aw.cls (fun w' => Below w1.heap.size w1 w') (fun hC => ?_) (hcw)
    refine AwC.take (i := 0) (NoP.lift NoP.midG) rfl (by kernel_rfl) (by kernel_rfl) (by kernel_rfl) (fun w1 hc => Ex.move rfl) rfl ?_
    refine AwC.take (i := 3) (NoP.lift NoP.midG) rfl (by kernel_rfl) (by kernel_rfl) (by kernel_rfl) (fun w1 hc => Ex.ldA (ag_29 _) (sz_29 _) rfl rfl (Blk.bs (by assumption) hc)) rfl ?_
    refine AwC.three (by assumption) (i0 := 1) (i1 := 6) (i2 := 7) (by kernel_rfl) rfl rfl rfl ?_ ?_ ?_
    refine Lw.callF rfl rfl (size_c x S _ ((own_slT hx).bs hcw)) ?_
    rintro _ w ⟨rfl, hn⟩
    replace hcw := hcw.bs hn
    clear hn
    refine Lw.know 29 (v' := .int .i64 (M : Int)) rfl (congrArg (Value.int .i64) (by omega)) ?_
    refine AwC.back ?_
    refine AwC.four (by assumption) (i0 := 2) (i1 := 4) (i2 := 6) (i3 := 7) (by kernel_rfl) rfl rfl rfl rfl ?_ ?_ ?_ ?_
    refine Lw.valW (Xw.make (l := 0) (c := M) st_27 it_21 rfl rfl rfl (Nat.zero_le _) (by omega) (by omega)) rfl ?_
    rintro ov w ⟨ho, -, hn, -⟩
    have ho := own_mono (B' := B1) ho (Nat.le_trans (Nat.le_of_eq hB1) hcw.size)
    replace hcw := hcw.bs hn
    clear hn
    refine AwC.back ?_
    refine AwC.three (by assumption) (i0 := 4) (i1 := 6) (i2 := 7) (by kernel_rfl) rfl rfl rfl ?_ ?_ ?_
    refine Lw.callF rfl rfl (pof_c t _ (h_t.bs hcw) (by omega)) ?_
    rintro _ w ⟨rfl, hn⟩
    replace hcw := hcw.bs hn
    replace ho := ho.bs hn
    clear hn
    refine AwC.back ?_
    refine AwC.take (i := 5) (NoP.lift NoP.midG) rfl (by kernel_rfl) (by kernel_rfl) (by kernel_rfl) (fun w1 hc => Ex.mkFn (vs := [picV t]) (us := []) rfl rfl) rfl ?_
    refine AwC.two (by assumption) (i := 6) (j := 7) (by kernel_rfl) rfl rfl ?_ ?_
    have zc := hcw.size
    refine Lw.newA it_27 rfl ?_
    rintro A_o w eA_o b_o hn -
    have l_o : B1 ≤ A_o := by omega
    clear zc
    replace hcw := hcw.bs hn
    replace ho := ho.bs hn
    clear hn
    refine AwC.back ?_
    refine AwC.only (by assumption) (i := 7) (by kernel_rfl) rfl ?_
    have zc := hcw.size
    refine Lw.newA it_131 rfl ?_
    rintro A_g w eA_g b_g hn -
    have l_g : B1 ≤ A_g := by omega
    clear zc
    replace hcw := hcw.bs hn
    replace ho := ho.bs hn
    replace b_o := b_o.bs hn
    clear hn
    refine AwC.back ?_
    refine AwC.only (by assumption) (i := 8) (by kernel_rfl) rfl ?_
    refine Lw.unit (Xu.stB (u := ov) (sz_27 _) rfl rfl (own_sl ho).one' b_o Nat.zero_lt_one) ?_
    rintro w2 ⟨b_o2, hg, -⟩
    have ho := own_apart ho b_o (by decide) hg
    try replace b_g := b_g.by hg (fun e => blk_ne b_g b_o (by decide) (Option.some.inj e))
    have hcw := hcw.grown hg hcw.size (by rintro _ ⟨⟩; omega)
    have b_o : Blk w2 A_o 27 [ov] := b_o2
    clear b_o2 hg
    refine AwC.back ?_
    refine AwC.only (by assumption) (i := 9) (by kernel_rfl) rfl ?_
    refine Lw.unit (Xu.stB (u := .func (.func 110) #[picV t] #[]) (sz_131 _) rfl rfl rfl b_g Nat.zero_lt_one) ?_
    rintro w2 ⟨b_g2, hg, -⟩
    have ho := own_apart ho b_g (by decide) hg
    have b_o := b_o.by hg (fun e => blk_ne b_o b_g (by decide) (Option.some.inj e))
    have hcw := hcw.grown hg hcw.size (by rintro _ ⟨⟩; omega)
    have b_g : Blk w2 A_g 131 [.func (.func 110) #[picV t] #[]] := b_g2
    clear b_g2 hg
    refine AwC.back ?_
    refine AwC.done (by assumption) (by kernel_rfl) (Pg.low ?_)
    exact Pg.midS ((ov, A_o, A_g)) ⟨rfl, rfl, rfl, rfl, rfl, rfl, trivial⟩ (⟨hcw, ho, l_o, b_o, l_g, b_g⟩)
    have zc := hcw.size
    refine Lw.newA it_131 rfl ?_
    rintro A_g w eA_g b_g hn -
    have l_g : B1 ≤ A_g := by omega
    clear zc
    replace hcw := hcw.bs hn
    replace ho := ho.bs hn
    clear hn
    refine AwC.back ?_
    refine AwC.only (by assumption) (i := 6) (by kernel_rfl) rfl ?_
    have zc := hcw.size
    refine Lw.newA it_27 rfl ?_
    rintro A_o w eA_o b_o hn -
    have l_o : B1 ≤ A_o := by omega
    clear zc
    replace hcw := hcw.bs hn
    replace ho := ho.bs hn
    replace b_g := b_g.bs hn
    clear hn
    refine AwC.back ?_
    refine AwC.only (by assumption) (i := 8) (by kernel_rfl) rfl ?_
    refine Lw.unit (Xu.stB (u := ov) (sz_27 _) rfl rfl (own_sl ho).one' b_o Nat.zero_lt_one) ?_
    rintro w2 ⟨b_o2, hg, -⟩
    have ho := own_apart ho b_o (by decide) hg
    try replace b_g := b_g.by hg (fun e => blk_ne b_g b_o (by decide) (Option.some.inj e))
    have hcw := hcw.grown hg hcw.size (by rintro _ ⟨⟩; omega)
    have b_o : Blk w2 A_o 27 [ov] := b_o2
    clear b_o2 hg
    refine AwC.back ?_
    refine AwC.only (by assumption) (i := 9) (by kernel_rfl) rfl ?_
    refine Lw.unit (Xu.stB (u := .func (.func 110) #[picV t] #[]) (sz_131 _) rfl rfl rfl b_g Nat.zero_lt_one) ?_
    rintro w2 ⟨b_g2, hg, -⟩
    have ho := own_apart ho b_g (by decide) hg
    have b_o := b_o.by hg (fun e => blk_ne b_o b_g (by decide) (Option.some.inj e))
    have hcw := hcw.grown hg hcw.size (by rintro _ ⟨⟩; omega)
    have b_g : Blk w2 A_g 131 [.func (.func 110) #[picV t] #[]] := b_g2
    clear b_g2 hg
    refine AwC.back ?_
    refine AwC.done (by assumption) (by kernel_rfl) (Pg.low ?_)
    exact Pg.midS ((ov, A_o, A_g)) ⟨rfl, rfl, rfl, rfl, rfl, rfl, trivial⟩ (⟨hcw, ho, l_o, b_o, l_g, b_g⟩)
    have zc := hcw.size
    refine Lw.newA it_27 rfl ?_
    rintro A_o w eA_o b_o hn -
    have l_o : B1 ≤ A_o := by omega
    clear zc
    replace hcw := hcw.bs hn
    replace ho := ho.bs hn
    clear hn
    refine AwC.back ?_
    refine AwC.two (by assumption) (i := 4) (j := 7) (by kernel_rfl) rfl rfl ?_ ?_
    refine Lw.callF rfl rfl (pof_c t _ (h_t.bs hcw) (by omega)) ?_
    rintro _ w ⟨rfl, hn⟩
    replace hcw := hcw.bs hn
    replace ho := ho.bs hn
    replace b_o := b_o.bs hn
    clear hn
    refine AwC.back ?_
    refine AwC.take (i := 5) (NoP.lift NoP.midG) rfl (by kernel_rfl) (by kernel_rfl) (by kernel_rfl) (fun w1 hc => Ex.mkFn (vs := [picV t]) (us := []) rfl rfl) rfl ?_
    refine AwC.only (by assumption) (i := 7) (by kernel_rfl) rfl ?_
    have zc := hcw.size
    refine Lw.newA it_131 rfl ?_
    rintro A_g w eA_g b_g hn -
    have l_g : B1 ≤ A_g := by omega
    clear zc
    replace hcw := hcw.bs hn
    replace ho := ho.bs hn
    replace b_o := b_o.bs hn
    clear hn
    refine AwC.back ?_
    refine AwC.only (by assumption) (i := 8) (by kernel_rfl) rfl ?_
    refine Lw.unit (Xu.stB (u := ov) (sz_27 _) rfl rfl (own_sl ho).one' b_o Nat.zero_lt_one) ?_
    rintro w2 ⟨b_o2, hg, -⟩
    have ho := own_apart ho b_o (by decide) hg
    try replace b_g := b_g.by hg (fun e => blk_ne b_g b_o (by decide) (Option.some.inj e))
    have hcw := hcw.grown hg hcw.size (by rintro _ ⟨⟩; omega)
    have b_o : Blk w2 A_o 27 [ov] := b_o2
    clear b_o2 hg
    refine AwC.back ?_
    refine AwC.only (by assumption) (i := 9) (by kernel_rfl) rfl ?_
    refine Lw.unit (Xu.stB (u := .func (.func 110) #[picV t] #[]) (sz_131 _) rfl rfl rfl b_g Nat.zero_lt_one) ?_
    rintro w2 ⟨b_g2, hg, -⟩
    have ho := own_apart ho b_g (by decide) hg
    have b_o := b_o.by hg (fun e => blk_ne b_o b_g (by decide) (Option.some.inj e))
    have hcw := hcw.grown hg hcw.size (by rintro _ ⟨⟩; omega)
    have b_g : Blk w2 A_g 131 [.func (.func 110) #[picV t] #[]] := b_g2
    clear b_g2 hg
    refine AwC.back ?_
    refine AwC.done (by assumption) (by kernel_rfl) (Pg.low ?_)
    exact Pg.midS ((ov, A_o, A_g)) ⟨rfl, rfl, rfl, rfl, rfl, rfl, trivial⟩ (⟨hcw, ho, l_o, b_o, l_g, b_g⟩)
    have zc := hcw.size
    refine Lw.newA it_131 rfl ?_
    rintro A_g w eA_g b_g hn -
    have l_g : B1 ≤ A_g := by omega
    clear zc
    replace hcw := hcw.bs hn
    replace ho := ho.bs hn
    replace b_o := b_o.bs hn
    clear hn
    refine AwC.back ?_
    refine AwC.only (by assumption) (i := 4) (by kernel_rfl) rfl ?_
    refine Lw.callF rfl rfl (pof_c t _ (h_t.bs hcw) (by omega)) ?_
    rintro _ w ⟨rfl, hn⟩
    replace hcw := hcw.bs hn
    replace ho := ho.bs hn
    replace b_o := b_o.bs hn
    replace b_g := b_g.bs hn
    clear hn
    refine AwC.back ?_
    refine AwC.take (i := 5) (NoP.lift NoP.midG) rfl (by kernel_rfl) (by kernel_rfl) (by kernel_rfl) (fun w1 hc => Ex.mkFn (vs := [picV t]) (us := []) rfl rfl) rfl ?_
    refine AwC.only (by assumption) (i := 8) (by kernel_rfl) rfl ?_
    refine Lw.unit (Xu.stB (u := ov) (sz_27 _) rfl rfl (own_sl ho).one' b_o Nat.zero_lt_one) ?_
    rintro w2 ⟨b_o2, hg, -⟩
    have ho := own_apart ho b_o (by decide) hg
    try replace b_g := b_g.by hg (fun e => blk_ne b_g b_o (by decide) (Option.some.inj e))
    have hcw := hcw.grown hg hcw.size (by rintro _ ⟨⟩; omega)
    have b_o : Blk w2 A_o 27 [ov] := b_o2
    clear b_o2 hg
    refine AwC.back ?_
    refine AwC.only (by assumption) (i := 9) (by kernel_rfl) rfl ?_
    refine Lw.unit (Xu.stB (u := .func (.func 110) #[picV t] #[]) (sz_131 _) rfl rfl rfl b_g Nat.zero_lt_one) ?_
    rintro w2 ⟨b_g2, hg, -⟩
    have ho := own_apart ho b_g (by decide) hg
    have b_o := b_o.by hg (fun e => blk_ne b_o b_g (by decide) (Option.some.inj e))
    have hcw := hcw.grown hg hcw.size (by rintro _ ⟨⟩; omega)
    have b_g : Blk w2 A_g 131 [.func (.func 110) #[picV t] #[]] := b_g2
    clear b_g2 hg
    refine AwC.back ?_
    refine AwC.done (by assumption) (by kernel_rfl) (Pg.low ?_)
    exact Pg.midS ((ov, A_o, A_g)) ⟨rfl, rfl, rfl, rfl, rfl, rfl, trivial⟩ (⟨hcw, ho, l_o, b_o, l_g, b_g⟩)
    have zc := hcw.size
    refine Lw.newA it_131 rfl ?_
    rintro A_g w eA_g b_g hn -
    have l_g : B1 ≤ A_g := by omega
    clear zc
    replace hcw := hcw.bs hn
    replace ho := ho.bs hn
    clear hn
    refine AwC.back ?_
    refine AwC.two (by assumption) (i := 4) (j := 6) (by kernel_rfl) rfl rfl ?_ ?_
    refine Lw.callF rfl rfl (pof_c t _ (h_t.bs hcw) (by omega)) ?_
    rintro _ w ⟨rfl, hn⟩
    replace hcw := hcw.bs hn
    replace ho := ho.bs hn
    replace b_g := b_g.bs hn
    clear hn
    refine AwC.back ?_
    refine AwC.take (i := 5) (NoP.lift NoP.midG) rfl (by kernel_rfl) (by kernel_rfl) (by kernel_rfl) (fun w1 hc => Ex.mkFn (vs := [picV t]) (us := []) rfl rfl) rfl ?_
    refine AwC.only (by assumption) (i := 6) (by kernel_rfl) rfl ?_
    have zc := hcw.size
    refine Lw.newA it_27 rfl ?_
    rintro A_o w eA_o b_o hn -
    have l_o : B1 ≤ A_o := by omega
    clear zc
    replace hcw := hcw.bs hn
    replace ho := ho.bs hn
    replace b_g := b_g.bs hn
    clear hn
    refine AwC.back ?_
    refine AwC.only (by assumption) (i := 8) (by kernel_rfl) rfl ?_
    refine Lw.unit (Xu.stB (u := ov) (sz_27 _) rfl rfl (own_sl ho).one' b_o Nat.zero_lt_one) ?_
    rintro w2 ⟨b_o2, hg, -⟩
    have ho := own_apart ho b_o (by decide) hg
    try replace b_g := b_g.by hg (fun e => blk_ne b_g b_o (by decide) (Option.some.inj e))
    have hcw := hcw.grown hg hcw.size (by rintro _ ⟨⟩; omega)
    have b_o : Blk w2 A_o 27 [ov] := b_o2
    clear b_o2 hg
    refine AwC.back ?_
    refine AwC.only (by assumption) (i := 9) (by kernel_rfl) rfl ?_
    refine Lw.unit (Xu.stB (u := .func (.func 110) #[picV t] #[]) (sz_131 _) rfl rfl rfl b_g Nat.zero_lt_one) ?_
    rintro w2 ⟨b_g2, hg, -⟩
    have ho := own_apart ho b_g (by decide) hg
    have b_o := b_o.by hg (fun e => blk_ne b_o b_g (by decide) (Option.some.inj e))
    have hcw := hcw.grown hg hcw.size (by rintro _ ⟨⟩; omega)
    have b_g : Blk w2 A_g 131 [.func (.func 110) #[picV t] #[]] := b_g2
    clear b_g2 hg
    refine AwC.back ?_
    refine AwC.done (by assumption) (by kernel_rfl) (Pg.low ?_)
    exact Pg.midS ((ov, A_o, A_g)) ⟨rfl, rfl, rfl, rfl, rfl, rfl, trivial⟩ (⟨hcw, ho, l_o, b_o, l_g, b_g⟩)
    have zc := hcw.size
    refine Lw.newA it_27 rfl ?_
    rintro A_o w eA_o b_o hn -
    have l_o : B1 ≤ A_o := by omega
    clear zc
    replace hcw := hcw.bs hn
    replace ho := ho.bs hn
    replace b_g := b_g.bs hn
    clear hn
    refine AwC.back ?_
    refine AwC.only (by assumption) (i := 4) (by kernel_rfl) rfl ?_
    refine Lw.callF rfl rfl (pof_c t _ (h_t.bs hcw) (by omega)) ?_
    rintro _ w ⟨rfl, hn⟩
    replace hcw := hcw.bs hn
    replace ho := ho.bs hn
    replace b_g := b_g.bs hn
    replace b_o := b_o.bs hn
    clear hn
    refine AwC.back ?_
    refine AwC.take (i := 5) (NoP.lift NoP.midG) rfl (by kernel_rfl) (by kernel_rfl) (by kernel_rfl) (fun w1 hc => Ex.mkFn (vs := [picV t]) (us := []) rfl rfl) rfl ?_
    refine AwC.only (by assumption) (i := 8) (by kernel_rfl) rfl ?_
    refine Lw.unit (Xu.stB (u := ov) (sz_27 _) rfl rfl (own_sl ho).one' b_o Nat.zero_lt_one) ?_
    rintro w2 ⟨b_o2, hg, -⟩
    have ho := own_apart ho b_o (by decide) hg
    try replace b_g := b_g.by hg (fun e => blk_ne b_g b_o (by decide) (Option.some.inj e))
    have hcw := hcw.grown hg hcw.size (by rintro _ ⟨⟩; omega)
    have b_o : Blk w2 A_o 27 [ov] := b_o2
    clear b_o2 hg
    refine AwC.back ?_
    refine AwC.only (by assumption) (i := 9) (by kernel_rfl) rfl ?_
    refine Lw.unit (Xu.stB (u := .func (.func 110) #[picV t] #[]) (sz_131 _) rfl rfl rfl b_g Nat.zero_lt_one) ?_
    rintro w2 ⟨b_g2, hg, -⟩
    have ho := own_apart ho b_g (by decide) hg
    have b_o := b_o.by hg (fun e => blk_ne b_o b_g (by decide) (Option.some.inj e))
    have hcw := hcw.grown hg hcw.size (by rintro _ ⟨⟩; omega)
    have b_g : Blk w2 A_g 131 [.func (.func 110) #[picV t] #[]] := b_g2
    clear b_g2 hg
    refine AwC.back ?_
    refine AwC.done (by assumption) (by kernel_rfl) (Pg.low ?_)
    exact Pg.midS ((ov, A_o, A_g)) ⟨rfl, rfl, rfl, rfl, rfl, rfl, trivial⟩ (⟨hcw, ho, l_o, b_o, l_g, b_g⟩)
    refine Lw.callF rfl rfl (pof_c t _ (h_t.bs hcw) (by omega)) ?_
    rintro _ w ⟨rfl, hn⟩
    replace hcw := hcw.bs hn
    clear hn
    refine AwC.back ?_
    refine AwC.take (i := 5) (NoP.lift NoP.midG) rfl (by kernel_rfl) (by kernel_rfl) (by kernel_rfl) (fun w1 hc => Ex.mkFn (vs := [picV t]) (us := []) rfl rfl) rfl ?_
    refine AwC.three (by assumption) (i0 := 2) (i1 := 6) (i2 := 7) (by kernel_rfl) rfl rfl rfl ?_ ?_ ?_
    refine Lw.valW (Xw.make (l := 0) (c := M) st_27 it_21 rfl rfl rfl (Nat.zero_le _) (by omega) (by omega)) rfl ?_
    rintro ov w ⟨ho, -, hn, -⟩
    have ho := own_mono (B' := B1) ho (Nat.le_trans (Nat.le_of_eq hB1) hcw.size)
    replace hcw := hcw.bs hn
    clear hn
    refine AwC.back ?_
    refine AwC.two (by assumption) (i := 6) (j := 7) (by kernel_rfl) rfl rfl ?_ ?_
    have zc := hcw.size
    refine Lw.newA it_27 rfl ?_
    rintro A_o w eA_o b_o hn -
    have l_o : B1 ≤ A_o := by omega
    clear zc
    replace hcw := hcw.bs hn
    replace ho := ho.bs hn
    clear hn
    refine AwC.back ?_
    refine AwC.only (by assumption) (i := 7) (by kernel_rfl) rfl ?_
    have zc := hcw.size
    refine Lw.newA it_131 rfl ?_
    rintro A_g w eA_g b_g hn -
    have l_g : B1 ≤ A_g := by omega
    clear zc
    replace hcw := hcw.bs hn
    replace ho := ho.bs hn
    replace b_o := b_o.bs hn
    clear hn
    refine AwC.back ?_
    refine AwC.only (by assumption) (i := 8) (by kernel_rfl) rfl ?_
    refine Lw.unit (Xu.stB (u := ov) (sz_27 _) rfl rfl (own_sl ho).one' b_o Nat.zero_lt_one) ?_
    rintro w2 ⟨b_o2, hg, -⟩
    have ho := own_apart ho b_o (by decide) hg
    try replace b_g := b_g.by hg (fun e => blk_ne b_g b_o (by decide) (Option.some.inj e))
    have hcw := hcw.grown hg hcw.size (by rintro _ ⟨⟩; omega)
    have b_o : Blk w2 A_o 27 [ov] := b_o2
    clear b_o2 hg
    refine AwC.back ?_
    refine AwC.only (by assumption) (i := 9) (by kernel_rfl) rfl ?_
    refine Lw.unit (Xu.stB (u := .func (.func 110) #[picV t] #[]) (sz_131 _) rfl rfl rfl b_g Nat.zero_lt_one) ?_
    rintro w2 ⟨b_g2, hg, -⟩
    have ho := own_apart ho b_g (by decide) hg
    have b_o := b_o.by hg (fun e => blk_ne b_o b_g (by decide) (Option.some.inj e))
    have hcw := hcw.grown hg hcw.size (by rintro _ ⟨⟩; omega)
    have b_g : Blk w2 A_g 131 [.func (.func 110) #[picV t] #[]] := b_g2
    clear b_g2 hg
    refine AwC.back ?_
    refine AwC.done (by assumption) (by kernel_rfl) (Pg.low ?_)
    exact Pg.midS ((ov, A_o, A_g)) ⟨rfl, rfl, rfl, rfl, rfl, rfl, trivial⟩ (⟨hcw, ho, l_o, b_o, l_g, b_g⟩)
    have zc := hcw.size
    refine Lw.newA it_131 rfl ?_
    rintro A_g w eA_g b_g hn -
    have l_g : B1 ≤ A_g := by omega
    clear zc
    replace hcw := hcw.bs hn
    replace ho := ho.bs hn
    clear hn
    refine AwC.back ?_
    refine AwC.only (by assumption) (i := 6) (by kernel_rfl) rfl ?_
    have zc := hcw.size
    refine Lw.newA it_27 rfl ?_
    rintro A_o w eA_o b_o hn -
    have l_o : B1 ≤ A_o := by omega
    clear zc
    replace hcw := hcw.bs hn
    replace ho := ho.bs hn
    replace b_g := b_g.bs hn
    clear hn
    refine AwC.back ?_
    refine AwC.only (by assumption) (i := 8) (by kernel_rfl) rfl ?_
    refine Lw.unit (Xu.stB (u := ov) (sz_27 _) rfl rfl (own_sl ho).one' b_o Nat.zero_lt_one) ?_
    rintro w2 ⟨b_o2, hg, -⟩
    have ho := own_apart ho b_o (by decide) hg
    try replace b_g := b_g.by hg (fun e => blk_ne b_g b_o (by decide) (Option.some.inj e))
    have hcw := hcw.grown hg hcw.size (by rintro _ ⟨⟩; omega)
    have b_o : Blk w2 A_o 27 [ov] := b_o2
    clear b_o2 hg
    refine AwC.back ?_
    refine AwC.only (by assumption) (i := 9) (by kernel_rfl) rfl ?_
    refine Lw.unit (Xu.stB (u := .func (.func 110) #[picV t] #[]) (sz_131 _) rfl rfl rfl b_g Nat.zero_lt_one) ?_
    rintro w2 ⟨b_g2, hg, -⟩
    have ho := own_apart ho b_g (by decide) hg
    have b_o := b_o.by hg (fun e => blk_ne b_o b_g (by decide) (Option.some.inj e))
    have hcw := hcw.grown hg hcw.size (by rintro _ ⟨⟩; omega)
    have b_g : Blk w2 A_g 131 [.func (.func 110) #[picV t] #[]] := b_g2
    clear b_g2 hg
    refine AwC.back ?_
    refine AwC.done (by assumption) (by kernel_rfl) (Pg.low ?_)
    exact Pg.midS ((ov, A_o, A_g)) ⟨rfl, rfl, rfl, rfl, rfl, rfl, trivial⟩ (⟨hcw, ho, l_o, b_o, l_g, b_g⟩)
    have zc := hcw.size
    refine Lw.newA it_27 rfl ?_
    rintro A_o w eA_o b_o hn -
    have l_o : B1 ≤ A_o := by omega
    clear zc
    replace hcw := hcw.bs hn
    clear hn
    refine AwC.back ?_
    refine AwC.two (by assumption) (i := 2) (j := 7) (by kernel_rfl) rfl rfl ?_ ?_
    refine Lw.valW (Xw.make (l := 0) (c := M) st_27 it_21 rfl rfl rfl (Nat.zero_le _) (by omega) (by omega)) rfl ?_
    rintro ov w ⟨ho, -, hn, -⟩
    have ho := own_mono (B' := B1) ho (Nat.le_trans (Nat.le_of_eq hB1) hcw.size)
    replace hcw := hcw.bs hn
    replace b_o := b_o.bs hn
    clear hn
    refine AwC.back ?_
    refine AwC.only (by assumption) (i := 7) (by kernel_rfl) rfl ?_
    have zc := hcw.size
    refine Lw.newA it_131 rfl ?_
    rintro A_g w eA_g b_g hn -
    have l_g : B1 ≤ A_g := by omega
    clear zc
    replace hcw := hcw.bs hn
    replace b_o := b_o.bs hn
    replace ho := ho.bs hn
    clear hn
    refine AwC.back ?_
    refine AwC.only (by assumption) (i := 8) (by kernel_rfl) rfl ?_
    refine Lw.unit (Xu.stB (u := ov) (sz_27 _) rfl rfl (own_sl ho).one' b_o Nat.zero_lt_one) ?_
    rintro w2 ⟨b_o2, hg, -⟩
    have ho := own_apart ho b_o (by decide) hg
    try replace b_g := b_g.by hg (fun e => blk_ne b_g b_o (by decide) (Option.some.inj e))
    have hcw := hcw.grown hg hcw.size (by rintro _ ⟨⟩; omega)
    have b_o : Blk w2 A_o 27 [ov] := b_o2
    clear b_o2 hg
    refine AwC.back ?_
    refine AwC.only (by assumption) (i := 9) (by kernel_rfl) rfl ?_
    refine Lw.unit (Xu.stB (u := .func (.func 110) #[picV t] #[]) (sz_131 _) rfl rfl rfl b_g Nat.zero_lt_one) ?_
    rintro w2 ⟨b_g2, hg, -⟩
    have ho := own_apart ho b_g (by decide) hg
    have b_o := b_o.by hg (fun e => blk_ne b_o b_g (by decide) (Option.some.inj e))
    have hcw := hcw.grown hg hcw.size (by rintro _ ⟨⟩; omega)
    have b_g : Blk w2 A_g 131 [.func (.func 110) #[picV t] #[]] := b_g2
    clear b_g2 hg
    refine AwC.back ?_
    refine AwC.done (by assumption) (by kernel_rfl) (Pg.low ?_)
    exact Pg.midS ((ov, A_o, A_g)) ⟨rfl, rfl, rfl, rfl, rfl, rfl, trivial⟩ (⟨hcw, ho, l_o, b_o, l_g, b_g⟩)
    have zc := hcw.size
    refine Lw.newA it_131 rfl ?_
    rintro A_g w eA_g b_g hn -
    have l_g : B1 ≤ A_g := by omega
    clear zc
    replace hcw := hcw.bs hn
    replace b_o := b_o.bs hn
    clear hn
    refine AwC.back ?_
    refine AwC.only (by assumption) (i := 2) (by kernel_rfl) rfl ?_
    refine Lw.valW (Xw.make (l := 0) (c := M) st_27 it_21 rfl rfl rfl (Nat.zero_le _) (by omega) (by omega)) rfl ?_
    rintro ov w ⟨ho, -, hn, -⟩
    have ho := own_mono (B' := B1) ho (Nat.le_trans (Nat.le_of_eq hB1) hcw.size)
    replace hcw := hcw.bs hn
    replace b_o := b_o.bs hn
    replace b_g := b_g.bs hn
    clear hn
    refine AwC.back ?_
    refine AwC.only (by assumption) (i := 8) (by kernel_rfl) rfl ?_
    refine Lw.unit (Xu.stB (u := ov) (sz_27 _) rfl rfl (own_sl ho).one' b_o Nat.zero_lt_one) ?_
    rintro w2 ⟨b_o2, hg, -⟩
    have ho := own_apart ho b_o (by decide) hg
    try replace b_g := b_g.by hg (fun e => blk_ne b_g b_o (by decide) (Option.some.inj e))
    have hcw := hcw.grown hg hcw.size (by rintro _ ⟨⟩; omega)
    have b_o : Blk w2 A_o 27 [ov] := b_o2
    clear b_o2 hg
    refine AwC.back ?_
    refine AwC.only (by assumption) (i := 9) (by kernel_rfl) rfl ?_
    refine Lw.unit (Xu.stB (u := .func (.func 110) #[picV t] #[]) (sz_131 _) rfl rfl rfl b_g Nat.zero_lt_one) ?_
    rintro w2 ⟨b_g2, hg, -⟩
    have ho := own_apart ho b_g (by decide) hg
    have b_o := b_o.by hg (fun e => blk_ne b_o b_g (by decide) (Option.some.inj e))
    have hcw := hcw.grown hg hcw.size (by rintro _ ⟨⟩; omega)
    have b_g : Blk w2 A_g 131 [.func (.func 110) #[picV t] #[]] := b_g2
    clear b_g2 hg
    refine AwC.back ?_
    refine AwC.done (by assumption) (by kernel_rfl) (Pg.low ?_)
    exact Pg.midS ((ov, A_o, A_g)) ⟨rfl, rfl, rfl, rfl, rfl, rfl, trivial⟩ (⟨hcw, ho, l_o, b_o, l_g, b_g⟩)
    have zc := hcw.size
    refine Lw.newA it_131 rfl ?_
    rintro A_g w eA_g b_g hn -
    have l_g : B1 ≤ A_g := by omega
    clear zc
    replace hcw := hcw.bs hn
    clear hn
    refine AwC.back ?_
    refine AwC.two (by assumption) (i := 2) (j := 6) (by kernel_rfl) rfl rfl ?_ ?_
    refine Lw.valW (Xw.make (l := 0) (c := M) st_27 it_21 rfl rfl rfl (Nat.zero_le _) (by omega) (by omega)) rfl ?_
    rintro ov w ⟨ho, -, hn, -⟩
    have ho := own_mono (B' := B1) ho (Nat.le_trans (Nat.le_of_eq hB1) hcw.size)
    replace hcw := hcw.bs hn
    replace b_g := b_g.bs hn
    clear hn
    refine AwC.back ?_
    refine AwC.only (by assumption) (i := 6) (by kernel_rfl) rfl ?_
    have zc := hcw.size
    refine Lw.newA it_27 rfl ?_
    rintro A_o w eA_o b_o hn -
    have l_o : B1 ≤ A_o := by omega
    clear zc
    replace hcw := hcw.bs hn
    replace b_g := b_g.bs hn
    replace ho := ho.bs hn
    clear hn
    refine AwC.back ?_
    refine AwC.only (by assumption) (i := 8) (by kernel_rfl) rfl ?_
    refine Lw.unit (Xu.stB (u := ov) (sz_27 _) rfl rfl (own_sl ho).one' b_o Nat.zero_lt_one) ?_
    rintro w2 ⟨b_o2, hg, -⟩
    have ho := own_apart ho b_o (by decide) hg
    try replace b_g := b_g.by hg (fun e => blk_ne b_g b_o (by decide) (Option.some.inj e))
    have hcw := hcw.grown hg hcw.size (by rintro _ ⟨⟩; omega)
    have b_o : Blk w2 A_o 27 [ov] := b_o2
    clear b_o2 hg
    refine AwC.back ?_
    refine AwC.only (by assumption) (i := 9) (by kernel_rfl) rfl ?_
    refine Lw.unit (Xu.stB (u := .func (.func 110) #[picV t] #[]) (sz_131 _) rfl rfl rfl b_g Nat.zero_lt_one) ?_
    rintro w2 ⟨b_g2, hg, -⟩
    have ho := own_apart ho b_g (by decide) hg
    have b_o := b_o.by hg (fun e => blk_ne b_o b_g (by decide) (Option.some.inj e))
    have hcw := hcw.grown hg hcw.size (by rintro _ ⟨⟩; omega)
    have b_g : Blk w2 A_g 131 [.func (.func 110) #[picV t] #[]] := b_g2
    clear b_g2 hg
    refine AwC.back ?_
    refine AwC.done (by assumption) (by kernel_rfl) (Pg.low ?_)
    exact Pg.midS ((ov, A_o, A_g)) ⟨rfl, rfl, rfl, rfl, rfl, rfl, trivial⟩ (⟨hcw, ho, l_o, b_o, l_g, b_g⟩)
    have zc := hcw.size
    refine Lw.newA it_27 rfl ?_
    rintro A_o w eA_o b_o hn -
    have l_o : B1 ≤ A_o := by omega
    clear zc
    replace hcw := hcw.bs hn
    replace b_g := b_g.bs hn
    clear hn
    refine AwC.back ?_
    refine AwC.only (by assumption) (i := 2) (by kernel_rfl) rfl ?_
    refine Lw.valW (Xw.make (l := 0) (c := M) st_27 it_21 rfl rfl rfl (Nat.zero_le _) (by omega) (by omega)) rfl ?_
    rintro ov w ⟨ho, -, hn, -⟩
    have ho := own_mono (B' := B1) ho (Nat.le_trans (Nat.le_of_eq hB1) hcw.size)
    replace hcw := hcw.bs hn
    replace b_g := b_g.bs hn
    replace b_o := b_o.bs hn
    clear hn
    refine AwC.back ?_
    refine AwC.only (by assumption) (i := 8) (by kernel_rfl) rfl ?_
    refine Lw.unit (Xu.stB (u := ov) (sz_27 _) rfl rfl (own_sl ho).one' b_o Nat.zero_lt_one) ?_
    rintro w2 ⟨b_o2, hg, -⟩
    have ho := own_apart ho b_o (by decide) hg
    try replace b_g := b_g.by hg (fun e => blk_ne b_g b_o (by decide) (Option.some.inj e))
    have hcw := hcw.grown hg hcw.size (by rintro _ ⟨⟩; omega)
    have b_o : Blk w2 A_o 27 [ov] := b_o2
    clear b_o2 hg
    refine AwC.back ?_
    refine AwC.only (by assumption) (i := 9) (by kernel_rfl) rfl ?_
    refine Lw.unit (Xu.stB (u := .func (.func 110) #[picV t] #[]) (sz_131 _) rfl rfl rfl b_g Nat.zero_lt_one) ?_
    rintro w2 ⟨b_g2, hg, -⟩
    have ho := own_apart ho b_g (by decide) hg
    have b_o := b_o.by hg (fun e => blk_ne b_o b_g (by decide) (Option.some.inj e))
    have hcw := hcw.grown hg hcw.size (by rintro _ ⟨⟩; omega)
    have b_g : Blk w2 A_g 131 [.func (.func 110) #[picV t] #[]] := b_g2
    clear b_g2 hg
    refine AwC.back ?_
    refine AwC.done (by assumption) (by kernel_rfl) (Pg.low ?_)
    exact Pg.midS ((ov, A_o, A_g)) ⟨rfl, rfl, rfl, rfl, rfl, rfl, trivial⟩ (⟨hcw, ho, l_o, b_o, l_g, b_g⟩)
    have zc := hcw.size
    refine Lw.newA it_27 rfl ?_
    rintro A_o w eA_o b_o hn -
    have l_o : B1 ≤ A_o := by omega
    clear zc
    replace hcw := hcw.bs hn
    clear hn
    refine AwC.back ?_
    refine AwC.three (by assumption) (i0 := 2) (i1 := 4) (i2 := 7) (by kernel_rfl) rfl rfl rfl ?_ ?_ ?_
    refine Lw.valW (Xw.make (l := 0) (c := M) st_27 it_21 rfl rfl rfl (Nat.zero_le _) (by omega) (by omega)) rfl ?_
    rintro ov w ⟨ho, -, hn, -⟩
    have ho := own_mono (B' := B1) ho (Nat.le_trans (Nat.le_of_eq hB1) hcw.size)
    replace hcw := hcw.bs hn
    replace b_o := b_o.bs hn
    clear hn
    refine AwC.back ?_
    refine AwC.two (by assumption) (i := 4) (j := 7) (by kernel_rfl) rfl rfl ?_ ?_
    refine Lw.callF rfl rfl (pof_c t _ (h_t.bs hcw) (by omega)) ?_
    rintro _ w ⟨rfl, hn⟩
    replace hcw := hcw.bs hn
    replace b_o := b_o.bs hn
    replace ho := ho.bs hn
    clear hn
    refine AwC.back ?_
    refine AwC.take (i := 5) (NoP.lift NoP.midG) rfl (by kernel_rfl) (by kernel_rfl) (by kernel_rfl) (fun w1 hc => Ex.mkFn (vs := [picV t]) (us := []) rfl rfl) rfl ?_
    refine AwC.only (by assumption) (i := 7) (by kernel_rfl) rfl ?_
    have zc := hcw.size
    refine Lw.newA it_131 rfl ?_
    rintro A_g w eA_g b_g hn -
    have l_g : B1 ≤ A_g := by omega
    clear zc
    replace hcw := hcw.bs hn
    replace b_o := b_o.bs hn
    replace ho := ho.bs hn
    clear hn
    refine AwC.back ?_
    refine AwC.only (by assumption) (i := 8) (by kernel_rfl) rfl ?_
    refine Lw.unit (Xu.stB (u := ov) (sz_27 _) rfl rfl (own_sl ho).one' b_o Nat.zero_lt_one) ?_
    rintro w2 ⟨b_o2, hg, -⟩
    have ho := own_apart ho b_o (by decide) hg
    try replace b_g := b_g.by hg (fun e => blk_ne b_g b_o (by decide) (Option.some.inj e))
    have hcw := hcw.grown hg hcw.size (by rintro _ ⟨⟩; omega)
    have b_o : Blk w2 A_o 27 [ov] := b_o2
    clear b_o2 hg
    refine AwC.back ?_
    refine AwC.only (by assumption) (i := 9) (by kernel_rfl) rfl ?_
    refine Lw.unit (Xu.stB (u := .func (.func 110) #[picV t] #[]) (sz_131 _) rfl rfl rfl b_g Nat.zero_lt_one) ?_
    rintro w2 ⟨b_g2, hg, -⟩
    have ho := own_apart ho b_g (by decide) hg
    have b_o := b_o.by hg (fun e => blk_ne b_o b_g (by decide) (Option.some.inj e))
    have hcw := hcw.grown hg hcw.size (by rintro _ ⟨⟩; omega)
    have b_g : Blk w2 A_g 131 [.func (.func 110) #[picV t] #[]] := b_g2
    clear b_g2 hg
    refine AwC.back ?_
    refine AwC.done (by assumption) (by kernel_rfl) (Pg.low ?_)
    exact Pg.midS ((ov, A_o, A_g)) ⟨rfl, rfl, rfl, rfl, rfl, rfl, trivial⟩ (⟨hcw, ho, l_o, b_o, l_g, b_g⟩)
    have zc := hcw.size
    refine Lw.newA it_131 rfl ?_
    rintro A_g w eA_g b_g hn -
    have l_g : B1 ≤ A_g := by omega
    clear zc
    replace hcw := hcw.bs hn
    replace b_o := b_o.bs hn
    replace ho := ho.bs hn
    clear hn
    refine AwC.back ?_
    refine AwC.only (by assumption) (i := 4) (by kernel_rfl) rfl ?_
    refine Lw.callF rfl rfl (pof_c t _ (h_t.bs hcw) (by omega)) ?_
    rintro _ w ⟨rfl, hn⟩
    replace hcw := hcw.bs hn
    replace b_o := b_o.bs hn
    replace ho := ho.bs hn
    replace b_g := b_g.bs hn
    clear hn
    refine AwC.back ?_
    refine AwC.take (i := 5) (NoP.lift NoP.midG) rfl (by kernel_rfl) (by kernel_rfl) (by kernel_rfl) (fun w1 hc => Ex.mkFn (vs := [picV t]) (us := []) rfl rfl) rfl ?_
    refine AwC.only (by assumption) (i := 8) (by kernel_rfl) rfl ?_
    refine Lw.unit (Xu.stB (u := ov) (sz_27 _) rfl rfl (own_sl ho).one' b_o Nat.zero_lt_one) ?_
    rintro w2 ⟨b_o2, hg, -⟩
    have ho := own_apart ho b_o (by decide) hg
    try replace b_g := b_g.by hg (fun e => blk_ne b_g b_o (by decide) (Option.some.inj e))
    have hcw := hcw.grown hg hcw.size (by rintro _ ⟨⟩; omega)
    have b_o : Blk w2 A_o 27 [ov] := b_o2
    clear b_o2 hg
    refine AwC.back ?_
    refine AwC.only (by assumption) (i := 9) (by kernel_rfl) rfl ?_
    refine Lw.unit (Xu.stB (u := .func (.func 110) #[picV t] #[]) (sz_131 _) rfl rfl rfl b_g Nat.zero_lt_one) ?_
    rintro w2 ⟨b_g2, hg, -⟩
    have ho := own_apart ho b_g (by decide) hg
    have b_o := b_o.by hg (fun e => blk_ne b_o b_g (by decide) (Option.some.inj e))
    have hcw := hcw.grown hg hcw.size (by rintro _ ⟨⟩; omega)
    have b_g : Blk w2 A_g 131 [.func (.func 110) #[picV t] #[]] := b_g2
    clear b_g2 hg
    refine AwC.back ?_
    refine AwC.done (by assumption) (by kernel_rfl) (Pg.low ?_)
    exact Pg.midS ((ov, A_o, A_g)) ⟨rfl, rfl, rfl, rfl, rfl, rfl, trivial⟩ (⟨hcw, ho, l_o, b_o, l_g, b_g⟩)
    refine Lw.callF rfl rfl (pof_c t _ (h_t.bs hcw) (by omega)) ?_
    rintro _ w ⟨rfl, hn⟩
    replace hcw := hcw.bs hn
    replace b_o := b_o.bs hn
    clear hn
    refine AwC.back ?_
    refine AwC.take (i := 5) (NoP.lift NoP.midG) rfl (by kernel_rfl) (by kernel_rfl) (by kernel_rfl) (fun w1 hc => Ex.mkFn (vs := [picV t]) (us := []) rfl rfl) rfl ?_
    refine AwC.two (by assumption) (i := 2) (j := 7) (by kernel_rfl) rfl rfl ?_ ?_
    refine Lw.valW (Xw.make (l := 0) (c := M) st_27 it_21 rfl rfl rfl (Nat.zero_le _) (by omega) (by omega)) rfl ?_
    rintro ov w ⟨ho, -, hn, -⟩
    have ho := own_mono (B' := B1) ho (Nat.le_trans (Nat.le_of_eq hB1) hcw.size)
    replace hcw := hcw.bs hn
    replace b_o := b_o.bs hn
    clear hn
    refine AwC.back ?_
    refine AwC.only (by assumption) (i := 7) (by kernel_rfl) rfl ?_
    have zc := hcw.size
    refine Lw.newA it_131 rfl ?_
    rintro A_g w eA_g b_g hn -
    have l_g : B1 ≤ A_g := by omega
    clear zc
    replace hcw := hcw.bs hn
    replace b_o := b_o.bs hn
    replace ho := ho.bs hn
    clear hn
    refine AwC.back ?_
    refine AwC.only (by assumption) (i := 8) (by kernel_rfl) rfl ?_
    refine Lw.unit (Xu.stB (u := ov) (sz_27 _) rfl rfl (own_sl ho).one' b_o Nat.zero_lt_one) ?_
    rintro w2 ⟨b_o2, hg, -⟩
    have ho := own_apart ho b_o (by decide) hg
    try replace b_g := b_g.by hg (fun e => blk_ne b_g b_o (by decide) (Option.some.inj e))
    have hcw := hcw.grown hg hcw.size (by rintro _ ⟨⟩; omega)
    have b_o : Blk w2 A_o 27 [ov] := b_o2
    clear b_o2 hg
    refine AwC.back ?_
    refine AwC.only (by assumption) (i := 9) (by kernel_rfl) rfl ?_
    refine Lw.unit (Xu.stB (u := .func (.func 110) #[picV t] #[]) (sz_131 _) rfl rfl rfl b_g Nat.zero_lt_one) ?_
    rintro w2 ⟨b_g2, hg, -⟩
    have ho := own_apart ho b_g (by decide) hg
    have b_o := b_o.by hg (fun e => blk_ne b_o b_g (by decide) (Option.some.inj e))
    have hcw := hcw.grown hg hcw.size (by rintro _ ⟨⟩; omega)
    have b_g : Blk w2 A_g 131 [.func (.func 110) #[picV t] #[]] := b_g2
    clear b_g2 hg
    refine AwC.back ?_
    refine AwC.done (by assumption) (by kernel_rfl) (Pg.low ?_)
    exact Pg.midS ((ov, A_o, A_g)) ⟨rfl, rfl, rfl, rfl, rfl, rfl, trivial⟩ (⟨hcw, ho, l_o, b_o, l_g, b_g⟩)
    have zc := hcw.size
    refine Lw.newA it_131 rfl ?_
    rintro A_g w eA_g b_g hn -
    have l_g : B1 ≤ A_g := by omega
    clear zc
    replace hcw := hcw.bs hn
    replace b_o := b_o.bs hn
    clear hn
    refine AwC.back ?_
    refine AwC.only (by assumption) (i := 2) (by kernel_rfl) rfl ?_
    refine Lw.valW (Xw.make (l := 0) (c := M) st_27 it_21 rfl rfl rfl (Nat.zero_le _) (by omega) (by omega)) rfl ?_
    rintro ov w ⟨ho, -, hn, -⟩
    have ho := own_mono (B' := B1) ho (Nat.le_trans (Nat.le_of_eq hB1) hcw.size)
    replace hcw := hcw.bs hn
    replace b_o := b_o.bs hn
    replace b_g := b_g.bs hn
    clear hn
    refine AwC.back ?_
    refine AwC.only (by assumption) (i := 8) (by kernel_rfl) rfl ?_
    refine Lw.unit (Xu.stB (u := ov) (sz_27 _) rfl rfl (own_sl ho).one' b_o Nat.zero_lt_one) ?_
    rintro w2 ⟨b_o2, hg, -⟩
    have ho := own_apart ho b_o (by decide) hg
    try replace b_g := b_g.by hg (fun e => blk_ne b_g b_o (by decide) (Option.some.inj e))
    have hcw := hcw.grown hg hcw.size (by rintro _ ⟨⟩; omega)
    have b_o : Blk w2 A_o 27 [ov] := b_o2
    clear b_o2 hg
    refine AwC.back ?_
    refine AwC.only (by assumption) (i := 9) (by kernel_rfl) rfl ?_
    refine Lw.unit (Xu.stB (u := .func (.func 110) #[picV t] #[]) (sz_131 _) rfl rfl rfl b_g Nat.zero_lt_one) ?_
    rintro w2 ⟨b_g2, hg, -⟩
    have ho := own_apart ho b_g (by decide) hg
    have b_o := b_o.by hg (fun e => blk_ne b_o b_g (by decide) (Option.some.inj e))
    have hcw := hcw.grown hg hcw.size (by rintro _ ⟨⟩; omega)
    have b_g : Blk w2 A_g 131 [.func (.func 110) #[picV t] #[]] := b_g2
    clear b_g2 hg
    refine AwC.back ?_
    refine AwC.done (by assumption) (by kernel_rfl) (Pg.low ?_)
    exact Pg.midS ((ov, A_o, A_g)) ⟨rfl, rfl, rfl, rfl, rfl, rfl, trivial⟩ (⟨hcw, ho, l_o, b_o, l_g, b_g⟩)
    have zc := hcw.size
    refine Lw.newA it_131 rfl ?_
    rintro A_g w eA_g b_g hn -
    have l_g : B1 ≤ A_g := by omega
    clear zc
    replace hcw := hcw.bs hn
    replace b_o := b_o.bs hn
    clear hn
    refine AwC.back ?_
    refine AwC.two (by assumption) (i := 2) (j := 4) (by kernel_rfl) rfl rfl ?_ ?_
    refine Lw.valW (Xw.make (l := 0) (c := M) st_27 it_21 rfl rfl rfl (Nat.zero_le _) (by omega) (by omega)) rfl ?_
    rintro ov w ⟨ho, -, hn, -⟩
    have ho := own_mono (B' := B1) ho (Nat.le_trans (Nat.le_of_eq hB1) hcw.size)
    replace hcw := hcw.bs hn
    replace b_o := b_o.bs hn
    replace b_g := b_g.bs hn
    clear hn
    refine AwC.back ?_
    refine AwC.only (by assumption) (i := 4) (by kernel_rfl) rfl ?_
    refine Lw.callF rfl rfl (pof_c t _ (h_t.bs hcw) (by omega)) ?_
    rintro _ w ⟨rfl, hn⟩
    replace hcw := hcw.bs hn
    replace b_o := b_o.bs hn
    replace b_g := b_g.bs hn
    replace ho := ho.bs hn
    clear hn
    refine AwC.back ?_
    refine AwC.take (i := 5) (NoP.lift NoP.midG) rfl (by kernel_rfl) (by kernel_rfl) (by kernel_rfl) (fun w1 hc => Ex.mkFn (vs := [picV t]) (us := []) rfl rfl) rfl ?_
    refine AwC.only (by assumption) (i := 8) (by kernel_rfl) rfl ?_
    refine Lw.unit (Xu.stB (u := ov) (sz_27 _) rfl rfl (own_sl ho).one' b_o Nat.zero_lt_one) ?_
    rintro w2 ⟨b_o2, hg, -⟩
    have ho := own_apart ho b_o (by decide) hg
    try replace b_g := b_g.by hg (fun e => blk_ne b_g b_o (by decide) (Option.some.inj e))
    have hcw := hcw.grown hg hcw.size (by rintro _ ⟨⟩; omega)
    have b_o : Blk w2 A_o 27 [ov] := b_o2
    clear b_o2 hg
    refine AwC.back ?_
    refine AwC.only (by assumption) (i := 9) (by kernel_rfl) rfl ?_
    refine Lw.unit (Xu.stB (u := .func (.func 110) #[picV t] #[]) (sz_131 _) rfl rfl rfl b_g Nat.zero_lt_one) ?_
    rintro w2 ⟨b_g2, hg, -⟩
    have ho := own_apart ho b_g (by decide) hg
    have b_o := b_o.by hg (fun e => blk_ne b_o b_g (by decide) (Option.some.inj e))
    have hcw := hcw.grown hg hcw.size (by rintro _ ⟨⟩; omega)
    have b_g : Blk w2 A_g 131 [.func (.func 110) #[picV t] #[]] := b_g2
    clear b_g2 hg
    refine AwC.back ?_
    refine AwC.done (by assumption) (by kernel_rfl) (Pg.low ?_)
    exact Pg.midS ((ov, A_o, A_g)) ⟨rfl, rfl, rfl, rfl, rfl, rfl, trivial⟩ (⟨hcw, ho, l_o, b_o, l_g, b_g⟩)
    refine Lw.callF rfl rfl (pof_c t _ (h_t.bs hcw) (by omega)) ?_
    rintro _ w ⟨rfl, hn⟩
    replace hcw := hcw.bs hn
    replace b_o := b_o.bs hn
    replace b_g := b_g.bs hn
    clear hn
    refine AwC.back ?_
    refine AwC.take (i := 5) (NoP.lift NoP.midG) rfl (by kernel_rfl) (by kernel_rfl) (by kernel_rfl) (fun w1 hc => Ex.mkFn (vs := [picV t]) (us := []) rfl rfl) rfl ?_
    refine AwC.only (by assumption) (i := 2) (by kernel_rfl) rfl ?_
    refine Lw.valW (Xw.make (l := 0) (c := M) st_27 it_21 rfl rfl rfl (Nat.zero_le _) (by omega) (by omega)) rfl ?_
    rintro ov w ⟨ho, -, hn, -⟩
    have ho := own_mono (B' := B1) ho (Nat.le_trans (Nat.le_of_eq hB1) hcw.size)
    replace hcw := hcw.bs hn
    replace b_o := b_o.bs hn
    replace b_g := b_g.bs hn
    clear hn
    refine AwC.back ?_
    refine AwC.only (by assumption) (i := 8) (by kernel_rfl) rfl ?_
    refine Lw.unit (Xu.stB (u := ov) (sz_27 _) rfl rfl (own_sl ho).one' b_o Nat.zero_lt_one) ?_
    rintro w2 ⟨b_o2, hg, -⟩
    have ho := own_apart ho b_o (by decide) hg
    try replace b_g := b_g.by hg (fun e => blk_ne b_g b_o (by decide) (Option.some.inj e))
    have hcw := hcw.grown hg hcw.size (by rintro _ ⟨⟩; omega)
    have b_o : Blk w2 A_o 27 [ov] := b_o2
    clear b_o2 hg
    refine AwC.back ?_
    refine AwC.only (by assumption) (i := 9) (by kernel_rfl) rfl ?_
    refine Lw.unit (Xu.stB (u := .func (.func 110) #[picV t] #[]) (sz_131 _) rfl rfl rfl b_g Nat.zero_lt_one) ?_
    rintro w2 ⟨b_g2, hg, -⟩
    have ho := own_apart ho b_g (by decide) hg
    have b_o := b_o.by hg (fun e => blk_ne b_o b_g (by decide) (Option.some.inj e))
    have hcw := hcw.grown hg hcw.size (by rintro _ ⟨⟩; omega)
    have b_g : Blk w2 A_g 131 [.func (.func 110) #[picV t] #[]] := b_g2
    clear b_g2 hg
    refine AwC.back ?_
    refine AwC.done (by assumption) (by kernel_rfl) (Pg.low ?_)
    exact Pg.midS ((ov, A_o, A_g)) ⟨rfl, rfl, rfl, rfl, rfl, rfl, trivial⟩ (⟨hcw, ho, l_o, b_o, l_g, b_g⟩)
    have zc := hcw.size
    refine Lw.newA it_131 rfl ?_
    rintro A_g w eA_g b_g hn -
    have l_g : B1 ≤ A_g := by omega
    clear zc
    replace hcw := hcw.bs hn
    clear hn
    refine AwC.back ?_
    refine AwC.three (by assumption) (i0 := 2) (i1 := 4) (i2 := 6) (by kernel_rfl) rfl rfl rfl ?_ ?_ ?_
    refine Lw.valW (Xw.make (l := 0) (c := M) st_27 it_21 rfl rfl rfl (Nat.zero_le _) (by omega) (by omega)) rfl ?_
    rintro ov w ⟨ho, -, hn, -⟩
    have ho := own_mono (B' := B1) ho (Nat.le_trans (Nat.le_of_eq hB1) hcw.size)
    replace hcw := hcw.bs hn
    replace b_g := b_g.bs hn
    clear hn
    refine AwC.back ?_
    refine AwC.two (by assumption) (i := 4) (j := 6) (by kernel_rfl) rfl rfl ?_ ?_
    refine Lw.callF rfl rfl (pof_c t _ (h_t.bs hcw) (by omega)) ?_
    rintro _ w ⟨rfl, hn⟩
    replace hcw := hcw.bs hn
    replace b_g := b_g.bs hn
    replace ho := ho.bs hn
    clear hn
    refine AwC.back ?_
    refine AwC.take (i := 5) (NoP.lift NoP.midG) rfl (by kernel_rfl) (by kernel_rfl) (by kernel_rfl) (fun w1 hc => Ex.mkFn (vs := [picV t]) (us := []) rfl rfl) rfl ?_
    refine AwC.only (by assumption) (i := 6) (by kernel_rfl) rfl ?_
    have zc := hcw.size
    refine Lw.newA it_27 rfl ?_
    rintro A_o w eA_o b_o hn -
    have l_o : B1 ≤ A_o := by omega
    clear zc
    replace hcw := hcw.bs hn
    replace b_g := b_g.bs hn
    replace ho := ho.bs hn
    clear hn
    refine AwC.back ?_
    refine AwC.only (by assumption) (i := 8) (by kernel_rfl) rfl ?_
    refine Lw.unit (Xu.stB (u := ov) (sz_27 _) rfl rfl (own_sl ho).one' b_o Nat.zero_lt_one) ?_
    rintro w2 ⟨b_o2, hg, -⟩
    have ho := own_apart ho b_o (by decide) hg
    try replace b_g := b_g.by hg (fun e => blk_ne b_g b_o (by decide) (Option.some.inj e))
    have hcw := hcw.grown hg hcw.size (by rintro _ ⟨⟩; omega)
    have b_o : Blk w2 A_o 27 [ov] := b_o2
    clear b_o2 hg
    refine AwC.back ?_
    refine AwC.only (by assumption) (i := 9) (by kernel_rfl) rfl ?_
    refine Lw.unit (Xu.stB (u := .func (.func 110) #[picV t] #[]) (sz_131 _) rfl rfl rfl b_g Nat.zero_lt_one) ?_
    rintro w2 ⟨b_g2, hg, -⟩
    have ho := own_apart ho b_g (by decide) hg
    have b_o := b_o.by hg (fun e => blk_ne b_o b_g (by decide) (Option.some.inj e))
    have hcw := hcw.grown hg hcw.size (by rintro _ ⟨⟩; omega)
    have b_g : Blk w2 A_g 131 [.func (.func 110) #[picV t] #[]] := b_g2
    clear b_g2 hg
    refine AwC.back ?_
    refine AwC.done (by assumption) (by kernel_rfl) (Pg.low ?_)
    exact Pg.midS ((ov, A_o, A_g)) ⟨rfl, rfl, rfl, rfl, rfl, rfl, trivial⟩ (⟨hcw, ho, l_o, b_o, l_g, b_g⟩)
    have zc := hcw.size
    refine Lw.newA it_27 rfl ?_
    rintro A_o w eA_o b_o hn -
    have l_o : B1 ≤ A_o := by omega
    clear zc
    replace hcw := hcw.bs hn
    replace b_g := b_g.bs hn
    replace ho := ho.bs hn
    clear hn
    refine AwC.back ?_
    refine AwC.only (by assumption) (i := 4) (by kernel_rfl) rfl ?_
    refine Lw.callF rfl rfl (pof_c t _ (h_t.bs hcw) (by omega)) ?_
    rintro _ w ⟨rfl, hn⟩
    replace hcw := hcw.bs hn
    replace b_g := b_g.bs hn
    replace ho := ho.bs hn
    replace b_o := b_o.bs hn
    clear hn
    refine AwC.back ?_
    refine AwC.take (i := 5) (NoP.lift NoP.midG) rfl (by kernel_rfl) (by kernel_rfl) (by kernel_rfl) (fun w1 hc => Ex.mkFn (vs := [picV t]) (us := []) rfl rfl) rfl ?_
    refine AwC.only (by assumption) (i := 8) (by kernel_rfl) rfl ?_
    refine Lw.unit (Xu.stB (u := ov) (sz_27 _) rfl rfl (own_sl ho).one' b_o Nat.zero_lt_one) ?_
    rintro w2 ⟨b_o2, hg, -⟩
    have ho := own_apart ho b_o (by decide) hg
    try replace b_g := b_g.by hg (fun e => blk_ne b_g b_o (by decide) (Option.some.inj e))
    have hcw := hcw.grown hg hcw.size (by rintro _ ⟨⟩; omega)
    have b_o : Blk w2 A_o 27 [ov] := b_o2
    clear b_o2 hg
    refine AwC.back ?_
    refine AwC.only (by assumption) (i := 9) (by kernel_rfl) rfl ?_
    refine Lw.unit (Xu.stB (u := .func (.func 110) #[picV t] #[]) (sz_131 _) rfl rfl rfl b_g Nat.zero_lt_one) ?_
    rintro w2 ⟨b_g2, hg, -⟩
    have ho := own_apart ho b_g (by decide) hg
    have b_o := b_o.by hg (fun e => blk_ne b_o b_g (by decide) (Option.some.inj e))
    have hcw := hcw.grown hg hcw.size (by rintro _ ⟨⟩; omega)
    have b_g : Blk w2 A_g 131 [.func (.func 110) #[picV t] #[]] := b_g2
    clear b_g2 hg
    refine AwC.back ?_
    refine AwC.done (by assumption) (by kernel_rfl) (Pg.low ?_)
    exact Pg.midS ((ov, A_o, A_g)) ⟨rfl, rfl, rfl, rfl, rfl, rfl, trivial⟩ (⟨hcw, ho, l_o, b_o, l_g, b_g⟩)
    refine Lw.callF rfl rfl (pof_c t _ (h_t.bs hcw) (by omega)) ?_
    rintro _ w ⟨rfl, hn⟩
    replace hcw := hcw.bs hn
    replace b_g := b_g.bs hn
    clear hn
    refine AwC.back ?_
    refine AwC.take (i := 5) (NoP.lift NoP.midG) rfl (by kernel_rfl) (by kernel_rfl) (by kernel_rfl) (fun w1 hc => Ex.mkFn (vs := [picV t]) (us := []) rfl rfl) rfl ?_
    refine AwC.two (by assumption) (i := 2) (j := 6) (by kernel_rfl) rfl rfl ?_ ?_
    refine Lw.valW (Xw.make (l := 0) (c := M) st_27 it_21 rfl rfl rfl (Nat.zero_le _) (by omega) (by omega)) rfl ?_
    rintro ov w ⟨ho, -, hn, -⟩
    have ho := own_mono (B' := B1) ho (Nat.le_trans (Nat.le_of_eq hB1) hcw.size)
    replace hcw := hcw.bs hn
    replace b_g := b_g.bs hn
    clear hn
    refine AwC.back ?_
    refine AwC.only (by assumption) (i := 6) (by kernel_rfl) rfl ?_
    have zc := hcw.size
    refine Lw.newA it_27 rfl ?_
    rintro A_o w eA_o b_o hn -
    have l_o : B1 ≤ A_o := by omega
    clear zc
    replace hcw := hcw.bs hn
    replace b_g := b_g.bs hn
    replace ho := ho.bs hn
    clear hn
    refine AwC.back ?_
    refine AwC.only (by assumption) (i := 8) (by kernel_rfl) rfl ?_
    refine Lw.unit (Xu.stB (u := ov) (sz_27 _) rfl rfl (own_sl ho).one' b_o Nat.zero_lt_one) ?_
    rintro w2 ⟨b_o2, hg, -⟩
    have ho := own_apart ho b_o (by decide) hg
    try replace b_g := b_g.by hg (fun e => blk_ne b_g b_o (by decide) (Option.some.inj e))
    have hcw := hcw.grown hg hcw.size (by rintro _ ⟨⟩; omega)
    have b_o : Blk w2 A_o 27 [ov] := b_o2
    clear b_o2 hg
    refine AwC.back ?_
    refine AwC.only (by assumption) (i := 9) (by kernel_rfl) rfl ?_
    refine Lw.unit (Xu.stB (u := .func (.func 110) #[picV t] #[]) (sz_131 _) rfl rfl rfl b_g Nat.zero_lt_one) ?_
    rintro w2 ⟨b_g2, hg, -⟩
    have ho := own_apart ho b_g (by decide) hg
    have b_o := b_o.by hg (fun e => blk_ne b_o b_g (by decide) (Option.some.inj e))
    have hcw := hcw.grown hg hcw.size (by rintro _ ⟨⟩; omega)
    have b_g : Blk w2 A_g 131 [.func (.func 110) #[picV t] #[]] := b_g2
    clear b_g2 hg
    refine AwC.back ?_
    refine AwC.done (by assumption) (by kernel_rfl) (Pg.low ?_)
    exact Pg.midS ((ov, A_o, A_g)) ⟨rfl, rfl, rfl, rfl, rfl, rfl, trivial⟩ (⟨hcw, ho, l_o, b_o, l_g, b_g⟩)
    have zc := hcw.size
    refine Lw.newA it_27 rfl ?_
    rintro A_o w eA_o b_o hn -
    have l_o : B1 ≤ A_o := by omega
    clear zc
    replace hcw := hcw.bs hn
    replace b_g := b_g.bs hn
    clear hn
    refine AwC.back ?_
    refine AwC.only (by assumption) (i := 2) (by kernel_rfl) rfl ?_
    refine Lw.valW (Xw.make (l := 0) (c := M) st_27 it_21 rfl rfl rfl (Nat.zero_le _) (by omega) (by omega)) rfl ?_
    rintro ov w ⟨ho, -, hn, -⟩
    have ho := own_mono (B' := B1) ho (Nat.le_trans (Nat.le_of_eq hB1) hcw.size)
    replace hcw := hcw.bs hn
    replace b_g := b_g.bs hn
    replace b_o := b_o.bs hn
    clear hn
    refine AwC.back ?_
    refine AwC.only (by assumption) (i := 8) (by kernel_rfl) rfl ?_
    refine Lw.unit (Xu.stB (u := ov) (sz_27 _) rfl rfl (own_sl ho).one' b_o Nat.zero_lt_one) ?_
    rintro w2 ⟨b_o2, hg, -⟩
    have ho := own_apart ho b_o (by decide) hg
    try replace b_g := b_g.by hg (fun e => blk_ne b_g b_o (by decide) (Option.some.inj e))
    have hcw := hcw.grown hg hcw.size (by rintro _ ⟨⟩; omega)
    have b_o : Blk w2 A_o 27 [ov] := b_o2
    clear b_o2 hg
    refine AwC.back ?_
    refine AwC.only (by assumption) (i := 9) (by kernel_rfl) rfl ?_
    refine Lw.unit (Xu.stB (u := .func (.func 110) #[picV t] #[]) (sz_131 _) rfl rfl rfl b_g Nat.zero_lt_one) ?_
    rintro w2 ⟨b_g2, hg, -⟩
    have ho := own_apart ho b_g (by decide) hg
    have b_o := b_o.by hg (fun e => blk_ne b_o b_g (by decide) (Option.some.inj e))
    have hcw := hcw.grown hg hcw.size (by rintro _ ⟨⟩; omega)
    have b_g : Blk w2 A_g 131 [.func (.func 110) #[picV t] #[]] := b_g2
    clear b_g2 hg
    refine AwC.back ?_
    refine AwC.done (by assumption) (by kernel_rfl) (Pg.low ?_)
    exact Pg.midS ((ov, A_o, A_g)) ⟨rfl, rfl, rfl, rfl, rfl, rfl, trivial⟩ (⟨hcw, ho, l_o, b_o, l_g, b_g⟩)
    have zc := hcw.size
    refine Lw.newA it_27 rfl ?_
    rintro A_o w eA_o b_o hn -
    have l_o : B1 ≤ A_o := by omega
    clear zc
    replace hcw := hcw.bs hn
    replace b_g := b_g.bs hn
    clear hn
    refine AwC.back ?_
    refine AwC.two (by assumption) (i := 2) (j := 4) (by kernel_rfl) rfl rfl ?_ ?_
    refine Lw.valW (Xw.make (l := 0) (c := M) st_27 it_21 rfl rfl rfl (Nat.zero_le _) (by omega) (by omega)) rfl ?_
    rintro ov w ⟨ho, -, hn, -⟩
    have ho := own_mono (B' := B1) ho (Nat.le_trans (Nat.le_of_eq hB1) hcw.size)
    replace hcw := hcw.bs hn
    replace b_g := b_g.bs hn
    replace b_o := b_o.bs hn
    clear hn
    refine AwC.back ?_
    refine AwC.only (by assumption) (i := 4) (by kernel_rfl) rfl ?_
    refine Lw.callF rfl rfl (pof_c t _ (h_t.bs hcw) (by omega)) ?_
    rintro _ w ⟨rfl, hn⟩
    replace hcw := hcw.bs hn
    replace b_g := b_g.bs hn
    replace b_o := b_o.bs hn
    replace ho := ho.bs hn
    clear hn
    refine AwC.back ?_
    refine AwC.take (i := 5) (NoP.lift NoP.midG) rfl (by kernel_rfl) (by kernel_rfl) (by kernel_rfl) (fun w1 hc => Ex.mkFn (vs := [picV t]) (us := []) rfl rfl) rfl ?_
    refine AwC.only (by assumption) (i := 8) (by kernel_rfl) rfl ?_
    refine Lw.unit (Xu.stB (u := ov) (sz_27 _) rfl rfl (own_sl ho).one' b_o Nat.zero_lt_one) ?_
    rintro w2 ⟨b_o2, hg, -⟩
    have ho := own_apart ho b_o (by decide) hg
    try replace b_g := b_g.by hg (fun e => blk_ne b_g b_o (by decide) (Option.some.inj e))
    have hcw := hcw.grown hg hcw.size (by rintro _ ⟨⟩; omega)
    have b_o : Blk w2 A_o 27 [ov] := b_o2
    clear b_o2 hg
    refine AwC.back ?_
    refine AwC.only (by assumption) (i := 9) (by kernel_rfl) rfl ?_
    refine Lw.unit (Xu.stB (u := .func (.func 110) #[picV t] #[]) (sz_131 _) rfl rfl rfl b_g Nat.zero_lt_one) ?_
    rintro w2 ⟨b_g2, hg, -⟩
    have ho := own_apart ho b_g (by decide) hg
    have b_o := b_o.by hg (fun e => blk_ne b_o b_g (by decide) (Option.some.inj e))
    have hcw := hcw.grown hg hcw.size (by rintro _ ⟨⟩; omega)
    have b_g : Blk w2 A_g 131 [.func (.func 110) #[picV t] #[]] := b_g2
    clear b_g2 hg
    refine AwC.back ?_
    refine AwC.done (by assumption) (by kernel_rfl) (Pg.low ?_)
    exact Pg.midS ((ov, A_o, A_g)) ⟨rfl, rfl, rfl, rfl, rfl, rfl, trivial⟩ (⟨hcw, ho, l_o, b_o, l_g, b_g⟩)
    refine Lw.callF rfl rfl (pof_c t _ (h_t.bs hcw) (by omega)) ?_
    rintro _ w ⟨rfl, hn⟩
    replace hcw := hcw.bs hn
    replace b_g := b_g.bs hn
    replace b_o := b_o.bs hn
    clear hn
    refine AwC.back ?_
    refine AwC.take (i := 5) (NoP.lift NoP.midG) rfl (by kernel_rfl) (by kernel_rfl) (by kernel_rfl) (fun w1 hc => Ex.mkFn (vs := [picV t]) (us := []) rfl rfl) rfl ?_
    refine AwC.only (by assumption) (i := 2) (by kernel_rfl) rfl ?_
    refine Lw.valW (Xw.make (l := 0) (c := M) st_27 it_21 rfl rfl rfl (Nat.zero_le _) (by omega) (by omega)) rfl ?_
    rintro ov w ⟨ho, -, hn, -⟩
    have ho := own_mono (B' := B1) ho (Nat.le_trans (Nat.le_of_eq hB1) hcw.size)
    replace hcw := hcw.bs hn
    replace b_g := b_g.bs hn
    replace b_o := b_o.bs hn
    clear hn
    refine AwC.back ?_
    refine AwC.only (by assumption) (i := 8) (by kernel_rfl) rfl ?_
    refine Lw.unit (Xu.stB (u := ov) (sz_27 _) rfl rfl (own_sl ho).one' b_o Nat.zero_lt_one) ?_
    rintro w2 ⟨b_o2, hg, -⟩
    have ho := own_apart ho b_o (by decide) hg
    try replace b_g := b_g.by hg (fun e => blk_ne b_g b_o (by decide) (Option.some.inj e))
    have hcw := hcw.grown hg hcw.size (by rintro _ ⟨⟩; omega)
    have b_o : Blk w2 A_o 27 [ov] := b_o2
    clear b_o2 hg
    refine AwC.back ?_
    refine AwC.only (by assumption) (i := 9) (by kernel_rfl) rfl ?_
    refine Lw.unit (Xu.stB (u := .func (.func 110) #[picV t] #[]) (sz_131 _) rfl rfl rfl b_g Nat.zero_lt_one) ?_
    rintro w2 ⟨b_g2, hg, -⟩
    have ho := own_apart ho b_g (by decide) hg
    have b_o := b_o.by hg (fun e => blk_ne b_o b_g (by decide) (Option.some.inj e))
    have hcw := hcw.grown hg hcw.size (by rintro _ ⟨⟩; omega)
    have b_g : Blk w2 A_g 131 [.func (.func 110) #[picV t] #[]] := b_g2
    clear b_g2 hg
    refine AwC.back ?_
    refine AwC.done (by assumption) (by kernel_rfl) (Pg.low ?_)
    exact Pg.midS ((ov, A_o, A_g)) ⟨rfl, rfl, rfl, rfl, rfl, rfl, trivial⟩ (⟨hcw, ho, l_o, b_o, l_g, b_g⟩)
    have zc := hcw.size
    refine Lw.newA it_27 rfl ?_
    rintro A_o w eA_o b_o hn -
    have l_o : B1 ≤ A_o := by omega
    clear zc
    replace hcw := hcw.bs hn
    clear hn
    refine AwC.back ?_
    refine AwC.two (by assumption) (i := 1) (j := 7) (by kernel_rfl) rfl rfl ?_ ?_
    refine Lw.callF rfl rfl (size_c x S _ ((own_slT hx).bs hcw)) ?_
    rintro _ w ⟨rfl, hn⟩
    replace hcw := hcw.bs hn
    replace b_o := b_o.bs hn
    clear hn
    refine Lw.know 29 (v' := .int .i64 (M : Int)) rfl (congrArg (Value.int .i64) (by omega)) ?_
    refine AwC.back ?_
    refine AwC.three (by assumption) (i0 := 2) (i1 := 4) (i2 := 7) (by kernel_rfl) rfl rfl rfl ?_ ?_ ?_
    refine Lw.valW (Xw.make (l := 0) (c := M) st_27 it_21 rfl rfl rfl (Nat.zero_le _) (by omega) (by omega)) rfl ?_
    rintro ov w ⟨ho, -, hn, -⟩
    have ho := own_mono (B' := B1) ho (Nat.le_trans (Nat.le_of_eq hB1) hcw.size)
    replace hcw := hcw.bs hn
    replace b_o := b_o.bs hn
    clear hn
    refine AwC.back ?_
    refine AwC.two (by assumption) (i := 4) (j := 7) (by kernel_rfl) rfl rfl ?_ ?_
    refine Lw.callF rfl rfl (pof_c t _ (h_t.bs hcw) (by omega)) ?_
    rintro _ w ⟨rfl, hn⟩
    replace hcw := hcw.bs hn
    replace b_o := b_o.bs hn
    replace ho := ho.bs hn
    clear hn
    refine AwC.back ?_
    refine AwC.take (i := 5) (NoP.lift NoP.midG) rfl (by kernel_rfl) (by kernel_rfl) (by kernel_rfl) (fun w1 hc => Ex.mkFn (vs := [picV t]) (us := []) rfl rfl) rfl ?_
    refine AwC.only (by assumption) (i := 7) (by kernel_rfl) rfl ?_
    have zc := hcw.size
    refine Lw.newA it_131 rfl ?_
    rintro A_g w eA_g b_g hn -
    have l_g : B1 ≤ A_g := by omega
    clear zc
    replace hcw := hcw.bs hn
    replace b_o := b_o.bs hn
    replace ho := ho.bs hn
    clear hn
    refine AwC.back ?_
    refine AwC.only (by assumption) (i := 8) (by kernel_rfl) rfl ?_
    refine Lw.unit (Xu.stB (u := ov) (sz_27 _) rfl rfl (own_sl ho).one' b_o Nat.zero_lt_one) ?_
    rintro w2 ⟨b_o2, hg, -⟩
    have ho := own_apart ho b_o (by decide) hg
    try replace b_g := b_g.by hg (fun e => blk_ne b_g b_o (by decide) (Option.some.inj e))
    have hcw := hcw.grown hg hcw.size (by rintro _ ⟨⟩; omega)
    have b_o : Blk w2 A_o 27 [ov] := b_o2
    clear b_o2 hg
    refine AwC.back ?_
    refine AwC.only (by assumption) (i := 9) (by kernel_rfl) rfl ?_
    refine Lw.unit (Xu.stB (u := .func (.func 110) #[picV t] #[]) (sz_131 _) rfl rfl rfl b_g Nat.zero_lt_one) ?_
    rintro w2 ⟨b_g2, hg, -⟩
    have ho := own_apart ho b_g (by decide) hg
    have b_o := b_o.by hg (fun e => blk_ne b_o b_g (by decide) (Option.some.inj e))
    have hcw := hcw.grown hg hcw.size (by rintro _ ⟨⟩; omega)
    have b_g : Blk w2 A_g 131 [.func (.func 110) #[picV t] #[]] := b_g2
    clear b_g2 hg
    refine AwC.back ?_
    refine AwC.done (by assumption) (by kernel_rfl) (Pg.low ?_)
    exact Pg.midS ((ov, A_o, A_g)) ⟨rfl, rfl, rfl, rfl, rfl, rfl, trivial⟩ (⟨hcw, ho, l_o, b_o, l_g, b_g⟩)
    have zc := hcw.size
    refine Lw.newA it_131 rfl ?_
    rintro A_g w eA_g b_g hn -
    have l_g : B1 ≤ A_g := by omega
    clear zc
    replace hcw := hcw.bs hn
    replace b_o := b_o.bs hn
    replace ho := ho.bs hn
    clear hn
    refine AwC.back ?_
    refine AwC.only (by assumption) (i := 4) (by kernel_rfl) rfl ?_
    refine Lw.callF rfl rfl (pof_c t _ (h_t.bs hcw) (by omega)) ?_
    rintro _ w ⟨rfl, hn⟩
    replace hcw := hcw.bs hn
    replace b_o := b_o.bs hn
    replace ho := ho.bs hn
    replace b_g := b_g.bs hn
    clear hn
    refine AwC.back ?_
    refine AwC.take (i := 5) (NoP.lift NoP.midG) rfl (by kernel_rfl) (by kernel_rfl) (by kernel_rfl) (fun w1 hc => Ex.mkFn (vs := [picV t]) (us := []) rfl rfl) rfl ?_
    refine AwC.only (by assumption) (i := 8) (by kernel_rfl) rfl ?_
    refine Lw.unit (Xu.stB (u := ov) (sz_27 _) rfl rfl (own_sl ho).one' b_o Nat.zero_lt_one) ?_
    rintro w2 ⟨b_o2, hg, -⟩
    have ho := own_apart ho b_o (by decide) hg
    try replace b_g := b_g.by hg (fun e => blk_ne b_g b_o (by decide) (Option.some.inj e))
    have hcw := hcw.grown hg hcw.size (by rintro _ ⟨⟩; omega)
    have b_o : Blk w2 A_o 27 [ov] := b_o2
    clear b_o2 hg
    refine AwC.back ?_
    refine AwC.only (by assumption) (i := 9) (by kernel_rfl) rfl ?_
    refine Lw.unit (Xu.stB (u := .func (.func 110) #[picV t] #[]) (sz_131 _) rfl rfl rfl b_g Nat.zero_lt_one) ?_
    rintro w2 ⟨b_g2, hg, -⟩
    have ho := own_apart ho b_g (by decide) hg
    have b_o := b_o.by hg (fun e => blk_ne b_o b_g (by decide) (Option.some.inj e))
    have hcw := hcw.grown hg hcw.size (by rintro _ ⟨⟩; omega)
    have b_g : Blk w2 A_g 131 [.func (.func 110) #[picV t] #[]] := b_g2
    clear b_g2 hg
    refine AwC.back ?_
    refine AwC.done (by assumption) (by kernel_rfl) (Pg.low ?_)
    exact Pg.midS ((ov, A_o, A_g)) ⟨rfl, rfl, rfl, rfl, rfl, rfl, trivial⟩ (⟨hcw, ho, l_o, b_o, l_g, b_g⟩)
    refine Lw.callF rfl rfl (pof_c t _ (h_t.bs hcw) (by omega)) ?_
    rintro _ w ⟨rfl, hn⟩
    replace hcw := hcw.bs hn
    replace b_o := b_o.bs hn
    clear hn
    refine AwC.back ?_
    refine AwC.take (i := 5) (NoP.lift NoP.midG) rfl (by kernel_rfl) (by kernel_rfl) (by kernel_rfl) (fun w1 hc => Ex.mkFn (vs := [picV t]) (us := []) rfl rfl) rfl ?_
    refine AwC.two (by assumption) (i := 2) (j := 7) (by kernel_rfl) rfl rfl ?_ ?_
    refine Lw.valW (Xw.make (l := 0) (c := M) st_27 it_21 rfl rfl rfl (Nat.zero_le _) (by omega) (by omega)) rfl ?_
    rintro ov w ⟨ho, -, hn, -⟩
    have ho := own_mono (B' := B1) ho (Nat.le_trans (Nat.le_of_eq hB1) hcw.size)
    replace hcw := hcw.bs hn
    replace b_o := b_o.bs hn
    clear hn
    refine AwC.back ?_
    refine AwC.only (by assumption) (i := 7) (by kernel_rfl) rfl ?_
    have zc := hcw.size
    refine Lw.newA it_131 rfl ?_
    rintro A_g w eA_g b_g hn -
    have l_g : B1 ≤ A_g := by omega
    clear zc
    replace hcw := hcw.bs hn
    replace b_o := b_o.bs hn
    replace ho := ho.bs hn
    clear hn
    refine AwC.back ?_
    refine AwC.only (by assumption) (i := 8) (by kernel_rfl) rfl ?_
    refine Lw.unit (Xu.stB (u := ov) (sz_27 _) rfl rfl (own_sl ho).one' b_o Nat.zero_lt_one) ?_
    rintro w2 ⟨b_o2, hg, -⟩
    have ho := own_apart ho b_o (by decide) hg
    try replace b_g := b_g.by hg (fun e => blk_ne b_g b_o (by decide) (Option.some.inj e))
    have hcw := hcw.grown hg hcw.size (by rintro _ ⟨⟩; omega)
    have b_o : Blk w2 A_o 27 [ov] := b_o2
    clear b_o2 hg
    refine AwC.back ?_
    refine AwC.only (by assumption) (i := 9) (by kernel_rfl) rfl ?_
    refine Lw.unit (Xu.stB (u := .func (.func 110) #[picV t] #[]) (sz_131 _) rfl rfl rfl b_g Nat.zero_lt_one) ?_
    rintro w2 ⟨b_g2, hg, -⟩
    have ho := own_apart ho b_g (by decide) hg
    have b_o := b_o.by hg (fun e => blk_ne b_o b_g (by decide) (Option.some.inj e))
    have hcw := hcw.grown hg hcw.size (by rintro _ ⟨⟩; omega)
    have b_g : Blk w2 A_g 131 [.func (.func 110) #[picV t] #[]] := b_g2
    clear b_g2 hg
    refine AwC.back ?_
    refine AwC.done (by assumption) (by kernel_rfl) (Pg.low ?_)
    exact Pg.midS ((ov, A_o, A_g)) ⟨rfl, rfl, rfl, rfl, rfl, rfl, trivial⟩ (⟨hcw, ho, l_o, b_o, l_g, b_g⟩)
    have zc := hcw.size
    refine Lw.newA it_131 rfl ?_
    rintro A_g w eA_g b_g hn -
    have l_g : B1 ≤ A_g := by omega
    clear zc
    replace hcw := hcw.bs hn
    replace b_o := b_o.bs hn
    clear hn
    refine AwC.back ?_
    refine AwC.only (by assumption) (i := 2) (by kernel_rfl) rfl ?_
    refine Lw.valW (Xw.make (l := 0) (c := M) st_27 it_21 rfl rfl rfl (Nat.zero_le _) (by omega) (by omega)) rfl ?_
    rintro ov w ⟨ho, -, hn, -⟩
    have ho := own_mono (B' := B1) ho (Nat.le_trans (Nat.le_of_eq hB1) hcw.size)
    replace hcw := hcw.bs hn
    replace b_o := b_o.bs hn
    replace b_g := b_g.bs hn
    clear hn
    refine AwC.back ?_
    refine AwC.only (by assumption) (i := 8) (by kernel_rfl) rfl ?_
    refine Lw.unit (Xu.stB (u := ov) (sz_27 _) rfl rfl (own_sl ho).one' b_o Nat.zero_lt_one) ?_
    rintro w2 ⟨b_o2, hg, -⟩
    have ho := own_apart ho b_o (by decide) hg
    try replace b_g := b_g.by hg (fun e => blk_ne b_g b_o (by decide) (Option.some.inj e))
    have hcw := hcw.grown hg hcw.size (by rintro _ ⟨⟩; omega)
    have b_o : Blk w2 A_o 27 [ov] := b_o2
    clear b_o2 hg
    refine AwC.back ?_
    refine AwC.only (by assumption) (i := 9) (by kernel_rfl) rfl ?_
    refine Lw.unit (Xu.stB (u := .func (.func 110) #[picV t] #[]) (sz_131 _) rfl rfl rfl b_g Nat.zero_lt_one) ?_
    rintro w2 ⟨b_g2, hg, -⟩
    have ho := own_apart ho b_g (by decide) hg
    have b_o := b_o.by hg (fun e => blk_ne b_o b_g (by decide) (Option.some.inj e))
    have hcw := hcw.grown hg hcw.size (by rintro _ ⟨⟩; omega)
    have b_g : Blk w2 A_g 131 [.func (.func 110) #[picV t] #[]] := b_g2
    clear b_g2 hg
    refine AwC.back ?_
    refine AwC.done (by assumption) (by kernel_rfl) (Pg.low ?_)
    exact Pg.midS ((ov, A_o, A_g)) ⟨rfl, rfl, rfl, rfl, rfl, rfl, trivial⟩ (⟨hcw, ho, l_o, b_o, l_g, b_g⟩)
    have zc := hcw.size
    refine Lw.newA it_131 rfl ?_
    rintro A_g w eA_g b_g hn -
    have l_g : B1 ≤ A_g := by omega
    clear zc
    replace hcw := hcw.bs hn
    replace b_o := b_o.bs hn
    clear hn
    refine AwC.back ?_
    refine AwC.two (by assumption) (i := 2) (j := 4) (by kernel_rfl) rfl rfl ?_ ?_
    refine Lw.valW (Xw.make (l := 0) (c := M) st_27 it_21 rfl rfl rfl (Nat.zero_le _) (by omega) (by omega)) rfl ?_
    rintro ov w ⟨ho, -, hn, -⟩
    have ho := own_mono (B' := B1) ho (Nat.le_trans (Nat.le_of_eq hB1) hcw.size)
    replace hcw := hcw.bs hn
    replace b_o := b_o.bs hn
    replace b_g := b_g.bs hn
    clear hn
    refine AwC.back ?_
    refine AwC.only (by assumption) (i := 4) (by kernel_rfl) rfl ?_
    refine Lw.callF rfl rfl (pof_c t _ (h_t.bs hcw) (by omega)) ?_
    rintro _ w ⟨rfl, hn⟩
    replace hcw := hcw.bs hn
    replace b_o := b_o.bs hn
    replace b_g := b_g.bs hn
    replace ho := ho.bs hn
    clear hn
    refine AwC.back ?_
    refine AwC.take (i := 5) (NoP.lift NoP.midG) rfl (by kernel_rfl) (by kernel_rfl) (by kernel_rfl) (fun w1 hc => Ex.mkFn (vs := [picV t]) (us := []) rfl rfl) rfl ?_
    refine AwC.only (by assumption) (i := 8) (by kernel_rfl) rfl ?_
    refine Lw.unit (Xu.stB (u := ov) (sz_27 _) rfl rfl (own_sl ho).one' b_o Nat.zero_lt_one) ?_
    rintro w2 ⟨b_o2, hg, -⟩
    have ho := own_apart ho b_o (by decide) hg
    try replace b_g := b_g.by hg (fun e => blk_ne b_g b_o (by decide) (Option.some.inj e))
    have hcw := hcw.grown hg hcw.size (by rintro _ ⟨⟩; omega)
    have b_o : Blk w2 A_o 27 [ov] := b_o2
    clear b_o2 hg
    refine AwC.back ?_
    refine AwC.only (by assumption) (i := 9) (by kernel_rfl) rfl ?_
    refine Lw.unit (Xu.stB (u := .func (.func 110) #[picV t] #[]) (sz_131 _) rfl rfl rfl b_g Nat.zero_lt_one) ?_
    rintro w2 ⟨b_g2, hg, -⟩
    have ho := own_apart ho b_g (by decide) hg
    have b_o := b_o.by hg (fun e => blk_ne b_o b_g (by decide) (Option.some.inj e))
    have hcw := hcw.grown hg hcw.size (by rintro _ ⟨⟩; omega)
    have b_g : Blk w2 A_g 131 [.func (.func 110) #[picV t] #[]] := b_g2
    clear b_g2 hg
    refine AwC.back ?_
    refine AwC.done (by assumption) (by kernel_rfl) (Pg.low ?_)
    exact Pg.midS ((ov, A_o, A_g)) ⟨rfl, rfl, rfl, rfl, rfl, rfl, trivial⟩ (⟨hcw, ho, l_o, b_o, l_g, b_g⟩)
    refine Lw.callF rfl rfl (pof_c t _ (h_t.bs hcw) (by omega)) ?_
    rintro _ w ⟨rfl, hn⟩
    replace hcw := hcw.bs hn
    replace b_o := b_o.bs hn
    replace b_g := b_g.bs hn
    clear hn
    refine AwC.back ?_
    refine AwC.take (i := 5) (NoP.lift NoP.midG) rfl (by kernel_rfl) (by kernel_rfl) (by kernel_rfl) (fun w1 hc => Ex.mkFn (vs := [picV t]) (us := []) rfl rfl) rfl ?_
    refine AwC.only (by assumption) (i := 2) (by kernel_rfl) rfl ?_
    refine Lw.valW (Xw.make (l := 0) (c := M) st_27 it_21 rfl rfl rfl (Nat.zero_le _) (by omega) (by omega)) rfl ?_
    rintro ov w ⟨ho, -, hn, -⟩
    have ho := own_mono (B' := B1) ho (Nat.le_trans (Nat.le_of_eq hB1) hcw.size)
    replace hcw := hcw.bs hn
    replace b_o := b_o.bs hn
    replace b_g := b_g.bs hn
    clear hn
    refine AwC.back ?_
    refine AwC.only (by assumption) (i := 8) (by kernel_rfl) rfl ?_
    refine Lw.unit (Xu.stB (u := ov) (sz_27 _) rfl rfl (own_sl ho).one' b_o Nat.zero_lt_one) ?_
    rintro w2 ⟨b_o2, hg, -⟩
    have ho := own_apart ho b_o (by decide) hg
    try replace b_g := b_g.by hg (fun e => blk_ne b_g b_o (by decide) (Option.some.inj e))
    have hcw := hcw.grown hg hcw.size (by rintro _ ⟨⟩; omega)
    have b_o : Blk w2 A_o 27 [ov] := b_o2
    clear b_o2 hg
    refine AwC.back ?_
    refine AwC.only (by assumption) (i := 9) (by kernel_rfl) rfl ?_
    refine Lw.unit (Xu.stB (u := .func (.func 110) #[picV t] #[]) (sz_131 _) rfl rfl rfl b_g Nat.zero_lt_one) ?_
    rintro w2 ⟨b_g2, hg, -⟩
    have ho := own_apart ho b_g (by decide) hg
    have b_o := b_o.by hg (fun e => blk_ne b_o b_g (by decide) (Option.some.inj e))
    have hcw := hcw.grown hg hcw.size (by rintro _ ⟨⟩; omega)
    have b_g : Blk w2 A_g 131 [.func (.func 110) #[picV t] #[]] := b_g2
    clear b_g2 hg
    refine AwC.back ?_
    refine AwC.done (by assumption) (by kernel_rfl) (Pg.low ?_)
    exact Pg.midS ((ov, A_o, A_g)) ⟨rfl, rfl, rfl, rfl, rfl, rfl, trivial⟩ (⟨hcw, ho, l_o, b_o, l_g, b_g⟩)
    have zc := hcw.size
    refine Lw.newA it_131 rfl ?_
    rintro A_g w eA_g b_g hn -
    have l_g : B1 ≤ A_g := by omega
    clear zc
    replace hcw := hcw.bs hn
    replace b_o := b_o.bs hn
    clear hn
    refine AwC.back ?_
    refine AwC.only (by assumption) (i := 1) (by kernel_rfl) rfl ?_
    refine Lw.callF rfl rfl (size_c x S _ ((own_slT hx).bs hcw)) ?_
    rintro _ w ⟨rfl, hn⟩
    replace hcw := hcw.bs hn
    replace b_o := b_o.bs hn
    replace b_g := b_g.bs hn
    clear hn
    refine Lw.know 29 (v' := .int .i64 (M : Int)) rfl (congrArg (Value.int .i64) (by omega)) ?_
    refine AwC.back ?_
    refine AwC.two (by assumption) (i := 2) (j := 4) (by kernel_rfl) rfl rfl ?_ ?_
    refine Lw.valW (Xw.make (l := 0) (c := M) st_27 it_21 rfl rfl rfl (Nat.zero_le _) (by omega) (by omega)) rfl ?_
    rintro ov w ⟨ho, -, hn, -⟩
    have ho := own_mono (B' := B1) ho (Nat.le_trans (Nat.le_of_eq hB1) hcw.size)
    replace hcw := hcw.bs hn
    replace b_o := b_o.bs hn
    replace b_g := b_g.bs hn
    clear hn
    refine AwC.back ?_
    refine AwC.only (by assumption) (i := 4) (by kernel_rfl) rfl ?_
    refine Lw.callF rfl rfl (pof_c t _ (h_t.bs hcw) (by omega)) ?_
    rintro _ w ⟨rfl, hn⟩
    replace hcw := hcw.bs hn
    replace b_o := b_o.bs hn
    replace b_g := b_g.bs hn
    replace ho := ho.bs hn
    clear hn
    refine AwC.back ?_
    refine AwC.take (i := 5) (NoP.lift NoP.midG) rfl (by kernel_rfl) (by kernel_rfl) (by kernel_rfl) (fun w1 hc => Ex.mkFn (vs := [picV t]) (us := []) rfl rfl) rfl ?_
    refine AwC.only (by assumption) (i := 8) (by kernel_rfl) rfl ?_
    refine Lw.unit (Xu.stB (u := ov) (sz_27 _) rfl rfl (own_sl ho).one' b_o Nat.zero_lt_one) ?_
    rintro w2 ⟨b_o2, hg, -⟩
    have ho := own_apart ho b_o (by decide) hg
    try replace b_g := b_g.by hg (fun e => blk_ne b_g b_o (by decide) (Option.some.inj e))
    have hcw := hcw.grown hg hcw.size (by rintro _ ⟨⟩; omega)
    have b_o : Blk w2 A_o 27 [ov] := b_o2
    clear b_o2 hg
    refine AwC.back ?_
    refine AwC.only (by assumption) (i := 9) (by kernel_rfl) rfl ?_
    refine Lw.unit (Xu.stB (u := .func (.func 110) #[picV t] #[]) (sz_131 _) rfl rfl rfl b_g Nat.zero_lt_one) ?_
    rintro w2 ⟨b_g2, hg, -⟩
    have ho := own_apart ho b_g (by decide) hg
    have b_o := b_o.by hg (fun e => blk_ne b_o b_g (by decide) (Option.some.inj e))
    have hcw := hcw.grown hg hcw.size (by rintro _ ⟨⟩; omega)
    have b_g : Blk w2 A_g 131 [.func (.func 110) #[picV t] #[]] := b_g2
    clear b_g2 hg
    refine AwC.back ?_
    refine AwC.done (by assumption) (by kernel_rfl) (Pg.low ?_)
    exact Pg.midS ((ov, A_o, A_g)) ⟨rfl, rfl, rfl, rfl, rfl, rfl, trivial⟩ (⟨hcw, ho, l_o, b_o, l_g, b_g⟩)
    refine Lw.callF rfl rfl (pof_c t _ (h_t.bs hcw) (by omega)) ?_
    rintro _ w ⟨rfl, hn⟩
    replace hcw := hcw.bs hn
    replace b_o := b_o.bs hn
    replace b_g := b_g.bs hn
    clear hn
    refine AwC.back ?_
    refine AwC.take (i := 5) (NoP.lift NoP.midG) rfl (by kernel_rfl) (by kernel_rfl) (by kernel_rfl) (fun w1 hc => Ex.mkFn (vs := [picV t]) (us := []) rfl rfl) rfl ?_
    refine AwC.only (by assumption) (i := 2) (by kernel_rfl) rfl ?_
    refine Lw.valW (Xw.make (l := 0) (c := M) st_27 it_21 rfl rfl rfl (Nat.zero_le _) (by omega) (by omega)) rfl ?_
    rintro ov w ⟨ho, -, hn, -⟩
    have ho := own_mono (B' := B1) ho (Nat.le_trans (Nat.le_of_eq hB1) hcw.size)
    replace hcw := hcw.bs hn
    replace b_o := b_o.bs hn
    replace b_g := b_g.bs hn
    clear hn
    refine AwC.back ?_
    refine AwC.only (by assumption) (i := 8) (by kernel_rfl) rfl ?_
    refine Lw.unit (Xu.stB (u := ov) (sz_27 _) rfl rfl (own_sl ho).one' b_o Nat.zero_lt_one) ?_
    rintro w2 ⟨b_o2, hg, -⟩
    have ho := own_apart ho b_o (by decide) hg
    try replace b_g := b_g.by hg (fun e => blk_ne b_g b_o (by decide) (Option.some.inj e))
    have hcw := hcw.grown hg hcw.size (by rintro _ ⟨⟩; omega)
    have b_o : Blk w2 A_o 27 [ov] := b_o2
    clear b_o2 hg
    refine AwC.back ?_
    refine AwC.only (by assumption) (i := 9) (by kernel_rfl) rfl ?_
    refine Lw.unit (Xu.stB (u := .func (.func 110) #[picV t] #[]) (sz_131 _) rfl rfl rfl b_g Nat.zero_lt_one) ?_
    rintro w2 ⟨b_g2, hg, -⟩
    have ho := own_apart ho b_g (by decide) hg
    have b_o := b_o.by hg (fun e => blk_ne b_o b_g (by decide) (Option.some.inj e))
    have hcw := hcw.grown hg hcw.size (by rintro _ ⟨⟩; omega)
    have b_g : Blk w2 A_g 131 [.func (.func 110) #[picV t] #[]] := b_g2
    clear b_g2 hg
    refine AwC.back ?_
    refine AwC.done (by assumption) (by kernel_rfl) (Pg.low ?_)
    exact Pg.midS ((ov, A_o, A_g)) ⟨rfl, rfl, rfl, rfl, rfl, rfl, trivial⟩ (⟨hcw, ho, l_o, b_o, l_g, b_g⟩)
    have zc := hcw.size
    refine Lw.newA it_131 rfl ?_
    rintro A_g w eA_g b_g hn -
    have l_g : B1 ≤ A_g := by omega
    clear zc
    replace hcw := hcw.bs hn
    clear hn
    refine AwC.back ?_
    refine AwC.two (by assumption) (i := 1) (j := 6) (by kernel_rfl) rfl rfl ?_ ?_
    refine Lw.callF rfl rfl (size_c x S _ ((own_slT hx).bs hcw)) ?_
    rintro _ w ⟨rfl, hn⟩
    replace hcw := hcw.bs hn
    replace b_g := b_g.bs hn
    clear hn
    refine Lw.know 29 (v' := .int .i64 (M : Int)) rfl (congrArg (Value.int .i64) (by omega)) ?_
    refine AwC.back ?_
    refine AwC.three (by assumption) (i0 := 2) (i1 := 4) (i2 := 6) (by kernel_rfl) rfl rfl rfl ?_ ?_ ?_
    refine Lw.valW (Xw.make (l := 0) (c := M) st_27 it_21 rfl rfl rfl (Nat.zero_le _) (by omega) (by omega)) rfl ?_
    rintro ov w ⟨ho, -, hn, -⟩
    have ho := own_mono (B' := B1) ho (Nat.le_trans (Nat.le_of_eq hB1) hcw.size)
    replace hcw := hcw.bs hn
    replace b_g := b_g.bs hn
    clear hn
    refine AwC.back ?_
    refine AwC.two (by assumption) (i := 4) (j := 6) (by kernel_rfl) rfl rfl ?_ ?_
    refine Lw.callF rfl rfl (pof_c t _ (h_t.bs hcw) (by omega)) ?_
    rintro _ w ⟨rfl, hn⟩
    replace hcw := hcw.bs hn
    replace b_g := b_g.bs hn
    replace ho := ho.bs hn
    clear hn
    refine AwC.back ?_
    refine AwC.take (i := 5) (NoP.lift NoP.midG) rfl (by kernel_rfl) (by kernel_rfl) (by kernel_rfl) (fun w1 hc => Ex.mkFn (vs := [picV t]) (us := []) rfl rfl) rfl ?_
    refine AwC.only (by assumption) (i := 6) (by kernel_rfl) rfl ?_
    have zc := hcw.size
    refine Lw.newA it_27 rfl ?_
    rintro A_o w eA_o b_o hn -
    have l_o : B1 ≤ A_o := by omega
    clear zc
    replace hcw := hcw.bs hn
    replace b_g := b_g.bs hn
    replace ho := ho.bs hn
    clear hn
    refine AwC.back ?_
    refine AwC.only (by assumption) (i := 8) (by kernel_rfl) rfl ?_
    refine Lw.unit (Xu.stB (u := ov) (sz_27 _) rfl rfl (own_sl ho).one' b_o Nat.zero_lt_one) ?_
    rintro w2 ⟨b_o2, hg, -⟩
    have ho := own_apart ho b_o (by decide) hg
    try replace b_g := b_g.by hg (fun e => blk_ne b_g b_o (by decide) (Option.some.inj e))
    have hcw := hcw.grown hg hcw.size (by rintro _ ⟨⟩; omega)
    have b_o : Blk w2 A_o 27 [ov] := b_o2
    clear b_o2 hg
    refine AwC.back ?_
    refine AwC.only (by assumption) (i := 9) (by kernel_rfl) rfl ?_
    refine Lw.unit (Xu.stB (u := .func (.func 110) #[picV t] #[]) (sz_131 _) rfl rfl rfl b_g Nat.zero_lt_one) ?_
    rintro w2 ⟨b_g2, hg, -⟩
    have ho := own_apart ho b_g (by decide) hg
    have b_o := b_o.by hg (fun e => blk_ne b_o b_g (by decide) (Option.some.inj e))
    have hcw := hcw.grown hg hcw.size (by rintro _ ⟨⟩; omega)
    have b_g : Blk w2 A_g 131 [.func (.func 110) #[picV t] #[]] := b_g2
    clear b_g2 hg
    refine AwC.back ?_
    refine AwC.done (by assumption) (by kernel_rfl) (Pg.low ?_)
    exact Pg.midS ((ov, A_o, A_g)) ⟨rfl, rfl, rfl, rfl, rfl, rfl, trivial⟩ (⟨hcw, ho, l_o, b_o, l_g, b_g⟩)
    have zc := hcw.size
    refine Lw.newA it_27 rfl ?_
    rintro A_o w eA_o b_o hn -
    have l_o : B1 ≤ A_o := by omega
    clear zc
    replace hcw := hcw.bs hn
    replace b_g := b_g.bs hn
    replace ho := ho.bs hn
    clear hn
    refine AwC.back ?_
    refine AwC.only (by assumption) (i := 4) (by kernel_rfl) rfl ?_
    refine Lw.callF rfl rfl (pof_c t _ (h_t.bs hcw) (by omega)) ?_
    rintro _ w ⟨rfl, hn⟩
    replace hcw := hcw.bs hn
    replace b_g := b_g.bs hn
    replace ho := ho.bs hn
    replace b_o := b_o.bs hn
    clear hn
    refine AwC.back ?_
    refine AwC.take (i := 5) (NoP.lift NoP.midG) rfl (by kernel_rfl) (by kernel_rfl) (by kernel_rfl) (fun w1 hc => Ex.mkFn (vs := [picV t]) (us := []) rfl rfl) rfl ?_
    refine AwC.only (by assumption) (i := 8) (by kernel_rfl) rfl ?_
    refine Lw.unit (Xu.stB (u := ov) (sz_27 _) rfl rfl (own_sl ho).one' b_o Nat.zero_lt_one) ?_
    rintro w2 ⟨b_o2, hg, -⟩
    have ho := own_apart ho b_o (by decide) hg
    try replace b_g := b_g.by hg (fun e => blk_ne b_g b_o (by decide) (Option.some.inj e))
    have hcw := hcw.grown hg hcw.size (by rintro _ ⟨⟩; omega)
    have b_o : Blk w2 A_o 27 [ov] := b_o2
    clear b_o2 hg
    refine AwC.back ?_
    refine AwC.only (by assumption) (i := 9) (by kernel_rfl) rfl ?_
    refine Lw.unit (Xu.stB (u := .func (.func 110) #[picV t] #[]) (sz_131 _) rfl rfl rfl b_g Nat.zero_lt_one) ?_
    rintro w2 ⟨b_g2, hg, -⟩
    have ho := own_apart ho b_g (by decide) hg
    have b_o := b_o.by hg (fun e => blk_ne b_o b_g (by decide) (Option.some.inj e))
    have hcw := hcw.grown hg hcw.size (by rintro _ ⟨⟩; omega)
    have b_g : Blk w2 A_g 131 [.func (.func 110) #[picV t] #[]] := b_g2
    clear b_g2 hg
    refine AwC.back ?_
    refine AwC.done (by assumption) (by kernel_rfl) (Pg.low ?_)
    exact Pg.midS ((ov, A_o, A_g)) ⟨rfl, rfl, rfl, rfl, rfl, rfl, trivial⟩ (⟨hcw, ho, l_o, b_o, l_g, b_g⟩)
    refine Lw.callF rfl rfl (pof_c t _ (h_t.bs hcw) (by omega)) ?_
    rintro _ w ⟨rfl, hn⟩
    replace hcw := hcw.bs hn
    replace b_g := b_g.bs hn
    clear hn
    refine AwC.back ?_
    refine AwC.take (i := 5) (NoP.lift NoP.midG) rfl (by kernel_rfl) (by kernel_rfl) (by kernel_rfl) (fun w1 hc => Ex.mkFn (vs := [picV t]) (us := []) rfl rfl) rfl ?_
    refine AwC.two (by assumption) (i := 2) (j := 6) (by kernel_rfl) rfl rfl ?_ ?_
    refine Lw.valW (Xw.make (l := 0) (c := M) st_27 it_21 rfl rfl rfl (Nat.zero_le _) (by omega) (by omega)) rfl ?_
    rintro ov w ⟨ho, -, hn, -⟩
    have ho := own_mono (B' := B1) ho (Nat.le_trans (Nat.le_of_eq hB1) hcw.size)
    replace hcw := hcw.bs hn
    replace b_g := b_g.bs hn
    clear hn
    refine AwC.back ?_
    refine AwC.only (by assumption) (i := 6) (by kernel_rfl) rfl ?_
    have zc := hcw.size
    refine Lw.newA it_27 rfl ?_
    rintro A_o w eA_o b_o hn -
    have l_o : B1 ≤ A_o := by omega
    clear zc
    replace hcw := hcw.bs hn
    replace b_g := b_g.bs hn
    replace ho := ho.bs hn
    clear hn
    refine AwC.back ?_
    refine AwC.only (by assumption) (i := 8) (by kernel_rfl) rfl ?_
    refine Lw.unit (Xu.stB (u := ov) (sz_27 _) rfl rfl (own_sl ho).one' b_o Nat.zero_lt_one) ?_
    rintro w2 ⟨b_o2, hg, -⟩
    have ho := own_apart ho b_o (by decide) hg
    try replace b_g := b_g.by hg (fun e => blk_ne b_g b_o (by decide) (Option.some.inj e))
    have hcw := hcw.grown hg hcw.size (by rintro _ ⟨⟩; omega)
    have b_o : Blk w2 A_o 27 [ov] := b_o2
    clear b_o2 hg
    refine AwC.back ?_
    refine AwC.only (by assumption) (i := 9) (by kernel_rfl) rfl ?_
    refine Lw.unit (Xu.stB (u := .func (.func 110) #[picV t] #[]) (sz_131 _) rfl rfl rfl b_g Nat.zero_lt_one) ?_
    rintro w2 ⟨b_g2, hg, -⟩
    have ho := own_apart ho b_g (by decide) hg
    have b_o := b_o.by hg (fun e => blk_ne b_o b_g (by decide) (Option.some.inj e))
    have hcw := hcw.grown hg hcw.size (by rintro _ ⟨⟩; omega)
    have b_g : Blk w2 A_g 131 [.func (.func 110) #[picV t] #[]] := b_g2
    clear b_g2 hg
    refine AwC.back ?_
    refine AwC.done (by assumption) (by kernel_rfl) (Pg.low ?_)
    exact Pg.midS ((ov, A_o, A_g)) ⟨rfl, rfl, rfl, rfl, rfl, rfl, trivial⟩ (⟨hcw, ho, l_o, b_o, l_g, b_g⟩)
    have zc := hcw.size
    refine Lw.newA it_27 rfl ?_
    rintro A_o w eA_o b_o hn -
    have l_o : B1 ≤ A_o := by omega
    clear zc
    replace hcw := hcw.bs hn
    replace b_g := b_g.bs hn
    clear hn
    refine AwC.back ?_
    refine AwC.only (by assumption) (i := 2) (by kernel_rfl) rfl ?_
    refine Lw.valW (Xw.make (l := 0) (c := M) st_27 it_21 rfl rfl rfl (Nat.zero_le _) (by omega) (by omega)) rfl ?_
    rintro ov w ⟨ho, -, hn, -⟩
    have ho := own_mono (B' := B1) ho (Nat.le_trans (Nat.le_of_eq hB1) hcw.size)
    replace hcw := hcw.bs hn
    replace b_g := b_g.bs hn
    replace b_o := b_o.bs hn
    clear hn
    refine AwC.back ?_
    refine AwC.only (by assumption) (i := 8) (by kernel_rfl) rfl ?_
    refine Lw.unit (Xu.stB (u := ov) (sz_27 _) rfl rfl (own_sl ho).one' b_o Nat.zero_lt_one) ?_
    rintro w2 ⟨b_o2, hg, -⟩
    have ho := own_apart ho b_o (by decide) hg
    try replace b_g := b_g.by hg (fun e => blk_ne b_g b_o (by decide) (Option.some.inj e))
    have hcw := hcw.grown hg hcw.size (by rintro _ ⟨⟩; omega)
    have b_o : Blk w2 A_o 27 [ov] := b_o2
    clear b_o2 hg
    refine AwC.back ?_
    refine AwC.only (by assumption) (i := 9) (by kernel_rfl) rfl ?_
    refine Lw.unit (Xu.stB (u := .func (.func 110) #[picV t] #[]) (sz_131 _) rfl rfl rfl b_g Nat.zero_lt_one) ?_
    rintro w2 ⟨b_g2, hg, -⟩
    have ho := own_apart ho b_g (by decide) hg
    have b_o := b_o.by hg (fun e => blk_ne b_o b_g (by decide) (Option.some.inj e))
    have hcw := hcw.grown hg hcw.size (by rintro _ ⟨⟩; omega)
    have b_g : Blk w2 A_g 131 [.func (.func 110) #[picV t] #[]] := b_g2
    clear b_g2 hg
    refine AwC.back ?_
    refine AwC.done (by assumption) (by kernel_rfl) (Pg.low ?_)
    exact Pg.midS ((ov, A_o, A_g)) ⟨rfl, rfl, rfl, rfl, rfl, rfl, trivial⟩ (⟨hcw, ho, l_o, b_o, l_g, b_g⟩)
    have zc := hcw.size
    refine Lw.newA it_27 rfl ?_
    rintro A_o w eA_o b_o hn -
    have l_o : B1 ≤ A_o := by omega
    clear zc
    replace hcw := hcw.bs hn
    replace b_g := b_g.bs hn
    clear hn
    refine AwC.back ?_
    refine AwC.two (by assumption) (i := 2) (j := 4) (by kernel_rfl) rfl rfl ?_ ?_
    refine Lw.valW (Xw.make (l := 0) (c := M) st_27 it_21 rfl rfl rfl (Nat.zero_le _) (by omega) (by omega)) rfl ?_
    rintro ov w ⟨ho, -, hn, -⟩
    have ho := own_mono (B' := B1) ho (Nat.le_trans (Nat.le_of_eq hB1) hcw.size)
    replace hcw := hcw.bs hn
    replace b_g := b_g.bs hn
    replace b_o := b_o.bs hn
    clear hn
    refine AwC.back ?_
    refine AwC.only (by assumption) (i := 4) (by kernel_rfl) rfl ?_
    refine Lw.callF rfl rfl (pof_c t _ (h_t.bs hcw) (by omega)) ?_
    rintro _ w ⟨rfl, hn⟩
    replace hcw := hcw.bs hn
    replace b_g := b_g.bs hn
    replace b_o := b_o.bs hn
    replace ho := ho.bs hn
    clear hn
    refine AwC.back ?_
    refine AwC.take (i := 5) (NoP.lift NoP.midG) rfl (by kernel_rfl) (by kernel_rfl) (by kernel_rfl) (fun w1 hc => Ex.mkFn (vs := [picV t]) (us := []) rfl rfl) rfl ?_
    refine AwC.only (by assumption) (i := 8) (by kernel_rfl) rfl ?_
    refine Lw.unit (Xu.stB (u := ov) (sz_27 _) rfl rfl (own_sl ho).one' b_o Nat.zero_lt_one) ?_
    rintro w2 ⟨b_o2, hg, -⟩
    have ho := own_apart ho b_o (by decide) hg
    try replace b_g := b_g.by hg (fun e => blk_ne b_g b_o (by decide) (Option.some.inj e))
    have hcw := hcw.grown hg hcw.size (by rintro _ ⟨⟩; omega)
    have b_o : Blk w2 A_o 27 [ov] := b_o2
    clear b_o2 hg
    refine AwC.back ?_
    refine AwC.only (by assumption) (i := 9) (by kernel_rfl) rfl ?_
    refine Lw.unit (Xu.stB (u := .func (.func 110) #[picV t] #[]) (sz_131 _) rfl rfl rfl b_g Nat.zero_lt_one) ?_
    rintro w2 ⟨b_g2, hg, -⟩
    have ho := own_apart ho b_g (by decide) hg
    have b_o := b_o.by hg (fun e => blk_ne b_o b_g (by decide) (Option.some.inj e))
    have hcw := hcw.grown hg hcw.size (by rintro _ ⟨⟩; omega)
    have b_g : Blk w2 A_g 131 [.func (.func 110) #[picV t] #[]] := b_g2
    clear b_g2 hg
    refine AwC.back ?_
    refine AwC.done (by assumption) (by kernel_rfl) (Pg.low ?_)
    exact Pg.midS ((ov, A_o, A_g)) ⟨rfl, rfl, rfl, rfl, rfl, rfl, trivial⟩ (⟨hcw, ho, l_o, b_o, l_g, b_g⟩)
    refine Lw.callF rfl rfl (pof_c t _ (h_t.bs hcw) (by omega)) ?_
    rintro _ w ⟨rfl, hn⟩
    replace hcw := hcw.bs hn
    replace b_g := b_g.bs hn
    replace b_o := b_o.bs hn
    clear hn
    refine AwC.back ?_
    refine AwC.take (i := 5) (NoP.lift NoP.midG) rfl (by kernel_rfl) (by kernel_rfl) (by kernel_rfl) (fun w1 hc => Ex.mkFn (vs := [picV t]) (us := []) rfl rfl) rfl ?_
    refine AwC.only (by assumption) (i := 2) (by kernel_rfl) rfl ?_
    refine Lw.valW (Xw.make (l := 0) (c := M) st_27 it_21 rfl rfl rfl (Nat.zero_le _) (by omega) (by omega)) rfl ?_
    rintro ov w ⟨ho, -, hn, -⟩
    have ho := own_mono (B' := B1) ho (Nat.le_trans (Nat.le_of_eq hB1) hcw.size)
    replace hcw := hcw.bs hn
    replace b_g := b_g.bs hn
    replace b_o := b_o.bs hn
    clear hn
    refine AwC.back ?_
    refine AwC.only (by assumption) (i := 8) (by kernel_rfl) rfl ?_
    refine Lw.unit (Xu.stB (u := ov) (sz_27 _) rfl rfl (own_sl ho).one' b_o Nat.zero_lt_one) ?_
    rintro w2 ⟨b_o2, hg, -⟩
    have ho := own_apart ho b_o (by decide) hg
    try replace b_g := b_g.by hg (fun e => blk_ne b_g b_o (by decide) (Option.some.inj e))
    have hcw := hcw.grown hg hcw.size (by rintro _ ⟨⟩; omega)
    have b_o : Blk w2 A_o 27 [ov] := b_o2
    clear b_o2 hg
    refine AwC.back ?_
    refine AwC.only (by assumption) (i := 9) (by kernel_rfl) rfl ?_
    refine Lw.unit (Xu.stB (u := .func (.func 110) #[picV t] #[]) (sz_131 _) rfl rfl rfl b_g Nat.zero_lt_one) ?_
    rintro w2 ⟨b_g2, hg, -⟩
    have ho := own_apart ho b_g (by decide) hg
    have b_o := b_o.by hg (fun e => blk_ne b_o b_g (by decide) (Option.some.inj e))
    have hcw := hcw.grown hg hcw.size (by rintro _ ⟨⟩; omega)
    have b_g : Blk w2 A_g 131 [.func (.func 110) #[picV t] #[]] := b_g2
    clear b_g2 hg
    refine AwC.back ?_
    refine AwC.done (by assumption) (by kernel_rfl) (Pg.low ?_)
    exact Pg.midS ((ov, A_o, A_g)) ⟨rfl, rfl, rfl, rfl, rfl, rfl, trivial⟩ (⟨hcw, ho, l_o, b_o, l_g, b_g⟩)
    have zc := hcw.size
    refine Lw.newA it_27 rfl ?_
    rintro A_o w eA_o b_o hn -
    have l_o : B1 ≤ A_o := by omega
    clear zc
    replace hcw := hcw.bs hn
    replace b_g := b_g.bs hn
    clear hn
    refine AwC.back ?_
    refine AwC.only (by assumption) (i := 1) (by kernel_rfl) rfl ?_
    refine Lw.callF rfl rfl (size_c x S _ ((own_slT hx).bs hcw)) ?_
    rintro _ w ⟨rfl, hn⟩
    replace hcw := hcw.bs hn
    replace b_g := b_g.bs hn
    replace b_o := b_o.bs hn
    clear hn
    refine Lw.know 29 (v' := .int .i64 (M : Int)) rfl (congrArg (Value.int .i64) (by omega)) ?_
    refine AwC.back ?_
    refine AwC.two (by assumption) (i := 2) (j := 4) (by kernel_rfl) rfl rfl ?_ ?_
    refine Lw.valW (Xw.make (l := 0) (c := M) st_27 it_21 rfl rfl rfl (Nat.zero_le _) (by omega) (by omega)) rfl ?_
    rintro ov w ⟨ho, -, hn, -⟩
    have ho := own_mono (B' := B1) ho (Nat.le_trans (Nat.le_of_eq hB1) hcw.size)
    replace hcw := hcw.bs hn
    replace b_g := b_g.bs hn
    replace b_o := b_o.bs hn
    clear hn
    refine AwC.back ?_
    refine AwC.only (by assumption) (i := 4) (by kernel_rfl) rfl ?_
    refine Lw.callF rfl rfl (pof_c t _ (h_t.bs hcw) (by omega)) ?_
    rintro _ w ⟨rfl, hn⟩
    replace hcw := hcw.bs hn
    replace b_g := b_g.bs hn
    replace b_o := b_o.bs hn
    replace ho := ho.bs hn
    clear hn
    refine AwC.back ?_
    refine AwC.take (i := 5) (NoP.lift NoP.midG) rfl (by kernel_rfl) (by kernel_rfl) (by kernel_rfl) (fun w1 hc => Ex.mkFn (vs := [picV t]) (us := []) rfl rfl) rfl ?_
    refine AwC.only (by assumption) (i := 8) (by kernel_rfl) rfl ?_
    refine Lw.unit (Xu.stB (u := ov) (sz_27 _) rfl rfl (own_sl ho).one' b_o Nat.zero_lt_one) ?_
    rintro w2 ⟨b_o2, hg, -⟩
    have ho := own_apart ho b_o (by decide) hg
    try replace b_g := b_g.by hg (fun e => blk_ne b_g b_o (by decide) (Option.some.inj e))
    have hcw := hcw.grown hg hcw.size (by rintro _ ⟨⟩; omega)
    have b_o : Blk w2 A_o 27 [ov] := b_o2
    clear b_o2 hg
    refine AwC.back ?_
    refine AwC.only (by assumption) (i := 9) (by kernel_rfl) rfl ?_
    refine Lw.unit (Xu.stB (u := .func (.func 110) #[picV t] #[]) (sz_131 _) rfl rfl rfl b_g Nat.zero_lt_one) ?_
    rintro w2 ⟨b_g2, hg, -⟩
    have ho := own_apart ho b_g (by decide) hg
    have b_o := b_o.by hg (fun e => blk_ne b_o b_g (by decide) (Option.some.inj e))
    have hcw := hcw.grown hg hcw.size (by rintro _ ⟨⟩; omega)
    have b_g : Blk w2 A_g 131 [.func (.func 110) #[picV t] #[]] := b_g2
    clear b_g2 hg
    refine AwC.back ?_
    refine AwC.done (by assumption) (by kernel_rfl) (Pg.low ?_)
    exact Pg.midS ((ov, A_o, A_g)) ⟨rfl, rfl, rfl, rfl, rfl, rfl, trivial⟩ (⟨hcw, ho, l_o, b_o, l_g, b_g⟩)
    refine Lw.callF rfl rfl (pof_c t _ (h_t.bs hcw) (by omega)) ?_
    rintro _ w ⟨rfl, hn⟩
    replace hcw := hcw.bs hn
    replace b_g := b_g.bs hn
    replace b_o := b_o.bs hn
    clear hn
    refine AwC.back ?_
    refine AwC.take (i := 5) (NoP.lift NoP.midG) rfl (by kernel_rfl) (by kernel_rfl) (by kernel_rfl) (fun w1 hc => Ex.mkFn (vs := [picV t]) (us := []) rfl rfl) rfl ?_
    refine AwC.only (by assumption) (i := 2) (by kernel_rfl) rfl ?_
    refine Lw.valW (Xw.make (l := 0) (c := M) st_27 it_21 rfl rfl rfl (Nat.zero_le _) (by omega) (by omega)) rfl ?_
    rintro ov w ⟨ho, -, hn, -⟩
    have ho := own_mono (B' := B1) ho (Nat.le_trans (Nat.le_of_eq hB1) hcw.size)
    replace hcw := hcw.bs hn
    replace b_g := b_g.bs hn
    replace b_o := b_o.bs hn
    clear hn
    refine AwC.back ?_
    refine AwC.only (by assumption) (i := 8) (by kernel_rfl) rfl ?_
    refine Lw.unit (Xu.stB (u := ov) (sz_27 _) rfl rfl (own_sl ho).one' b_o Nat.zero_lt_one) ?_
    rintro w2 ⟨b_o2, hg, -⟩
    have ho := own_apart ho b_o (by decide) hg
    try replace b_g := b_g.by hg (fun e => blk_ne b_g b_o (by decide) (Option.some.inj e))
    have hcw := hcw.grown hg hcw.size (by rintro _ ⟨⟩; omega)
    have b_o : Blk w2 A_o 27 [ov] := b_o2
    clear b_o2 hg
    refine AwC.back ?_
    refine AwC.only (by assumption) (i := 9) (by kernel_rfl) rfl ?_
    refine Lw.unit (Xu.stB (u := .func (.func 110) #[picV t] #[]) (sz_131 _) rfl rfl rfl b_g Nat.zero_lt_one) ?_
    rintro w2 ⟨b_g2, hg, -⟩
    have ho := own_apart ho b_g (by decide) hg
    have b_o := b_o.by hg (fun e => blk_ne b_o b_g (by decide) (Option.some.inj e))
    have hcw := hcw.grown hg hcw.size (by rintro _ ⟨⟩; omega)
    have b_g : Blk w2 A_g 131 [.func (.func 110) #[picV t] #[]] := b_g2
    clear b_g2 hg
    refine AwC.back ?_
    refine AwC.done (by assumption) (by kernel_rfl) (Pg.low ?_)
    exact Pg.midS ((ov, A_o, A_g)) ⟨rfl, rfl, rfl, rfl, rfl, rfl, trivial⟩ (⟨hcw, ho, l_o, b_o, l_g, b_g⟩)
  rintro ⟨ov, A_o, A_g⟩ w ⟨hn, ho, l_o, b_o, l_g, b_g⟩
  dsimp only at ho l_o b_o l_g b_g ⊢
  refine Cg.out ?_
  replace hB := hB.bs hn
  replace h_t := h_t.bs hn
  replace b_t := b_t.bs hn
  replace b_s := b_s.bs hn
  replace b_r := b_r.bs hn
  replace hx := hx.bs hn
  clear hn
  have g0 := good_at gS (k := 0) (by omega)
  have g1 := good_at gS (k := 1) (by omega)
  have g2 := good_at gS (k := 2) (by omega)
  have t0 := good_at ok.gt (k := 0) (by omega)
  have t1 := good_at ok.gt (k := 1) (by omega)
  have t2 := good_at ok.gt (k := 2) (by omega)
  have mm : 1 * 1 ≤ (m : Int) * (m : Int) := Int.mul_le_mul okw.1 okw.1 (by decide) (by omega)
  have mm2 : (m : Int) * (m : Int) ≤ 64 * 64 := Int.mul_le_mul okw.2 okw.2 (by omega) (by decide)
  refine Cg.seq ?_
  refine Cg.seq ?_
  refine Cg.region (by kernel_rfl) ?_
  refine Lw.val (Ex.move rfl) rfl ?_
  refine Lw.callF rfl rfl (spots_c x S _ (own_slT hx)) ?_
  rintro _ w ⟨A_i, rfl, b_i, eA_i, hn⟩
  replace hB := hB.bs hn
  replace h_t := h_t.bs hn
  replace b_t := b_t.bs hn
  replace b_s := b_s.bs hn
  replace b_r := b_r.bs hn
  replace hx := hx.bs hn
  replace ho := ho.bs hn
  replace b_o := b_o.bs hn
  replace b_g := b_g.bs hn
  clear hn
  refine Lw.nil (Pg.low ?_)
  refine Pg.thenN (Cg.out ?_)
  refine Cg.block ?_
  rename World => w0
  have zB1 : B1 ≤ w0.heap.size := by have := blk_lt b_o; omega
  have zi := blk_lt b_i
  have zW0 := below_size hB
  have hxb := own_block hx
  refine Cg.range rfl (spots_sq A_i x S w0 b_i (own_slT hx) okS lS) (fun b hb => hb.elim (fun e => by rw [e]; exact zi) (fun e => (hxb b e).2)) (fun _ => rfl) (by kernel_rfl) (fun (pre : List (Nat)) w' => (∃ ov, Blk w' A_o 27 [ov] ∧ w'.ownsRow B1 21 1 ov pre.length ((pre.map (pooV t.l t.s S m)).map i32)) ∧ Blk w' A_g 131 [.func (.func 110) #[picV t] #[]] ∧ Blk w' A_i 26 [x] ∧ Below B1 w0 w') (by rintro _ ⟨⟩) ?_ ?_ ?_ ?_ ?_
  · exact ⟨⟨ov, b_o, ho⟩, b_g, b_i, Below.refl _ _⟩
  · rintro pre A A' ⟨⟨ov, h1, h2⟩, h3, h6, h5⟩ hc
    exact ⟨⟨ov, h1.nc hc, own_nc h2 hc⟩, h3.nc hc, h6.nc hc, h5.nc hc zB1 zB1⟩
  · rintro pre A A' ⟨⟨ov, h1, h2⟩, h3, h6, h5⟩ hc
    have hc := itr_none hc
    exact ⟨⟨ov, h1.bs hc, own_bs h2 hc⟩, h3.bs hc, h6.bs hc, h5.trans (hc.mono (Nat.le_trans zB1 h5.size))⟩
  · rintro lp pre i u hl ⟨⟨ov, b_o, ho⟩, b_g, b_i, hK⟩ hpre hrec
    obtain ⟨hi, hiM, -⟩ := range_pre hpre
    refine Cg.region (by kernel_rfl) ?_
    refine Lw.boxed (cs := [.int .i64 (spc S i), .int .i64 (spy S i), .int .i64 (spx S i)]) it_138 rfl rfl rfl rfl (fun _ => rfl) (rfl) ?_
    rintro A_to u1 eA_to b_to hn1 zhn1
    refine Lw.nil (Pg.low ?_)
    refine Pg.asg ((KeepsFrom.refl _ _).bs hn1) (Kp.refl.bs hn1) ?_
    rintro w hn hz hrec
    have zu := blk_lt b_o
    have hK1 := hK.trans (hn1.mono (by omega))
    have hK := hK1.nc hn (by omega) zB1
    have ho := own_nc (own_bs ho hn1) hn
    have b_o := (b_o.bs hn1).nc hn
    have b_g := (b_g.bs hn1).nc hn
    have b_i := (b_i.bs hn1).nc hn
    have b_to := b_to.nc hn
    clear hK1 hn1 zu hn hz
    have b_s := b_s.bl hK (by omega)
    have hBw := hB.trans (hK.mono (by omega))
    have zK := hK.size
    have ci : 0 ≤ spc S i ∧ spc S i < S.getD 0 default := spc_in okS lS (by omega)
    have yi : 0 ≤ spy S i ∧ spy S i < S.getD 1 default := ⟨Int.emod_nonneg _ (by omega), Int.emod_lt_of_pos _ (by omega)⟩
    have xi2 : 0 ≤ spx S i ∧ spx S i < S.getD 2 default := ⟨Int.emod_nonneg _ (by omega), Int.emod_lt_of_pos _ (by omega)⟩
    have my : 0 ≤ spy S i * (m : Int) ∧ spy S i * (m : Int) ≤ 64 * 64 := ⟨Int.mul_nonneg yi.1 (by omega), Int.mul_le_mul (by omega) okw.2 (by omega) (by decide)⟩
    have mx' : 0 ≤ spx S i * (m : Int) ∧ spx S i * (m : Int) ≤ 64 * 64 := ⟨Int.mul_nonneg xi2.1 (by omega), Int.mul_le_mul (by omega) okw.2 (by omega) (by decide)⟩
    have tl : (spc S i + 1) * (t.s.getD 1 default * t.s.getD 2 default) ≤ t.l.length := by
      rw [ok.tl]
      exact Int.mul_le_mul_of_nonneg_right (by omega) (Int.mul_nonneg (by omega) (by omega))
    have h_ty := (h_t0.bs hBw).2
    have hob : ∀ b, ov.ownBlock = some b → B1 ≤ b ∧ b < w.heap.size := fun b e => own_block ho b e
    refine Cg.block ?_
    refine Cg.seq ?_
    refine Cg.region (by kernel_rfl) ?_
    refine Lw.val (Ex.ldB (ag_131 _) rfl (by assumption) rfl) rfl ?_
    refine Lw.val (Ex.fieldAddr (q := 0) Tryz.underlying138 rfl (sz_3 _) rfl) rfl ?_
    refine Lw.val (Ex.ldB (ag_3 _) rfl (by assumption) rfl) rfl ?_
    refine Lw.val (Ex.fieldAddr (q := 0) Tryz.underlying138 rfl (sz_3 _) rfl) rfl ?_
    refine Lw.val (Ex.ldB (ag_3 _) rfl (by assumption) rfl) rfl ?_
    refine Lw.val (Ex.ldB (ag_3 _) rfl (by assumption) rfl) rfl ?_
    refine Lw.val (Ex.mulI rfl rfl (by omega)) rfl ?_
    refine Lw.val (Ex.fieldAddr (q := 0) Tryz.underlying138 rfl (sz_3 _) rfl) rfl ?_
    refine Lw.val (Ex.ldB (ag_3 _) rfl (by assumption) rfl) rfl ?_
    refine Lw.val (Ex.ldB (ag_3 _) rfl (by assumption) rfl) rfl ?_
    refine Lw.val (Ex.mulI rfl rfl (by omega)) rfl ?_
    refine Lw.callV (p := [picV t]) (q := []) rfl rfl rfl (wat_c t (spc S i) (spy S i * (m : Int)) (spx S i * (m : Int)) _ h_ty (by omega) (by omega) (by omega) (by omega) (by omega) tl) ?_
    rintro _ w ⟨rfl, hn⟩
    replace ho := ho.bs hn
    replace b_o := b_o.bs hn
    replace b_g := b_g.bs hn
    replace b_i := b_i.bs hn
    replace b_to := b_to.bs hn
    replace b_s := b_s.bs hn
    replace h_ty := h_ty.bs hn
    have hK6 := hK.trans (hn.mono (by omega))
    have hKf := (KeepsFrom.refl w0.heap.size _).bs hn
    have hN1 := hn
    clear hn
    rw [show pic t.l (t.s.getD 1 default) (t.s.getD 2 default) (spc S i) (spy S i * (m : Int)) (spx S i * (m : Int)) = mx (pooF t.l t.s S m i) (pooF t.l t.s S m i 0) 0 by simp [mx, pooF]]
    refine Lw.val (Ex.assign rfl) rfl ?_
    refine Lw.nil (Pg.low ?_)
    refine Pg.thenN (Cg.out ?_)
    refine Cg.seq ?_
    refine Cg.seq ?_
    refine Cg.region (by kernel_rfl) ?_
    refine Lw.val (Ex.ldB (ag_3 _) rfl (by assumption) rfl) rfl ?_
    refine Lw.val (Ex.ldB (ag_3 _) rfl (by assumption) rfl) rfl ?_
    refine Lw.val (Ex.mulI rfl rfl (by omega)) rfl ?_
    refine Lw.val (Ex.move rfl) rfl ?_
    refine Lw.nil (Pg.low ?_)
    refine Pg.thenN (Cg.out ?_)
    refine Cg.block ?_
    rename World => w8
    refine Cg.loop (S := Nat) (fun k => [(3, .pointer (some ⟨A_s, 0, none⟩)), (8, .pointer (some ⟨A_o, 0, none⟩)), (9, .pointer (some ⟨A_g, 0, none⟩)), (10, .pointer (some ⟨A_to, 0, none⟩)), (11, i32 (mx (pooF t.l t.s S m i) (pooF t.l t.s S m i 0) k)), (51, .int .i64 ((m : Int) * (m : Int))), (52, .int .i64 (k : Int))]) (fun k w' => k ≤ m * m ∧ Below w8.heap.size w8 w') (fun k => m * m - k) (0) ⟨rfl, rfl, rfl, rfl, rfl, rfl, rfl, trivial⟩ ?_ ?_
    · exact ⟨Nat.zero_le _, Below.refl _ _⟩
    rintro k w ⟨hk, hn⟩
    have mmc : ((m * m : Nat) : Int) = (m : Int) * (m : Int) := Int.natCast_mul m m
    refine Cg.seq ?_
    refine Cg.region (by kernel_rfl) ?_
    refine Lw.val (Ex.lss rfl rfl) rfl ?_
    refine Lw.nil (Pg.low ?_)
    refine Pg.thenN (Cg.out ?_)
    refine Cg.seq ?_
    refine Cg.cond rfl ?_ ?_
    · intro h
      have hk' : k < m * m := by have := of_decide_eq_true h; omega
      have km : (0 : Int) ≤ ((k / m : Nat) : Int) ∧ ((k / m : Nat) : Int) < m := ⟨Int.natCast_nonneg _, by have := Nat.div_lt_of_lt_mul hk'; exact_mod_cast this⟩
      have kr : (0 : Int) ≤ ((k % m : Nat) : Int) ∧ ((k % m : Nat) : Int) < m := ⟨Int.natCast_nonneg _, by have := Nat.mod_lt k (show 0 < m by omega); exact_mod_cast this⟩
      obtain ⟨kd, hkd⟩ : ∃ d : Nat, d = k / m := ⟨_, rfl⟩
      obtain ⟨ke, hke⟩ : ∃ d : Nat, d = k % m := ⟨_, rfl⟩
      rw [← hkd] at km
      rw [← hke] at kr
      have eF : pic t.l (t.s.getD 1 default) (t.s.getD 2 default) (spc S i) (spy S i * (m : Int) + (kd : Int)) (spx S i * (m : Int) + (ke : Int)) = pooF t.l t.s S m i k := by rw [hkd, hke]; rfl
      replace ho := ho.bs hn
      replace b_o := b_o.bs hn
      replace b_g := b_g.bs hn
      replace b_i := b_i.bs hn
      replace b_to := b_to.bs hn
      replace b_s := b_s.bs hn
      replace h_ty := h_ty.bs hn
      refine Cg.skip ?_
      refine Pg.thenN (Cg.out ?_)
      refine Cg.seq ?_
      refine Cg.block ?_
      refine Cg.seq ?_
      refine Cg.region (by kernel_rfl) ?_
      refine Lw.val (Ex.move rfl) rfl ?_
      refine Lw.val (Ex.assign rfl) rfl ?_
      refine Lw.nil (Pg.low ?_)
      refine Pg.thenN (Cg.out ?_)
      refine Cg.quiet mixed (by kernel_rfl) (by kernel_rfl) ?_
      refine Qw.val (fun w1 hq => Ex.move rfl) rfl ?_
      refine Qw.val (fun w1 hq => Ex.ldB (ag_131 _) rfl (Blk.bs (by assumption) hq) rfl) rfl ?_
      refine Qw.val (fun w1 hq => Ex.fieldAddr (q := 0) Tryz.underlying138 rfl (sz_3 _) rfl) rfl ?_
      refine Qw.val (fun w1 hq => Ex.ldB (ag_3 _) rfl (Blk.bs (by assumption) hq) rfl) rfl ?_
      refine Qw.val (fun w1 hq => Ex.fieldAddr (q := 0) Tryz.underlying138 rfl (sz_3 _) rfl) rfl ?_
      refine Qw.val (fun w1 hq => Ex.ldB (ag_3 _) rfl (Blk.bs (by assumption) hq) rfl) rfl ?_
      refine Qw.val (fun w1 hq => Ex.ldB (ag_3 _) rfl (Blk.bs (by assumption) hq) rfl) rfl ?_
      refine Qw.val (fun w1 hq => Ex.mulI rfl rfl (by omega)) rfl ?_
      refine Qw.val (fun w1 hq => Ex.move rfl) rfl ?_
      refine Qw.val (fun w1 hq => Ex.ldB (ag_3 _) rfl (Blk.bs (by assumption) hq) rfl) rfl ?_
      refine Qw.val (fun w1 hq => (Ex.quoI rfl rfl (by omega) (by omega)).as (congrArg (Value.int .i64) (show (k : Int) / (m : Int) = (kd : Int) by rw [hkd]; rfl))) rfl ?_
      refine Qw.val (fun w1 hq => Ex.addI rfl rfl (by omega)) rfl ?_
      refine Qw.val (fun w1 hq => Ex.fieldAddr (q := 0) Tryz.underlying138 rfl (sz_3 _) rfl) rfl ?_
      refine Qw.val (fun w1 hq => Ex.ldB (ag_3 _) rfl (Blk.bs (by assumption) hq) rfl) rfl ?_
      refine Qw.val (fun w1 hq => Ex.ldB (ag_3 _) rfl (Blk.bs (by assumption) hq) rfl) rfl ?_
      refine Qw.val (fun w1 hq => Ex.mulI rfl rfl (by omega)) rfl ?_
      refine Qw.val (fun w1 hq => Ex.move rfl) rfl ?_
      refine Qw.val (fun w1 hq => Ex.ldB (ag_3 _) rfl (Blk.bs (by assumption) hq) rfl) rfl ?_
      refine Qw.val (fun w1 hq => (Ex.remI rfl rfl (by omega) (by omega)).as (congrArg (Value.int .i64) (show (k : Int) % (m : Int) = (ke : Int) by rw [hke]; rfl))) rfl ?_
      refine Qw.val (fun w1 hq => Ex.addI rfl rfl (by omega)) rfl ?_
      refine Qw.callV (p := [picV t]) (q := []) rfl rfl rfl (fun w1 hq => (wat_c t (spc S i) (spy S i * (m : Int) + (kd : Int)) (spx S i * (m : Int) + (ke : Int)) w1 (Sl.bs h_ty hq) (by omega) (by omega) (by omega) (by omega) (by omega) tl).q hq) ?_
      refine Qw.val (fun w1 hq => (Ex.max2 rfl rfl).as (congrArg (Value.int .i32) (smax_int _ _).symm)) rfl ?_
      refine Qw.val (fun w1 hq => Ex.assign rfl) rfl ?_
      refine Qw.nil (fun w9 hq => (Pg.low ?_))
      refine Pg.blkN ?_
      refine Pg.thenN (Cg.out ?_)
      refine Cg.region (by kernel_rfl) ?_
      refine Lw.val (Ex.addI rfl rfl (by omega)) rfl ?_
      refine Lw.val (Ex.move rfl) rfl ?_
      refine Lw.nil (Pg.low ?_)
      exact Pg.thenN (Pg.next (k + 1) ⟨rfl, rfl, rfl, rfl, congrArg (fun z => some (i32 (smax _ z))) eF, rfl, rfl, trivial⟩ (⟨hk', bt hn hq⟩) (by omega))
    intro h
    have hk' : k = m * m := by have := of_decide_eq_false h; omega
    subst hk'
    replace ho := ho.bs hn
    replace b_o := b_o.bs hn
    replace b_g := b_g.bs hn
    replace b_i := b_i.bs hn
    replace b_to := b_to.bs hn
    replace b_s := b_s.bs hn
    replace h_ty := h_ty.bs hn
    have hKf := hKf.bs hn
    have zu := hN1.size
    have zn := hn.size
    have hK7 := hK6.trans (hn.mono (by omega))
    have lM : pre.length < 4096 := by omega
    refine Cg.exit ?_
    refine Pg.thenE ?_
    refine Pg.thenE ?_
    refine Pg.blkHit ?_
    refine Pg.thenN (Cg.out ?_)
    refine Cg.region (by kernel_rfl) ?_
    refine Lw.val (Ex.ldB (ag_27 _) rfl (by assumption) rfl) rfl ?_
    refine Lw.val (Ex.move rfl) rfl ?_
    refine Lw.valW (Xw.lit (vs := [pooV t.l t.s S m i].map i32) st_27 it_21 rfl rfl rfl rfl rfl) rfl ?_
    rintro z w5 ⟨hz, -, hn5, -⟩
    have b_o := b_o.bs hn5
    have b_g := b_g.bs hn5
    have b_i := b_i.bs hn5
    have ho := own_bs ho hn5
    have z5 := hn5.size
    refine Lw.valW (Xw.append (base := B1) st_27 it_21 rfl (by decide) rfl rfl ho (own_sl hz) (one_map (fun _ => rfl) _) (by omega) (by omega) (by omega)) rfl ?_
    rintro ov2 w6 ⟨ho6, hb6, hg6⟩
    rw [← List.map_append, ← List.map_singleton (f := pooV t.l t.s S m), ← List.map_append] at ho6
    have hne : ∀ {A T : Nat} {cs : List Value}, Blk w5 A T cs → 21 ≠ T → some A ≠ ov.ownBlock := fun h e => blk_own_ne ho h e
    have b_o6 := b_o.by hg6 (hne b_o (by decide))
    have b_g := b_g.by hg6 (hne b_g (by decide))
    have b_i6 := b_i.by hg6 (hne b_i (by decide))
    have hK6 : Below B1 w0 w6 := (hK7.trans (hn5.mono (by omega))).trans hb6
    refine Lw.unit (Xu.stB (u := ov2) (sz_27 _) rfl rfl (own_sl ho6).one' b_o6 Nat.zero_lt_one) ?_
    rintro w7 ⟨b_o7, hg7, -⟩
    have ho7 := own_apart ho6 b_o6 (by decide) hg7
    have b_g := b_g.by hg7 (fun e => blk_ne b_g b_o6 (by decide) (Option.some.inj e))
    have b_i7 := b_i6.by hg7 (fun e => blk_ne b_i6 b_o6 (by decide) (Option.some.inj e))
    have hK7 := hK6.grown hg7 (Nat.le_trans zB1 hK6.size) (by rintro _ ⟨⟩; omega)
    have el : (pre ++ [i]).length = pre.length + 1 := by simp
    refine Lw.nil (Pg.low ?_)
    refine Pg.blkN ?_
    exact Pg.rnd (((hKf.bs hn5).own ho hg6).blk b_o6 hg7) (((((Kp.refl.bs hN1).bs hn).bs hn5).grown hg6 (fun b e h => h.elim (fun h => hne b_i (by decide) (by rw [← h, e])) (fun h => by have := hxl b h; have := hob b e; omega))).grown hg7 (fun b e h => by cases e; exact h.elim (fun h => blk_ne b_i6 b_o6 (by decide) h.symm) (fun h => by have := hxl A_o h; omega))) (⟨⟨ov2, b_o7, by rw [el]; exact ho7⟩, b_g, b_i7, hK7⟩)
  rintro d w hd ⟨⟨ov, b_o, ho⟩, b_g, b_i, hK⟩ hD
  have eM : (List.range (Shapes.size S).toNat).length = M := by rw [List.length_range]; exact hM.symm
  have hx := own_heap hx (fun k e => hK.block k (by have := hxl k e; omega))
  have b_r := b_r.bl hK (by omega)
  have hB := hB.trans (hK.mono (by omega))
  have zK := hK.size
  have eL : (List.range (Shapes.size S).toNat).map (pooV t.l t.s S m) = wpoL t (m : Int) := by unfold wpoL pooL; rw [← hS, Int.toNat_natCast]
  rw [eL] at ho
  rw [List.length_range] at ho
  have lL : (wpoL t (m : Int)).length = (Shapes.size S).toNat := by rw [← eL]; simp
  rw [← lL] at ho
  have hox := own_block ho
  refine Pg.blkN ?_
  refine Pg.thenN (Cg.out ?_)
  refine Cg.seq ?_
  refine Cg.region (by kernel_rfl) ?_
  refine Lw.val (Ex.move rfl) rfl ?_
  refine Lw.val (Ex.ldB (ag_27 _) rfl (by assumption) rfl) rfl ?_
  refine Lw.val (Ex.build (vs := [(0, x), (1, ov)]) (cs := [x, ov]) rfl (bt_ten _ _ (own_slT hx).one (own_slT ho).one)) rfl ?_
  refine Lw.unit (Xu.stA (cs := [x, ov]) rfl rfl rfl rfl (by simp [(own_slT hx).one', (own_slT ho).one']) b_r rfl) ?_
  rintro w4 ⟨b_r4, hg, hz4⟩
  have hD := (hg.block d (Array.getElem?_eq_some_iff.1 hD).1 (by intro e; cases e; omega)).trans hD
  have hB := hB.grown hg (by omega) (by rintro _ ⟨⟩; omega)
  have ho := own_heap ho (fun k e => hg.block k (own_block ho k e).2 (by intro e2; have := hox k e; cases e2; omega))
  have hx := own_heap hx (fun k e => hg.block k (own_block hx k e).2 (by intro e2; cases e2; have := own_block hx _ e; omega))
  have zB := below_size hB
  refine Lw.val (Ex.assign rfl) rfl ?_
  refine Lw.nil (Pg.low ?_)
  refine Pg.thenN (Cg.out ?_)
  refine Cg.ret ?_
  refine Pg.close (hD) (fun w hn _ => ?_)
  have b_r := b_r4.nc hn
  have ho := own_nc ho hn
  have hx := own_nc hx hn
  have hB := hB.nc hn (by omega) (Nat.le_refl _)
  refine Pw.retCT rfl rfl rfl (by assumption) (Tryz.underlying29) rfl rfl rfl ?_
  exact ⟨hB, x, ov, rfl, fun h => absurd rfl h, fun _ => ⟨.inl (own_mono hx (by omega)), own_mono ho (by omega), fun k e1 e2 => by have := hox k e1; have := hxl k e2; omega⟩⟩
theorem wpo_c (t : T4) (wide : Int) (W : World) (h_t : t.at W) : Fnc Tryz.prog 81 [t.v, .int .i64 wide] W (fun r w' => Below W.heap.size W w' ∧ Gets W w' r (wpoE t wide) (pshS t.s wide) (wpoL t wide)) :=
  (wpo0_c t wide W h_t).mono fun _ _ ⟨h1, h2⟩ => ⟨h1, h2.gets⟩
end Go.Proofs.YtmipoeanpnnjoaaGreat

/-! Contracts: the same numbers elsewhere: another shape, another order. -/
namespace Go.Proofs.YtmipoeanpnnjoaaGreat
open Go Go.Dd Go.RowKit
set_option maxRecDepth 100000

/-- A tensor of one's own, of which both lists may be clipped. -/
structure MadeK (W w : World) (x y : Value) (s : List Int) (l : List (BitVec 32)) : Prop where
  row : KRow w W.heap.size 3 1 x s.length (s.map (Value.int .i64))
  col : KRow w W.heap.size 21 1 y l.length (l.map i32)
  apart : Apt y x
theorem MadeK.at {W w : World} {x y : Value} {s : List Int} {l : List (BitVec 32)} (h : MadeK W w x y s l) : (T4.mk x y s l).at w := ⟨h.row.slT, h.col.slT⟩
theorem Made1.k {W w : World} {x y : Value} {s : List Int} {l : List (BitVec 32)} (h : Made1 W w x y s l) : MadeK W w x y s l := ⟨h.row, .inl h.own, h.apart⟩
/-- An answer: a tensor of one's own, or none at all. -/
def AnsK (W w : World) (r : Value) (e : Int) (s : List Int) (l : List (BitVec 32)) : Prop :=
  ∃ x y, r = .tuple #[.agg #[x, y], .int .i64 e] ∧ (e ≠ 0 → x = .slice none 0 0 ∧ y = .slice none 0 0) ∧ (e = 0 → MadeK W w x y s l)
theorem ansK_no {W w : World} {e : Int} {s : List Int} {l : List (BitVec 32)} (h : e ≠ 0) : AnsK W w (.tuple #[.agg #[.slice none 0 0, .slice none 0 0], .int .i64 e]) e s l := ⟨_, _, rfl, fun _ => ⟨rfl, rfl⟩, fun h0 => absurd h0 h⟩
theorem bl_krow {w w' : World} {base B : Nat} {e : TypeId} {sz n : Nat} {v : Value} {xs : List Value} (h : KRow w base e sz v n xs) (g : w.grownBy w' (some B)) (hB : B < base) : KRow w' base e sz v n xs :=
  h.by' g (by
    cases hc : v.ownBlock with
    | none => exact .inl rfl
    | some b => exact .inr fun e => by have := (h.lt b hc).1; cases e; omega)
theorem at_stay {w0 w w' : World} {a : T4} {B : Nat} (p : a.at w0) (h : a.at w) (hB : w0.heap.size ≤ B) (g : Below B w w') : a.at w' :=
  ⟨Sl.stay h.1 fun k e hne => g.block k (Nat.lt_of_lt_of_le (Sl.blk p.1 hne k e) hB), Sl.stay h.2 fun k e hne => g.block k (Nat.lt_of_lt_of_le (Sl.blk p.2 hne k e) hB)⟩

theorem clone32_c (u : Value) (a : List (BitVec 32)) (w : World) (hu : SlT i32 w u a) (hb : a.length ≤ 4194304) : Fnc Tryz.prog 61 [u] w (fun r w' => w'.ownsRow w.heap.size 21 1 r a.length (a.map i32) ∧ Below w.heap.size w w') := by
  obtain ⟨hl, ao, cap, rfl, h1, h2, h3, h4⟩ := hu
  have hu : SlT i32 w (.slice ao a.length cap) a := ⟨hl, ao, cap, rfl, h1, h2, h3, h4⟩
  refine Fnc.enter (n := 8) Tryz.func61 (by kernel_rfl) rfl rfl rfl ?_
  refine Cw.seq ?_
  refine Cw.region ?_
  refine Lw.val (Ex.assign rfl) rfl ?_
  refine Lw.nil ?_
  refine Pw.thenN (Cw.out ?_)
  refine Cw.seq ?_
  refine Cw.seq ?_
  refine Cw.region ?_
  refine Lw.val (Ex.move rfl) rfl ?_
  refine Lw.val (Ex.nilS un_27 rfl rfl) rfl ?_
  refine Lw.nil ?_
  refine Pw.thenN (Cw.out ?_)
  refine Cw.cond rfl ?_ ?_
  · intro h
    obtain rfl : ao = none := by cases ao <;> simp_all
    obtain rfl : a = [] := List.eq_nil_of_length_eq_zero (by have := h3 rfl; omega)
    refine Cw.seq ?_
    refine Cw.region ?_
    refine Lw.val (Ex.assign rfl) rfl ?_
    refine Lw.nil ?_
    refine Pw.thenN (Cw.out ?_)
    refine Cw.ret ?_
    refine Pw.thenR ?_
    refine Pw.ret1 rfl rfl ?_
    exact ⟨⟨rfl, .inl ⟨rfl, rfl⟩⟩, Below.refl _ _⟩
  intro h
  refine Cw.skip ?_
  refine Pw.thenN (Cw.out ?_)
  refine Cw.seq ?_
  refine Cw.region ?_
  refine Lw.valW (Xw.lit (vs := []) st_27 it_21 rfl rfl rfl rfl rfl) rfl ?_
  rintro v1 w1 ⟨ho1, -, hB1, -⟩
  refine Lw.val (Ex.move rfl) rfl ?_
  refine Lw.valW (Xw.append (base := w.heap.size) st_27 it_21 rfl (by decide) rfl rfl ho1 (hu.bs hB1) (one_map (fun _ => rfl) _) (by omega) (by omega) hB1.size) rfl ?_
  rintro v2 w2 ⟨ho2, hB2, -⟩
  rw [Nat.zero_add, List.nil_append] at ho2
  refine Lw.val (Ex.assign rfl) rfl ?_
  refine Lw.nil ?_
  refine Pw.thenN (Cw.out ?_)
  refine Cw.ret ?_
  refine Pw.ret1 rfl rfl ?_
  exact ⟨ho2, hB1.trans hB2⟩
theorem clip32_c (u : Value) (a : List (BitVec 32)) (w : World) (hu : SlT i32 w u a) : Fnc Tryz.prog 60 [u] w (fun r w' => r = clip u ∧ Below w.heap.size w w') := by
  refine Fnc.enter (n := 9) Tryz.func60 (by kernel_rfl) rfl rfl rfl ?_
  refine Cw.seq ?_
  refine Cw.region ?_
  refine Lw.val (Ex.assign rfl) rfl ?_
  refine Lw.nil ?_
  refine Pw.thenN (Cw.out ?_)
  refine Cw.seq ?_
  refine Cw.region ?_
  refine Lw.val (Ex.move rfl) rfl ?_
  refine Lw.val (Ex.move rfl) rfl ?_
  refine Lw.val (Ex.lenS st_27 rfl (by assumption)) rfl ?_
  refine Lw.val (Ex.move rfl) rfl ?_
  refine Lw.val (Ex.lenS st_27 rfl (by assumption)) rfl ?_
  refine Lw.val (Ex.clip st_27 rfl rfl rfl hu.shp) rfl ?_
  refine Lw.val (Ex.assign rfl) rfl ?_
  refine Lw.nil ?_
  refine Pw.thenN (Cw.out ?_)
  refine Cw.ret ?_
  refine Pw.ret1 rfl rfl ?_
  exact ⟨rfl, Below.refl _ _⟩

def mvE (t : T4) (s : List Int) : Int := if tok t.s t.l && Shapes.ok s then (if Shapes.size s = (t.l.length : Int) then 0 else 10) else 1
theorem mshape_c (t : T4) (u : Value) (s : List Int) (W : World) (h_t : t.at W) (h_u : SlT (Value.int .i64) W u s) :
    Fnc Tryz.prog 83 [t.v, u] W (fun r w' => Below W.heap.size W w' ∧ AnsK W w' r (mvE t s) s t.l) := by
  have hB := Below.refl W.heap.size W
  refine Fnc.enter (n := 32) Tryz.func83 (by kernel_rfl) rfl rfl rfl ?_
  refine Cw.seq ?_
  refine Cw.region ?_
  refine Lw.boxV (cs := [t.x, t.y]) rfl rfl rfl ?_
  rintro A_t w eA_t b_t hn -
  replace hB := hB.bs hn
  replace h_t := h_t.bs hn
  replace h_u := h_u.bs hn
  clear hn
  have z0 := below_size hB
  have y_t := blk_lt b_t
  refine Lw.newA it_29 rfl ?_
  rintro A_r w eA_r b_r hn -
  replace hB := hB.bs hn
  replace h_t := h_t.bs hn
  replace h_u := h_u.bs hn
  replace b_t := b_t.bs hn
  clear hn
  refine Lw.val (Ex.assign rfl) rfl ?_
  refine Lw.nil ?_
  refine Pw.thenN (Cw.out ?_)
  refine Cw.seq ?_
  refine Cw.block ?_
  refine Cw.seq ?_
  refine Cw.region ?_
  refine Lw.val (Ex.ldA (ag_29 _) (sz_29 _) rfl rfl (by assumption)) rfl ?_
  have z_r := blk_lt b_r
  refine Lw.callF rfl rfl (tcheck_c t.x t.y t.s t.l _ h_t.1 h_t.2) ?_
  rintro _ w ⟨rfl, hn⟩
  replace hB := hB.bs hn
  replace h_t := h_t.bs hn
  replace h_u := h_u.bs hn
  replace b_t := b_t.bs hn
  replace b_r := b_r.bs hn
  clear hn
  refine Lw.val (Ex.not rfl) rfl ?_
  refine Lw.val (Ex.move rfl) rfl ?_
  refine Lw.part 10 rfl ?_ ?_
  · intro g
    refine Lw.pass (dj := 10) rfl rfl rfl rfl ?_
    refine Lw.pass (dj := 10) rfl rfl rfl rfl ?_
    refine Lw.pass (dj := 10) rfl rfl rfl rfl ?_
    refine Lw.val (Ex.pickT rfl rfl) rfl ?_
    refine Lw.val (Ex.assign rfl) rfl ?_
    refine Lw.nil ?_
    refine Pw.thenN (Cw.out ?_)
    refine Cw.condT rfl ?_
    refine Cw.seq ?_
    refine Cw.region ?_
    refine Lw.val (Ex.build (vs := []) (cs := [.slice none 0 0, .slice none 0 0]) rfl (by kernel_rfl)) rfl ?_
    refine Lw.unit (Xu.stA (cs := [.slice none 0 0, .slice none 0 0]) rfl rfl rfl rfl rfl b_r rfl) ?_
    rintro w3 ⟨b_r, hg, -⟩
    have hB := hB.grown hg (below_size hB) (by rintro _ ⟨⟩; omega)
    refine Lw.val (Ex.assign rfl) rfl ?_
    refine Lw.nil ?_
    refine Pw.thenN (Cw.out ?_)
    refine Cw.ret ?_
    refine Pw.blkR ?_
    refine Pw.thenR ?_
    refine Pw.retCT rfl rfl rfl (by assumption) (Tryz.underlying29) rfl rfl rfl ?_
    rw [show mvE t s = 1 by simp_all [mvE]]
    exact ⟨hB, ansK_no (by decide)⟩
  intro g1
  refine Lw.take (dj := 10) rfl rfl ?_
  refine Lw.val (Ex.move rfl) rfl ?_
  refine Lw.take (dj := 10) rfl rfl ?_
  refine Lw.callF rfl rfl (check_c u s _ h_u) ?_
  rintro _ w ⟨rfl, hn⟩
  replace hB := hB.bs hn
  replace h_t := h_t.bs hn
  replace h_u := h_u.bs hn
  replace b_t := b_t.bs hn
  replace b_r := b_r.bs hn
  clear hn
  refine Lw.take (dj := 10) rfl rfl ?_
  refine Lw.val (Ex.not rfl) rfl ?_
  refine Lw.val (Ex.pickF rfl rfl) rfl ?_
  refine Lw.val (Ex.assign rfl) rfl ?_
  refine Lw.nil ?_
  refine Pw.thenN (Cw.out ?_)
  refine Cw.cond rfl ?_ ?_
  · intro g
    refine Cw.seq ?_
    refine Cw.region ?_
    refine Lw.val (Ex.build (vs := []) (cs := [.slice none 0 0, .slice none 0 0]) rfl (by kernel_rfl)) rfl ?_
    refine Lw.unit (Xu.stA (cs := [.slice none 0 0, .slice none 0 0]) rfl rfl rfl rfl rfl b_r rfl) ?_
    rintro w3 ⟨b_r, hg, -⟩
    have hB := hB.grown hg (below_size hB) (by rintro _ ⟨⟩; omega)
    refine Lw.val (Ex.assign rfl) rfl ?_
    refine Lw.nil ?_
    refine Pw.thenN (Cw.out ?_)
    refine Cw.ret ?_
    refine Pw.blkR ?_
    refine Pw.thenR ?_
    refine Pw.retCT rfl rfl rfl (by assumption) (Tryz.underlying29) rfl rfl rfl ?_
    rw [show mvE t s = 1 by simp_all [mvE]]
    exact ⟨hB, ansK_no (by decide)⟩
  intro g2
  have k_t : tok t.s t.l = true := by simpa using g1
  have k_s : Shapes.ok s = true := by simpa using g2
  have szs := Shapes.size_le s
  have szt := Shapes.size_le t.s
  have lt := (tok_ok k_t).2
  have S := (Shapes.ok_iff s).1 k_s
  clear g1 g2
  have h_t2 := h_t.2
  refine Cw.seq ?_
  refine Cw.quiet mixed (by kernel_rfl) ?_
  refine Qw.val (fun w1 hq => Ex.move rfl) rfl ?_
  refine Qw.callF rfl rfl (fun w1 hq => (size_c u s w1 (h_u.bs hq)).q hq) ?_
  refine Qw.val (fun w1 hq => Ex.fieldAddr (q := 0) Tryz.underlying29 rfl (sz_27 _) rfl) rfl ?_
  refine Qw.val (fun w1 hq => Ex.ldB (ag_27 _) rfl (Blk.bs (by assumption) hq) rfl) rfl ?_
  refine Qw.val (fun w1 hq => Ex.lenS st_27 rfl (Sl.bs (by assumption) hq)) rfl ?_
  refine Qw.val (fun w1 hq => Ex.neq rfl rfl) rfl ?_
  refine Qw.val (fun w1 hq => Ex.assign rfl) rfl ?_
  refine Qw.nil (fun w1 hq => ?_)
  refine Pw.thenN (Cw.out ?_)
  replace hB := hB.bs hq
  replace h_t := h_t.bs hq
  replace h_u := h_u.bs hq
  replace b_t := b_t.bs hq
  replace b_r := b_r.bs hq
  replace h_t2 := h_t2.bs hq
  clear hq
  refine Cw.cond rfl ?_ ?_
  · intro g
    have g : ¬ Shapes.size s = (t.l.length : Int) := by simpa using g
    refine Cw.seq ?_
    refine Cw.region ?_
    refine Lw.val (Ex.build (vs := []) (cs := [.slice none 0 0, .slice none 0 0]) rfl (by kernel_rfl)) rfl ?_
    refine Lw.unit (Xu.stA (cs := [.slice none 0 0, .slice none 0 0]) rfl rfl rfl rfl rfl b_r rfl) ?_
    rintro w3 ⟨b_r, hg, -⟩
    have hB := hB.grown hg (below_size hB) (by rintro _ ⟨⟩; omega)
    refine Lw.val (Ex.assign rfl) rfl ?_
    refine Lw.nil ?_
    refine Pw.thenN (Cw.out ?_)
    refine Cw.ret ?_
    refine Pw.blkR ?_
    refine Pw.thenR ?_
    refine Pw.retCT rfl rfl rfl (by assumption) (Tryz.underlying29) rfl rfl rfl ?_
    rw [show mvE t s = 10 by unfold mvE; rw [k_t, k_s]; simp [g]]
    exact ⟨hB, ansK_no (by decide)⟩
  intro g
  have g : Shapes.size s = (t.l.length : Int) := by simpa using g
  rw [show mvE t s = 0 by unfold mvE; rw [k_t, k_s]; simp [g]]
  refine Cw.skip ?_
  refine Pw.blkN ?_
  refine Pw.thenN (Cw.out ?_)
  refine Cw.seq ?_
  rename World => w1
  have zW := below_size hB
  have q_r : A_r < w1.heap.size := blk_lt b_r
  have b_t0 := b_t
  have h_t20 := h_t2
  refine Cw.any mixed (fun w hcw _ => ?_)
  replace hB := hB.bs hcw
  replace h_t := h_t.bs hcw
  replace h_u := h_u.bs hcw
  replace b_t := b_t.bs hcw
  replace b_r := b_r.bs hcw
  replace h_t2 := h_t2.bs hcw
  have a_tr : A_t < A_r := by omega
  refine Aw.cls (fun w' => Below A_r w1 w') (fun hC => ?_) (hcw.mono (by omega))
  refine AwC.take (i := 0) (NoP.thn NoP.ret) rfl (by kernel_rfl) (by kernel_rfl) (by kernel_rfl) (fun w1 hc => Ex.move rfl) rfl ?_
  refine AwC.take (i := 3) (NoP.thn NoP.ret) rfl (by kernel_rfl) (by kernel_rfl) (by kernel_rfl) (fun w1 hc => Ex.fieldAddr (q := 0) Tryz.underlying29 rfl (sz_27 _) rfl) rfl ?_
  refine AwC.take (i := 4) (NoP.thn NoP.ret) rfl (by kernel_rfl) (by kernel_rfl) (by kernel_rfl) (fun w1 hc => Ex.ldB (ag_27 _) rfl (Blk.bl (by assumption) hc a_tr) rfl) rfl ?_
  refine AwC.only (by first | exact hcr | exact hcw.mono (by omega)) (i := 1) (by kernel_rfl) rfl ?_
  have zc := hcw.size
  refine Lw.callF rfl rfl (clone_c u s _ h_u (by omega)) ?_
  rintro x w ⟨hx, hn⟩
  have hx := own_mono (B' := w1.heap.size) hx (by omega)
  clear zc
  replace hB := hB.bs hn
  replace h_t := h_t.bs hn
  replace h_u := h_u.bs hn
  replace b_t := b_t.bs hn
  replace b_r := b_r.bs hn
  replace h_t2 := h_t2.bs hn
  replace hcw := hcw.bs hn
  clear hn
  refine AwC.back ?_
  refine AwC.only (by first | exact hcr | exact hcw.mono (by omega)) (i := 2) (by kernel_rfl) rfl ?_
  refine Lw.callF rfl rfl (clip_c x s _ (own_slT hx)) ?_
  rintro _ w ⟨rfl, hn⟩
  replace hB := hB.bs hn
  replace h_t := h_t.bs hn
  replace h_u := h_u.bs hn
  replace b_t := b_t.bs hn
  replace b_r := b_r.bs hn
  replace h_t2 := h_t2.bs hn
  replace hcw := hcw.bs hn
  replace hx := hx.bs hn
  clear hn
  have kx := KRow.clip hx
  refine AwC.back ?_
  refine AwC.only (by first | exact hcr | exact hcw.mono (by omega)) (i := 5) (by kernel_rfl) rfl ?_
  have zc := hcw.size
  have zx : ∀ b, (clip x).ownBlock = some b → b < _ := fun b e => (kx.lt b e).2
  refine Lw.callF rfl rfl (clone32_c t.y t.l _ h_t2 (by omega)) ?_
  rintro y w ⟨hy, hn⟩
  have py := own_block hy
  have hy := own_mono (B' := w1.heap.size) hy (by omega)
  clear zc
  replace hB := hB.bs hn
  replace h_t := h_t.bs hn
  replace h_u := h_u.bs hn
  replace b_t := b_t.bs hn
  replace b_r := b_r.bs hn
  replace h_t2 := h_t2.bs hn
  replace hcw := hcw.bs hn
  replace kx := kx.bs hn
  clear hn
  refine AwC.back ?_
  refine AwC.only (by first | exact hcr | exact hcw.mono (by omega)) (i := 6) (by kernel_rfl) rfl ?_
  refine Lw.callF rfl rfl (clip32_c y t.l _ (own_slT hy)) ?_
  rintro _ w ⟨rfl, hn⟩
  replace hB := hB.bs hn
  replace h_t := h_t.bs hn
  replace h_u := h_u.bs hn
  replace b_t := b_t.bs hn
  replace b_r := b_r.bs hn
  replace h_t2 := h_t2.bs hn
  replace hcw := hcw.bs hn
  replace kx := kx.bs hn
  replace hy := hy.bs hn
  clear hn
  have ky := KRow.clip hy
  have by' : (clip y).ownBlock = y.ownBlock := clip_block y (by obtain ⟨_, ao, cap, rfl, _⟩ := own_sl hy; exact ⟨_, _, _, rfl⟩)
  refine AwC.back ?_
  refine AwC.take (i := 7) (NoP.thn NoP.ret) rfl (by kernel_rfl) (by kernel_rfl) (by kernel_rfl) (fun w1 hc => Ex.build (vs := [(0, clip x), (1, clip y)]) (cs := [clip x, clip y]) rfl (bt_ten _ _ kx.slT.one ky.slT.one)) rfl ?_
  refine AwC.only (by first | exact hcr | exact hcw.mono (by omega)) (i := 8) (by kernel_rfl) rfl ?_
  have hxy : [clip x, clip y].all (·.oneCell') = true := by simp [kx.slT.one', ky.slT.one']
  refine Lw.unit (Xu.stA (cs := [clip x, clip y]) rfl rfl rfl rfl hxy b_r rfl) ?_
  rintro w2 ⟨b_r2, hg, -⟩
  have kx := bl_krow kx hg q_r
  have ky := bl_krow ky hg q_r
  have hB := hB.grown hg (below_size hB) (by rintro _ ⟨⟩; omega)
  have hcr : Below A_r w1 w2 := (hcw.mono (by omega)).grown hg (by have := hcw.size; omega) (by rintro _ ⟨⟩; omega)
  refine AwC.back ?_
  refine AwC.take (i := 9) (NoP.thn NoP.ret) rfl (by kernel_rfl) (by kernel_rfl) (by kernel_rfl) (fun w1 hc => Ex.assign rfl) rfl ?_
  refine AwC.done (by first | exact hcr | exact hcw.mono (by omega)) (by kernel_rfl) ?_
  refine Pw.thenN (Cw.out ?_)
  refine Cw.ret ?_
  refine Pw.retCT rfl rfl rfl (by assumption) (Tryz.underlying29) rfl rfl rfl ?_
  exact ⟨hB, clip x, clip y, rfl, fun h => absurd rfl h, fun _ => ⟨kx.mono zW, ky.mono zW, fun b e1 e2 => by
    have h1 := py b (by rw [← by']; exact e1)
    have h2 := zx b e2
    omega⟩⟩
theorem behind_c (u : Value) (s : List Int) (k : Nat) (w : World) (h_u : SlT (Value.int .i64) w u s) (hok : Shapes.ok s = true) (hk : k < s.length) :
    Fnc Tryz.prog 114 [u, .int .i64 (k : Int)] w (fun r w' => r = .int .i64 (Shapes.prod (s.drop (k + 1))) ∧ Below w.heap.size w w') := by
  have S := (Shapes.ok_iff s).1 hok
  obtain ⟨d, hd⟩ : ∃ d, d = s.drop (k + 1) := ⟨_, rfl⟩
  have ld : d.length = s.length - (k + 1) := by rw [hd, List.length_drop]
  have gd : Shapes.good d := hd ▸ Shapes.good_drop S.2.1 (k + 1)
  have pd : Shapes.prod d ≤ 4096 := by have := (Shapes.ok_prod hok (k + 1)).2; rw [hd]; exact this
  have h_d := SlT.drop h_u (i := k + 1) (by omega)
  rw [← hd] at h_d ⊢
  refine Fnc.enter (n := 22) Tryz.func114 (by kernel_rfl) rfl rfl rfl ?_
  refine Cw.seq ?_
  refine Cw.region ?_
  refine Lw.val (Ex.assign rfl) rfl ?_
  refine Lw.nil ?_
  refine Pw.thenN (Cw.out ?_)
  refine Cw.seq ?_
  refine Cw.region ?_
  refine Lw.val (Ex.assign rfl) rfl ?_
  refine Lw.nil ?_
  refine Pw.thenN (Cw.out ?_)
  refine Cw.seq ?_
  refine Cw.seq ?_
  refine Cw.region ?_
  refine Lw.val (Ex.move rfl) rfl ?_
  refine Lw.val (Ex.move rfl) rfl ?_
  refine Lw.val ((Ex.addI rfl rfl (by omega)).as (congrArg (Value.int .i64) (show (k : Int) + 1 = ((k + 1 : Nat) : Int) by omega))) rfl ?_
  refine Lw.val (Ex.cutL (i := k + 1) st_140 rfl rfl h_u (by omega)) rfl ?_
  refine Lw.val (Ex.lenS st_140 rfl (by assumption)) rfl ?_
  refine Lw.val (Ex.move rfl) rfl ?_
  refine Lw.nil ?_
  refine Pw.thenN (Cw.out ?_)
  refine Cw.block ?_
  refine Cw.loop (S := Nat) (fun j => [(5, .int .i64 (Shapes.prod (d.take j))), (11, cut u 1 (k + 1) s.length), (12, .int .i64 (d.length : Int)), (13, .int .i64 (j : Int))]) (fun j w' => j ≤ d.length ∧ w' = w) (fun j => d.length - j) (0) ⟨rfl, rfl, rfl, rfl, trivial⟩ ?_ ?_
  · exact ⟨Nat.zero_le _, rfl⟩
  rintro j w1 ⟨hj, rfl⟩
  refine Cw.seq ?_
  refine Cw.region ?_
  refine Lw.val (Ex.lss rfl rfl) rfl ?_
  refine Lw.nil ?_
  refine Pw.thenN (Cw.out ?_)
  refine Cw.seq ?_
  refine Cw.cond rfl ?_ ?_
  · intro h
    have hj' : j < d.length := by have := of_decide_eq_true h; omega
    have e1 : Shapes.prod (d.take (j + 1)) = Shapes.prod (d.take j) * d.getD j default := by
      rw [List.take_succ_eq_append_getElem hj', Shapes.prod_append]; simp [Shapes.prod, hj']
    have e2 : Shapes.prod d = Shapes.prod (d.take (j + 1)) * Shapes.prod (d.drop (j + 1)) := by rw [← Shapes.prod_append, List.take_append_drop]
    have e3 := Shapes.prod_pos (s := d.take (j + 1)) fun x hx => gd x (List.mem_of_mem_take hx)
    have e4 := Shapes.prod_pos (Shapes.good_drop gd (j + 1))
    have e5 : Shapes.prod (d.take (j + 1)) * 1 ≤ Shapes.prod (d.take (j + 1)) * Shapes.prod (d.drop (j + 1)) := Int.mul_le_mul_of_nonneg_left e4 (by omega)
    refine Cw.skip ?_
    refine Pw.thenN (Cw.out ?_)
    refine Cw.seq ?_
    refine Cw.block ?_
    refine Cw.seq ?_
    refine Cw.region ?_
    refine Lw.val (Ex.idxT st_140 rfl rfl (by assumption) _ rfl (by omega)) rfl ?_
    refine Lw.val (Ex.ldT (ag_3 _) rfl (by assumption) (by omega)) rfl ?_
    refine Lw.val (Ex.assign rfl) rfl ?_
    refine Lw.nil ?_
    refine Pw.thenN (Cw.out ?_)
    refine Cw.region ?_
    refine Lw.val (Ex.move rfl) rfl ?_
    refine Lw.val (Ex.move rfl) rfl ?_
    refine Lw.val (Ex.mulI rfl rfl (by omega)) rfl ?_
    refine Lw.val (Ex.assign rfl) rfl ?_
    refine Lw.nil ?_
    refine Pw.blkN ?_
    refine Pw.thenN (Cw.out ?_)
    refine Cw.region ?_
    refine Lw.val (Ex.addI rfl rfl (by omega)) rfl ?_
    refine Lw.val (Ex.move rfl) rfl ?_
    refine Lw.nil ?_
    exact Pw.thenN (Pw.next (j + 1) ⟨congrArg (fun x => some (Value.int .i64 x)) e1.symm, rfl, rfl, rfl, trivial⟩ (⟨hj', rfl⟩) (by omega))
  intro h
  have hj' : j = d.length := by have := of_decide_eq_false h; omega
  subst hj'
  refine Cw.exit ?_
  refine Pw.thenE ?_
  refine Pw.thenE ?_
  refine Pw.blkHit ?_
  refine Pw.thenN (Cw.out ?_)
  refine Cw.seq ?_
  refine Cw.region ?_
  refine Lw.val (Ex.move rfl) rfl ?_
  refine Lw.val (Ex.assign rfl) rfl ?_
  refine Lw.nil ?_
  refine Pw.thenN (Cw.out ?_)
  refine Cw.ret ?_
  refine Pw.ret1 rfl rfl ?_
  exact ⟨by rw [List.take_length], Below.refl _ _⟩
/-- A tensor that is filled, number by number, from what is told. -/
theorem filled_c (u : Value) (s : List Int) (f : FuncId) (q : List Value) (F : Nat → BitVec 32) (W : World) (h_u : SlT (Value.int .i64) W u s) (hok : Shapes.ok s = true)
    (hf : ∀ (i : Nat) (a : Value) (w : World), Below W.heap.size W w → i < (Shapes.size s).toNat → SlT (Value.int .i64) w a (Shapes.place s i) → Fnc Tryz.prog f ([a] ++ q) w (fun r w' => r = i32 (F i) ∧ Below w.heap.size w w')) :
    Fnc Tryz.prog 112 [u, .func (.func f) #[] q.toArray] W (fun r w' => Below W.heap.size W w' ∧ ∃ x y, r = .tuple #[.agg #[x, y], .int .i64 0] ∧ Made1 W w' x y s ((List.range (Shapes.size s).toNat).map F)) := by
  have hB := Below.refl W.heap.size W
  have szs := Shapes.size_le s
  have h_u0 := h_u
  refine Fnc.enter (n := 38) Tryz.func112 (by kernel_rfl) rfl rfl rfl ?_
  refine Cw.seq ?_
  refine Cw.region ?_
  refine Lw.newA it_29 rfl ?_
  rintro A_r w eA_r b_r hn -
  replace hB := hB.bs hn
  replace h_u := h_u.bs hn
  clear hn
  refine Lw.val (Ex.assign rfl) rfl ?_
  refine Lw.nil ?_
  refine Pw.thenN (Cw.out ?_)
  refine Cw.seq ?_
  refine Cw.region ?_
  refine Lw.val (Ex.move rfl) rfl ?_
  have z_r := blk_lt b_r
  refine Lw.callF rfl rfl (new_c u s _ h_u) ?_
  rintro _ w7 ⟨hn7, ⟨hk, x, y, rfl, hm⟩ | ⟨hk, rfl⟩⟩
  · refine Lw.val (Ex.move rfl) rfl ?_
    refine Lw.val (Ex.extract (i := 0) rfl rfl) rfl ?_
    refine Lw.val (Ex.extract (i := 1) rfl rfl) rfl ?_
    refine Lw.boxed (cs := [x, y]) it_29 rfl rfl rfl rfl (fun _ => rfl) (hm.one) ?_
    rintro A_m w8 eA_m b_m hn8 zhn8
    have M := mine_new hm eA_m b_m hn8 zhn8 hn7.size
    have hw8 := bt hn7 hn8
    have zw := hw8.size
    have zB := below_size hB
    replace hB := hB.bs hw8
    replace h_u := h_u.bs hw8
    replace b_r := b_r.bs hw8
    clear hm b_m hn7 hn8 eA_m zhn8 hw8
    obtain ⟨fl, hfl⟩ : ∃ l, l = (List.range (Shapes.size s).toNat).map F := ⟨_, rfl⟩
    obtain ⟨zs, hzs⟩ : ∃ l, l = List.replicate (Shapes.size s).toNat 0#32 := ⟨_, rfl⟩
    rw [← hzs] at M
    have n1 : fl.length = zs.length := by rw [hfl, hzs]; simp
    have n2 : zs.length = (Shapes.size s).toNat := by rw [hzs]; simp
    have b_m := M.box
    have y_m := M.sly
    refine Lw.val (Ex.assign rfl) rfl ?_
    refine Lw.nil ?_
    refine Pw.thenN (Cw.out ?_)
    refine Cw.seq ?_
    refine Cw.seq ?_
    refine Cw.region ?_
    refine Lw.val (Ex.fieldAddr (q := 0) Tryz.underlying29 rfl (sz_27 _) rfl) rfl ?_
    refine Lw.val (Ex.ldB (ag_27 _) rfl (by assumption) rfl) rfl ?_
    refine Lw.val (Ex.lenS st_27 rfl (by assumption)) rfl ?_
    refine Lw.val (Ex.move rfl) rfl ?_
    refine Lw.nil ?_
    refine Pw.thenN (Cw.out ?_)
    refine Cw.block ?_
    refine Cw.loop (S := Nat) (fun i => [(0, u), (1, .func (.func f) #[] q.toArray), (4, .pointer (some ⟨A_r, 0, none⟩)), (6, .pointer (some ⟨A_m, 0, none⟩)), (7, .int .i64 0), (18, .int .i64 (zs.length : Int)), (19, .int .i64 (i : Int))]) (fun i w' => i ≤ zs.length ∧ Below w.heap.size w8 w' ∧ MineT w' w.heap.size w8.heap.size A_m x y s (fl.take i ++ zs.drop i)) (fun i => zs.length - i) (0) ⟨rfl, rfl, rfl, rfl, rfl, rfl, rfl, trivial⟩ ?_ ?_
    · exact ⟨by omega, Below.refl _ _, by rw [td_zero]; exact M⟩
    clear M b_m y_m
    rintro i w11 ⟨hi, hw, M⟩
    have hB2 := hB.trans (hw.mono (by omega))
    refine Cw.seq ?_
    refine Cw.region ?_
    refine Lw.val (Ex.lss rfl rfl) rfl ?_
    refine Lw.nil ?_
    refine Pw.thenN (Cw.out ?_)
    refine Cw.seq ?_
    refine Cw.cond rfl ?_ ?_
    · intro h
      have hi' : i < zs.length := by have := of_decide_eq_true h; omega
      have hu2 : SlT (Value.int .i64) w11 u s := Sl.stay h_u0 fun k e hne => hB2.block k (Sl.blk h_u0 hne k e)
      refine Cw.skip ?_
      refine Pw.thenN (Cw.out ?_)
      refine Cw.seq ?_
      refine Cw.block ?_
      refine Cw.seq ?_
      refine Cw.region ?_
      refine Lw.val (Ex.move rfl) rfl ?_
      refine Lw.val (Ex.assign rfl) rfl ?_
      refine Lw.nil ?_
      refine Pw.thenN (Cw.out ?_)
      refine Cw.seq ?_
      refine Cw.region ?_
      refine Lw.val (Ex.move rfl) rfl ?_
      refine Lw.val (Ex.move rfl) rfl ?_
      refine Lw.callF rfl rfl (at_c s u (i : Int) w11 hu2) ?_
      rintro _ w12 ⟨a, rfl, ha, hn⟩
      have ha := ha.sl
      rw [show Shapes.atl s (i : Int) = Shapes.place s i by unfold Shapes.atl; rw [if_pos (by omega)]] at ha
      have M := M.bs hn
      have hB3 := bt hB2 hn
      have hw := hw.trans (hn.mono (by have := hw.size; omega))
      have b_m := M.box
      have y_m := M.sly
      have e1 := td_len (i := i) n1
      refine Lw.val (Ex.move rfl) rfl ?_
      refine Lw.val (Ex.extract (i := 0) rfl rfl) rfl ?_
      refine Lw.val (Ex.extract (i := 1) rfl rfl) rfl ?_
      refine Lw.val (Ex.assign rfl) rfl ?_
      refine Lw.val (Ex.assign rfl) rfl ?_
      refine Lw.nil ?_
      refine Pw.thenN (Cw.out ?_)
      refine Cw.tail 7 mixed (by kernel_rfl) ?_
      refine Qw.val (fun w1 hq => Ex.fieldAddr (q := 0) Tryz.underlying29 rfl (sz_27 _) rfl) rfl ?_
      refine Qw.val (fun w1 hq => Ex.ldB (ag_27 _) rfl (Blk.bs (by assumption) hq) rfl) rfl ?_
      refine Qw.val (fun w1 hq => Ex.move rfl) rfl ?_
      refine Qw.val (fun w1 hq => Ex.move rfl) rfl ?_
      refine Qw.val (fun w1 hq => Ex.move rfl) rfl ?_
      refine Qw.callV (p := []) (q := q) rfl rfl rfl (fun w1 hq => (hf i a w1 (bt hB3 hq) (by omega) (ha.bs hq)).q hq) ?_
      refine Qw.val (fun w1 hq => Ex.idxT st_27 rfl rfl (Sl.bs (by assumption) hq) _ rfl (by omega)) rfl ?_
      refine Qw.done (fun w13 hq => ?_)
      refine Lw.unit ((M.bs hq).st (sz_21 _) rfl rfl (by omega)) ?_
      rintro w14 ⟨M2, hg2, -⟩
      have hw2 := (M.bs hq).below (hw.trans (hq.mono (by have := hw.size; omega))) (by omega) hg2
      rw [show F i = fl.getD i default by rw [hfl]; simp [show i < (Shapes.size s).toNat by omega], td_set n1 hi'] at M2
      refine Lw.nil ?_
      refine Pw.blkN ?_
      refine Pw.thenN (Cw.out ?_)
      refine Cw.region ?_
      refine Lw.val (Ex.addI rfl rfl (by omega)) rfl ?_
      refine Lw.val (Ex.move rfl) rfl ?_
      refine Lw.nil ?_
      exact Pw.thenN (Pw.next (i + 1) ⟨rfl, rfl, rfl, rfl, rfl, rfl, rfl, trivial⟩ (⟨hi', hw2, M2⟩) (by omega))
    intro h
    have hi' : i = zs.length := by have := of_decide_eq_false h; omega
    subst hi'
    rw [td_all n1] at M
    have b_m := M.box
    have b_r := b_r.bl hw z_r
    rw [hfl] at M
    refine Cw.exit ?_
    refine Pw.thenE ?_
    refine Pw.thenE ?_
    refine Pw.blkHit ?_
    refine Pw.thenN (Cw.out ?_)
    refine Cw.seq ?_
    refine Cw.region ?_
    refine Lw.val (Ex.ldA (ag_29 _) (sz_29 _) rfl rfl (by assumption)) rfl ?_
    refine Lw.val (Ex.move rfl) rfl ?_
    refine Lw.unit (Xu.stA (cs := [x, y]) rfl rfl rfl rfl (mine_at M).one b_r rfl) ?_
    rintro w12 ⟨b_r2, hg, -⟩
    have M2 := M.keep hg (by rintro _ ⟨⟩; exact .inl z_r)
    have hB3 := hB2.grown hg (below_size hB2) (by rintro _ ⟨⟩; omega)
    refine Lw.val (Ex.assign rfl) rfl ?_
    refine Lw.nil ?_
    refine Pw.thenN (Cw.out ?_)
    refine Cw.ret ?_
    refine Pw.retCT rfl rfl rfl (by assumption) (Tryz.underlying29) rfl rfl rfl ?_
    exact ⟨hB3, x, y, rfl, ⟨M2.row.mono (by omega), own_mono M2.lst.own (by omega), M2.yx⟩⟩
  exact absurd hok (by rw [hk]; decide)
theorem idxOf_c (u : Value) (l : List Int) (x : Int) (w : World) (h_u : SlT (Value.int .i64) w u l) : Fnc Tryz.prog 125 [u, .int .i64 x] w (fun r w' => (∃ j, r = .int .i64 j ∧ decide (0 ≤ j) = l.contains x) ∧ w' = w) := by
  have hle := h_u.le
  refine Fnc.enter (n := 19) Tryz.func125 (by kernel_rfl) rfl rfl rfl ?_
  refine Cw.seq ?_
  refine Cw.region ?_
  refine Lw.val (Ex.assign rfl) rfl ?_
  refine Lw.nil ?_
  refine Pw.thenN (Cw.out ?_)
  refine Cw.seq ?_
  refine Cw.seq ?_
  refine Cw.region ?_
  refine Lw.val (Ex.move rfl) rfl ?_
  refine Lw.val (Ex.lenS st_26 rfl (by assumption)) rfl ?_
  refine Lw.val (Ex.move rfl) rfl ?_
  refine Lw.nil ?_
  refine Pw.thenN (Cw.out ?_)
  refine Cw.block ?_
  refine Cw.loop (S := Nat) (fun i => [(0, u), (1, .int .i64 x), (7, .int .i64 (l.length : Int)), (8, .int .i64 (i : Int))]) (fun i w' => i ≤ l.length ∧ (l.take i).contains x = false ∧ w' = w) (fun i => l.length - i) (0) ⟨rfl, rfl, rfl, rfl, trivial⟩ ?_ ?_
  · exact ⟨Nat.zero_le _, rfl, rfl⟩
  rintro i w1 ⟨hi, hc, rfl⟩
  refine Cw.seq ?_
  refine Cw.region ?_
  refine Lw.val (Ex.lss rfl rfl) rfl ?_
  refine Lw.nil ?_
  refine Pw.thenN (Cw.out ?_)
  refine Cw.seq ?_
  refine Cw.cond rfl ?_ ?_
  · intro h
    have hi' : i < l.length := by have := of_decide_eq_true h; omega
    have e1 : l.take (i + 1) = l.take i ++ [l.getD i default] := by rw [List.take_succ_eq_append_getElem hi']; simp [hi']
    refine Cw.skip ?_
    refine Pw.thenN (Cw.out ?_)
    refine Cw.seq ?_
    refine Cw.block ?_
    refine Cw.seq ?_
    refine Cw.region ?_
    refine Lw.val (Ex.move rfl) rfl ?_
    refine Lw.val (Ex.assign rfl) rfl ?_
    refine Lw.nil ?_
    refine Pw.thenN (Cw.out ?_)
    refine Cw.seq ?_
    refine Cw.region ?_
    refine Lw.val (Ex.move rfl) rfl ?_
    refine Lw.val (Ex.move rfl) rfl ?_
    refine Lw.val (Ex.move rfl) rfl ?_
    refine Lw.val (Ex.idxT st_26 rfl rfl (by assumption) _ rfl (by omega)) rfl ?_
    refine Lw.val (Ex.ldT (ag_3 _) rfl (by assumption) (by omega)) rfl ?_
    refine Lw.val (Ex.eql rfl rfl) rfl ?_
    refine Lw.nil ?_
    refine Pw.thenN (Cw.out ?_)
    refine Cw.cond rfl ?_ ?_
    · intro g
      have g := of_decide_eq_true g
      refine Cw.seq ?_
      refine Cw.region ?_
      refine Lw.val (Ex.move rfl) rfl ?_
      refine Lw.val (Ex.assign rfl) rfl ?_
      refine Lw.nil ?_
      refine Pw.thenN (Cw.out ?_)
      refine Cw.ret ?_
      refine Pw.blkR ?_
      refine Pw.thenR ?_
      refine Pw.thenR ?_
      refine Pw.blkR ?_
      refine Pw.thenR ?_
      refine Pw.ret1 rfl rfl ?_
      refine ⟨⟨(i : Int), rfl, ?_⟩, rfl⟩
      have hm : x ∈ l := by rw [g]; simp [hi']
      rw [decide_eq_true (by omega), List.contains_iff_mem.2 hm]
    intro g
    have g := of_decide_eq_false g
    refine Cw.skip ?_
    refine Pw.blkN ?_
    refine Pw.thenN (Cw.out ?_)
    refine Cw.region ?_
    refine Lw.val (Ex.addI rfl rfl (by omega)) rfl ?_
    refine Lw.val (Ex.move rfl) rfl ?_
    refine Lw.nil ?_
    exact Pw.thenN (Pw.next (i + 1) ⟨rfl, rfl, rfl, rfl, trivial⟩ (⟨hi', by rw [e1, List.contains_append, hc, Bool.false_or, List.contains_cons, beq_false_of_ne g]; rfl, rfl⟩) (by omega))
  intro h
  have hi' : i = l.length := by have := of_decide_eq_false h; omega
  subst hi'
  rw [List.take_length] at hc
  refine Cw.exit ?_
  refine Pw.thenE ?_
  refine Pw.thenE ?_
  refine Pw.blkHit ?_
  refine Pw.thenN (Cw.out ?_)
  refine Cw.seq ?_
  refine Cw.region ?_
  refine Lw.val (Ex.assign rfl) rfl ?_
  refine Lw.nil ?_
  refine Pw.thenN (Cw.out ?_)
  refine Cw.ret ?_
  refine Pw.ret1 rfl rfl ?_
  exact ⟨⟨-1, rfl, by rw [hc]; rfl⟩, rfl⟩
theorem contains_c (u : Value) (l : List Int) (x : Int) (w : World) (h_u : SlT (Value.int .i64) w u l) : Fnc Tryz.prog 98 [u, .int .i64 x] w (fun r w' => r = .bool (l.contains x) ∧ Below w.heap.size w w') := by
  refine Fnc.enter (n := 9) Tryz.func98 (by kernel_rfl) rfl rfl rfl ?_
  refine Cw.seq ?_
  refine Cw.region ?_
  refine Lw.val (Ex.assign rfl) rfl ?_
  refine Lw.nil ?_
  refine Pw.thenN (Cw.out ?_)
  refine Cw.seq ?_
  refine Cw.region ?_
  refine Lw.val (Ex.move rfl) rfl ?_
  refine Lw.val (Ex.move rfl) rfl ?_
  refine Lw.callF rfl rfl (idxOf_c u l x w h_u) ?_
  rintro _ _ ⟨⟨j, rfl, hj⟩, rfl⟩
  refine Lw.val (Ex.geq rfl rfl) rfl ?_
  refine Lw.val (Ex.assign rfl) rfl ?_
  refine Lw.nil ?_
  refine Pw.thenN (Cw.out ?_)
  refine Cw.ret ?_
  refine Pw.ret1 rfl rfl ?_
  exact ⟨congrArg Value.bool hj, Below.refl _ _⟩
/-- Where a turned number comes from. -/
theorem turnF_c (A_o A_t : Nat) (v : Value) (o : List Int) (t : T4) (a : Value) (i : Nat) (w : World) (b_o : Blk w A_o 26 [v]) (b_t : Blk w A_t 29 [t.x, t.y]) (h_o : SlT (Value.int .i64) w v o) (h_t : t.at w) (k_t : tok t.s t.l = true) (ho : ordOk o = true) (hl : o.length = t.s.length)
    (h_a : SlT (Value.int .i64) w a (Shapes.place (turn t.s o) i)) :
    Fnc Tryz.prog 113 ([a] ++ [.pointer (some ⟨A_o, 0, none⟩), .pointer (some ⟨A_t, 0, none⟩)]) w (fun r w' => r = i32 (t.l.getD (tuS t.s o (Shapes.place (turn t.s o) i) o.length).toNat default) ∧ Below w.heap.size w w') := by
  have hB := Below.refl w.heap.size w
  obtain ⟨k1, k2⟩ := tok_ok k_t
  have S := (Shapes.ok_iff t.s).1 k1
  have okT := turn_ok k1 ho hl
  have T := (Shapes.ok_iff (turn t.s o)).1 okT
  obtain ⟨p, hp⟩ : ∃ p, p = Shapes.place (turn t.s o) i := ⟨_, rfl⟩
  have pin : Shapes.inn (turn t.s o) p = true := by rw [hp]; exact Shapes.place_in (by omega) T.2.1
  have lp : p.length = o.length := by rw [hp, Shapes.place_length, turn_length]
  rw [← hp] at h_a ⊢
  have hle := h_o.le
  have kt := tuS_lt k1 ho hl pin
  have szt := Shapes.size_ok k1
  have hz := Shapes.size_le t.s
  show Fnc Tryz.prog 113 [a, .pointer (some ⟨A_o, 0, none⟩), .pointer (some ⟨A_t, 0, none⟩)] w _
  refine Fnc.enter (n := 32) Tryz.func113 (by kernel_rfl) rfl rfl rfl ?_
  refine Cw.seq ?_
  refine Cw.region ?_
  refine Lw.val (Ex.assign (show _ = some (i32 (0#32)) from rfl)) rfl ?_
  refine Lw.nil ?_
  refine Pw.thenN (Cw.out ?_)
  refine Cw.seq ?_
  refine Cw.region ?_
  refine Lw.val (Ex.assign rfl) rfl ?_
  refine Lw.nil ?_
  refine Pw.thenN (Cw.out ?_)
  refine Cw.seq ?_
  refine Cw.seq ?_
  refine Cw.region ?_
  refine Lw.val (Ex.ldB (ag_26 _) rfl (by assumption) rfl) rfl ?_
  refine Lw.val (Ex.lenS st_26 rfl (by assumption)) rfl ?_
  refine Lw.val (Ex.move rfl) rfl ?_
  refine Lw.nil ?_
  refine Pw.thenN (Cw.out ?_)
  refine Cw.block ?_
  refine Cw.loop (S := Nat) (fun j => [(0, a), (1, .pointer (some ⟨A_o, 0, none⟩)), (2, .pointer (some ⟨A_t, 0, none⟩)), (5, .int .i64 (tuS t.s o p j)), (8, v), (9, .int .i64 (o.length : Int)), (10, .int .i64 (j : Int))]) (fun j w' => j ≤ o.length ∧ Below w.heap.size w w') (fun j => o.length - j) (0) ⟨rfl, rfl, rfl, rfl, rfl, rfl, rfl, trivial⟩ ?_ ?_
  · exact ⟨Nat.zero_le _, hB⟩
  rintro j w1 ⟨hj, hn⟩
  have h_o1 := h_o.bs hn
  have h_a1 := h_a.bs hn
  have b_t1 := b_t.bs hn
  have h_t1 := (h_t.bs hn).1
  refine Cw.seq ?_
  refine Cw.region ?_
  refine Lw.val (Ex.lss rfl rfl) rfl ?_
  refine Lw.nil ?_
  refine Pw.thenN (Cw.out ?_)
  refine Cw.seq ?_
  refine Cw.cond rfl ?_ ?_
  · intro h
    have hj' : j < o.length := by have := of_decide_eq_true h; omega
    obtain ⟨k, hk⟩ : ∃ k : Nat, o.getD j default = (k : Int) := ⟨_, (Int.toNat_of_nonneg (ord_in ho hj').1).symm⟩
    have hks : k < t.s.length := by have := (ord_in ho hj').2; omega
    have aj := Shapes.inn_at pin (k := j) (by rw [turn_length]; exact hj')
    rw [turn_at hj', hk, Int.toNat_natCast] at aj
    have ds := dim_at S.2.1 hks
    have pr := Shapes.ok_prod k1 (k + 1)
    have m0 : 0 ≤ p.getD j default * Shapes.prod (t.s.drop (k + 1)) := Int.mul_nonneg aj.1 (by omega)
    have m1 : p.getD j default * Shapes.prod (t.s.drop (k + 1)) ≤ 64 * 4096 := Int.mul_le_mul (by omega) pr.2 (by omega) (by decide)
    have l1 := tuS_le k1 ho hl pin hj
    have eF : tuS t.s o p j + p.getD j default * Shapes.prod (t.s.drop (k + 1)) = tuS t.s o p (j + 1) := by
      show _ = tuS t.s o p j + tuF t.s o p j
      unfold tuF; rw [hk, Int.toNat_natCast]
    refine Cw.skip ?_
    refine Pw.thenN (Cw.out ?_)
    refine Cw.seq ?_
    refine Cw.block ?_
    refine Cw.seq ?_
    refine Cw.region ?_
    refine Lw.val (Ex.move rfl) rfl ?_
    refine Lw.val (Ex.idxT st_26 rfl rfl (by assumption) _ rfl (by omega)) rfl ?_
    refine Lw.val ((Ex.ldT (ag_3 _) rfl h_o1 hj').as (congrArg (Value.int .i64) hk)) rfl ?_
    refine Lw.val (Ex.assign rfl) rfl ?_
    refine Lw.val (Ex.assign rfl) rfl ?_
    refine Lw.nil ?_
    refine Pw.thenN (Cw.out ?_)
    refine Cw.quiet mixed (by kernel_rfl) ?_
    refine Qw.val (fun w1 hq => Ex.move rfl) rfl ?_
    refine Qw.val (fun w1 hq => Ex.move rfl) rfl ?_
    refine Qw.val (fun w1 hq => Ex.move rfl) rfl ?_
    refine Qw.val (fun w1 hq => Ex.idxT st_26 rfl rfl (Sl.bs (by assumption) hq) _ rfl (by omega)) rfl ?_
    refine Qw.val (fun w1 hq => Ex.ldT (ag_3 _) rfl (Sl.bs (by assumption) hq) (by omega)) rfl ?_
    refine Qw.val (fun w1 hq => Ex.fieldAddr (q := 0) Tryz.underlying29 rfl (sz_26 _) rfl) rfl ?_
    refine Qw.val (fun w1 hq => Ex.ldB (ag_26 _) rfl (Blk.bs (by assumption) hq) rfl) rfl ?_
    refine Qw.val (fun w1 hq => Ex.move rfl) rfl ?_
    refine Qw.callF rfl rfl (fun w1 hq => (behind_c t.x t.s k w1 (h_t1.bs hq) k1 hks).q hq) ?_
    refine Qw.val (fun w1 hq => Ex.mulI rfl rfl (by omega)) rfl ?_
    refine Qw.val (fun w1 hq => Ex.addI rfl rfl (by omega)) rfl ?_
    refine Qw.val (fun w1 hq => Ex.assign rfl) rfl ?_
    refine Qw.nil (fun w2 hq => ?_)
    refine Pw.blkN ?_
    refine Pw.thenN (Cw.out ?_)
    refine Cw.region ?_
    refine Lw.val (Ex.addI rfl rfl (by omega)) rfl ?_
    refine Lw.val (Ex.move rfl) rfl ?_
    refine Lw.nil ?_
    exact Pw.thenN (Pw.next (j + 1) ⟨rfl, rfl, rfl, congrArg (fun x => some (Value.int .i64 x)) eF, rfl, rfl, rfl, trivial⟩ (⟨hj', bt hn hq⟩) (by omega))
  intro h
  have hj' : j = o.length := by have := of_decide_eq_false h; omega
  subst hj'
  obtain ⟨K, hK⟩ : ∃ K : Nat, tuS t.s o p o.length = (K : Int) := ⟨_, (Int.toNat_of_nonneg kt.1).symm⟩
  have h_t2 := (h_t.bs hn).2
  have hKl : K < t.l.length := by omega
  refine Cw.exit ?_
  refine Pw.thenE ?_
  refine Pw.thenE ?_
  refine Pw.blkHit ?_
  refine Pw.thenN (Cw.out ?_)
  refine Cw.seq ?_
  refine Cw.region ?_
  refine Lw.val (Ex.fieldAddr (q := 0) Tryz.underlying29 rfl (sz_27 _) rfl) rfl ?_
  refine Lw.val (Ex.ldB (ag_27 _) rfl (by assumption) rfl) rfl ?_
  refine Lw.val (Ex.move rfl) rfl ?_
  refine Lw.val (Ex.idxT st_27 rfl rfl h_t2 K hK hKl) rfl ?_
  refine Lw.val (Ex.ldT (ag_21 _) rfl (by assumption) (by omega)) rfl ?_
  refine Lw.val (Ex.assign rfl) rfl ?_
  refine Lw.nil ?_
  refine Pw.thenN (Cw.out ?_)
  refine Cw.ret ?_
  refine Pw.ret1 rfl rfl ?_
  exact ⟨by rw [hK, Int.toNat_natCast], hn⟩
def tnE (t : T4) (o : List Int) : Int := if tok t.s t.l && decide (o.length = t.s.length) && ordOk o then 0 else 1
theorem mturn_c (t : T4) (v : Value) (o : List Int) (W : World) (h_t : t.at W) (h_v : SlT (Value.int .i64) W v o) :
    Fnc Tryz.prog 85 [t.v, v] W (fun r w' => Below W.heap.size W w' ∧ AnsK W w' r (tnE t o) (turn t.s o) (tuL t.s t.l o)) := by
  have hB := Below.refl W.heap.size W
  have hvo := h_v.one
  refine Fnc.enter (n := 61) Tryz.func85 (by kernel_rfl) rfl rfl rfl ?_
  refine Cw.seq ?_
  refine Cw.region ?_
  refine Lw.boxV (cs := [t.x, t.y]) rfl rfl rfl ?_
  rintro A_t w eA_t b_t hn -
  replace hB := hB.bs hn
  replace h_t := h_t.bs hn
  replace h_v := h_v.bs hn
  clear hn
  refine Lw.boxV (cs := [v]) rfl hvo rfl ?_
  rintro A_o w eA_o b_o hn -
  replace hB := hB.bs hn
  replace h_t := h_t.bs hn
  replace h_v := h_v.bs hn
  replace b_t := b_t.bs hn
  clear hn
  have z0 := below_size hB
  refine Lw.newA it_29 rfl ?_
  rintro A_r w eA_r b_r hn -
  replace hB := hB.bs hn
  replace h_t := h_t.bs hn
  replace h_v := h_v.bs hn
  replace b_t := b_t.bs hn
  replace b_o := b_o.bs hn
  clear hn
  refine Lw.val (Ex.assign rfl) rfl ?_
  refine Lw.nil ?_
  refine Pw.thenN (Cw.out ?_)
  refine Cw.seq ?_
  refine Cw.seq ?_
  refine Cw.region ?_
  refine Lw.val (Ex.ldA (ag_29 _) (sz_29 _) rfl rfl (by assumption)) rfl ?_
  have z_r := blk_lt b_r
  have h_t1 := h_t.1
  refine Lw.callF rfl rfl (tcheck_c t.x t.y t.s t.l _ h_t.1 h_t.2) ?_
  rintro _ w ⟨rfl, hn⟩
  replace hB := hB.bs hn
  replace h_t := h_t.bs hn
  replace h_v := h_v.bs hn
  replace b_t := b_t.bs hn
  replace b_o := b_o.bs hn
  replace b_r := b_r.bs hn
  replace h_t1 := h_t1.bs hn
  clear hn
  refine Lw.val (Ex.not rfl) rfl ?_
  refine Lw.val (Ex.move rfl) rfl ?_
  refine Lw.part 12 rfl ?_ ?_
  · intro g
    refine Lw.pass (dj := 12) rfl rfl rfl rfl ?_
    refine Lw.pass (dj := 12) rfl rfl rfl rfl ?_
    refine Lw.pass (dj := 12) rfl rfl rfl rfl ?_
    refine Lw.pass (dj := 12) rfl rfl rfl rfl ?_
    refine Lw.pass (dj := 12) rfl rfl rfl rfl ?_
    refine Lw.pass (dj := 12) rfl rfl rfl rfl ?_
    refine Lw.val (Ex.pickT rfl rfl) rfl ?_
    refine Lw.nil ?_
    refine Pw.thenN (Cw.out ?_)
    refine Cw.condT rfl ?_
    refine Cw.seq ?_
    refine Cw.region ?_
    refine Lw.val (Ex.build (vs := []) (cs := [.slice none 0 0, .slice none 0 0]) rfl (by kernel_rfl)) rfl ?_
    refine Lw.unit (Xu.stA (cs := [.slice none 0 0, .slice none 0 0]) rfl rfl rfl rfl rfl b_r rfl) ?_
    rintro w3 ⟨b_r, hg, -⟩
    have hB := hB.grown hg (below_size hB) (by rintro _ ⟨⟩; omega)
    refine Lw.val (Ex.assign rfl) rfl ?_
    refine Lw.nil ?_
    refine Pw.thenN (Cw.out ?_)
    refine Cw.ret ?_
    refine Pw.thenR ?_
    refine Pw.retCT rfl rfl rfl (by assumption) (Tryz.underlying29) rfl rfl rfl ?_
    rw [show tnE t o = 1 by simp_all [tnE]]
    exact ⟨hB, ansK_no (by decide)⟩
  intro g1
  have k_t : tok t.s t.l = true := by simpa using g1
  refine Lw.take (dj := 12) rfl rfl ?_
  refine Lw.val (Ex.ldB (ag_26 _) rfl (by assumption) rfl) rfl ?_
  refine Lw.take (dj := 12) rfl rfl ?_
  refine Lw.val (Ex.lenS st_26 rfl (by assumption)) rfl ?_
  refine Lw.take (dj := 12) rfl rfl ?_
  refine Lw.val (Ex.fieldAddr (q := 0) Tryz.underlying29 rfl (sz_26 _) rfl) rfl ?_
  refine Lw.take (dj := 12) rfl rfl ?_
  refine Lw.val (Ex.ldB (ag_26 _) rfl (by assumption) rfl) rfl ?_
  refine Lw.take (dj := 12) rfl rfl ?_
  refine Lw.val (Ex.lenS st_26 rfl (by assumption)) rfl ?_
  refine Lw.take (dj := 12) rfl rfl ?_
  refine Lw.val (Ex.neq rfl rfl) rfl ?_
  refine Lw.val (Ex.pickF rfl rfl) rfl ?_
  refine Lw.nil ?_
  refine Pw.thenN (Cw.out ?_)
  refine Cw.cond rfl ?_ ?_
  · intro g
    have g : ¬ o.length = t.s.length := by have := g; simp at this; omega
    refine Cw.seq ?_
    refine Cw.region ?_
    refine Lw.val (Ex.build (vs := []) (cs := [.slice none 0 0, .slice none 0 0]) rfl (by kernel_rfl)) rfl ?_
    refine Lw.unit (Xu.stA (cs := [.slice none 0 0, .slice none 0 0]) rfl rfl rfl rfl rfl b_r rfl) ?_
    rintro w3 ⟨b_r, hg, -⟩
    have hB := hB.grown hg (below_size hB) (by rintro _ ⟨⟩; omega)
    refine Lw.val (Ex.assign rfl) rfl ?_
    refine Lw.nil ?_
    refine Pw.thenN (Cw.out ?_)
    refine Cw.ret ?_
    refine Pw.thenR ?_
    refine Pw.retCT rfl rfl rfl (by assumption) (Tryz.underlying29) rfl rfl rfl ?_
    rw [show tnE t o = 1 by unfold tnE; rw [decide_eq_false g, Bool.and_false, Bool.false_and]; rfl]
    exact ⟨hB, ansK_no (by decide)⟩
  intro g2
  have hl : o.length = t.s.length := by have := g2; simp at this; omega
  clear g1 g2
  have S := (Shapes.ok_iff t.s).1 (tok_ok k_t).1
  refine Cw.skip ?_
  refine Pw.thenN (Cw.out ?_)
  refine Cw.seq ?_
  refine Cw.region ?_
  refine Lw.val (Ex.ldB (ag_26 _) rfl (by assumption) rfl) rfl ?_
  refine Lw.val (Ex.lenS st_26 rfl (by assumption)) rfl ?_
  have zB := below_size hB
  obtain ⟨B, hBB⟩ : ∃ B, B = w.heap.size := ⟨_, rfl⟩
  have p_t := h_t
  have p_v := h_v
  have y_t := blk_lt b_t
  have y_o := blk_lt b_o
  have y_r := blk_lt b_r
  rename World => w0
  refine Lw.valW (Xw.make (l := o.length) (c := o.length) st_26 it_3 rfl rfl rfl (Nat.le_refl _) (by omega) (by omega)) rfl ?_
  rintro y w1 ⟨hy, -, hn, -⟩
  obtain ⟨zs, hzs⟩ : ∃ l, l = List.replicate o.length (0 : Int) := ⟨_, rfl⟩
  have n2 : zs.length = o.length := by rw [hzs]; simp
  have n1 : (turn t.s o).length = zs.length := by rw [turn_length, n2]
  have hy : w1.ownsRow w0.heap.size 3 1 y zs.length (zs.map (Value.int .i64)) := by rw [n2, hzs, ← rep_flat (enc := Value.int .i64) (z := 0)]; exact hy
  replace hB := hB.bs hn
  replace h_t := h_t.bs hn
  replace h_v := h_v.bs hn
  replace b_t := b_t.bs hn
  replace b_o := b_o.bs hn
  replace b_r := b_r.bs hn
  replace h_t1 := h_t1.bs hn
  have zn := hn.size
  clear hn
  refine Lw.val (Ex.assign rfl) rfl ?_
  refine Lw.nil ?_
  refine Pw.thenN (Cw.out ?_)
  refine Cw.seq ?_
  refine Cw.seq ?_
  refine Cw.region ?_
  refine Lw.val (Ex.ldB (ag_26 _) rfl (by assumption) rfl) rfl ?_
  refine Lw.val (Ex.lenS st_26 rfl (by assumption)) rfl ?_
  refine Lw.val (Ex.move rfl) rfl ?_
  refine Lw.nil ?_
  refine Pw.thenN (Cw.out ?_)
  refine Cw.block ?_
  refine Cw.loop (S := Nat) (fun i => [(2, .pointer (some ⟨A_t, 0, none⟩)), (3, .pointer (some ⟨A_o, 0, none⟩)), (4, .pointer (some ⟨A_r, 0, none⟩)), (6, y), (24, v), (25, .int .i64 (o.length : Int)), (26, .int .i64 (i : Int))]) (fun i w' => i ≤ o.length ∧ (∀ j, j < i → ordC o j = true) ∧ Below w0.heap.size w1 w' ∧ w'.ownsRow w0.heap.size 3 1 y zs.length (((turn t.s o).take i ++ zs.drop i).map (Value.int .i64))) (fun i => o.length - i) (0) ⟨rfl, rfl, rfl, rfl, rfl, rfl, rfl, trivial⟩ ?_ ?_
  · exact ⟨Nat.zero_le _, fun j hj => absurd hj (by omega), Below.refl _ _, by rw [td_zero]; exact hy⟩
  clear hy
  rintro i w2 ⟨hi, hC, hw, hy⟩
  have zw := hw.size
  have hB := hB.trans (hw.mono zB)
  have b_t := b_t.bl hw y_t
  have b_o := b_o.bl hw y_o
  have b_r := b_r.bl hw y_r
  have h_t := at_stay p_t h_t (Nat.le_refl _) hw
  have h_v : SlT (Value.int .i64) w2 v o := Sl.stay h_v fun k e hne => hw.block k (Sl.blk p_v hne k e)
  have h_t1 := h_t.1
  refine Cw.seq ?_
  refine Cw.region ?_
  refine Lw.val (Ex.lss rfl rfl) rfl ?_
  refine Lw.nil ?_
  refine Pw.thenN (Cw.out ?_)
  refine Cw.seq ?_
  refine Cw.cond rfl ?_ ?_
  · intro h
    have hi' : i < o.length := by have := of_decide_eq_true h; omega
    obtain ⟨k, hk⟩ : ∃ k, k = o.getD i default := ⟨_, rfl⟩
    refine Cw.skip ?_
    refine Pw.thenN (Cw.out ?_)
    refine Cw.seq ?_
    refine Cw.block ?_
    refine Cw.seq ?_
    refine Cw.region ?_
    refine Lw.val (Ex.move rfl) rfl ?_
    refine Lw.val (Ex.idxT st_26 rfl rfl (by assumption) _ rfl (by omega)) rfl ?_
    refine Lw.val ((Ex.ldT (ag_3 _) rfl h_v hi').as (congrArg (Value.int .i64) hk.symm)) rfl ?_
    refine Lw.val (Ex.assign rfl) rfl ?_
    refine Lw.val (Ex.assign rfl) rfl ?_
    refine Lw.nil ?_
    refine Pw.thenN (Cw.out ?_)
    refine Cw.seq ?_
    refine Cw.seq ?_
    refine Cw.region ?_
    refine Lw.val (Ex.move rfl) rfl ?_
    refine Lw.val (Ex.lss rfl rfl) rfl ?_
    refine Lw.val (Ex.move rfl) rfl ?_
    refine Lw.part 33 rfl ?_ ?_
    · intro g
      have g := of_decide_eq_true g
      refine Lw.pass (dj := 33) rfl rfl rfl rfl ?_
      refine Lw.pass (dj := 33) rfl rfl rfl rfl ?_
      refine Lw.pass (dj := 33) rfl rfl rfl rfl ?_
      refine Lw.pass (dj := 33) rfl rfl rfl rfl ?_
      refine Lw.val (Ex.pickT rfl rfl) rfl ?_
      refine Lw.val (Ex.move rfl) rfl ?_
      refine Lw.pass (dj := 39) rfl rfl rfl rfl ?_
      refine Lw.pass (dj := 39) rfl rfl rfl rfl ?_
      refine Lw.pass (dj := 39) rfl rfl rfl rfl ?_
      refine Lw.pass (dj := 39) rfl rfl rfl rfl ?_
      refine Lw.pass (dj := 39) rfl rfl rfl rfl ?_
      refine Lw.val (Ex.pickT rfl rfl) rfl ?_
      refine Lw.nil ?_
      refine Pw.thenN (Cw.out ?_)
      refine Cw.condT rfl ?_
      refine Cw.seq ?_
      refine Cw.region ?_
      refine Lw.val (Ex.build (vs := []) (cs := [.slice none 0 0, .slice none 0 0]) rfl (by kernel_rfl)) rfl ?_
      refine Lw.unit (Xu.stA (cs := [.slice none 0 0, .slice none 0 0]) rfl rfl rfl rfl rfl b_r rfl) ?_
      rintro w3 ⟨b_r, hg, -⟩
      have hB := hB.grown hg (below_size hB) (by rintro _ ⟨⟩; omega)
      refine Lw.val (Ex.assign rfl) rfl ?_
      refine Lw.nil ?_
      refine Pw.thenN (Cw.out ?_)
      refine Cw.ret ?_
      refine Pw.thenR ?_
      refine Pw.blkR ?_
      refine Pw.thenR ?_
      refine Pw.thenR ?_
      refine Pw.blkR ?_
      refine Pw.thenR ?_
      refine Pw.retCT rfl rfl rfl (by assumption) (Tryz.underlying29) rfl rfl rfl ?_
      rw [show tnE t o = 1 by unfold tnE; rw [ordOk_no hi' (by unfold ordC; rw [← hk, decide_eq_false (show ¬ 0 ≤ k by omega)]; rfl), Bool.and_false]; rfl]
      exact ⟨hB, ansK_no (by decide)⟩
    intro g1
    have g1 := of_decide_eq_false g1
    refine Lw.take (dj := 33) rfl rfl ?_
    refine Lw.val (Ex.move rfl) rfl ?_
    refine Lw.take (dj := 33) rfl rfl ?_
    refine Lw.val (Ex.ldB (ag_26 _) rfl (by assumption) rfl) rfl ?_
    refine Lw.take (dj := 33) rfl rfl ?_
    refine Lw.val (Ex.lenS st_26 rfl (by assumption)) rfl ?_
    refine Lw.take (dj := 33) rfl rfl ?_
    refine Lw.val (Ex.geq rfl rfl) rfl ?_
    refine Lw.val (Ex.pickF rfl rfl) rfl ?_
    refine Lw.val (Ex.move rfl) rfl ?_
    refine Lw.part 39 rfl ?_ ?_
    · intro g
      have g := of_decide_eq_true g
      refine Lw.pass (dj := 39) rfl rfl rfl rfl ?_
      refine Lw.pass (dj := 39) rfl rfl rfl rfl ?_
      refine Lw.pass (dj := 39) rfl rfl rfl rfl ?_
      refine Lw.pass (dj := 39) rfl rfl rfl rfl ?_
      refine Lw.pass (dj := 39) rfl rfl rfl rfl ?_
      refine Lw.val (Ex.pickT rfl rfl) rfl ?_
      refine Lw.nil ?_
      refine Pw.thenN (Cw.out ?_)
      refine Cw.condT rfl ?_
      refine Cw.seq ?_
      refine Cw.region ?_
      refine Lw.val (Ex.build (vs := []) (cs := [.slice none 0 0, .slice none 0 0]) rfl (by kernel_rfl)) rfl ?_
      refine Lw.unit (Xu.stA (cs := [.slice none 0 0, .slice none 0 0]) rfl rfl rfl rfl rfl b_r rfl) ?_
      rintro w3 ⟨b_r, hg, -⟩
      have hB := hB.grown hg (below_size hB) (by rintro _ ⟨⟩; omega)
      refine Lw.val (Ex.assign rfl) rfl ?_
      refine Lw.nil ?_
      refine Pw.thenN (Cw.out ?_)
      refine Cw.ret ?_
      refine Pw.thenR ?_
      refine Pw.blkR ?_
      refine Pw.thenR ?_
      refine Pw.thenR ?_
      refine Pw.blkR ?_
      refine Pw.thenR ?_
      refine Pw.retCT rfl rfl rfl (by assumption) (Tryz.underlying29) rfl rfl rfl ?_
      rw [show tnE t o = 1 by unfold tnE; rw [ordOk_no hi' (by unfold ordC; rw [← hk, decide_eq_false (show ¬ k < (o.length : Int) by omega), Bool.and_false]; rfl), Bool.and_false]; rfl]
      exact ⟨hB, ansK_no (by decide)⟩
    intro g2
    have g2 := of_decide_eq_false g2
    refine Lw.take (dj := 39) rfl rfl ?_
    refine Lw.val (Ex.ldB (ag_26 _) rfl (by assumption) rfl) rfl ?_
    refine Lw.take (dj := 39) rfl rfl ?_
    refine Lw.val (Ex.move rfl) rfl ?_
    refine Lw.take (dj := 39) rfl rfl ?_
    refine Lw.val (Ex.cutH st_26 rfl rfl h_v hi) rfl ?_
    refine Lw.take (dj := 39) rfl rfl ?_
    refine Lw.val (Ex.move rfl) rfl ?_
    refine Lw.take (dj := 39) rfl rfl ?_
    refine Lw.callF rfl rfl (contains_c (cut v 1 0 i) (o.take i) k _ (SlT.take h_v hi)) ?_
    rintro _ w3 ⟨rfl, hn⟩
    have hw := hw.trans (hn.mono (by omega))
    replace hB := hB.bs hn
    replace h_t := h_t.bs hn
    replace h_v := h_v.bs hn
    replace b_t := b_t.bs hn
    replace b_o := b_o.bs hn
    replace b_r := b_r.bs hn
    replace hy := hy.bs hn
    clear hn
    refine Lw.val (Ex.pickF rfl rfl) rfl ?_
    refine Lw.nil ?_
    refine Pw.thenN (Cw.out ?_)
    refine Cw.cond rfl ?_ ?_
    · intro g
      refine Cw.seq ?_
      refine Cw.region ?_
      refine Lw.val (Ex.build (vs := []) (cs := [.slice none 0 0, .slice none 0 0]) rfl (by kernel_rfl)) rfl ?_
      refine Lw.unit (Xu.stA (cs := [.slice none 0 0, .slice none 0 0]) rfl rfl rfl rfl rfl b_r rfl) ?_
      rintro w3 ⟨b_r, hg, -⟩
      have hB := hB.grown hg (below_size hB) (by rintro _ ⟨⟩; omega)
      refine Lw.val (Ex.assign rfl) rfl ?_
      refine Lw.nil ?_
      refine Pw.thenN (Cw.out ?_)
      refine Cw.ret ?_
      refine Pw.thenR ?_
      refine Pw.blkR ?_
      refine Pw.thenR ?_
      refine Pw.thenR ?_
      refine Pw.blkR ?_
      refine Pw.thenR ?_
      refine Pw.retCT rfl rfl rfl (by assumption) (Tryz.underlying29) rfl rfl rfl ?_
      rw [show tnE t o = 1 by unfold tnE; rw [ordOk_no hi' (by unfold ordC; rw [← hk, g, Bool.not_true, Bool.and_false]), Bool.and_false]; rfl]
      exact ⟨hB, ansK_no (by decide)⟩
    intro g3
    have hO : ordC o i = true := by unfold ordC; rw [← hk, g3, decide_eq_true (show 0 ≤ k by omega), decide_eq_true (show k < (o.length : Int) by omega)]; rfl
    obtain ⟨K, hK⟩ : ∃ K : Nat, k = (K : Int) := ⟨_, (Int.toNat_of_nonneg (by omega)).symm⟩
    have hKs : K < t.s.length := by omega
    have h_t1 := h_t.1
    have e1 := td_len (i := i) n1
    have hy' := hy
    rw [← e1] at hy'
    have s_y := own_slT hy'
    clear hy'
    have hC' : ∀ j, j < i + 1 → ordC o j = true := by
      intro j hj
      rcases Nat.lt_or_ge j i with h | h
      · exact hC j h
      · obtain rfl : j = i := by omega
        exact hO
    have eV : t.s.getD K default = (turn t.s o).getD i default := by rw [turn_at hi', ← hk, hK, Int.toNat_natCast]
    refine Cw.skip ?_
    refine Pw.thenN (Cw.out ?_)
    refine Cw.region ?_
    refine Lw.val (Ex.move rfl) rfl ?_
    refine Lw.val (Ex.move rfl) rfl ?_
    refine Lw.val (Ex.fieldAddr (q := 0) Tryz.underlying29 rfl (sz_26 _) rfl) rfl ?_
    refine Lw.val (Ex.ldB (ag_26 _) rfl (by assumption) rfl) rfl ?_
    refine Lw.val (Ex.move rfl) rfl ?_
    refine Lw.val (Ex.idxT st_26 rfl rfl h_t1 K hK hKs) rfl ?_
    refine Lw.val ((Ex.ldT (ag_3 _) rfl h_t1 hKs).as (congrArg (Value.int .i64) eV)) rfl ?_
    refine Lw.val (Ex.idxT st_26 rfl rfl s_y i rfl (by omega)) rfl ?_
    refine Lw.unit (Xu.stO (sz_3 _) rfl rfl rfl hy (by rw [List.length_map]; omega)) ?_
    rintro w4 ⟨hy4, hg, -⟩
    rw [← List.map_set, td_set n1 (by omega)] at hy4
    have hw4 := hw.grown hg (by have := hw.size; omega) (fun b e => (own_block hy b e).1)
    refine Lw.nil ?_
    refine Pw.blkN ?_
    refine Pw.thenN (Cw.out ?_)
    refine Cw.region ?_
    refine Lw.val (Ex.addI rfl rfl (by omega)) rfl ?_
    refine Lw.val (Ex.move rfl) rfl ?_
    refine Lw.nil ?_
    exact Pw.thenN (Pw.next (i + 1) ⟨rfl, rfl, rfl, rfl, rfl, rfl, rfl, trivial⟩ (⟨hi', hC', hw4, hy4⟩) (by omega))
  intro h
  have hi' : i = o.length := by have := of_decide_eq_false h; omega
  subst hi'
  have ho : ordOk o = true := ordOk_iff.2 hC
  rw [← n2, td_all n1] at hy
  rw [← n1] at hy
  have s_y := own_slT hy
  have okT := turn_ok (tok_ok k_t).1 ho hl
  have q_r : A_r < w2.heap.size := by omega
  rw [show tnE t o = 0 by unfold tnE; rw [k_t, decide_eq_true hl, ho]; rfl]
  refine Cw.exit ?_
  refine Pw.thenE ?_
  refine Pw.thenE ?_
  refine Pw.blkHit ?_
  refine Pw.thenN (Cw.out ?_)
  refine Cw.seq ?_
  refine Cw.region ?_
  refine Lw.val (Ex.move rfl) rfl ?_
  refine Lw.val (Ex.mkFn (vs := []) (us := [.pointer (some ⟨A_o, 0, none⟩), .pointer (some ⟨A_t, 0, none⟩)]) rfl rfl) rfl ?_
  refine Lw.callF rfl rfl (filled_c y (turn t.s o) 113 [.pointer (some ⟨A_o, 0, none⟩), .pointer (some ⟨A_t, 0, none⟩)] (fun i => t.l.getD (tuS t.s o (Shapes.place (turn t.s o) (i : Int)) o.length).toNat default) _ s_y okT (fun i a w' hb _ ha => turnF_c A_o A_t v o t a i w' (b_o.bs hb) (b_t.bs hb) (h_v.bs hb) (h_t.bs hb) k_t ho hl ha)) ?_
  rintro _ w ⟨hn, x, x2, rfl, hm⟩
  have hm := hm.k
  replace hB := hB.bs hn
  replace h_t := h_t.bs hn
  replace h_v := h_v.bs hn
  replace b_t := b_t.bs hn
  replace b_o := b_o.bs hn
  replace b_r := b_r.bs hn
  clear hn
  refine Lw.val (Ex.extract (i := 0) rfl rfl) rfl ?_
  refine Lw.val (Ex.extract (i := 1) rfl rfl) rfl ?_
  refine Lw.unit (Xu.stA (cs := [x, x2]) rfl rfl rfl rfl hm.at.one b_r rfl) ?_
  rintro w5 ⟨b_r5, hg, -⟩
  have hB5 := hB.grown hg (below_size hB) (by rintro _ ⟨⟩; omega)
  refine Lw.val (Ex.assign rfl) rfl ?_
  refine Lw.nil ?_
  refine Pw.thenN (Cw.out ?_)
  refine Cw.ret ?_
  refine Pw.retCT rfl rfl rfl (by assumption) (Tryz.underlying29) rfl rfl rfl ?_
  have zz := below_size hB
  exact ⟨hB5, x, x2, rfl, fun h => absurd rfl h, fun _ => ⟨(bl_krow hm.row hg q_r).mono (by omega), (bl_krow hm.col hg q_r).mono (by omega), hm.apart⟩⟩
end Go.Proofs.YtmipoeanpnnjoaaGreat

/-! Contracts: a number of a tensor. -/
namespace Go.Proofs.YtmipoeanpnnjoaaGreat
open Go Go.Dd Go.RowKit
set_option maxRecDepth 100000

theorem index_in {s t : List Int} (h : (Shapes.index s t).2 = 0) : 0 ≤ (Shapes.index s t).1 ∧ (Shapes.index s t).1 < Shapes.size s := by
  unfold Shapes.index at h ⊢
  split
  · rename_i g
    simp only [Bool.and_eq_true] at g
    have h1 := Shapes.idx_lt ((Shapes.ok_iff s).1 g.1).2.1 g.2
    rw [Shapes.size_ok g.1]
    exact h1
  · rename_i g
    rw [if_neg g] at h
    cases h
def tatE (s : List Int) (l : List (BitVec 32)) (t : List Int) : Int := if tok s l then (Shapes.index s t).2 else 1
def tatV (s : List Int) (l : List (BitVec 32)) (t : List Int) : BitVec 32 := if tok s l = true ∧ (Shapes.index s t).2 = 0 then l.getD (Shapes.index s t).1.toNat default else 0#32

theorem tat_c (a : T4) (u : Value) (t : List Int) (W : World) (h_a : a.at W) (h_u : SlT (Value.int .i64) W u t) :
    Fnc Tryz.prog 122 [a.v, u] W (fun r w' => r = .tuple #[i32 (tatV a.s a.l t), .int .i64 (tatE a.s a.l t)] ∧ Below W.heap.size W w') := by
  have hB := Below.refl W.heap.size W
  refine Fnc.enter (n := 26) Tryz.func122 (by kernel_rfl) rfl rfl rfl ?_
  refine Cw.seq ?_
  refine Cw.region ?_
  refine Lw.boxV (cs := [a.x, a.y]) rfl rfl rfl ?_
  rintro A_a w eA_a b_a hn -
  replace hB := hB.bs hn
  replace h_a := h_a.bs hn
  replace h_u := h_u.bs hn
  clear hn
  refine Lw.val (Ex.assign (show _ = some (i32 (0#32)) from rfl)) rfl ?_
  refine Lw.val (Ex.assign rfl) rfl ?_
  refine Lw.nil ?_
  refine Pw.thenN (Cw.out ?_)
  refine Cw.seq ?_
  refine Cw.seq ?_
  refine Cw.region ?_
  refine Lw.val (Ex.ldA (ag_29 _) (sz_29 _) rfl rfl (by assumption)) rfl ?_
  refine Lw.callF rfl rfl (tcheck_c a.x a.y a.s a.l _ h_a.1 h_a.2) ?_
  rintro _ w ⟨rfl, hn⟩
  replace hB := hB.bs hn
  replace h_a := h_a.bs hn
  replace h_u := h_u.bs hn
  replace b_a := b_a.bs hn
  clear hn
  refine Lw.val (Ex.not rfl) rfl ?_
  refine Lw.nil ?_
  refine Pw.thenN (Cw.out ?_)
  refine Cw.cond rfl ?_ ?_
  · intro g
    have ht : tok a.s a.l = false := by simpa using g
    refine Cw.seq ?_
    refine Cw.region ?_
    refine Lw.val (Ex.assign (show _ = some (i32 (0#32)) from rfl)) rfl ?_
    refine Lw.val (Ex.assign rfl) rfl ?_
    refine Lw.nil ?_
    refine Pw.thenN (Cw.out ?_)
    refine Cw.ret ?_
    refine Pw.thenR ?_
    refine Pw.ret2 rfl rfl rfl ?_
    exact ⟨by simp [tatV, tatE, ht], hB⟩
  intro g
  have ht : tok a.s a.l = true := by simpa using g
  refine Cw.skip ?_
  refine Pw.thenN (Cw.out ?_)
  refine Cw.seq ?_
  refine Cw.region ?_
  refine Lw.val (Ex.fieldAddr (q := 0) Tryz.underlying29 rfl (sz_26 _) rfl) rfl ?_
  refine Lw.val (Ex.ldB (ag_26 _) rfl (by assumption) rfl) rfl ?_
  refine Lw.val (Ex.move rfl) rfl ?_
  refine Lw.callF rfl rfl (index_c a.s t a.x u _ h_a.1 h_u) ?_
  rintro _ w ⟨rfl, hn⟩
  replace hB := hB.bs hn
  replace h_a := h_a.bs hn
  replace h_u := h_u.bs hn
  replace b_a := b_a.bs hn
  clear hn
  refine Lw.val (Ex.move rfl) rfl ?_
  refine Lw.val (Ex.extract (i := 0) rfl rfl) rfl ?_
  refine Lw.val (Ex.extract (i := 1) rfl rfl) rfl ?_
  refine Lw.val (Ex.assign rfl) rfl ?_
  refine Lw.val (Ex.assign rfl) rfl ?_
  refine Lw.nil ?_
  refine Pw.thenN (Cw.out ?_)
  refine Cw.seq ?_
  refine Cw.seq ?_
  refine Cw.region ?_
  refine Lw.val (Ex.move rfl) rfl ?_
  refine Lw.val (Ex.neq rfl rfl) rfl ?_
  refine Lw.nil ?_
  refine Pw.thenN (Cw.out ?_)
  refine Cw.cond rfl ?_ ?_
  · intro g
    have g0 : ¬ (Shapes.index a.s t).2 = 0 := by simpa using g
    refine Cw.seq ?_
    refine Cw.region ?_
    refine Lw.val (Ex.move rfl) rfl ?_
    refine Lw.val (Ex.assign (show _ = some (i32 (0#32)) from rfl)) rfl ?_
    refine Lw.val (Ex.assign rfl) rfl ?_
    refine Lw.nil ?_
    refine Pw.thenN (Cw.out ?_)
    refine Cw.ret ?_
    refine Pw.thenR ?_
    refine Pw.ret2 rfl rfl rfl ?_
    exact ⟨by simp [tatV, tatE, ht, g0], hB⟩
  intro g
  have g0 : (Shapes.index a.s t).2 = 0 := by simpa using g
  have hin := index_in g0
  have htl := (tok_ok ht).2
  obtain ⟨i, hi⟩ : ∃ i : Nat, (Shapes.index a.s t).1 = (i : Int) := ⟨_, (Int.toNat_of_nonneg hin.1).symm⟩
  have hil : i < a.l.length := by omega
  have hy := h_a.2
  refine Cw.skip ?_
  refine Pw.thenN (Cw.out ?_)
  refine Cw.seq ?_
  refine Cw.region ?_
  refine Lw.val (Ex.fieldAddr (q := 0) Tryz.underlying29 rfl (sz_27 _) rfl) rfl ?_
  refine Lw.val (Ex.ldB (ag_27 _) rfl (by assumption) rfl) rfl ?_
  refine Lw.val (Ex.move rfl) rfl ?_
  refine Lw.val (Ex.idxT st_27 rfl rfl hy i hi hil) rfl ?_
  refine Lw.val (Ex.ldT (ag_21 _) rfl (by assumption) (by omega)) rfl ?_
  refine Lw.val (Ex.assign rfl) rfl ?_
  refine Lw.val (Ex.assign rfl) rfl ?_
  refine Lw.nil ?_
  refine Pw.thenN (Cw.out ?_)
  refine Cw.ret ?_
  refine Pw.ret2 rfl rfl rfl ?_
  exact ⟨by simp [tatV, tatE, ht, g0, hi], hB⟩
end Go.Proofs.YtmipoeanpnnjoaaGreat

/-! Contract: some tensors, joined along a direction. -/
namespace Go.Proofs.YtmipoeanpnnjoaaGreat
open Go Go.Dd Go.RowKit
set_option maxRecDepth 100000

/-- A list of tensors. -/
def Tens (w : World) (v : Value) (ts : List T4) : Prop := Sl w 2 v ts.length (cellsOf ts) ∧ ∀ t ∈ ts, t.at w
theorem Tens.bs {w w' : World} {v : Value} {ts : List T4} (h : Tens w v ts) (g : Below w.heap.size w w') : Tens w' v ts := ⟨h.1.bs g, fun t ht => (h.2 t ht).bs g⟩
theorem Tens.stay {w0 w w' : World} {v : Value} {ts : List T4} {B : Nat} (p : Tens w0 v ts) (h : Tens w v ts) (hB : w0.heap.size ≤ B) (g : Below B w w') : Tens w' v ts :=
  ⟨Sl.stay h.1 fun k e hne => g.block k (Nat.lt_of_lt_of_le (Sl.blk p.1 hne k e) hB), fun t ht => at_stay (p.2 t ht) (h.2 t ht) hB g⟩
theorem Tens.slice {w : World} {v : Value} {ts : List T4} (h : Tens w v ts) {i : Nat} (hi : i < ts.length) : ∃ ad c k, v = .slice (some ad) c k := by
  obtain ⟨_, ao, cap, rfl, _, _, h3, _⟩ := h.1
  cases ao with
  | none => have := h3 rfl; omega
  | some ad => exact ⟨_, _, _, rfl⟩
theorem tens_at {ts : List T4} {i : Nat} (h : i < ts.length) : ∃ t : T4, t = ts[i] ∧ t ∈ ts ∧ (cellsOf ts)[i * 2]? = some t.x ∧ (cellsOf ts)[i * 2 + 1]? = some t.y :=
  ⟨ts[i], rfl, List.getElem_mem h, (cells_at h).1, (cells_at h).2⟩
theorem two_cells {xs : List Value} {o : Nat} {x y : Value} (h1 : xs[o]? = some x) (h2 : xs[o + 1]? = some y) : ∀ i, i < 2 → ∃ q, [x, y][i]? = some q ∧ xs[o + i]? = some q := fun i hi => by
  rcases (show i = 0 ∨ i = 1 by omega) with rfl | rfl
  · exact ⟨_, rfl, h1⟩
  · exact ⟨_, rfl, h2⟩
theorem join1_c (t : T4) (w : World) (h_t : t.at w) : Fnc Tryz.prog 119 [t.v] w (fun r w' => r = .bool (!tok t.s t.l) ∧ Below w.heap.size w w') := by
  have hB := Below.refl w.heap.size w
  refine Fnc.enter (n := 6) Tryz.func119 (by kernel_rfl) rfl rfl rfl ?_
  refine Cw.seq ?_
  refine Cw.region ?_
  refine Lw.boxV (cs := [t.x, t.y]) rfl rfl rfl ?_
  rintro A_t w eA_t b_t hn -
  replace hB := hB.bs hn
  replace h_t := h_t.bs hn
  clear hn
  refine Lw.val (Ex.assign rfl) rfl ?_
  refine Lw.nil ?_
  refine Pw.thenN (Cw.out ?_)
  refine Cw.seq ?_
  refine Cw.region ?_
  refine Lw.val (Ex.ldA (ag_29 _) (sz_29 _) rfl rfl (by assumption)) rfl ?_
  refine Lw.callF rfl rfl (tcheck_c t.x t.y t.s t.l _ h_t.1 h_t.2) ?_
  rintro _ w ⟨rfl, hn⟩
  replace hB := hB.bs hn
  replace h_t := h_t.bs hn
  replace b_t := b_t.bs hn
  clear hn
  refine Lw.val (Ex.not rfl) rfl ?_
  refine Lw.val (Ex.assign rfl) rfl ?_
  refine Lw.nil ?_
  refine Pw.thenN (Cw.out ?_)
  refine Cw.ret ?_
  refine Pw.ret1 rfl rfl ?_
  exact ⟨rfl, hB⟩
def badT (ts : List T4) : Bool := ts.any fun t => !tok t.s t.l
theorem tIdx_c (v : Value) (ts : List T4) (w : World) (h : Tens w v ts) (hl : ts.length ≤ 1000) : Fnc Tryz.prog 130 [v, .func (.func 119) #[] #[]] w (fun r w' => ∃ j, r = .int .i64 j ∧ decide (0 ≤ j) = badT ts ∧ Below w.heap.size w w') := by
  have hv := h.1
  refine Fnc.enter (n := 19) Tryz.func130 (by kernel_rfl) rfl rfl rfl ?_
  refine Cw.seq ?_
  refine Cw.region ?_
  refine Lw.val (Ex.assign rfl) rfl ?_
  refine Lw.nil ?_
  refine Pw.thenN (Cw.out ?_)
  refine Cw.seq ?_
  refine Cw.seq ?_
  refine Cw.region ?_
  refine Lw.val (Ex.move rfl) rfl ?_
  refine Lw.val (Ex.lenS st_25 rfl (by assumption)) rfl ?_
  refine Lw.val (Ex.move rfl) rfl ?_
  refine Lw.nil ?_
  refine Pw.thenN (Cw.out ?_)
  refine Cw.block ?_
  refine Cw.loop (S := Nat) (fun i => [(0, v), (1, .func (.func 119) #[] #[]), (7, .int .i64 (ts.length : Int)), (8, .int .i64 (i : Int))]) (fun i w' => i ≤ ts.length ∧ badT (ts.take i) = false ∧ Below w.heap.size w w') (fun i => ts.length - i) (0) ⟨rfl, rfl, rfl, rfl, trivial⟩ ?_ ?_
  · exact ⟨Nat.zero_le _, rfl, Below.refl _ _⟩
  rintro i w1 ⟨hi, hc, hn⟩
  have h1 := h.bs hn
  refine Cw.seq ?_
  refine Cw.region ?_
  refine Lw.val (Ex.lss rfl rfl) rfl ?_
  refine Lw.nil ?_
  refine Pw.thenN (Cw.out ?_)
  refine Cw.seq ?_
  refine Cw.cond rfl ?_ ?_
  · intro hlt
    have hi' : i < ts.length := by have := of_decide_eq_true hlt; omega
    obtain ⟨a, ea, ma, c1, c2⟩ := tens_at hi'
    have h_a := h1.2 a ma
    have e1 : badT (ts.take (i + 1)) = (badT (ts.take i) || !tok a.s a.l) := by unfold badT; rw [List.take_succ_eq_append_getElem hi', List.any_append, ← ea]; simp
    refine Cw.skip ?_
    refine Pw.thenN (Cw.out ?_)
    refine Cw.seq ?_
    refine Cw.block ?_
    refine Cw.seq ?_
    refine Cw.region ?_
    refine Lw.val (Ex.move rfl) rfl ?_
    refine Lw.val (Ex.assign rfl) rfl ?_
    refine Lw.nil ?_
    refine Pw.thenN (Cw.out ?_)
    refine Cw.seq ?_
    refine Cw.region ?_
    refine Lw.val (Ex.move rfl) rfl ?_
    refine Lw.val (Ex.move rfl) rfl ?_
    refine Lw.val (Ex.move rfl) rfl ?_
    refine Lw.val (Ex.idx st_25 rfl rfl h1.1 i rfl hi') rfl ?_
    refine Lw.val (Ex.ldE (cs := [a.x, a.y]) (ag_29 _) (sz_29 _) rfl h1.1 rfl (by decide) (two_cells c1 c2)) rfl ?_
    refine Lw.callV (p := []) (q := []) rfl rfl rfl (join1_c a w1 h_a) ?_
    rintro _ w2 ⟨rfl, hn2⟩
    refine Lw.nil ?_
    refine Pw.thenN (Cw.out ?_)
    refine Cw.cond rfl ?_ ?_
    · intro g
      refine Cw.seq ?_
      refine Cw.region ?_
      refine Lw.val (Ex.move rfl) rfl ?_
      refine Lw.val (Ex.assign rfl) rfl ?_
      refine Lw.nil ?_
      refine Pw.thenN (Cw.out ?_)
      refine Cw.ret ?_
      refine Pw.blkR ?_
      refine Pw.thenR ?_
      refine Pw.thenR ?_
      refine Pw.blkR ?_
      refine Pw.thenR ?_
      refine Pw.ret1 rfl rfl ?_
      refine ⟨(i : Int), rfl, ?_, bt hn hn2⟩
      have : badT ts = true := by
        unfold badT
        exact List.any_eq_true.2 ⟨a, ma, g⟩
      rw [this, decide_eq_true (by omega)]
    intro g
    refine Cw.skip ?_
    refine Pw.blkN ?_
    refine Pw.thenN (Cw.out ?_)
    refine Cw.region ?_
    refine Lw.val (Ex.addI rfl rfl (by omega)) rfl ?_
    refine Lw.val (Ex.move rfl) rfl ?_
    refine Lw.nil ?_
    exact Pw.thenN (Pw.next (i + 1) ⟨rfl, rfl, rfl, rfl, trivial⟩ (⟨hi', by rw [e1, hc, g]; rfl, bt hn hn2⟩) (by omega))
  intro hge
  have hi' : i = ts.length := by have := of_decide_eq_false hge; omega
  subst hi'
  rw [List.take_length] at hc
  refine Cw.exit ?_
  refine Pw.thenE ?_
  refine Pw.thenE ?_
  refine Pw.blkHit ?_
  refine Pw.thenN (Cw.out ?_)
  refine Cw.seq ?_
  refine Cw.region ?_
  refine Lw.val (Ex.assign rfl) rfl ?_
  refine Lw.nil ?_
  refine Pw.thenN (Cw.out ?_)
  refine Cw.ret ?_
  refine Pw.ret1 rfl rfl ?_
  exact ⟨-1, rfl, by rw [hc]; rfl, hn⟩
theorem tBad_c (v : Value) (ts : List T4) (w : World) (h : Tens w v ts) (hl : ts.length ≤ 1000) : Fnc Tryz.prog 118 [v, .func (.func 119) #[] #[]] w (fun r w' => r = .bool (badT ts) ∧ Below w.heap.size w w') := by
  refine Fnc.enter (n := 9) Tryz.func118 (by kernel_rfl) rfl rfl rfl ?_
  refine Cw.seq ?_
  refine Cw.region ?_
  refine Lw.val (Ex.assign rfl) rfl ?_
  refine Lw.nil ?_
  refine Pw.thenN (Cw.out ?_)
  refine Cw.seq ?_
  refine Cw.region ?_
  refine Lw.val (Ex.move rfl) rfl ?_
  refine Lw.val (Ex.move rfl) rfl ?_
  refine Lw.callF rfl rfl (tIdx_c v ts w h hl) ?_
  rintro _ _ ⟨j, rfl, hj, hn⟩
  refine Lw.val (Ex.geq rfl rfl) rfl ?_
  refine Lw.val (Ex.assign rfl) rfl ?_
  refine Lw.nil ?_
  refine Pw.thenN (Cw.out ?_)
  refine Cw.ret ?_
  refine Pw.ret1 rfl rfl ?_
  exact ⟨congrArg Value.bool hj, hn⟩
def alk (a b : List Int) (k : Nat) : Bool := decide (a.length = b.length) && decide (a.take k = b.take k) && decide (a.drop (k + 1) = b.drop (k + 1))
theorem alike_c (u v : Value) (a b : List Int) (k : Nat) (w : World) (h_u : SlT (Value.int .i64) w u a) (h_v : SlT (Value.int .i64) w v b) (hk : k < b.length) : Fnc Tryz.prog 120 [u, v, .int .i64 (k : Int)] w (fun r w' => r = .bool (alk a b k) ∧ Below w.heap.size w w') := by
  have hle := h_v.le
  refine Fnc.enter (n := 32) Tryz.func120 (by kernel_rfl) rfl rfl rfl ?_
  refine Cw.seq ?_
  refine Cw.region ?_
  refine Lw.val (Ex.assign rfl) rfl ?_
  refine Lw.nil ?_
  refine Pw.thenN (Cw.out ?_)
  refine Cw.seq ?_
  refine Cw.quiet mixed (by kernel_rfl) ?_
  refine Qw.val (fun w1 hq => Ex.move rfl) rfl ?_
  refine Qw.val (fun w1 hq => Ex.lenS st_26 rfl (Sl.bs (by assumption) hq)) rfl ?_
  refine Qw.val (fun w1 hq => Ex.move rfl) rfl ?_
  refine Qw.val (fun w1 hq => Ex.lenS st_26 rfl (Sl.bs (by assumption) hq)) rfl ?_
  refine Qw.val (fun w1 hq => Ex.eql rfl rfl) rfl ?_
  refine Qw.val (fun w1 hq => Ex.move rfl) rfl ?_
  refine Qw.part 12 rfl ?_ ?_
  · intro g
    have hl : a.length = b.length := by have := of_decide_eq_true g; omega
    refine Qw.take (dj := 12) rfl rfl ?_
    refine Qw.val (fun w1 hq => Ex.move rfl) rfl ?_
    refine Qw.take (dj := 12) rfl rfl ?_
    refine Qw.val (fun w1 hq => Ex.move rfl) rfl ?_
    refine Qw.take (dj := 12) rfl rfl ?_
    refine Qw.val (fun w1 hq => Ex.cutH st_26 rfl rfl (Sl.bs (by assumption) hq) (by omega)) rfl ?_
    refine Qw.take (dj := 12) rfl rfl ?_
    refine Qw.val (fun w1 hq => Ex.move rfl) rfl ?_
    refine Qw.take (dj := 12) rfl rfl ?_
    refine Qw.val (fun w1 hq => Ex.move rfl) rfl ?_
    refine Qw.take (dj := 12) rfl rfl ?_
    refine Qw.val (fun w1 hq => Ex.cutH st_26 rfl rfl (Sl.bs (by assumption) hq) (by omega)) rfl ?_
    refine Qw.take (dj := 12) rfl rfl ?_
    refine Qw.callF rfl rfl (fun w1 hq => (equalInts_c (cut u 1 0 k) (cut v 1 0 k) (a.take k) (b.take k) w1 (Sl.bs (SlT.take h_u (by omega)) hq) (Sl.bs (SlT.take h_v (by omega)) hq)).q hq) ?_
    refine Qw.val (fun w1 hq => Ex.pickT rfl rfl) rfl ?_
    refine Qw.val (fun w1 hq => Ex.move rfl) rfl ?_
    refine Qw.part 21 rfl ?_ ?_
    · intro g2
      refine Qw.take (dj := 21) rfl rfl ?_
      refine Qw.val (fun w1 hq => Ex.move rfl) rfl ?_
      refine Qw.take (dj := 21) rfl rfl ?_
      refine Qw.val (fun w1 hq => Ex.move rfl) rfl ?_
      refine Qw.take (dj := 21) rfl rfl ?_
      refine Qw.val (fun w1 hq => (Ex.addI rfl rfl (by omega)).as (congrArg (Value.int .i64) (show (k : Int) + 1 = ((k + 1 : Nat) : Int) by omega))) rfl ?_
      refine Qw.take (dj := 21) rfl rfl ?_
      refine Qw.val (fun w1 hq => Ex.cutL st_26 rfl rfl (Sl.bs (by assumption) hq) (by omega)) rfl ?_
      refine Qw.take (dj := 21) rfl rfl ?_
      refine Qw.val (fun w1 hq => Ex.move rfl) rfl ?_
      refine Qw.take (dj := 21) rfl rfl ?_
      refine Qw.val (fun w1 hq => Ex.move rfl) rfl ?_
      refine Qw.take (dj := 21) rfl rfl ?_
      refine Qw.val (fun w1 hq => (Ex.addI rfl rfl (by omega)).as (congrArg (Value.int .i64) (show (k : Int) + 1 = ((k + 1 : Nat) : Int) by omega))) rfl ?_
      refine Qw.take (dj := 21) rfl rfl ?_
      refine Qw.val (fun w1 hq => Ex.cutL st_26 rfl rfl (Sl.bs (by assumption) hq) (by omega)) rfl ?_
      refine Qw.take (dj := 21) rfl rfl ?_
      refine Qw.callF rfl rfl (fun w1 hq => (equalInts_c (cut u 1 (k + 1) a.length) (cut v 1 (k + 1) b.length) (a.drop (k + 1)) (b.drop (k + 1)) w1 (Sl.bs (SlT.drop h_u (by omega)) hq) (Sl.bs (SlT.drop h_v (by omega)) hq)).q hq) ?_
      refine Qw.val (fun w1 hq => Ex.pickT rfl rfl) rfl ?_
      refine Qw.val (fun w1 hq => Ex.assign rfl) rfl ?_
      refine Qw.nil (fun w2 hq => ?_)
      refine Pw.thenN (Cw.out ?_)
      refine Cw.ret ?_
      refine Pw.ret1 rfl rfl ?_
      exact ⟨congrArg Value.bool (by unfold alk; rw [decide_eq_true hl, g2]; rfl), hq⟩
    intro g2
    refine Qw.pass (dj := 21) rfl rfl rfl rfl ?_
    refine Qw.pass (dj := 21) rfl rfl rfl rfl ?_
    refine Qw.pass (dj := 21) rfl rfl rfl rfl ?_
    refine Qw.pass (dj := 21) rfl rfl rfl rfl ?_
    refine Qw.pass (dj := 21) rfl rfl rfl rfl ?_
    refine Qw.pass (dj := 21) rfl rfl rfl rfl ?_
    refine Qw.pass (dj := 21) rfl rfl rfl rfl ?_
    refine Qw.pass (dj := 21) rfl rfl rfl rfl ?_
    refine Qw.pass (dj := 21) rfl rfl rfl rfl ?_
    refine Qw.val (fun w1 hq => Ex.pickF rfl rfl) rfl ?_
    refine Qw.val (fun w1 hq => Ex.assign rfl) rfl ?_
    refine Qw.nil (fun w2 hq => ?_)
    refine Pw.thenN (Cw.out ?_)
    refine Cw.ret ?_
    refine Pw.ret1 rfl rfl ?_
    exact ⟨congrArg Value.bool (by unfold alk; rw [g2, Bool.and_false, Bool.false_and]), hq⟩
  intro g
  have hl : ¬ a.length = b.length := by have := of_decide_eq_false g; omega
  refine Qw.pass (dj := 12) rfl rfl rfl rfl ?_
  refine Qw.pass (dj := 12) rfl rfl rfl rfl ?_
  refine Qw.pass (dj := 12) rfl rfl rfl rfl ?_
  refine Qw.pass (dj := 12) rfl rfl rfl rfl ?_
  refine Qw.pass (dj := 12) rfl rfl rfl rfl ?_
  refine Qw.pass (dj := 12) rfl rfl rfl rfl ?_
  refine Qw.pass (dj := 12) rfl rfl rfl rfl ?_
  refine Qw.val (fun w1 hq => Ex.pickF rfl rfl) rfl ?_
  refine Qw.val (fun w1 hq => Ex.move rfl) rfl ?_
  refine Qw.pass (dj := 21) rfl rfl rfl rfl ?_
  refine Qw.pass (dj := 21) rfl rfl rfl rfl ?_
  refine Qw.pass (dj := 21) rfl rfl rfl rfl ?_
  refine Qw.pass (dj := 21) rfl rfl rfl rfl ?_
  refine Qw.pass (dj := 21) rfl rfl rfl rfl ?_
  refine Qw.pass (dj := 21) rfl rfl rfl rfl ?_
  refine Qw.pass (dj := 21) rfl rfl rfl rfl ?_
  refine Qw.pass (dj := 21) rfl rfl rfl rfl ?_
  refine Qw.pass (dj := 21) rfl rfl rfl rfl ?_
  refine Qw.val (fun w1 hq => Ex.pickF rfl rfl) rfl ?_
  refine Qw.val (fun w1 hq => Ex.assign rfl) rfl ?_
  refine Qw.nil (fun w2 hq => ?_)
  refine Pw.thenN (Cw.out ?_)
  refine Cw.ret ?_
  refine Pw.ret1 rfl rfl ?_
  exact ⟨congrArg Value.bool (by unfold alk; rw [decide_eq_false hl]; rfl), hq⟩

/-! ### What joining tells -/
def jsum (k : Nat) : List T4 → Int
  | [] => 0
  | t :: ts => t.s.getD k default + jsum k ts
theorem jsum_append (k : Nat) : ∀ (a b : List T4), jsum k (a ++ b) = jsum k a + jsum k b
  | [], b => by simp [jsum]
  | t :: a, b => by simp only [List.cons_append, jsum]; rw [jsum_append k a b]; omega
/-- The number at a place of some that are joined. -/
def jv (k : Nat) : List T4 → List Int → BitVec 32
  | [], _ => 0#32
  | t :: ts, p => if p.getD k default < t.s.getD k default then tatV t.s t.l p else jv k ts (p.set k (p.getD k default - t.s.getD k default))
def s0T : List T4 → List Int
  | [] => []
  | t :: _ => t.s
def jnS (ts : List T4) (k : Nat) : List Int := (s0T ts).set k (jsum k ts)
def jnA (ts : List T4) (al : Int) : Bool := decide (ts.length < 1) || decide (4 < ts.length) || badT ts || decide (al < 0) || decide (((s0T ts).length : Int) ≤ al)
def jnE (ts : List T4) (al : Int) : Int := if jnA ts al then 1 else if (ts.all fun t => alk t.s (s0T ts) al.toNat) && Shapes.ok (jnS ts al.toNat) then 0 else 10
def jnL (ts : List T4) (k : Nat) : List (BitVec 32) := (List.range (Shapes.size (jnS ts k)).toNat).map fun i : Nat => jv k ts (Shapes.place (jnS ts k) (i : Int))
theorem alk_set {a b : List Int} {k : Nat} (c : Int) : alk a (b.set k c) k = alk a b k := by
  have e1 : (b.set k c).take k = b.take k := by
    apply List.ext_getElem (by simp)
    intro i h1 h2
    simp only [List.length_take, List.length_set] at h1
    rw [List.getElem_take, List.getElem_take, List.getElem_set, if_neg (by omega)]
  have e2 : (b.set k c).drop (k + 1) = b.drop (k + 1) := by
    apply List.ext_getElem (by simp)
    intro i h1 h2
    rw [List.getElem_drop, List.getElem_drop, List.getElem_set, if_neg (by omega)]
  unfold alk
  rw [e1, e2, List.length_set]
/-- Where a joined number comes from. -/
theorem joinF_c (A_k A_l k : Nat) (v : Value) (ts : List T4) (p : List Int) (a : Value) (w : World) (b_k : Blk w A_k 3 [.int .i64 (k : Int)]) (b_l : Blk w A_l 25 [v]) (h : Tens w v ts) (hl : ts.length ≤ 1000) (hT : ∀ t ∈ ts, k < t.s.length ∧ Shapes.ok t.s = true)
    (hk : k < p.length) (hp : p.length ≤ 4) (hc : 0 ≤ p.getD k default ∧ p.getD k default < jsum k ts) (hj : jsum k ts ≤ 1000) (h_a : SlT (Value.int .i64) w a p) :
    Fnc Tryz.prog 121 ([a] ++ [.pointer (some ⟨A_k, 0, none⟩), .pointer (some ⟨A_l, 0, none⟩)]) w (fun r w' => r = i32 (jv k ts p) ∧ Below w.heap.size w w') := by
  show Fnc Tryz.prog 121 [a, .pointer (some ⟨A_k, 0, none⟩), .pointer (some ⟨A_l, 0, none⟩)] w _
  have set_id : p.set k (p.getD k default) = p := by
    have : p[k] = p.getD k default := by simp [hk]
    rw [← this]; exact List.set_getElem_self hk
  refine Fnc.enter (n := 49) Tryz.func121 (by kernel_rfl) rfl rfl rfl ?_
  refine Cw.seq ?_
  refine Cw.region ?_
  refine Lw.val (Ex.assign (show _ = some (i32 (0#32)) from rfl)) rfl ?_
  refine Lw.nil ?_
  refine Pw.thenN (Cw.out ?_)
  refine Cw.seq ?_
  refine Cw.region ?_
  refine Lw.val (Ex.move rfl) rfl ?_
  refine Lw.callF rfl rfl (clone_c a p w h_a (by omega)) ?_
  rintro x w1 ⟨hx, hn1⟩
  refine Lw.val (Ex.assign rfl) rfl ?_
  refine Lw.val (Ex.assign rfl) rfl ?_
  refine Lw.nil ?_
  refine Pw.thenN (Cw.out ?_)
  refine Cw.seq ?_
  refine Cw.block ?_
  refine Cw.loop (S := (Nat × Int)) (fun z => [(0, x), (1, .pointer (some ⟨A_k, 0, none⟩)), (2, .pointer (some ⟨A_l, 0, none⟩)), (5, .int .i64 (z.1 : Int))]) (fun z w' => z.1 ≤ ts.length ∧ (0 ≤ z.2 ∧ z.2 < jsum k (ts.drop z.1) ∧ z.2 ≤ 1000) ∧ jv k ts p = jv k (ts.drop z.1) (p.set k z.2) ∧ Below w.heap.size w w' ∧ w'.ownsRow w.heap.size 3 1 x p.length ((p.set k z.2).map (Value.int .i64))) (fun z => ts.length - z.1) ((0, p.getD k default)) ⟨rfl, rfl, rfl, rfl, trivial⟩ ?_ ?_
  · exact ⟨Nat.zero_le _, ⟨hc.1, hc.2, by show p.getD k default ≤ 1000; omega⟩, by rw [set_id]; rfl, hn1, by show w1.ownsRow _ _ _ _ _ ((p.set k (p.getD k default)).map _); rw [set_id]; exact hx⟩
  clear hx hn1
  rintro ⟨n, c⟩ w2 ⟨hn, ⟨c0, c1, c2⟩, hv, hB, hx⟩
  dsimp only at hn c0 c1 c2 hv hx ⊢
  have hn' : n < ts.length := by
    rcases Nat.lt_or_ge n ts.length with h | h
    · exact h
    · rw [List.drop_of_length_le h] at c1; simp [jsum] at c1; omega
  obtain ⟨t, et, mt, k1, k2⟩ := tens_at hn'
  have hd : ts.drop n = t :: ts.drop (n + 1) := by rw [List.drop_eq_getElem_cons hn', ← et]
  obtain ⟨kt, okt⟩ := hT t mt
  have dt := dim_at ((Shapes.ok_iff t.s).1 okt).2.1 kt
  have h2 := h.bs hB
  have h_t := h2.2 t mt
  have h_t1 := h_t.1
  have hvs := h2.slice hn'
  have b_k2 := b_k.bs hB
  have b_l2 := b_l.bs hB
  have lset : (p.set k c).length = p.length := List.length_set
  have hx' := hx
  rw [← lset] at hx'
  have s_x := own_slT hx'
  clear hx'
  have gk : (p.set k c).getD k default = c := by simp [hk]
  have hkx : k < (p.set k c).length := by omega
  rw [hd] at c1 hv
  have c1' : c < t.s.getD k default + jsum k (ts.drop (n + 1)) := c1
  refine Cw.seq ?_
  refine Cw.seq ?_
  refine Cw.quiet mixed (by kernel_rfl) ?_
  refine Qw.val (fun w1 hq => Ex.move rfl) rfl ?_
  refine Qw.val (fun w1 hq => Ex.ldB (ag_3 _) rfl (Blk.bs (by assumption) hq) rfl) rfl ?_
  refine Qw.val (fun w1 hq => Ex.idxT st_26 rfl rfl (Sl.bs s_x hq) k rfl hkx) rfl ?_
  refine Qw.val (fun w1 hq => (Ex.ldT (ag_3 _) rfl (Sl.bs s_x hq) hkx).as (congrArg (Value.int .i64) gk)) rfl ?_
  refine Qw.val (fun w1 hq => Ex.ldB (ag_25 _) rfl (Blk.bs (by assumption) hq) rfl) rfl ?_
  refine Qw.val (fun w1 hq => Ex.move rfl) rfl ?_
  refine Qw.val (fun w1 hq => Ex.idx st_25 rfl rfl (Sl.bs h2.1 hq) n rfl hn') rfl ?_
  refine Qw.val (fun w1 hq => Ex.fieldAddrE Tryz.underlying29 rfl (sz_26 _) rfl hvs) rfl ?_
  refine Qw.val (fun w1 hq => Ex.ld (ag_26 _) rfl (Sl.bs h2.1 hq) k1) rfl ?_
  refine Qw.val (fun w1 hq => Ex.ldB (ag_3 _) rfl (Blk.bs (by assumption) hq) rfl) rfl ?_
  refine Qw.val (fun w1 hq => Ex.idxT st_26 rfl rfl (Sl.bs h_t1 hq) k rfl kt) rfl ?_
  refine Qw.val (fun w1 hq => Ex.ldT (ag_3 _) rfl (Sl.bs h_t1 hq) kt) rfl ?_
  refine Qw.val (fun w1 hq => Ex.geq rfl rfl) rfl ?_
  refine Qw.nil (fun w3 hq => ?_)
  refine Pw.thenN (Cw.out ?_)
  have hB3 := bt hB hq
  have hx3 := own_bs hx hq
  have h3 := h.bs hB3
  have h_t3 := h3.2 t mt
  have h_t13 := h_t3.1
  have b_k3 := b_k2.bs hq
  have b_l3 := b_l2.bs hq
  have s_x3 := s_x.bs hq
  clear hq
  refine Cw.cond rfl ?_ ?_
  · intro g
    have g := of_decide_eq_true g
    refine Cw.skip ?_
    refine Pw.thenN (Cw.out ?_)
    refine Cw.block ?_
    refine Cw.seq ?_
    refine Cw.tail 14 mixed (by kernel_rfl) ?_
    refine Qw.val (fun w1 hq => Ex.move rfl) rfl ?_
    refine Qw.val (fun w1 hq => Ex.ldB (ag_3 _) rfl (Blk.bs (by assumption) hq) rfl) rfl ?_
    refine Qw.val (fun w1 hq => Ex.idxT st_26 rfl rfl (Sl.bs s_x3 hq) k rfl hkx) rfl ?_
    refine Qw.val (fun w1 hq => (Ex.ldT (ag_3 _) rfl (Sl.bs s_x3 hq) hkx).as (congrArg (Value.int .i64) gk)) rfl ?_
    refine Qw.val (fun w1 hq => Ex.ldB (ag_25 _) rfl (Blk.bs (by assumption) hq) rfl) rfl ?_
    refine Qw.val (fun w1 hq => Ex.move rfl) rfl ?_
    refine Qw.val (fun w1 hq => Ex.idx st_25 rfl rfl (Sl.bs h3.1 hq) n rfl hn') rfl ?_
    refine Qw.val (fun w1 hq => Ex.fieldAddrE Tryz.underlying29 rfl (sz_26 _) rfl hvs) rfl ?_
    refine Qw.val (fun w1 hq => Ex.ld (ag_26 _) rfl (Sl.bs h3.1 hq) k1) rfl ?_
    refine Qw.val (fun w1 hq => Ex.ldB (ag_3 _) rfl (Blk.bs (by assumption) hq) rfl) rfl ?_
    refine Qw.val (fun w1 hq => Ex.idxT st_26 rfl rfl (Sl.bs h_t13 hq) k rfl kt) rfl ?_
    refine Qw.val (fun w1 hq => Ex.ldT (ag_3 _) rfl (Sl.bs h_t13 hq) kt) rfl ?_
    refine Qw.val (fun w1 hq => Ex.subI rfl rfl (by omega)) rfl ?_
    refine Qw.val (fun w1 hq => Ex.idxT st_26 rfl rfl (Sl.bs s_x3 hq) k rfl hkx) rfl ?_
    refine Qw.done (fun w4 hq => ?_)
    have hB4 := bt hB3 hq
    have hx4 := own_bs hx3 hq
    refine Lw.unit (Xu.stO (sz_3 _) rfl rfl rfl hx4 (by rw [List.length_map]; exact hkx)) ?_
    rintro w5 ⟨hx5, hg, -⟩
    rw [← List.map_set, List.set_set] at hx5
    have hB5 := hB4.grown hg (below_size hB4) (fun b e => (own_block hx4 b e).1)
    have ev : jv k (t :: ts.drop (n + 1)) (p.set k c) = jv k (ts.drop (n + 1)) (p.set k (c - t.s.getD k default)) := by
      rw [jv, gk, if_neg (by omega), List.set_set]
    refine Lw.nil ?_
    refine Pw.thenN (Cw.out ?_)
    refine Cw.region ?_
    refine Lw.val (Ex.move rfl) rfl ?_
    refine Lw.val (Ex.addI rfl rfl (by omega)) rfl ?_
    refine Lw.val (Ex.assign rfl) rfl ?_
    refine Lw.nil ?_
    refine Pw.blkN ?_
    exact Pw.thenN (Pw.next ((n + 1, c - t.s.getD k default)) ⟨rfl, rfl, rfl, rfl, trivial⟩ (⟨hn', ⟨by show 0 ≤ c - t.s.getD k default; omega, by show c - t.s.getD k default < jsum k (ts.drop (n + 1)); omega, by show c - t.s.getD k default ≤ 1000; omega⟩, by rw [hv, ev], hB5, hx5⟩) (by simp only; omega))
  intro g
  have g := of_decide_eq_false g
  have ev : jv k (t :: ts.drop (n + 1)) (p.set k c) = tatV t.s t.l (p.set k c) := by rw [jv, gk, if_pos (by omega)]
  refine Cw.exit ?_
  refine Pw.thenE ?_
  refine Pw.thenE ?_
  refine Pw.blkHit ?_
  refine Pw.thenN (Cw.out ?_)
  refine Cw.seq ?_
  refine Cw.region ?_
  refine Lw.val (Ex.ldB (ag_25 _) rfl (by assumption) rfl) rfl ?_
  refine Lw.val (Ex.move rfl) rfl ?_
  refine Lw.val (Ex.idx st_25 rfl rfl h3.1 n rfl hn') rfl ?_
  refine Lw.val (Ex.ldE (cs := [t.x, t.y]) (ag_29 _) (sz_29 _) rfl h3.1 rfl (by decide) (two_cells k1 k2)) rfl ?_
  refine Lw.val (Ex.move rfl) rfl ?_
  refine Lw.callF rfl rfl (tat_c t x (p.set k c) _ h_t3 s_x3) ?_
  rintro _ w4 ⟨rfl, hn4⟩
  refine Lw.val (Ex.move rfl) rfl ?_
  refine Lw.val (Ex.extract (i := 0) rfl rfl) rfl ?_
  refine Lw.val (Ex.extract (i := 1) rfl rfl) rfl ?_
  refine Lw.val (Ex.assign rfl) rfl ?_
  refine Lw.val (Ex.assign rfl) rfl ?_
  refine Lw.nil ?_
  refine Pw.thenN (Cw.out ?_)
  refine Cw.seq ?_
  refine Cw.region ?_
  refine Lw.val (Ex.move rfl) rfl ?_
  refine Lw.val (Ex.assign rfl) rfl ?_
  refine Lw.nil ?_
  refine Pw.thenN (Cw.out ?_)
  refine Cw.ret ?_
  refine Pw.ret1 rfl rfl ?_
  exact ⟨by rw [hv, ev], bt hB3 hn4⟩
theorem jnE_bad {ts : List T4} {al : Int} (h : jnA ts al = true) : jnE ts al = 1 := by unfold jnE; rw [if_pos h]
theorem jnE_ten {ts : List T4} {al : Int} (h : jnA ts al = false) (g : ((ts.all fun t => alk t.s (s0T ts) al.toNat) && Shapes.ok (jnS ts al.toNat)) = false) : jnE ts al = 10 := by unfold jnE; rw [h, if_neg (by decide), g, if_neg (by decide)]
theorem s0T_at {ts : List T4} {t : T4} (h : 0 < ts.length) (e : t = ts[0]) : s0T ts = t.s := by
  match ts, h, e with
  | a :: _, _, e => rw [e]; rfl
theorem badT_at {ts : List T4} (h : badT ts = false) {t : T4} (ht : t ∈ ts) : tok t.s t.l = true := by
  cases hk : tok t.s t.l with
  | true => rfl
  | false =>
    have : badT ts = true := List.any_eq_true.2 ⟨t, ht, by rw [hk]; rfl⟩
    rw [this] at h; cases h
theorem jsum_le {k : Nat} : ∀ {ts : List T4}, (∀ t ∈ ts, 0 ≤ t.s.getD k default ∧ t.s.getD k default ≤ 64) → 0 ≤ jsum k ts ∧ jsum k ts ≤ 64 * ts.length
  | [], _ => by simp [jsum]
  | t :: ts, h => by
    have h1 := h t (by simp)
    have h2 := jsum_le (ts := ts) fun u hu => h u (by simp [hu])
    simp only [jsum, List.length_cons]
    omega
theorem set_set_id {s : List Int} {k : Nat} (h : k < s.length) (c : Int) : (s.set k c).getD k default = c := by simp [h]
set_option maxHeartbeats 1000000 in
theorem mjoin_c (v : Value) (ts : List T4) (al : Int) (W : World) (h : Tens W v ts) :
    Fnc Tryz.prog 91 [v, .int .i64 al] W (fun r w' => Below W.heap.size W w' ∧ AnsK W w' r (jnE ts al) (jnS ts al.toNat) (jnL ts al.toNat)) := by
  have hB := Below.refl W.heap.size W
  have hvo := h.1.one
  have hv := h.1
  refine Fnc.enter (n := 77) Tryz.func91 (by kernel_rfl) rfl rfl rfl ?_
  refine Cw.seq ?_
  refine Cw.region ?_
  refine Lw.boxV (cs := [v]) rfl hvo rfl ?_
  rintro A_l w eA_l b_l hn -
  replace hB := hB.bs hn
  replace h := h.bs hn
  replace hv := hv.bs hn
  clear hn
  refine Lw.boxV (cs := [.int .i64 al]) rfl rfl rfl ?_
  rintro A_k w eA_k b_k hn -
  replace hB := hB.bs hn
  replace h := h.bs hn
  replace hv := hv.bs hn
  replace b_l := b_l.bs hn
  clear hn
  have z0 := below_size hB
  refine Lw.newA it_29 rfl ?_
  rintro A_r w eA_r b_r hn -
  replace hB := hB.bs hn
  replace h := h.bs hn
  replace hv := hv.bs hn
  replace b_l := b_l.bs hn
  replace b_k := b_k.bs hn
  clear hn
  refine Lw.val (Ex.assign rfl) rfl ?_
  refine Lw.nil ?_
  refine Pw.thenN (Cw.out ?_)
  refine Cw.seq ?_
  refine Cw.seq ?_
  have z_r := blk_lt b_r
  refine Cw.quiet mixed (by kernel_rfl) ?_
  refine Qw.val (fun w1 hq => Ex.ldB (ag_25 _) rfl (Blk.bs (by assumption) hq) rfl) rfl ?_
  refine Qw.val (fun w1 hq => Ex.lenS st_25 rfl (Sl.bs (by assumption) hq)) rfl ?_
  refine Qw.val (fun w1 hq => Ex.lss rfl rfl) rfl ?_
  refine Qw.val (fun w1 hq => Ex.move rfl) rfl ?_
  refine Qw.part 12 rfl ?_ ?_
  · intro g
    have g' : ts.length < 1 := by have := of_decide_eq_true g; omega
    refine Qw.pass (dj := 12) rfl rfl rfl rfl ?_
    refine Qw.pass (dj := 12) rfl rfl rfl rfl ?_
    refine Qw.pass (dj := 12) rfl rfl rfl rfl ?_
    refine Qw.val (fun w1 hq => Ex.pickT rfl rfl) rfl ?_
    refine Qw.val (fun w1 hq => Ex.move rfl) rfl ?_
    refine Qw.pass (dj := 17) rfl rfl rfl rfl ?_
    refine Qw.pass (dj := 17) rfl rfl rfl rfl ?_
    refine Qw.val (fun w1 hq => Ex.pickT rfl rfl) rfl ?_
    refine Qw.val (fun w1 hq => Ex.move rfl) rfl ?_
    refine Qw.pass (dj := 21) rfl rfl rfl rfl ?_
    refine Qw.pass (dj := 21) rfl rfl rfl rfl ?_
    refine Qw.val (fun w1 hq => Ex.pickT rfl rfl) rfl ?_
    refine Qw.val (fun w1 hq => Ex.move rfl) rfl ?_
    refine Qw.pass (dj := 25) rfl rfl rfl rfl ?_
    refine Qw.pass (dj := 25) rfl rfl rfl rfl ?_
    refine Qw.pass (dj := 25) rfl rfl rfl rfl ?_
    refine Qw.pass (dj := 25) rfl rfl rfl rfl ?_
    refine Qw.pass (dj := 25) rfl rfl rfl rfl ?_
    refine Qw.pass (dj := 25) rfl rfl rfl rfl ?_
    refine Qw.pass (dj := 25) rfl rfl rfl rfl ?_
    refine Qw.val (fun w1 hq => Ex.pickT rfl rfl) rfl ?_
    refine Qw.nil (fun w1 hq => ?_)
    refine Pw.thenN (Cw.out ?_)
    refine Cw.condT rfl ?_
    refine Cw.seq ?_
    refine Cw.region ?_
    refine Lw.val (Ex.build (vs := []) (cs := [.slice none 0 0, .slice none 0 0]) rfl (by kernel_rfl)) rfl ?_
    have b_r := b_r.bs hq
    have hB := bt hB hq
    refine Lw.unit (Xu.stA (cs := [.slice none 0 0, .slice none 0 0]) rfl rfl rfl rfl rfl b_r rfl) ?_
    rintro w3 ⟨b_r, hg, -⟩
    have hB := hB.grown hg (below_size hB) (by rintro _ ⟨⟩; omega)
    refine Lw.val (Ex.assign rfl) rfl ?_
    refine Lw.nil ?_
    refine Pw.thenN (Cw.out ?_)
    refine Cw.ret ?_
    refine Pw.thenR ?_
    refine Pw.retCT rfl rfl rfl (by assumption) (Tryz.underlying29) rfl rfl rfl ?_
    rw [jnE_bad (by unfold jnA; rw [decide_eq_true g']; rfl)]
    exact ⟨hB, ansK_no (by decide)⟩
  intro g1
  have g1 : ¬ ts.length < 1 := by have := of_decide_eq_false g1; omega
  refine Qw.take (dj := 12) rfl rfl ?_
  refine Qw.val (fun w1 hq => Ex.ldB (ag_25 _) rfl (Blk.bs (by assumption) hq) rfl) rfl ?_
  refine Qw.take (dj := 12) rfl rfl ?_
  refine Qw.val (fun w1 hq => Ex.lenS st_25 rfl (Sl.bs (by assumption) hq)) rfl ?_
  refine Qw.take (dj := 12) rfl rfl ?_
  refine Qw.val (fun w1 hq => Ex.gtr rfl rfl) rfl ?_
  refine Qw.val (fun w1 hq => Ex.pickF rfl rfl) rfl ?_
  refine Qw.val (fun w1 hq => Ex.move rfl) rfl ?_
  refine Qw.part 17 rfl ?_ ?_
  · intro g
    have g' : 4 < ts.length := by have := of_decide_eq_true g; omega
    refine Qw.pass (dj := 17) rfl rfl rfl rfl ?_
    refine Qw.pass (dj := 17) rfl rfl rfl rfl ?_
    refine Qw.val (fun w1 hq => Ex.pickT rfl rfl) rfl ?_
    refine Qw.val (fun w1 hq => Ex.move rfl) rfl ?_
    refine Qw.pass (dj := 21) rfl rfl rfl rfl ?_
    refine Qw.pass (dj := 21) rfl rfl rfl rfl ?_
    refine Qw.val (fun w1 hq => Ex.pickT rfl rfl) rfl ?_
    refine Qw.val (fun w1 hq => Ex.move rfl) rfl ?_
    refine Qw.pass (dj := 25) rfl rfl rfl rfl ?_
    refine Qw.pass (dj := 25) rfl rfl rfl rfl ?_
    refine Qw.pass (dj := 25) rfl rfl rfl rfl ?_
    refine Qw.pass (dj := 25) rfl rfl rfl rfl ?_
    refine Qw.pass (dj := 25) rfl rfl rfl rfl ?_
    refine Qw.pass (dj := 25) rfl rfl rfl rfl ?_
    refine Qw.pass (dj := 25) rfl rfl rfl rfl ?_
    refine Qw.val (fun w1 hq => Ex.pickT rfl rfl) rfl ?_
    refine Qw.nil (fun w1 hq => ?_)
    refine Pw.thenN (Cw.out ?_)
    refine Cw.condT rfl ?_
    refine Cw.seq ?_
    refine Cw.region ?_
    refine Lw.val (Ex.build (vs := []) (cs := [.slice none 0 0, .slice none 0 0]) rfl (by kernel_rfl)) rfl ?_
    have b_r := b_r.bs hq
    have hB := bt hB hq
    refine Lw.unit (Xu.stA (cs := [.slice none 0 0, .slice none 0 0]) rfl rfl rfl rfl rfl b_r rfl) ?_
    rintro w3 ⟨b_r, hg, -⟩
    have hB := hB.grown hg (below_size hB) (by rintro _ ⟨⟩; omega)
    refine Lw.val (Ex.assign rfl) rfl ?_
    refine Lw.nil ?_
    refine Pw.thenN (Cw.out ?_)
    refine Cw.ret ?_
    refine Pw.thenR ?_
    refine Pw.retCT rfl rfl rfl (by assumption) (Tryz.underlying29) rfl rfl rfl ?_
    rw [jnE_bad (by unfold jnA; rw [decide_eq_true g', Bool.or_true]; rfl)]
    exact ⟨hB, ansK_no (by decide)⟩
  intro g2
  have g2 : ¬ 4 < ts.length := by have := of_decide_eq_false g2; omega
  refine Qw.take (dj := 17) rfl rfl ?_
  refine Qw.val (fun w1 hq => Ex.ldB (ag_25 _) rfl (Blk.bs (by assumption) hq) rfl) rfl ?_
  refine Qw.take (dj := 17) rfl rfl ?_
  refine Qw.callF rfl rfl (fun w1 hq => (tBad_c v ts w1 (h.bs hq) (by omega)).q hq) ?_
  refine Qw.val (fun w1 hq => Ex.pickF rfl rfl) rfl ?_
  refine Qw.val (fun w1 hq => Ex.move rfl) rfl ?_
  refine Qw.part 21 rfl ?_ ?_
  · intro g
    refine Qw.pass (dj := 21) rfl rfl rfl rfl ?_
    refine Qw.pass (dj := 21) rfl rfl rfl rfl ?_
    refine Qw.val (fun w1 hq => Ex.pickT rfl rfl) rfl ?_
    refine Qw.val (fun w1 hq => Ex.move rfl) rfl ?_
    refine Qw.pass (dj := 25) rfl rfl rfl rfl ?_
    refine Qw.pass (dj := 25) rfl rfl rfl rfl ?_
    refine Qw.pass (dj := 25) rfl rfl rfl rfl ?_
    refine Qw.pass (dj := 25) rfl rfl rfl rfl ?_
    refine Qw.pass (dj := 25) rfl rfl rfl rfl ?_
    refine Qw.pass (dj := 25) rfl rfl rfl rfl ?_
    refine Qw.pass (dj := 25) rfl rfl rfl rfl ?_
    refine Qw.val (fun w1 hq => Ex.pickT rfl rfl) rfl ?_
    refine Qw.nil (fun w1 hq => ?_)
    refine Pw.thenN (Cw.out ?_)
    refine Cw.condT rfl ?_
    refine Cw.seq ?_
    refine Cw.region ?_
    refine Lw.val (Ex.build (vs := []) (cs := [.slice none 0 0, .slice none 0 0]) rfl (by kernel_rfl)) rfl ?_
    have b_r := b_r.bs hq
    have hB := bt hB hq
    refine Lw.unit (Xu.stA (cs := [.slice none 0 0, .slice none 0 0]) rfl rfl rfl rfl rfl b_r rfl) ?_
    rintro w3 ⟨b_r, hg, -⟩
    have hB := hB.grown hg (below_size hB) (by rintro _ ⟨⟩; omega)
    refine Lw.val (Ex.assign rfl) rfl ?_
    refine Lw.nil ?_
    refine Pw.thenN (Cw.out ?_)
    refine Cw.ret ?_
    refine Pw.thenR ?_
    refine Pw.retCT rfl rfl rfl (by assumption) (Tryz.underlying29) rfl rfl rfl ?_
    rw [jnE_bad (by unfold jnA; rw [g, Bool.or_true]; rfl)]
    exact ⟨hB, ansK_no (by decide)⟩
  intro g3
  refine Qw.take (dj := 21) rfl rfl ?_
  refine Qw.val (fun w1 hq => Ex.ldB (ag_3 _) rfl (Blk.bs (by assumption) hq) rfl) rfl ?_
  refine Qw.take (dj := 21) rfl rfl ?_
  refine Qw.val (fun w1 hq => Ex.lss rfl rfl) rfl ?_
  refine Qw.val (fun w1 hq => Ex.pickF rfl rfl) rfl ?_
  refine Qw.val (fun w1 hq => Ex.move rfl) rfl ?_
  refine Qw.part 25 rfl ?_ ?_
  · intro g
    have g' : al < 0 := of_decide_eq_true g
    refine Qw.pass (dj := 25) rfl rfl rfl rfl ?_
    refine Qw.pass (dj := 25) rfl rfl rfl rfl ?_
    refine Qw.pass (dj := 25) rfl rfl rfl rfl ?_
    refine Qw.pass (dj := 25) rfl rfl rfl rfl ?_
    refine Qw.pass (dj := 25) rfl rfl rfl rfl ?_
    refine Qw.pass (dj := 25) rfl rfl rfl rfl ?_
    refine Qw.pass (dj := 25) rfl rfl rfl rfl ?_
    refine Qw.val (fun w1 hq => Ex.pickT rfl rfl) rfl ?_
    refine Qw.nil (fun w1 hq => ?_)
    refine Pw.thenN (Cw.out ?_)
    refine Cw.condT rfl ?_
    refine Cw.seq ?_
    refine Cw.region ?_
    refine Lw.val (Ex.build (vs := []) (cs := [.slice none 0 0, .slice none 0 0]) rfl (by kernel_rfl)) rfl ?_
    have b_r := b_r.bs hq
    have hB := bt hB hq
    refine Lw.unit (Xu.stA (cs := [.slice none 0 0, .slice none 0 0]) rfl rfl rfl rfl rfl b_r rfl) ?_
    rintro w3 ⟨b_r, hg, -⟩
    have hB := hB.grown hg (below_size hB) (by rintro _ ⟨⟩; omega)
    refine Lw.val (Ex.assign rfl) rfl ?_
    refine Lw.nil ?_
    refine Pw.thenN (Cw.out ?_)
    refine Cw.ret ?_
    refine Pw.thenR ?_
    refine Pw.retCT rfl rfl rfl (by assumption) (Tryz.underlying29) rfl rfl rfl ?_
    rw [jnE_bad (by unfold jnA; rw [decide_eq_true g', Bool.or_true]; rfl)]
    exact ⟨hB, ansK_no (by decide)⟩
  intro g4
  have g4 : ¬ al < 0 := of_decide_eq_false g4
  have hpos : 0 < ts.length := by omega
  obtain ⟨t0, e0, m0, c1, c2⟩ := tens_at hpos
  have h_00 := h.2 t0 m0
  have h_01 := h_00.1
  have es0 := s0T_at hpos e0
  have hvs := h.slice hpos
  refine Qw.take (dj := 25) rfl rfl ?_
  refine Qw.val (fun w1 hq => Ex.ldB (ag_3 _) rfl (Blk.bs (by assumption) hq) rfl) rfl ?_
  refine Qw.take (dj := 25) rfl rfl ?_
  refine Qw.val (fun w1 hq => Ex.ldB (ag_25 _) rfl (Blk.bs (by assumption) hq) rfl) rfl ?_
  refine Qw.take (dj := 25) rfl rfl ?_
  refine Qw.val (fun w1 hq => Ex.idx st_25 rfl rfl (Sl.bs hv hq) 0 rfl hpos) rfl ?_
  refine Qw.take (dj := 25) rfl rfl ?_
  refine Qw.val (fun w1 hq => Ex.fieldAddrE Tryz.underlying29 rfl (sz_26 _) rfl hvs) rfl ?_
  refine Qw.take (dj := 25) rfl rfl ?_
  refine Qw.val (fun w1 hq => Ex.ld (ag_26 _) rfl (Sl.bs hv hq) c1) rfl ?_
  refine Qw.take (dj := 25) rfl rfl ?_
  refine Qw.val (fun w1 hq => Ex.lenS st_26 rfl (Sl.bs (by assumption) hq)) rfl ?_
  refine Qw.take (dj := 25) rfl rfl ?_
  refine Qw.val (fun w1 hq => Ex.geq rfl rfl) rfl ?_
  refine Qw.val (fun w1 hq => Ex.pickF rfl rfl) rfl ?_
  refine Qw.nil (fun w1 hq => ?_)
  refine Pw.thenN (Cw.out ?_)
  refine Cw.cond rfl ?_ ?_
  · intro g
    have g' : ((s0T ts).length : Int) ≤ al := by rw [es0]; exact of_decide_eq_true g
    refine Cw.seq ?_
    refine Cw.region ?_
    refine Lw.val (Ex.build (vs := []) (cs := [.slice none 0 0, .slice none 0 0]) rfl (by kernel_rfl)) rfl ?_
    have b_r := b_r.bs hq
    have hB := bt hB hq
    refine Lw.unit (Xu.stA (cs := [.slice none 0 0, .slice none 0 0]) rfl rfl rfl rfl rfl b_r rfl) ?_
    rintro w3 ⟨b_r, hg, -⟩
    have hB := hB.grown hg (below_size hB) (by rintro _ ⟨⟩; omega)
    refine Lw.val (Ex.assign rfl) rfl ?_
    refine Lw.nil ?_
    refine Pw.thenN (Cw.out ?_)
    refine Cw.ret ?_
    refine Pw.thenR ?_
    refine Pw.retCT rfl rfl rfl (by assumption) (Tryz.underlying29) rfl rfl rfl ?_
    rw [jnE_bad (by unfold jnA; rw [decide_eq_true g', Bool.or_true])]
    exact ⟨hB, ansK_no (by decide)⟩
  intro g5
  have g5 := of_decide_eq_false g5
  have hA : jnA ts al = false := by
    unfold jnA
    rw [decide_eq_false g1, decide_eq_false g2, g3, decide_eq_false g4, es0, decide_eq_false (by omega)]; rfl
  obtain ⟨k, rfl⟩ : ∃ k : Nat, al = (k : Int) := ⟨al.toNat, by omega⟩
  have hk : k < t0.s.length := by omega
  have ok0 := (tok_ok (badT_at g3 m0)).1
  have S0 := (Shapes.ok_iff t0.s).1 ok0
  replace hB := hB.bs hq
  replace h := h.bs hq
  replace hv := hv.bs hq
  replace b_l := b_l.bs hq
  replace b_k := b_k.bs hq
  replace b_r := b_r.bs hq
  replace h_01 := h_01.bs hq
  clear hq h_00
  refine Cw.skip ?_
  refine Pw.thenN (Cw.out ?_)
  refine Cw.seq ?_
  refine Cw.region ?_
  refine Lw.val (Ex.ldB (ag_25 _) rfl (by assumption) rfl) rfl ?_
  refine Lw.val (Ex.idx st_25 rfl rfl hv 0 rfl hpos) rfl ?_
  refine Lw.val (Ex.fieldAddrE Tryz.underlying29 rfl (sz_26 _) rfl hvs) rfl ?_
  refine Lw.val (Ex.ld (ag_26 _) rfl hv c1) rfl ?_
  obtain ⟨B, hBB⟩ : ∃ B, B = w1.heap.size := ⟨_, rfl⟩
  have y_l : A_l < B := hBB ▸ blk_lt b_l
  have y_k : A_k < B := hBB ▸ blk_lt b_k
  have y_r : A_r < B := hBB ▸ blk_lt b_r
  have y_B := below_size hB
  have p_h := h
  have b_l0 := b_l
  have b_k0 := b_k
  have b_r0 := b_r
  have hB0 := hB
  refine Lw.callF rfl rfl (clone_c t0.x t0.s w1 h_01 (by omega)) ?_
  rintro x w2 ⟨hx, hn⟩
  rw [← hBB] at hx
  have zn := hn.size
  replace hB := hB.bs hn
  replace h := h.bs hn
  replace hv := hv.bs hn
  replace b_l := b_l.bs hn
  replace b_k := b_k.bs hn
  replace b_r := b_r.bs hn
  replace h_01 := h_01.bs hn
  have hK := hBB ▸ hn
  clear hn
  have s_x := own_slT hx
  refine Lw.val (Ex.assign rfl) rfl ?_
  refine Lw.nil ?_
  refine Pw.thenN (Cw.out ?_)
  refine Cw.seq ?_
  refine Cw.region ?_
  refine Lw.val (Ex.move rfl) rfl ?_
  refine Lw.val (Ex.ldB (ag_3 _) rfl (by assumption) rfl) rfl ?_
  refine Lw.val (Ex.idxT st_26 rfl rfl s_x k rfl hk) rfl ?_
  refine Lw.unit (Xu.stO (sz_3 _) rfl rfl rfl hx (by rw [List.length_map]; exact hk)) ?_
  rintro w3 ⟨hx3, hg, -⟩
  rw [← List.map_set] at hx3
  have hK3 : Below B w1 w3 := Below.grown hK hg (by omega) (fun b e => (own_block hx b e).1)
  clear s_x hx hg
  clear hv
  have gd : ∀ t ∈ ts, 0 ≤ t.s.getD k default ∧ t.s.getD k default ≤ 64 := fun t ht => by
    have S := (Shapes.ok_iff t.s).1 (tok_ok (badT_at g3 ht)).1
    rcases Nat.lt_or_ge k t.s.length with h | h
    · have := dim_at S.2.1 h; omega
    · rw [List.getD_eq_getElem?_getD, List.getElem?_eq_none h]; decide
  have h3 := p_h.stay p_h (Nat.le_of_eq hBB.symm) hK3
  have hv3 := h3.1
  have b_l3 := b_l0.bl hK3 y_l
  have b_k3 := b_k0.bl hK3 y_k
  clear b_l b_k b_r hB h_01 h
  refine Lw.nil ?_
  refine Pw.thenN (Cw.out ?_)
  refine Cw.seq ?_
  refine Cw.seq ?_
  refine Cw.region ?_
  refine Lw.val (Ex.ldB (ag_25 _) rfl (by assumption) rfl) rfl ?_
  refine Lw.val (Ex.lenS st_25 rfl (by assumption)) rfl ?_
  refine Lw.val (Ex.move rfl) rfl ?_
  refine Lw.nil ?_
  refine Pw.thenN (Cw.out ?_)
  refine Cw.block ?_
  refine Cw.loop (S := Nat) (fun i => [(2, .pointer (some ⟨A_l, 0, none⟩)), (3, .pointer (some ⟨A_k, 0, none⟩)), (4, .pointer (some ⟨A_r, 0, none⟩)), (6, x), (43, v), (44, .int .i64 (ts.length : Int)), (45, .int .i64 (i : Int))]) (fun i w' => i ≤ ts.length ∧ (∀ t ∈ ts.take i, alk t.s t0.s k = true) ∧ Below B w1 w' ∧ w'.ownsRow B 3 1 x t0.s.length ((t0.s.set k (jsum k (ts.take i))).map (Value.int .i64))) (fun i => ts.length - i) (0) ⟨rfl, rfl, rfl, rfl, rfl, rfl, rfl, trivial⟩ ?_ ?_
  · exact ⟨Nat.zero_le _, fun t ht => by simp at ht, hK3, hx3⟩
  clear hx3 hK3 b_l3 b_k3 hv3 h3
  rintro i w4 ⟨hi, hC, hK, hx⟩
  have hK4 := hK
  have zK := hK.size
  have h4 := p_h.stay p_h (Nat.le_of_eq hBB.symm) hK
  have b_k := b_k0.bl hK y_k
  have b_l := b_l0.bl hK y_l
  have b_r := b_r0.bl hK y_r
  have hB := hB0.trans (hK.mono (by omega))
  obtain ⟨s', hs'⟩ : ∃ s', s' = t0.s.set k (jsum k (ts.take i)) := ⟨_, rfl⟩
  have ls' : s'.length = t0.s.length := by rw [hs']; exact List.length_set
  rw [← hs', ← ls'] at hx
  have gk : s'.getD k default = jsum k (ts.take i) := by rw [hs']; exact set_set_id hk _
  have hks : k < s'.length := by omega
  refine Cw.seq ?_
  refine Cw.region ?_
  refine Lw.val (Ex.lss rfl rfl) rfl ?_
  refine Lw.nil ?_
  refine Pw.thenN (Cw.out ?_)
  refine Cw.seq ?_
  refine Cw.cond rfl ?_ ?_
  · intro g
    have hi' : i < ts.length := by have := of_decide_eq_true g; omega
    obtain ⟨t, et, mt, k1, k2⟩ := tens_at hi'
    have h_t := h4.2 t mt
    have e1 : ts.take (i + 1) = ts.take i ++ [t] := by rw [List.take_succ_eq_append_getElem hi', ← et]
    have gt := gd t mt
    have js : jsum k (ts.take (i + 1)) = jsum k (ts.take i) + t.s.getD k default := by rw [e1, jsum_append]; simp [jsum]
    have jl := jsum_le (k := k) (ts := ts.take i) fun u hu => gd u (List.mem_of_mem_take hu)
    rw [List.length_take] at jl
    refine Cw.skip ?_
    refine Pw.thenN (Cw.out ?_)
    refine Cw.seq ?_
    refine Cw.block ?_
    refine Cw.seq ?_
    refine Cw.region ?_
    refine Lw.val (Ex.idx st_25 rfl rfl h4.1 i rfl hi') rfl ?_
    refine Lw.val (Ex.ldE (cs := [t.x, t.y]) (ag_29 _) (sz_29 _) rfl h4.1 rfl (by decide) (two_cells k1 k2)) rfl ?_
    refine Lw.boxed (cs := [t.x, t.y]) it_29 rfl rfl rfl rfl (fun _ => rfl) (h_t.one) ?_
    rintro A_x w5 eA_x b_x hn5 zhn5
    have h_t1 := (h_t.bs hn5).1
    have b_k := b_k.bs hn5
    have b_r := b_r.bs hn5
    have hx := own_bs hx hn5
    have hK := hK.trans (hn5.mono (by omega))
    have zK := hK.size
    have hB := bt hB hn5
    have s_x := own_slT hx
    refine Lw.nil ?_
    refine Pw.thenN (Cw.out ?_)
    refine Cw.seq ?_
    refine Cw.seq ?_
    refine Cw.region ?_
    refine Lw.val (Ex.fieldAddr (q := 0) Tryz.underlying29 rfl (sz_26 _) rfl) rfl ?_
    refine Lw.val (Ex.ldB (ag_26 _) rfl (by assumption) rfl) rfl ?_
    refine Lw.val (Ex.move rfl) rfl ?_
    refine Lw.val (Ex.ldB (ag_3 _) rfl (by assumption) rfl) rfl ?_
    refine Lw.callF rfl rfl (alike_c t.x x t.s s' k w5 h_t1 s_x hks) ?_
    rintro _ w6 ⟨rfl, hn6⟩
    have h_t1 := h_t1.bs hn6
    have b_x := b_x.bs hn6
    have b_k := b_k.bs hn6
    have b_r := b_r.bs hn6
    have hx := own_bs hx hn6
    have hK := hK.trans (hn6.mono (by omega))
    have zK := hK.size
    have hB := bt hB hn6
    have s_x := own_slT hx
    refine Lw.val (Ex.not rfl) rfl ?_
    refine Lw.nil ?_
    refine Pw.thenN (Cw.out ?_)
    refine Cw.cond rfl ?_ ?_
    · intro g2
      have g2 : alk t.s t0.s k = false := by rw [hs', alk_set] at g2; simpa using g2
      refine Cw.seq ?_
      refine Cw.region ?_
      refine Lw.val (Ex.build (vs := []) (cs := [.slice none 0 0, .slice none 0 0]) rfl (by kernel_rfl)) rfl ?_
      refine Lw.unit (Xu.stA (cs := [.slice none 0 0, .slice none 0 0]) rfl rfl rfl rfl rfl b_r rfl) ?_
      rintro w3 ⟨b_r, hg, -⟩
      have hB := hB.grown hg (below_size hB) (by rintro _ ⟨⟩; omega)
      refine Lw.val (Ex.assign rfl) rfl ?_
      refine Lw.nil ?_
      refine Pw.thenN (Cw.out ?_)
      refine Cw.ret ?_
      refine Pw.thenR ?_
      refine Pw.blkR ?_
      refine Pw.thenR ?_
      refine Pw.thenR ?_
      refine Pw.blkR ?_
      refine Pw.thenR ?_
      refine Pw.retCT rfl rfl rfl (by assumption) (Tryz.underlying29) rfl rfl rfl ?_
      rw [jnE_ten hA (by rw [es0, show (ts.all fun t => alk t.s t0.s ((k : Int)).toNat) = false from List.all_eq_false.2 ⟨t, mt, by rw [Int.toNat_natCast, g2]; decide⟩]; rfl)]
      exact ⟨hB, ansK_no (by decide)⟩
    intro g2
    have g2 : alk t.s t0.s k = true := by rw [hs', alk_set] at g2; simpa using g2
    have lk : t.s.length = t0.s.length := by
      unfold alk at g2
      simp only [Bool.and_eq_true, decide_eq_true_eq] at g2
      exact g2.1.1
    have hkt : k < t.s.length := by omega
    refine Cw.skip ?_
    refine Pw.thenN (Cw.out ?_)
    refine Cw.tail 11 mixed (by kernel_rfl) ?_
    refine Qw.val (fun w1 hq => Ex.move rfl) rfl ?_
    refine Qw.val (fun w1 hq => Ex.ldB (ag_3 _) rfl (Blk.bs (by assumption) hq) rfl) rfl ?_
    refine Qw.val (fun w1 hq => Ex.idxT st_26 rfl rfl (Sl.bs s_x hq) k rfl hks) rfl ?_
    refine Qw.val (fun w1 hq => (Ex.ldT (ag_3 _) rfl (Sl.bs s_x hq) hks).as (congrArg (Value.int .i64) gk)) rfl ?_
    refine Qw.val (fun w1 hq => Ex.fieldAddr (q := 0) Tryz.underlying29 rfl (sz_26 _) rfl) rfl ?_
    refine Qw.val (fun w1 hq => Ex.ldB (ag_26 _) rfl (Blk.bs (by assumption) hq) rfl) rfl ?_
    refine Qw.val (fun w1 hq => Ex.ldB (ag_3 _) rfl (Blk.bs (by assumption) hq) rfl) rfl ?_
    refine Qw.val (fun w1 hq => Ex.idxT st_26 rfl rfl (Sl.bs h_t1 hq) k rfl hkt) rfl ?_
    refine Qw.val (fun w1 hq => Ex.ldT (ag_3 _) rfl (Sl.bs h_t1 hq) hkt) rfl ?_
    refine Qw.val (fun w1 hq => Ex.addI rfl rfl (by omega)) rfl ?_
    refine Qw.val (fun w1 hq => Ex.idxT st_26 rfl rfl (Sl.bs s_x hq) k rfl hks) rfl ?_
    refine Qw.done (fun w7 hq => ?_)
    have hx := own_bs hx hq
    have hK := hK.trans (hq.mono (by omega))
    have zK := hK.size
    clear hq
    refine Lw.unit (Xu.stO (sz_3 _) rfl rfl rfl hx (by rw [List.length_map]; exact hks)) ?_
    rintro w8 ⟨hx8, hg, -⟩
    rw [← List.map_set, hs', List.set_set, ← js, ← hs', ls'] at hx8
    have hC' : ∀ u ∈ ts.take (i + 1), alk u.s t0.s k = true := fun u hu => by
      rw [e1] at hu
      rcases List.mem_append.1 hu with h | h
      · exact hC u h
      · rw [List.mem_singleton.1 h]; exact g2
    have hK8 : Below B w1 w8 := Below.grown hK hg (by omega) (fun b e => (own_block hx b e).1)
    refine Lw.nil ?_
    refine Pw.blkN ?_
    refine Pw.thenN (Cw.out ?_)
    refine Cw.region ?_
    refine Lw.val (Ex.addI rfl rfl (by omega)) rfl ?_
    refine Lw.val (Ex.move rfl) rfl ?_
    refine Lw.nil ?_
    exact Pw.thenN (Pw.next (i + 1) ⟨rfl, rfl, rfl, rfl, rfl, rfl, rfl, trivial⟩ (⟨hi', hC', hK8, hx8⟩) (by omega))
  intro g
  have hi' : i = ts.length := by have := of_decide_eq_false g; omega
  subst hi'
  rw [List.take_length] at hC hs' gk
  have eS : s' = jnS ts k := by rw [hs']; unfold jnS; rw [es0]
  have hAll : (ts.all fun t => alk t.s (s0T ts) k) = true := List.all_eq_true.2 fun t ht => by rw [es0]; exact hC t ht
  have hT : ∀ t ∈ ts, k < t.s.length ∧ Shapes.ok t.s = true := fun t ht => ⟨by
    have g2 := hC t ht
    unfold alk at g2
    simp only [Bool.and_eq_true, decide_eq_true_eq] at g2
    have := g2.1.1
    omega, (tok_ok (badT_at g3 ht)).1⟩
  have jl := jsum_le (k := k) (ts := ts) gd
  have s_x := own_slT hx
  refine Cw.exit ?_
  refine Pw.thenE ?_
  refine Pw.thenE ?_
  refine Pw.blkHit ?_
  refine Pw.thenN (Cw.out ?_)
  refine Cw.seq ?_
  refine Cw.seq ?_
  refine Cw.region ?_
  refine Lw.val (Ex.move rfl) rfl ?_
  refine Lw.callF rfl rfl (check_c x s' w4 s_x) ?_
  rintro _ w6 ⟨rfl, hn6⟩
  have h6 := h4.bs hn6
  have b_k := b_k.bs hn6
  have b_l := b_l.bs hn6
  have b_r := b_r.bs hn6
  have hx := own_bs hx hn6
  have hK := hK.trans (hn6.mono (by omega))
  have zK := hK.size
  have hB := bt hB hn6
  have s_x := own_slT hx
  refine Lw.val (Ex.not rfl) rfl ?_
  refine Lw.nil ?_
  refine Pw.thenN (Cw.out ?_)
  refine Cw.cond rfl ?_ ?_
  · intro g2
    have g2 : Shapes.ok s' = false := by simpa using g2
    refine Cw.seq ?_
    refine Cw.region ?_
    refine Lw.val (Ex.build (vs := []) (cs := [.slice none 0 0, .slice none 0 0]) rfl (by kernel_rfl)) rfl ?_
    refine Lw.unit (Xu.stA (cs := [.slice none 0 0, .slice none 0 0]) rfl rfl rfl rfl rfl b_r rfl) ?_
    rintro w3 ⟨b_r, hg, -⟩
    have hB := hB.grown hg (below_size hB) (by rintro _ ⟨⟩; omega)
    refine Lw.val (Ex.assign rfl) rfl ?_
    refine Lw.nil ?_
    refine Pw.thenN (Cw.out ?_)
    refine Cw.ret ?_
    refine Pw.thenR ?_
    refine Pw.retCT rfl rfl rfl (by assumption) (Tryz.underlying29) rfl rfl rfl ?_
    rw [jnE_ten hA (by rw [Int.toNat_natCast, ← eS, g2, Bool.and_false])]
    exact ⟨hB, ansK_no (by decide)⟩
  intro g2
  have okS : Shapes.ok s' = true := by simpa using g2
  have S := (Shapes.ok_iff s').1 okS
  have hE : jnE ts (k : Int) = 0 := by unfold jnE; rw [hA, Int.toNat_natCast, hAll, ← eS, okS]; rfl
  have eL : jnL ts k = (List.range (Shapes.size s').toNat).map fun i : Nat => jv k ts (Shapes.place s' (i : Int)) := by unfold jnL; rw [← eS]
  rw [hE, Int.toNat_natCast, eL, ← eS]
  refine Cw.skip ?_
  refine Pw.thenN (Cw.out ?_)
  refine Cw.seq ?_
  refine Cw.region ?_
  refine Lw.val (Ex.move rfl) rfl ?_
  refine Lw.val (Ex.mkFn (vs := []) (us := [.pointer (some ⟨A_k, 0, none⟩), .pointer (some ⟨A_l, 0, none⟩)]) rfl rfl) rfl ?_
  refine Lw.callF rfl rfl (filled_c x s' 121 [.pointer (some ⟨A_k, 0, none⟩), .pointer (some ⟨A_l, 0, none⟩)] (fun i => jv k ts (Shapes.place s' (i : Int))) _ s_x okS (fun i a w' hb _ ha => joinF_c A_k A_l k v ts (Shapes.place s' i) a w' (b_k.bs hb) (b_l.bs hb) (h6.bs hb) (by omega) hT (by rw [Shapes.place_length]; exact hks) (by rw [Shapes.place_length]; exact S.1.2) (gk ▸ Shapes.inn_at (Shapes.place_in (by omega) S.2.1) (k := k) hks) (by omega) ha)) ?_
  rintro _ w ⟨hn, x1, x2, rfl, hm⟩
  have hm := hm.k
  have zw6 := hn.size
  have b_r := b_r.bs hn
  have hB := bt hB hn
  have q_r : A_r < w6.heap.size := by omega
  refine Lw.val (Ex.extract (i := 0) rfl rfl) rfl ?_
  refine Lw.val (Ex.extract (i := 1) rfl rfl) rfl ?_
  refine Lw.unit (Xu.stA (cs := [x1, x2]) rfl rfl rfl rfl hm.at.one b_r rfl) ?_
  rintro w5 ⟨b_r5, hg, -⟩
  have hB5 := hB.grown hg (below_size hB) (by rintro _ ⟨⟩; omega)
  refine Lw.val (Ex.assign rfl) rfl ?_
  refine Lw.nil ?_
  refine Pw.thenN (Cw.out ?_)
  refine Cw.ret ?_
  refine Pw.retCT rfl rfl rfl (by assumption) (Tryz.underlying29) rfl rfl rfl ?_
  have zz := below_size hB
  exact ⟨hB5, x1, x2, rfl, fun h => absurd rfl h, fun _ => ⟨(bl_krow hm.row hg q_r).mono (by omega), (bl_krow hm.col hg q_r).mono (by omega), hm.apart⟩⟩
end Go.Proofs.YtmipoeanpnnjoaaGreat
