/- Contract: the greatest of squares. -/
import Derived.Test.YtgjpjpdmkeifeaaGreatDoorWinOf
import Derived.Test.YtgjpjpdmkeifeaaGreatDoorWin2
namespace Go.Proofs.YtgjpjpdmkeifeaaGreatDoor
open Go Go.Dd Go.RowKit
set_option maxRecDepth 100000

def wpoE (t : T4) (wide : Int) : Int := if tok t.s t.l then poolE t.s wide else 1
def wpoL (t : T4) (wide : Int) : List (BitVec 32) := pooL t.l t.s (pshS t.s wide) wide.toNat
structure PoolOK (t : T4) (wide : Int) : Prop where
  lt : t.s.length = 3
  w : 1 ≤ wide ∧ wide ≤ 64
  w1 : wide ≤ t.s.getD 1 default
  w2 : wide ≤ t.s.getD 2 default
  gt : Shapes.good t.s
  tl : (t.l.length : Int) = t.s.getD 0 default * (t.s.getD 1 default * t.s.getD 2 default)
  ok : Shapes.ok (pshS t.s wide) = true
  s1 : slid (t.s.getD 1 default) wide wide = t.s.getD 1 default / wide
  s2 : slid (t.s.getD 2 default) wide wide = t.s.getD 2 default / wide
theorem slid_same {r w : Int} (h1 : 1 ≤ w) (h2 : w ≤ r) : slid r w w = r / w ∧ 1 ≤ r / w ∧ r / w ≤ r ∧ r / w * w ≤ r := by
  have e : (r - w) / w = r / w - 1 := by
    have := Int.add_mul_ediv_right (r - w) 1 (show w ≠ 0 by omega)
    rw [Int.one_mul, Int.sub_add_cancel] at this
    omega
  have e2 : slid r w w = r / w := by unfold slid; rw [if_neg (by omega), e]; omega
  have e3 := Int.ediv_nonneg (show 0 ≤ r - w by omega) (show 0 ≤ w by omega)
  exact ⟨e2, by omega, Int.ediv_le_self _ (by omega), Int.ediv_mul_le _ (by omega)⟩
theorem pool_ok {t : T4} {wide : Int} (ht : tok t.s t.l = true) (e : poolE t.s wide = 0) : PoolOK t wide := by
  obtain ⟨t1, t2⟩ := tok_ok ht
  have T := (Shapes.ok_iff t.s).1 t1
  have hA : pshA t.s wide = false := by cases h : pshA t.s wide <;> simp [poolE, h] at e ⊢
  have hb : pshB t.s wide = true := by cases h : pshB t.s wide <;> simp [poolE, hA, h] at e ⊢
  simp only [pshB, Bool.and_eq_true, decide_eq_true_eq] at hb
  obtain ⟨⟨lt, b1⟩, b2⟩ := hb
  simp only [pshA, Bool.or_eq_false_iff, decide_eq_false_iff_not] at hA
  obtain ⟨⟨-, a1⟩, a2⟩ := hA
  have g0 := good_at T.2.1 (k := 0) (by omega)
  have g1 := good_at T.2.1 (k := 1) (by omega)
  have g2 := good_at T.2.1 (k := 2) (by omega)
  obtain ⟨c1, c2, c3, -⟩ := slid_same (r := t.s.getD 1 default) (w := wide) (by omega) b1
  obtain ⟨d1, d2, d3, -⟩ := slid_same (r := t.s.getD 2 default) (w := wide) (by omega) b2
  have p3 := prod3 lt
  have hl : (pshS t.s wide).length = 3 := rfl
  have ps : Shapes.prod (pshS t.s wide) = t.s.getD 0 default * (t.s.getD 1 default / wide * (t.s.getD 2 default / wide)) := by
    rw [prod3 hl]
    show t.s.getD 0 default * (slid (t.s.getD 1 default) wide wide * slid (t.s.getD 2 default) wide wide) = _
    rw [c1, d1]
  have q1 : t.s.getD 1 default / wide * (t.s.getD 2 default / wide) ≤ t.s.getD 1 default * t.s.getD 2 default := Int.mul_le_mul c3 d3 (by omega) (by omega)
  have q2 : t.s.getD 0 default * (t.s.getD 1 default / wide * (t.s.getD 2 default / wide)) ≤ t.s.getD 0 default * (t.s.getD 1 default * t.s.getD 2 default) := Int.mul_le_mul_of_nonneg_left q1 (by omega)
  refine ⟨lt, by omega, b1, b2, T.2.1, ?_, (Shapes.ok_iff _).2 ⟨by rw [hl]; omega, ?_, by rw [ps]; omega⟩, c1, d1⟩
  · have := Shapes.size_ok t1
    rw [← p3]; have := Shapes.size_le t.s; omega
  · intro y hy
    simp only [pshS, List.mem_cons, List.not_mem_nil, or_false] at hy
    rw [c1, d1] at hy
    rcases hy with rfl | rfl | rfl <;> omega
set_option maxHeartbeats 2000000 in
theorem wpo0_c (t : T4) (wide : Int) (W : World) (h_t : t.at W) :
    Fnc Tryz.prog 7 [t.v, .int .i64 wide] W (fun r w' => Below W.heap.size W w' ∧ AnsW W w' r (wpoE t wide) (pshS t.s wide) (wpoL t wide)) := by
  have hB := Below.refl W.heap.size W
  have h_t0 := h_t
  refine Fnc.enterG (n := 85) Tryz.func7 (by kernel_rfl) rfl rfl rfl ?_
  refine Cg.seq ?_
  refine Cg.region (by kernel_rfl) ?_
  refine Lw.boxV (cs := [t.x, t.y]) rfl rfl rfl ?_
  rintro A_t w eA_t b_t hn -
  replace hB := hB.bs hn
  replace h_t := h_t.bs hn
  clear hn
  refine Lw.boxV (cs := [.int .i64 wide]) rfl rfl rfl ?_
  rintro A_s w eA_s b_s hn -
  replace hB := hB.bs hn
  replace h_t := h_t.bs hn
  replace b_t := b_t.bs hn
  clear hn
  have z0 := below_size hB
  refine Lw.newA it_25 rfl ?_
  rintro A_r w eA_r b_r hn -
  replace hB := hB.bs hn
  replace h_t := h_t.bs hn
  replace b_t := b_t.bs hn
  replace b_s := b_s.bs hn
  clear hn
  refine Lw.val (Ex.assign rfl) rfl ?_
  refine Lw.nil (Pg.low ?_)
  refine Pg.thenN (Cg.out ?_)
  refine Cg.seq ?_
  refine Cg.seq ?_
  refine Cg.region (by kernel_rfl) ?_
  refine Lw.val (Ex.ldA (ag_25 _) (sz_25 _) rfl rfl (by assumption)) rfl ?_
  have z_r := blk_lt b_r
  refine Lw.callF rfl rfl (tcheck_c t.x t.y t.s t.l _ h_t.1 h_t.2) ?_
  rintro _ w ⟨rfl, hn⟩
  replace hB := hB.bs hn
  replace h_t := h_t.bs hn
  replace b_t := b_t.bs hn
  replace b_s := b_s.bs hn
  replace b_r := b_r.bs hn
  clear hn
  refine Lw.val (Ex.not rfl) rfl ?_
  refine Lw.nil (Pg.low ?_)
  refine Pg.thenN (Cg.out ?_)
  refine Cg.cond rfl ?_ ?_
  · intro g
    refine Cg.seq ?_
    refine Cg.region (by kernel_rfl) ?_
    refine Lw.val (Ex.build (vs := []) (cs := [.slice none 0 0, .slice none 0 0]) rfl (by kernel_rfl)) rfl ?_
    refine Lw.unit (Xu.stA (cs := [.slice none 0 0, .slice none 0 0]) rfl rfl rfl rfl rfl b_r rfl) ?_
    rintro w3 ⟨b_r, hg, -⟩
    have hB := hB.grown hg (below_size hB) (by rintro _ ⟨⟩; omega)
    refine Lw.val (Ex.assign rfl) rfl ?_
    refine Lw.nil (Pg.low ?_)
    refine Pg.thenN (Cg.out ?_)
    refine Cg.ret ?_
    refine Pg.thenR ?_
    refine Pg.close0 ?_
    refine Pw.retCT rfl rfl rfl (by assumption) (Tryz.underlying25) rfl rfl rfl ?_
    rw [show wpoE t wide = 1 by simp_all [wpoE]]
    exact ⟨hB, ansW_no (by decide)⟩
  intro g1
  have k_t : tok t.s t.l = true := by simpa using g1
  have hE : wpoE t wide = poolE t.s wide := by rw [wpoE, k_t]; rfl
  clear g1
  rw [hE]
  have h_t1 := h_t.1
  have zr0 := blk_lt b_r
  have zrB := below_size hB
  refine Cg.skip ?_
  refine Pg.thenN (Cg.out ?_)
  refine Cg.seq ?_
  refine Cg.region (by kernel_rfl) ?_
  refine Lw.val (Ex.fieldAddr (q := 0) Tryz.underlying25 rfl (sz_22 _) rfl) rfl ?_
  refine Lw.val (Ex.ldB (ag_22 _) rfl (by assumption) rfl) rfl ?_
  refine Lw.val (Ex.ldB (ag_3 _) rfl (by assumption) rfl) rfl ?_
  refine Lw.callF rfl rfl (pshape_c t.s wide t.x _ h_t.1) ?_
  rintro _ w1 ⟨hn, x, m', rfl, hx, hno, hyes⟩
  replace hB := hB.bs hn
  replace h_t := h_t.bs hn
  replace b_t := b_t.bs hn
  replace b_s := b_s.bs hn
  replace b_r := b_r.bs hn
  clear hn
  refine Lw.val (Ex.move rfl) rfl ?_
  refine Lw.val (Ex.extract (i := 0) rfl rfl) rfl ?_
  refine Lw.val (Ex.extract (i := 1) rfl rfl) rfl ?_
  refine Lw.val (Ex.assign rfl) rfl ?_
  refine Lw.val (Ex.assign rfl) rfl ?_
  refine Lw.nil (Pg.low ?_)
  refine Pg.thenN (Cg.out ?_)
  refine Cg.seq ?_
  refine Cg.seq ?_
  refine Cg.region (by kernel_rfl) ?_
  refine Lw.val (Ex.move rfl) rfl ?_
  refine Lw.val (Ex.neq rfl rfl) rfl ?_
  refine Lw.nil (Pg.low ?_)
  refine Pg.thenN (Cg.out ?_)
  refine Cg.cond rfl ?_ ?_
  · intro g
    have g : poolE t.s wide ≠ 0 := by simpa using g
    refine Cg.seq ?_
    refine Cg.region (by kernel_rfl) ?_
    refine Lw.val (Ex.build (vs := []) (cs := [.slice none 0 0, .slice none 0 0]) rfl (by kernel_rfl)) rfl ?_
    refine Lw.val (Ex.move rfl) rfl ?_
    refine Lw.unit (Xu.stA (cs := [.slice none 0 0, .slice none 0 0]) rfl rfl rfl rfl rfl b_r rfl) ?_
    rintro w3 ⟨b_r, hg, -⟩
    have hB := hB.grown hg (below_size hB) (by rintro _ ⟨⟩; omega)
    refine Lw.val (Ex.assign rfl) rfl ?_
    refine Lw.nil (Pg.low ?_)
    refine Pg.thenN (Cg.out ?_)
    refine Cg.ret ?_
    refine Pg.thenR ?_
    refine Pg.close0 ?_
    refine Pw.retCT rfl rfl rfl (by assumption) (Tryz.underlying25) rfl rfl rfl ?_
    exact ⟨hB, ansW_no g⟩
  intro g
  have e0 : poolE t.s wide = 0 := by simpa using g
  clear g
  rw [e0]
  have hm := hyes e0
  have ok := pool_ok k_t e0
  clear hno hyes e0 hE
  obtain ⟨m, rfl⟩ : ∃ m : Nat, wide = (m : Int) := ⟨wide.toNat, by have := ok.w; omega⟩
  obtain ⟨S, hS⟩ : ∃ S, S = pshS t.s (m : Int) := ⟨_, rfl⟩
  have lS : S.length = 3 := by rw [hS]; rfl
  have S0 : S.getD 0 default = t.s.getD 0 default := by rw [hS]; rfl
  have okS : Shapes.ok S = true := by rw [hS]; exact ok.ok
  have gS := ((Shapes.ok_iff _).1 okS).2.1
  rw [hm, ← hS] at hx
  rw [← hS]
  clear hm
  have szS := Shapes.size_le S
  obtain ⟨M, hM⟩ : ∃ M, M = (Shapes.size S).toNat := ⟨_, rfl⟩
  have l3 := ok.lt
  have okw := ok.w
  refine Cg.skip ?_
  refine Pg.thenN (Cg.out ?_)
  refine Cg.seq ?_
  have zW := below_size hB
  obtain ⟨B1, hB1⟩ : ∃ B1, B1 = w1.heap.size := ⟨_, rfl⟩
  have hxl := own_block hx
  have q_t : A_t < B1 := hB1 ▸ blk_lt b_t
  have q_s : A_s < B1 := hB1 ▸ blk_lt b_s
  have q_r : A_r < B1 := hB1 ▸ blk_lt b_r
  refine Cg.midS (St := Value × Nat × Nat) (fun z => [(2, .pointer (some ⟨A_t, 0, none⟩)), (3, .pointer (some ⟨A_s, 0, none⟩)), (4, .pointer (some ⟨A_r, 0, none⟩)), (6, x), (8, .pointer (some ⟨z.2.1, 0, none⟩)), (9, .pointer (some ⟨z.2.2, 0, none⟩))]) (fun z w' => Below w1.heap.size w1 w' ∧ w'.ownsRow B1 21 1 z.1 0 [] ∧ B1 ≤ z.2.1 ∧ Blk w' z.2.1 23 [z.1] ∧ B1 ≤ z.2.2 ∧ Blk w' z.2.2 65 [.func (.func 28) #[picV t] #[]]) ?_ ?_
  · refine Cg.any mixed (by kernel_rfl) (fun w hcw _ => ?_)
    refine Aw.cls (fun w' => Below w1.heap.size w1 w') (fun hC => ?_) (hcw)
    refine AwC.take (i := 0) (NoP.lift NoP.midG) rfl (by kernel_rfl) (by kernel_rfl) (by kernel_rfl) (fun w1 hc => Ex.move rfl) rfl ?_
    refine AwC.take (i := 3) (NoP.lift NoP.midG) rfl (by kernel_rfl) (by kernel_rfl) (by kernel_rfl) (fun w1 hc => Ex.ldA (ag_25 _) (sz_25 _) rfl rfl (Blk.bs (by assumption) hc)) rfl ?_
    refine AwC.three (by assumption) (i0 := 1) (i1 := 6) (i2 := 7) (by kernel_rfl) rfl rfl rfl ?_ ?_ ?_
    refine Lw.callF rfl rfl (size_c x S _ ((own_slT hx).bs hcw)) ?_
    rintro _ w ⟨rfl, hn⟩
    replace hcw := hcw.bs hn
    clear hn
    refine Lw.know 29 (v' := .int .i64 (M : Int)) rfl (congrArg (Value.int .i64) (by omega)) ?_
    refine AwC.back ?_
    refine AwC.four (by assumption) (i0 := 2) (i1 := 4) (i2 := 6) (i3 := 7) (by kernel_rfl) rfl rfl rfl rfl ?_ ?_ ?_ ?_
    refine Lw.valW (Xw.make (l := 0) (c := M) st_23 it_21 rfl rfl rfl (Nat.zero_le _) (by omega) (by omega)) rfl ?_
    rintro ov w ⟨ho, -, hn, -⟩
    have ho := own_mono (B' := B1) ho (Nat.le_trans (Nat.le_of_eq hB1) hcw.size)
    replace hcw := hcw.bs hn
    clear hn
    refine AwC.back ?_
    refine AwC.three (by assumption) (i0 := 4) (i1 := 6) (i2 := 7) (by kernel_rfl) rfl rfl rfl ?_ ?_ ?_
    refine Lw.callF rfl rfl (pof_c t _ (h_t.bs hcw) (by omega)) ?_
    rintro _ w ⟨rfl, hn⟩
    replace hcw := hcw.bs hn
    replace ho := ho.bs hn
    clear hn
    refine AwC.back ?_
    refine AwC.take (i := 5) (NoP.lift NoP.midG) rfl (by kernel_rfl) (by kernel_rfl) (by kernel_rfl) (fun w1 hc => Ex.mkFn (vs := [picV t]) (us := []) rfl rfl) rfl ?_
    refine AwC.two (by assumption) (i := 6) (j := 7) (by kernel_rfl) rfl rfl ?_ ?_
    have zc := hcw.size
    refine Lw.newA it_23 rfl ?_
    rintro A_o w eA_o b_o hn -
    have l_o : B1 ≤ A_o := by omega
    clear zc
    replace hcw := hcw.bs hn
    replace ho := ho.bs hn
    clear hn
    refine AwC.back ?_
    refine AwC.only (by assumption) (i := 7) (by kernel_rfl) rfl ?_
    have zc := hcw.size
    refine Lw.newA it_65 rfl ?_
    rintro A_g w eA_g b_g hn -
    have l_g : B1 ≤ A_g := by omega
    clear zc
    replace hcw := hcw.bs hn
    replace ho := ho.bs hn
    replace b_o := b_o.bs hn
    clear hn
    refine AwC.back ?_
    refine AwC.only (by assumption) (i := 8) (by kernel_rfl) rfl ?_
    refine Lw.unit (Xu.stB (u := ov) (sz_23 _) rfl rfl (own_sl ho).one' b_o Nat.zero_lt_one) ?_
    rintro w2 ⟨b_o2, hg, -⟩
    have ho := own_apart ho b_o (by decide) hg
    try replace b_g := b_g.by hg (fun e => blk_ne b_g b_o (by decide) (Option.some.inj e))
    have hcw := hcw.grown hg hcw.size (by rintro _ ⟨⟩; omega)
    have b_o : Blk w2 A_o 23 [ov] := b_o2
    clear b_o2 hg
    refine AwC.back ?_
    refine AwC.only (by assumption) (i := 9) (by kernel_rfl) rfl ?_
    refine Lw.unit (Xu.stB (u := .func (.func 28) #[picV t] #[]) (sz_65 _) rfl rfl rfl b_g Nat.zero_lt_one) ?_
    rintro w2 ⟨b_g2, hg, -⟩
    have ho := own_apart ho b_g (by decide) hg
    have b_o := b_o.by hg (fun e => blk_ne b_o b_g (by decide) (Option.some.inj e))
    have hcw := hcw.grown hg hcw.size (by rintro _ ⟨⟩; omega)
    have b_g : Blk w2 A_g 65 [.func (.func 28) #[picV t] #[]] := b_g2
    clear b_g2 hg
    refine AwC.back ?_
    refine AwC.done (by assumption) (by kernel_rfl) (Pg.low ?_)
    exact Pg.midS ((ov, A_o, A_g)) ⟨rfl, rfl, rfl, rfl, rfl, rfl, trivial⟩ (⟨hcw, ho, l_o, b_o, l_g, b_g⟩)
    have zc := hcw.size
    refine Lw.newA it_65 rfl ?_
    rintro A_g w eA_g b_g hn -
    have l_g : B1 ≤ A_g := by omega
    clear zc
    replace hcw := hcw.bs hn
    replace ho := ho.bs hn
    clear hn
    refine AwC.back ?_
    refine AwC.only (by assumption) (i := 6) (by kernel_rfl) rfl ?_
    have zc := hcw.size
    refine Lw.newA it_23 rfl ?_
    rintro A_o w eA_o b_o hn -
    have l_o : B1 ≤ A_o := by omega
    clear zc
    replace hcw := hcw.bs hn
    replace ho := ho.bs hn
    replace b_g := b_g.bs hn
    clear hn
    refine AwC.back ?_
    refine AwC.only (by assumption) (i := 8) (by kernel_rfl) rfl ?_
    refine Lw.unit (Xu.stB (u := ov) (sz_23 _) rfl rfl (own_sl ho).one' b_o Nat.zero_lt_one) ?_
    rintro w2 ⟨b_o2, hg, -⟩
    have ho := own_apart ho b_o (by decide) hg
    try replace b_g := b_g.by hg (fun e => blk_ne b_g b_o (by decide) (Option.some.inj e))
    have hcw := hcw.grown hg hcw.size (by rintro _ ⟨⟩; omega)
    have b_o : Blk w2 A_o 23 [ov] := b_o2
    clear b_o2 hg
    refine AwC.back ?_
    refine AwC.only (by assumption) (i := 9) (by kernel_rfl) rfl ?_
    refine Lw.unit (Xu.stB (u := .func (.func 28) #[picV t] #[]) (sz_65 _) rfl rfl rfl b_g Nat.zero_lt_one) ?_
    rintro w2 ⟨b_g2, hg, -⟩
    have ho := own_apart ho b_g (by decide) hg
    have b_o := b_o.by hg (fun e => blk_ne b_o b_g (by decide) (Option.some.inj e))
    have hcw := hcw.grown hg hcw.size (by rintro _ ⟨⟩; omega)
    have b_g : Blk w2 A_g 65 [.func (.func 28) #[picV t] #[]] := b_g2
    clear b_g2 hg
    refine AwC.back ?_
    refine AwC.done (by assumption) (by kernel_rfl) (Pg.low ?_)
    exact Pg.midS ((ov, A_o, A_g)) ⟨rfl, rfl, rfl, rfl, rfl, rfl, trivial⟩ (⟨hcw, ho, l_o, b_o, l_g, b_g⟩)
    have zc := hcw.size
    refine Lw.newA it_23 rfl ?_
    rintro A_o w eA_o b_o hn -
    have l_o : B1 ≤ A_o := by omega
    clear zc
    replace hcw := hcw.bs hn
    replace ho := ho.bs hn
    clear hn
    refine AwC.back ?_
    refine AwC.two (by assumption) (i := 4) (j := 7) (by kernel_rfl) rfl rfl ?_ ?_
    refine Lw.callF rfl rfl (pof_c t _ (h_t.bs hcw) (by omega)) ?_
    rintro _ w ⟨rfl, hn⟩
    replace hcw := hcw.bs hn
    replace ho := ho.bs hn
    replace b_o := b_o.bs hn
    clear hn
    refine AwC.back ?_
    refine AwC.take (i := 5) (NoP.lift NoP.midG) rfl (by kernel_rfl) (by kernel_rfl) (by kernel_rfl) (fun w1 hc => Ex.mkFn (vs := [picV t]) (us := []) rfl rfl) rfl ?_
    refine AwC.only (by assumption) (i := 7) (by kernel_rfl) rfl ?_
    have zc := hcw.size
    refine Lw.newA it_65 rfl ?_
    rintro A_g w eA_g b_g hn -
    have l_g : B1 ≤ A_g := by omega
    clear zc
    replace hcw := hcw.bs hn
    replace ho := ho.bs hn
    replace b_o := b_o.bs hn
    clear hn
    refine AwC.back ?_
    refine AwC.only (by assumption) (i := 8) (by kernel_rfl) rfl ?_
    refine Lw.unit (Xu.stB (u := ov) (sz_23 _) rfl rfl (own_sl ho).one' b_o Nat.zero_lt_one) ?_
    rintro w2 ⟨b_o2, hg, -⟩
    have ho := own_apart ho b_o (by decide) hg
    try replace b_g := b_g.by hg (fun e => blk_ne b_g b_o (by decide) (Option.some.inj e))
    have hcw := hcw.grown hg hcw.size (by rintro _ ⟨⟩; omega)
    have b_o : Blk w2 A_o 23 [ov] := b_o2
    clear b_o2 hg
    refine AwC.back ?_
    refine AwC.only (by assumption) (i := 9) (by kernel_rfl) rfl ?_
    refine Lw.unit (Xu.stB (u := .func (.func 28) #[picV t] #[]) (sz_65 _) rfl rfl rfl b_g Nat.zero_lt_one) ?_
    rintro w2 ⟨b_g2, hg, -⟩
    have ho := own_apart ho b_g (by decide) hg
    have b_o := b_o.by hg (fun e => blk_ne b_o b_g (by decide) (Option.some.inj e))
    have hcw := hcw.grown hg hcw.size (by rintro _ ⟨⟩; omega)
    have b_g : Blk w2 A_g 65 [.func (.func 28) #[picV t] #[]] := b_g2
    clear b_g2 hg
    refine AwC.back ?_
    refine AwC.done (by assumption) (by kernel_rfl) (Pg.low ?_)
    exact Pg.midS ((ov, A_o, A_g)) ⟨rfl, rfl, rfl, rfl, rfl, rfl, trivial⟩ (⟨hcw, ho, l_o, b_o, l_g, b_g⟩)
    have zc := hcw.size
    refine Lw.newA it_65 rfl ?_
    rintro A_g w eA_g b_g hn -
    have l_g : B1 ≤ A_g := by omega
    clear zc
    replace hcw := hcw.bs hn
    replace ho := ho.bs hn
    replace b_o := b_o.bs hn
    clear hn
    refine AwC.back ?_
    refine AwC.only (by assumption) (i := 4) (by kernel_rfl) rfl ?_
    refine Lw.callF rfl rfl (pof_c t _ (h_t.bs hcw) (by omega)) ?_
    rintro _ w ⟨rfl, hn⟩
    replace hcw := hcw.bs hn
    replace ho := ho.bs hn
    replace b_o := b_o.bs hn
    replace b_g := b_g.bs hn
    clear hn
    refine AwC.back ?_
    refine AwC.take (i := 5) (NoP.lift NoP.midG) rfl (by kernel_rfl) (by kernel_rfl) (by kernel_rfl) (fun w1 hc => Ex.mkFn (vs := [picV t]) (us := []) rfl rfl) rfl ?_
    refine AwC.only (by assumption) (i := 8) (by kernel_rfl) rfl ?_
    refine Lw.unit (Xu.stB (u := ov) (sz_23 _) rfl rfl (own_sl ho).one' b_o Nat.zero_lt_one) ?_
    rintro w2 ⟨b_o2, hg, -⟩
    have ho := own_apart ho b_o (by decide) hg
    try replace b_g := b_g.by hg (fun e => blk_ne b_g b_o (by decide) (Option.some.inj e))
    have hcw := hcw.grown hg hcw.size (by rintro _ ⟨⟩; omega)
    have b_o : Blk w2 A_o 23 [ov] := b_o2
    clear b_o2 hg
    refine AwC.back ?_
    refine AwC.only (by assumption) (i := 9) (by kernel_rfl) rfl ?_
    refine Lw.unit (Xu.stB (u := .func (.func 28) #[picV t] #[]) (sz_65 _) rfl rfl rfl b_g Nat.zero_lt_one) ?_
    rintro w2 ⟨b_g2, hg, -⟩
    have ho := own_apart ho b_g (by decide) hg
    have b_o := b_o.by hg (fun e => blk_ne b_o b_g (by decide) (Option.some.inj e))
    have hcw := hcw.grown hg hcw.size (by rintro _ ⟨⟩; omega)
    have b_g : Blk w2 A_g 65 [.func (.func 28) #[picV t] #[]] := b_g2
    clear b_g2 hg
    refine AwC.back ?_
    refine AwC.done (by assumption) (by kernel_rfl) (Pg.low ?_)
    exact Pg.midS ((ov, A_o, A_g)) ⟨rfl, rfl, rfl, rfl, rfl, rfl, trivial⟩ (⟨hcw, ho, l_o, b_o, l_g, b_g⟩)
    have zc := hcw.size
    refine Lw.newA it_65 rfl ?_
    rintro A_g w eA_g b_g hn -
    have l_g : B1 ≤ A_g := by omega
    clear zc
    replace hcw := hcw.bs hn
    replace ho := ho.bs hn
    clear hn
    refine AwC.back ?_
    refine AwC.two (by assumption) (i := 4) (j := 6) (by kernel_rfl) rfl rfl ?_ ?_
    refine Lw.callF rfl rfl (pof_c t _ (h_t.bs hcw) (by omega)) ?_
    rintro _ w ⟨rfl, hn⟩
    replace hcw := hcw.bs hn
    replace ho := ho.bs hn
    replace b_g := b_g.bs hn
    clear hn
    refine AwC.back ?_
    refine AwC.take (i := 5) (NoP.lift NoP.midG) rfl (by kernel_rfl) (by kernel_rfl) (by kernel_rfl) (fun w1 hc => Ex.mkFn (vs := [picV t]) (us := []) rfl rfl) rfl ?_
    refine AwC.only (by assumption) (i := 6) (by kernel_rfl) rfl ?_
    have zc := hcw.size
    refine Lw.newA it_23 rfl ?_
    rintro A_o w eA_o b_o hn -
    have l_o : B1 ≤ A_o := by omega
    clear zc
    replace hcw := hcw.bs hn
    replace ho := ho.bs hn
    replace b_g := b_g.bs hn
    clear hn
    refine AwC.back ?_
    refine AwC.only (by assumption) (i := 8) (by kernel_rfl) rfl ?_
    refine Lw.unit (Xu.stB (u := ov) (sz_23 _) rfl rfl (own_sl ho).one' b_o Nat.zero_lt_one) ?_
    rintro w2 ⟨b_o2, hg, -⟩
    have ho := own_apart ho b_o (by decide) hg
    try replace b_g := b_g.by hg (fun e => blk_ne b_g b_o (by decide) (Option.some.inj e))
    have hcw := hcw.grown hg hcw.size (by rintro _ ⟨⟩; omega)
    have b_o : Blk w2 A_o 23 [ov] := b_o2
    clear b_o2 hg
    refine AwC.back ?_
    refine AwC.only (by assumption) (i := 9) (by kernel_rfl) rfl ?_
    refine Lw.unit (Xu.stB (u := .func (.func 28) #[picV t] #[]) (sz_65 _) rfl rfl rfl b_g Nat.zero_lt_one) ?_
    rintro w2 ⟨b_g2, hg, -⟩
    have ho := own_apart ho b_g (by decide) hg
    have b_o := b_o.by hg (fun e => blk_ne b_o b_g (by decide) (Option.some.inj e))
    have hcw := hcw.grown hg hcw.size (by rintro _ ⟨⟩; omega)
    have b_g : Blk w2 A_g 65 [.func (.func 28) #[picV t] #[]] := b_g2
    clear b_g2 hg
    refine AwC.back ?_
    refine AwC.done (by assumption) (by kernel_rfl) (Pg.low ?_)
    exact Pg.midS ((ov, A_o, A_g)) ⟨rfl, rfl, rfl, rfl, rfl, rfl, trivial⟩ (⟨hcw, ho, l_o, b_o, l_g, b_g⟩)
    have zc := hcw.size
    refine Lw.newA it_23 rfl ?_
    rintro A_o w eA_o b_o hn -
    have l_o : B1 ≤ A_o := by omega
    clear zc
    replace hcw := hcw.bs hn
    replace ho := ho.bs hn
    replace b_g := b_g.bs hn
    clear hn
    refine AwC.back ?_
    refine AwC.only (by assumption) (i := 4) (by kernel_rfl) rfl ?_
    refine Lw.callF rfl rfl (pof_c t _ (h_t.bs hcw) (by omega)) ?_
    rintro _ w ⟨rfl, hn⟩
    replace hcw := hcw.bs hn
    replace ho := ho.bs hn
    replace b_g := b_g.bs hn
    replace b_o := b_o.bs hn
    clear hn
    refine AwC.back ?_
    refine AwC.take (i := 5) (NoP.lift NoP.midG) rfl (by kernel_rfl) (by kernel_rfl) (by kernel_rfl) (fun w1 hc => Ex.mkFn (vs := [picV t]) (us := []) rfl rfl) rfl ?_
    refine AwC.only (by assumption) (i := 8) (by kernel_rfl) rfl ?_
    refine Lw.unit (Xu.stB (u := ov) (sz_23 _) rfl rfl (own_sl ho).one' b_o Nat.zero_lt_one) ?_
    rintro w2 ⟨b_o2, hg, -⟩
    have ho := own_apart ho b_o (by decide) hg
    try replace b_g := b_g.by hg (fun e => blk_ne b_g b_o (by decide) (Option.some.inj e))
    have hcw := hcw.grown hg hcw.size (by rintro _ ⟨⟩; omega)
    have b_o : Blk w2 A_o 23 [ov] := b_o2
    clear b_o2 hg
    refine AwC.back ?_
    refine AwC.only (by assumption) (i := 9) (by kernel_rfl) rfl ?_
    refine Lw.unit (Xu.stB (u := .func (.func 28) #[picV t] #[]) (sz_65 _) rfl rfl rfl b_g Nat.zero_lt_one) ?_
    rintro w2 ⟨b_g2, hg, -⟩
    have ho := own_apart ho b_g (by decide) hg
    have b_o := b_o.by hg (fun e => blk_ne b_o b_g (by decide) (Option.some.inj e))
    have hcw := hcw.grown hg hcw.size (by rintro _ ⟨⟩; omega)
    have b_g : Blk w2 A_g 65 [.func (.func 28) #[picV t] #[]] := b_g2
    clear b_g2 hg
    refine AwC.back ?_
    refine AwC.done (by assumption) (by kernel_rfl) (Pg.low ?_)
    exact Pg.midS ((ov, A_o, A_g)) ⟨rfl, rfl, rfl, rfl, rfl, rfl, trivial⟩ (⟨hcw, ho, l_o, b_o, l_g, b_g⟩)
    refine Lw.callF rfl rfl (pof_c t _ (h_t.bs hcw) (by omega)) ?_
    rintro _ w ⟨rfl, hn⟩
    replace hcw := hcw.bs hn
    clear hn
    refine AwC.back ?_
    refine AwC.take (i := 5) (NoP.lift NoP.midG) rfl (by kernel_rfl) (by kernel_rfl) (by kernel_rfl) (fun w1 hc => Ex.mkFn (vs := [picV t]) (us := []) rfl rfl) rfl ?_
    refine AwC.three (by assumption) (i0 := 2) (i1 := 6) (i2 := 7) (by kernel_rfl) rfl rfl rfl ?_ ?_ ?_
    refine Lw.valW (Xw.make (l := 0) (c := M) st_23 it_21 rfl rfl rfl (Nat.zero_le _) (by omega) (by omega)) rfl ?_
    rintro ov w ⟨ho, -, hn, -⟩
    have ho := own_mono (B' := B1) ho (Nat.le_trans (Nat.le_of_eq hB1) hcw.size)
    replace hcw := hcw.bs hn
    clear hn
    refine AwC.back ?_
    refine AwC.two (by assumption) (i := 6) (j := 7) (by kernel_rfl) rfl rfl ?_ ?_
    have zc := hcw.size
    refine Lw.newA it_23 rfl ?_
    rintro A_o w eA_o b_o hn -
    have l_o : B1 ≤ A_o := by omega
    clear zc
    replace hcw := hcw.bs hn
    replace ho := ho.bs hn
    clear hn
    refine AwC.back ?_
    refine AwC.only (by assumption) (i := 7) (by kernel_rfl) rfl ?_
    have zc := hcw.size
    refine Lw.newA it_65 rfl ?_
    rintro A_g w eA_g b_g hn -
    have l_g : B1 ≤ A_g := by omega
    clear zc
    replace hcw := hcw.bs hn
    replace ho := ho.bs hn
    replace b_o := b_o.bs hn
    clear hn
    refine AwC.back ?_
    refine AwC.only (by assumption) (i := 8) (by kernel_rfl) rfl ?_
    refine Lw.unit (Xu.stB (u := ov) (sz_23 _) rfl rfl (own_sl ho).one' b_o Nat.zero_lt_one) ?_
    rintro w2 ⟨b_o2, hg, -⟩
    have ho := own_apart ho b_o (by decide) hg
    try replace b_g := b_g.by hg (fun e => blk_ne b_g b_o (by decide) (Option.some.inj e))
    have hcw := hcw.grown hg hcw.size (by rintro _ ⟨⟩; omega)
    have b_o : Blk w2 A_o 23 [ov] := b_o2
    clear b_o2 hg
    refine AwC.back ?_
    refine AwC.only (by assumption) (i := 9) (by kernel_rfl) rfl ?_
    refine Lw.unit (Xu.stB (u := .func (.func 28) #[picV t] #[]) (sz_65 _) rfl rfl rfl b_g Nat.zero_lt_one) ?_
    rintro w2 ⟨b_g2, hg, -⟩
    have ho := own_apart ho b_g (by decide) hg
    have b_o := b_o.by hg (fun e => blk_ne b_o b_g (by decide) (Option.some.inj e))
    have hcw := hcw.grown hg hcw.size (by rintro _ ⟨⟩; omega)
    have b_g : Blk w2 A_g 65 [.func (.func 28) #[picV t] #[]] := b_g2
    clear b_g2 hg
    refine AwC.back ?_
    refine AwC.done (by assumption) (by kernel_rfl) (Pg.low ?_)
    exact Pg.midS ((ov, A_o, A_g)) ⟨rfl, rfl, rfl, rfl, rfl, rfl, trivial⟩ (⟨hcw, ho, l_o, b_o, l_g, b_g⟩)
    have zc := hcw.size
    refine Lw.newA it_65 rfl ?_
    rintro A_g w eA_g b_g hn -
    have l_g : B1 ≤ A_g := by omega
    clear zc
    replace hcw := hcw.bs hn
    replace ho := ho.bs hn
    clear hn
    refine AwC.back ?_
    refine AwC.only (by assumption) (i := 6) (by kernel_rfl) rfl ?_
    have zc := hcw.size
    refine Lw.newA it_23 rfl ?_
    rintro A_o w eA_o b_o hn -
    have l_o : B1 ≤ A_o := by omega
    clear zc
    replace hcw := hcw.bs hn
    replace ho := ho.bs hn
    replace b_g := b_g.bs hn
    clear hn
    refine AwC.back ?_
    refine AwC.only (by assumption) (i := 8) (by kernel_rfl) rfl ?_
    refine Lw.unit (Xu.stB (u := ov) (sz_23 _) rfl rfl (own_sl ho).one' b_o Nat.zero_lt_one) ?_
    rintro w2 ⟨b_o2, hg, -⟩
    have ho := own_apart ho b_o (by decide) hg
    try replace b_g := b_g.by hg (fun e => blk_ne b_g b_o (by decide) (Option.some.inj e))
    have hcw := hcw.grown hg hcw.size (by rintro _ ⟨⟩; omega)
    have b_o : Blk w2 A_o 23 [ov] := b_o2
    clear b_o2 hg
    refine AwC.back ?_
    refine AwC.only (by assumption) (i := 9) (by kernel_rfl) rfl ?_
    refine Lw.unit (Xu.stB (u := .func (.func 28) #[picV t] #[]) (sz_65 _) rfl rfl rfl b_g Nat.zero_lt_one) ?_
    rintro w2 ⟨b_g2, hg, -⟩
    have ho := own_apart ho b_g (by decide) hg
    have b_o := b_o.by hg (fun e => blk_ne b_o b_g (by decide) (Option.some.inj e))
    have hcw := hcw.grown hg hcw.size (by rintro _ ⟨⟩; omega)
    have b_g : Blk w2 A_g 65 [.func (.func 28) #[picV t] #[]] := b_g2
    clear b_g2 hg
    refine AwC.back ?_
    refine AwC.done (by assumption) (by kernel_rfl) (Pg.low ?_)
    exact Pg.midS ((ov, A_o, A_g)) ⟨rfl, rfl, rfl, rfl, rfl, rfl, trivial⟩ (⟨hcw, ho, l_o, b_o, l_g, b_g⟩)
    have zc := hcw.size
    refine Lw.newA it_23 rfl ?_
    rintro A_o w eA_o b_o hn -
    have l_o : B1 ≤ A_o := by omega
    clear zc
    replace hcw := hcw.bs hn
    clear hn
    refine AwC.back ?_
    refine AwC.two (by assumption) (i := 2) (j := 7) (by kernel_rfl) rfl rfl ?_ ?_
    refine Lw.valW (Xw.make (l := 0) (c := M) st_23 it_21 rfl rfl rfl (Nat.zero_le _) (by omega) (by omega)) rfl ?_
    rintro ov w ⟨ho, -, hn, -⟩
    have ho := own_mono (B' := B1) ho (Nat.le_trans (Nat.le_of_eq hB1) hcw.size)
    replace hcw := hcw.bs hn
    replace b_o := b_o.bs hn
    clear hn
    refine AwC.back ?_
    refine AwC.only (by assumption) (i := 7) (by kernel_rfl) rfl ?_
    have zc := hcw.size
    refine Lw.newA it_65 rfl ?_
    rintro A_g w eA_g b_g hn -
    have l_g : B1 ≤ A_g := by omega
    clear zc
    replace hcw := hcw.bs hn
    replace b_o := b_o.bs hn
    replace ho := ho.bs hn
    clear hn
    refine AwC.back ?_
    refine AwC.only (by assumption) (i := 8) (by kernel_rfl) rfl ?_
    refine Lw.unit (Xu.stB (u := ov) (sz_23 _) rfl rfl (own_sl ho).one' b_o Nat.zero_lt_one) ?_
    rintro w2 ⟨b_o2, hg, -⟩
    have ho := own_apart ho b_o (by decide) hg
    try replace b_g := b_g.by hg (fun e => blk_ne b_g b_o (by decide) (Option.some.inj e))
    have hcw := hcw.grown hg hcw.size (by rintro _ ⟨⟩; omega)
    have b_o : Blk w2 A_o 23 [ov] := b_o2
    clear b_o2 hg
    refine AwC.back ?_
    refine AwC.only (by assumption) (i := 9) (by kernel_rfl) rfl ?_
    refine Lw.unit (Xu.stB (u := .func (.func 28) #[picV t] #[]) (sz_65 _) rfl rfl rfl b_g Nat.zero_lt_one) ?_
    rintro w2 ⟨b_g2, hg, -⟩
    have ho := own_apart ho b_g (by decide) hg
    have b_o := b_o.by hg (fun e => blk_ne b_o b_g (by decide) (Option.some.inj e))
    have hcw := hcw.grown hg hcw.size (by rintro _ ⟨⟩; omega)
    have b_g : Blk w2 A_g 65 [.func (.func 28) #[picV t] #[]] := b_g2
    clear b_g2 hg
    refine AwC.back ?_
    refine AwC.done (by assumption) (by kernel_rfl) (Pg.low ?_)
    exact Pg.midS ((ov, A_o, A_g)) ⟨rfl, rfl, rfl, rfl, rfl, rfl, trivial⟩ (⟨hcw, ho, l_o, b_o, l_g, b_g⟩)
    have zc := hcw.size
    refine Lw.newA it_65 rfl ?_
    rintro A_g w eA_g b_g hn -
    have l_g : B1 ≤ A_g := by omega
    clear zc
    replace hcw := hcw.bs hn
    replace b_o := b_o.bs hn
    clear hn
    refine AwC.back ?_
    refine AwC.only (by assumption) (i := 2) (by kernel_rfl) rfl ?_
    refine Lw.valW (Xw.make (l := 0) (c := M) st_23 it_21 rfl rfl rfl (Nat.zero_le _) (by omega) (by omega)) rfl ?_
    rintro ov w ⟨ho, -, hn, -⟩
    have ho := own_mono (B' := B1) ho (Nat.le_trans (Nat.le_of_eq hB1) hcw.size)
    replace hcw := hcw.bs hn
    replace b_o := b_o.bs hn
    replace b_g := b_g.bs hn
    clear hn
    refine AwC.back ?_
    refine AwC.only (by assumption) (i := 8) (by kernel_rfl) rfl ?_
    refine Lw.unit (Xu.stB (u := ov) (sz_23 _) rfl rfl (own_sl ho).one' b_o Nat.zero_lt_one) ?_
    rintro w2 ⟨b_o2, hg, -⟩
    have ho := own_apart ho b_o (by decide) hg
    try replace b_g := b_g.by hg (fun e => blk_ne b_g b_o (by decide) (Option.some.inj e))
    have hcw := hcw.grown hg hcw.size (by rintro _ ⟨⟩; omega)
    have b_o : Blk w2 A_o 23 [ov] := b_o2
    clear b_o2 hg
    refine AwC.back ?_
    refine AwC.only (by assumption) (i := 9) (by kernel_rfl) rfl ?_
    refine Lw.unit (Xu.stB (u := .func (.func 28) #[picV t] #[]) (sz_65 _) rfl rfl rfl b_g Nat.zero_lt_one) ?_
    rintro w2 ⟨b_g2, hg, -⟩
    have ho := own_apart ho b_g (by decide) hg
    have b_o := b_o.by hg (fun e => blk_ne b_o b_g (by decide) (Option.some.inj e))
    have hcw := hcw.grown hg hcw.size (by rintro _ ⟨⟩; omega)
    have b_g : Blk w2 A_g 65 [.func (.func 28) #[picV t] #[]] := b_g2
    clear b_g2 hg
    refine AwC.back ?_
    refine AwC.done (by assumption) (by kernel_rfl) (Pg.low ?_)
    exact Pg.midS ((ov, A_o, A_g)) ⟨rfl, rfl, rfl, rfl, rfl, rfl, trivial⟩ (⟨hcw, ho, l_o, b_o, l_g, b_g⟩)
    have zc := hcw.size
    refine Lw.newA it_65 rfl ?_
    rintro A_g w eA_g b_g hn -
    have l_g : B1 ≤ A_g := by omega
    clear zc
    replace hcw := hcw.bs hn
    clear hn
    refine AwC.back ?_
    refine AwC.two (by assumption) (i := 2) (j := 6) (by kernel_rfl) rfl rfl ?_ ?_
    refine Lw.valW (Xw.make (l := 0) (c := M) st_23 it_21 rfl rfl rfl (Nat.zero_le _) (by omega) (by omega)) rfl ?_
    rintro ov w ⟨ho, -, hn, -⟩
    have ho := own_mono (B' := B1) ho (Nat.le_trans (Nat.le_of_eq hB1) hcw.size)
    replace hcw := hcw.bs hn
    replace b_g := b_g.bs hn
    clear hn
    refine AwC.back ?_
    refine AwC.only (by assumption) (i := 6) (by kernel_rfl) rfl ?_
    have zc := hcw.size
    refine Lw.newA it_23 rfl ?_
    rintro A_o w eA_o b_o hn -
    have l_o : B1 ≤ A_o := by omega
    clear zc
    replace hcw := hcw.bs hn
    replace b_g := b_g.bs hn
    replace ho := ho.bs hn
    clear hn
    refine AwC.back ?_
    refine AwC.only (by assumption) (i := 8) (by kernel_rfl) rfl ?_
    refine Lw.unit (Xu.stB (u := ov) (sz_23 _) rfl rfl (own_sl ho).one' b_o Nat.zero_lt_one) ?_
    rintro w2 ⟨b_o2, hg, -⟩
    have ho := own_apart ho b_o (by decide) hg
    try replace b_g := b_g.by hg (fun e => blk_ne b_g b_o (by decide) (Option.some.inj e))
    have hcw := hcw.grown hg hcw.size (by rintro _ ⟨⟩; omega)
    have b_o : Blk w2 A_o 23 [ov] := b_o2
    clear b_o2 hg
    refine AwC.back ?_
    refine AwC.only (by assumption) (i := 9) (by kernel_rfl) rfl ?_
    refine Lw.unit (Xu.stB (u := .func (.func 28) #[picV t] #[]) (sz_65 _) rfl rfl rfl b_g Nat.zero_lt_one) ?_
    rintro w2 ⟨b_g2, hg, -⟩
    have ho := own_apart ho b_g (by decide) hg
    have b_o := b_o.by hg (fun e => blk_ne b_o b_g (by decide) (Option.some.inj e))
    have hcw := hcw.grown hg hcw.size (by rintro _ ⟨⟩; omega)
    have b_g : Blk w2 A_g 65 [.func (.func 28) #[picV t] #[]] := b_g2
    clear b_g2 hg
    refine AwC.back ?_
    refine AwC.done (by assumption) (by kernel_rfl) (Pg.low ?_)
    exact Pg.midS ((ov, A_o, A_g)) ⟨rfl, rfl, rfl, rfl, rfl, rfl, trivial⟩ (⟨hcw, ho, l_o, b_o, l_g, b_g⟩)
    have zc := hcw.size
    refine Lw.newA it_23 rfl ?_
    rintro A_o w eA_o b_o hn -
    have l_o : B1 ≤ A_o := by omega
    clear zc
    replace hcw := hcw.bs hn
    replace b_g := b_g.bs hn
    clear hn
    refine AwC.back ?_
    refine AwC.only (by assumption) (i := 2) (by kernel_rfl) rfl ?_
    refine Lw.valW (Xw.make (l := 0) (c := M) st_23 it_21 rfl rfl rfl (Nat.zero_le _) (by omega) (by omega)) rfl ?_
    rintro ov w ⟨ho, -, hn, -⟩
    have ho := own_mono (B' := B1) ho (Nat.le_trans (Nat.le_of_eq hB1) hcw.size)
    replace hcw := hcw.bs hn
    replace b_g := b_g.bs hn
    replace b_o := b_o.bs hn
    clear hn
    refine AwC.back ?_
    refine AwC.only (by assumption) (i := 8) (by kernel_rfl) rfl ?_
    refine Lw.unit (Xu.stB (u := ov) (sz_23 _) rfl rfl (own_sl ho).one' b_o Nat.zero_lt_one) ?_
    rintro w2 ⟨b_o2, hg, -⟩
    have ho := own_apart ho b_o (by decide) hg
    try replace b_g := b_g.by hg (fun e => blk_ne b_g b_o (by decide) (Option.some.inj e))
    have hcw := hcw.grown hg hcw.size (by rintro _ ⟨⟩; omega)
    have b_o : Blk w2 A_o 23 [ov] := b_o2
    clear b_o2 hg
    refine AwC.back ?_
    refine AwC.only (by assumption) (i := 9) (by kernel_rfl) rfl ?_
    refine Lw.unit (Xu.stB (u := .func (.func 28) #[picV t] #[]) (sz_65 _) rfl rfl rfl b_g Nat.zero_lt_one) ?_
    rintro w2 ⟨b_g2, hg, -⟩
    have ho := own_apart ho b_g (by decide) hg
    have b_o := b_o.by hg (fun e => blk_ne b_o b_g (by decide) (Option.some.inj e))
    have hcw := hcw.grown hg hcw.size (by rintro _ ⟨⟩; omega)
    have b_g : Blk w2 A_g 65 [.func (.func 28) #[picV t] #[]] := b_g2
    clear b_g2 hg
    refine AwC.back ?_
    refine AwC.done (by assumption) (by kernel_rfl) (Pg.low ?_)
    exact Pg.midS ((ov, A_o, A_g)) ⟨rfl, rfl, rfl, rfl, rfl, rfl, trivial⟩ (⟨hcw, ho, l_o, b_o, l_g, b_g⟩)
    have zc := hcw.size
    refine Lw.newA it_23 rfl ?_
    rintro A_o w eA_o b_o hn -
    have l_o : B1 ≤ A_o := by omega
    clear zc
    replace hcw := hcw.bs hn
    clear hn
    refine AwC.back ?_
    refine AwC.three (by assumption) (i0 := 2) (i1 := 4) (i2 := 7) (by kernel_rfl) rfl rfl rfl ?_ ?_ ?_
    refine Lw.valW (Xw.make (l := 0) (c := M) st_23 it_21 rfl rfl rfl (Nat.zero_le _) (by omega) (by omega)) rfl ?_
    rintro ov w ⟨ho, -, hn, -⟩
    have ho := own_mono (B' := B1) ho (Nat.le_trans (Nat.le_of_eq hB1) hcw.size)
    replace hcw := hcw.bs hn
    replace b_o := b_o.bs hn
    clear hn
    refine AwC.back ?_
    refine AwC.two (by assumption) (i := 4) (j := 7) (by kernel_rfl) rfl rfl ?_ ?_
    refine Lw.callF rfl rfl (pof_c t _ (h_t.bs hcw) (by omega)) ?_
    rintro _ w ⟨rfl, hn⟩
    replace hcw := hcw.bs hn
    replace b_o := b_o.bs hn
    replace ho := ho.bs hn
    clear hn
    refine AwC.back ?_
    refine AwC.take (i := 5) (NoP.lift NoP.midG) rfl (by kernel_rfl) (by kernel_rfl) (by kernel_rfl) (fun w1 hc => Ex.mkFn (vs := [picV t]) (us := []) rfl rfl) rfl ?_
    refine AwC.only (by assumption) (i := 7) (by kernel_rfl) rfl ?_
    have zc := hcw.size
    refine Lw.newA it_65 rfl ?_
    rintro A_g w eA_g b_g hn -
    have l_g : B1 ≤ A_g := by omega
    clear zc
    replace hcw := hcw.bs hn
    replace b_o := b_o.bs hn
    replace ho := ho.bs hn
    clear hn
    refine AwC.back ?_
    refine AwC.only (by assumption) (i := 8) (by kernel_rfl) rfl ?_
    refine Lw.unit (Xu.stB (u := ov) (sz_23 _) rfl rfl (own_sl ho).one' b_o Nat.zero_lt_one) ?_
    rintro w2 ⟨b_o2, hg, -⟩
    have ho := own_apart ho b_o (by decide) hg
    try replace b_g := b_g.by hg (fun e => blk_ne b_g b_o (by decide) (Option.some.inj e))
    have hcw := hcw.grown hg hcw.size (by rintro _ ⟨⟩; omega)
    have b_o : Blk w2 A_o 23 [ov] := b_o2
    clear b_o2 hg
    refine AwC.back ?_
    refine AwC.only (by assumption) (i := 9) (by kernel_rfl) rfl ?_
    refine Lw.unit (Xu.stB (u := .func (.func 28) #[picV t] #[]) (sz_65 _) rfl rfl rfl b_g Nat.zero_lt_one) ?_
    rintro w2 ⟨b_g2, hg, -⟩
    have ho := own_apart ho b_g (by decide) hg
    have b_o := b_o.by hg (fun e => blk_ne b_o b_g (by decide) (Option.some.inj e))
    have hcw := hcw.grown hg hcw.size (by rintro _ ⟨⟩; omega)
    have b_g : Blk w2 A_g 65 [.func (.func 28) #[picV t] #[]] := b_g2
    clear b_g2 hg
    refine AwC.back ?_
    refine AwC.done (by assumption) (by kernel_rfl) (Pg.low ?_)
    exact Pg.midS ((ov, A_o, A_g)) ⟨rfl, rfl, rfl, rfl, rfl, rfl, trivial⟩ (⟨hcw, ho, l_o, b_o, l_g, b_g⟩)
    have zc := hcw.size
    refine Lw.newA it_65 rfl ?_
    rintro A_g w eA_g b_g hn -
    have l_g : B1 ≤ A_g := by omega
    clear zc
    replace hcw := hcw.bs hn
    replace b_o := b_o.bs hn
    replace ho := ho.bs hn
    clear hn
    refine AwC.back ?_
    refine AwC.only (by assumption) (i := 4) (by kernel_rfl) rfl ?_
    refine Lw.callF rfl rfl (pof_c t _ (h_t.bs hcw) (by omega)) ?_
    rintro _ w ⟨rfl, hn⟩
    replace hcw := hcw.bs hn
    replace b_o := b_o.bs hn
    replace ho := ho.bs hn
    replace b_g := b_g.bs hn
    clear hn
    refine AwC.back ?_
    refine AwC.take (i := 5) (NoP.lift NoP.midG) rfl (by kernel_rfl) (by kernel_rfl) (by kernel_rfl) (fun w1 hc => Ex.mkFn (vs := [picV t]) (us := []) rfl rfl) rfl ?_
    refine AwC.only (by assumption) (i := 8) (by kernel_rfl) rfl ?_
    refine Lw.unit (Xu.stB (u := ov) (sz_23 _) rfl rfl (own_sl ho).one' b_o Nat.zero_lt_one) ?_
    rintro w2 ⟨b_o2, hg, -⟩
    have ho := own_apart ho b_o (by decide) hg
    try replace b_g := b_g.by hg (fun e => blk_ne b_g b_o (by decide) (Option.some.inj e))
    have hcw := hcw.grown hg hcw.size (by rintro _ ⟨⟩; omega)
    have b_o : Blk w2 A_o 23 [ov] := b_o2
    clear b_o2 hg
    refine AwC.back ?_
    refine AwC.only (by assumption) (i := 9) (by kernel_rfl) rfl ?_
    refine Lw.unit (Xu.stB (u := .func (.func 28) #[picV t] #[]) (sz_65 _) rfl rfl rfl b_g Nat.zero_lt_one) ?_
    rintro w2 ⟨b_g2, hg, -⟩
    have ho := own_apart ho b_g (by decide) hg
    have b_o := b_o.by hg (fun e => blk_ne b_o b_g (by decide) (Option.some.inj e))
    have hcw := hcw.grown hg hcw.size (by rintro _ ⟨⟩; omega)
    have b_g : Blk w2 A_g 65 [.func (.func 28) #[picV t] #[]] := b_g2
    clear b_g2 hg
    refine AwC.back ?_
    refine AwC.done (by assumption) (by kernel_rfl) (Pg.low ?_)
    exact Pg.midS ((ov, A_o, A_g)) ⟨rfl, rfl, rfl, rfl, rfl, rfl, trivial⟩ (⟨hcw, ho, l_o, b_o, l_g, b_g⟩)
    refine Lw.callF rfl rfl (pof_c t _ (h_t.bs hcw) (by omega)) ?_
    rintro _ w ⟨rfl, hn⟩
    replace hcw := hcw.bs hn
    replace b_o := b_o.bs hn
    clear hn
    refine AwC.back ?_
    refine AwC.take (i := 5) (NoP.lift NoP.midG) rfl (by kernel_rfl) (by kernel_rfl) (by kernel_rfl) (fun w1 hc => Ex.mkFn (vs := [picV t]) (us := []) rfl rfl) rfl ?_
    refine AwC.two (by assumption) (i := 2) (j := 7) (by kernel_rfl) rfl rfl ?_ ?_
    refine Lw.valW (Xw.make (l := 0) (c := M) st_23 it_21 rfl rfl rfl (Nat.zero_le _) (by omega) (by omega)) rfl ?_
    rintro ov w ⟨ho, -, hn, -⟩
    have ho := own_mono (B' := B1) ho (Nat.le_trans (Nat.le_of_eq hB1) hcw.size)
    replace hcw := hcw.bs hn
    replace b_o := b_o.bs hn
    clear hn
    refine AwC.back ?_
    refine AwC.only (by assumption) (i := 7) (by kernel_rfl) rfl ?_
    have zc := hcw.size
    refine Lw.newA it_65 rfl ?_
    rintro A_g w eA_g b_g hn -
    have l_g : B1 ≤ A_g := by omega
    clear zc
    replace hcw := hcw.bs hn
    replace b_o := b_o.bs hn
    replace ho := ho.bs hn
    clear hn
    refine AwC.back ?_
    refine AwC.only (by assumption) (i := 8) (by kernel_rfl) rfl ?_
    refine Lw.unit (Xu.stB (u := ov) (sz_23 _) rfl rfl (own_sl ho).one' b_o Nat.zero_lt_one) ?_
    rintro w2 ⟨b_o2, hg, -⟩
    have ho := own_apart ho b_o (by decide) hg
    try replace b_g := b_g.by hg (fun e => blk_ne b_g b_o (by decide) (Option.some.inj e))
    have hcw := hcw.grown hg hcw.size (by rintro _ ⟨⟩; omega)
    have b_o : Blk w2 A_o 23 [ov] := b_o2
    clear b_o2 hg
    refine AwC.back ?_
    refine AwC.only (by assumption) (i := 9) (by kernel_rfl) rfl ?_
    refine Lw.unit (Xu.stB (u := .func (.func 28) #[picV t] #[]) (sz_65 _) rfl rfl rfl b_g Nat.zero_lt_one) ?_
    rintro w2 ⟨b_g2, hg, -⟩
    have ho := own_apart ho b_g (by decide) hg
    have b_o := b_o.by hg (fun e => blk_ne b_o b_g (by decide) (Option.some.inj e))
    have hcw := hcw.grown hg hcw.size (by rintro _ ⟨⟩; omega)
    have b_g : Blk w2 A_g 65 [.func (.func 28) #[picV t] #[]] := b_g2
    clear b_g2 hg
    refine AwC.back ?_
    refine AwC.done (by assumption) (by kernel_rfl) (Pg.low ?_)
    exact Pg.midS ((ov, A_o, A_g)) ⟨rfl, rfl, rfl, rfl, rfl, rfl, trivial⟩ (⟨hcw, ho, l_o, b_o, l_g, b_g⟩)
    have zc := hcw.size
    refine Lw.newA it_65 rfl ?_
    rintro A_g w eA_g b_g hn -
    have l_g : B1 ≤ A_g := by omega
    clear zc
    replace hcw := hcw.bs hn
    replace b_o := b_o.bs hn
    clear hn
    refine AwC.back ?_
    refine AwC.only (by assumption) (i := 2) (by kernel_rfl) rfl ?_
    refine Lw.valW (Xw.make (l := 0) (c := M) st_23 it_21 rfl rfl rfl (Nat.zero_le _) (by omega) (by omega)) rfl ?_
    rintro ov w ⟨ho, -, hn, -⟩
    have ho := own_mono (B' := B1) ho (Nat.le_trans (Nat.le_of_eq hB1) hcw.size)
    replace hcw := hcw.bs hn
    replace b_o := b_o.bs hn
    replace b_g := b_g.bs hn
    clear hn
    refine AwC.back ?_
    refine AwC.only (by assumption) (i := 8) (by kernel_rfl) rfl ?_
    refine Lw.unit (Xu.stB (u := ov) (sz_23 _) rfl rfl (own_sl ho).one' b_o Nat.zero_lt_one) ?_
    rintro w2 ⟨b_o2, hg, -⟩
    have ho := own_apart ho b_o (by decide) hg
    try replace b_g := b_g.by hg (fun e => blk_ne b_g b_o (by decide) (Option.some.inj e))
    have hcw := hcw.grown hg hcw.size (by rintro _ ⟨⟩; omega)
    have b_o : Blk w2 A_o 23 [ov] := b_o2
    clear b_o2 hg
    refine AwC.back ?_
    refine AwC.only (by assumption) (i := 9) (by kernel_rfl) rfl ?_
    refine Lw.unit (Xu.stB (u := .func (.func 28) #[picV t] #[]) (sz_65 _) rfl rfl rfl b_g Nat.zero_lt_one) ?_
    rintro w2 ⟨b_g2, hg, -⟩
    have ho := own_apart ho b_g (by decide) hg
    have b_o := b_o.by hg (fun e => blk_ne b_o b_g (by decide) (Option.some.inj e))
    have hcw := hcw.grown hg hcw.size (by rintro _ ⟨⟩; omega)
    have b_g : Blk w2 A_g 65 [.func (.func 28) #[picV t] #[]] := b_g2
    clear b_g2 hg
    refine AwC.back ?_
    refine AwC.done (by assumption) (by kernel_rfl) (Pg.low ?_)
    exact Pg.midS ((ov, A_o, A_g)) ⟨rfl, rfl, rfl, rfl, rfl, rfl, trivial⟩ (⟨hcw, ho, l_o, b_o, l_g, b_g⟩)
    have zc := hcw.size
    refine Lw.newA it_65 rfl ?_
    rintro A_g w eA_g b_g hn -
    have l_g : B1 ≤ A_g := by omega
    clear zc
    replace hcw := hcw.bs hn
    replace b_o := b_o.bs hn
    clear hn
    refine AwC.back ?_
    refine AwC.two (by assumption) (i := 2) (j := 4) (by kernel_rfl) rfl rfl ?_ ?_
    refine Lw.valW (Xw.make (l := 0) (c := M) st_23 it_21 rfl rfl rfl (Nat.zero_le _) (by omega) (by omega)) rfl ?_
    rintro ov w ⟨ho, -, hn, -⟩
    have ho := own_mono (B' := B1) ho (Nat.le_trans (Nat.le_of_eq hB1) hcw.size)
    replace hcw := hcw.bs hn
    replace b_o := b_o.bs hn
    replace b_g := b_g.bs hn
    clear hn
    refine AwC.back ?_
    refine AwC.only (by assumption) (i := 4) (by kernel_rfl) rfl ?_
    refine Lw.callF rfl rfl (pof_c t _ (h_t.bs hcw) (by omega)) ?_
    rintro _ w ⟨rfl, hn⟩
    replace hcw := hcw.bs hn
    replace b_o := b_o.bs hn
    replace b_g := b_g.bs hn
    replace ho := ho.bs hn
    clear hn
    refine AwC.back ?_
    refine AwC.take (i := 5) (NoP.lift NoP.midG) rfl (by kernel_rfl) (by kernel_rfl) (by kernel_rfl) (fun w1 hc => Ex.mkFn (vs := [picV t]) (us := []) rfl rfl) rfl ?_
    refine AwC.only (by assumption) (i := 8) (by kernel_rfl) rfl ?_
    refine Lw.unit (Xu.stB (u := ov) (sz_23 _) rfl rfl (own_sl ho).one' b_o Nat.zero_lt_one) ?_
    rintro w2 ⟨b_o2, hg, -⟩
    have ho := own_apart ho b_o (by decide) hg
    try replace b_g := b_g.by hg (fun e => blk_ne b_g b_o (by decide) (Option.some.inj e))
    have hcw := hcw.grown hg hcw.size (by rintro _ ⟨⟩; omega)
    have b_o : Blk w2 A_o 23 [ov] := b_o2
    clear b_o2 hg
    refine AwC.back ?_
    refine AwC.only (by assumption) (i := 9) (by kernel_rfl) rfl ?_
    refine Lw.unit (Xu.stB (u := .func (.func 28) #[picV t] #[]) (sz_65 _) rfl rfl rfl b_g Nat.zero_lt_one) ?_
    rintro w2 ⟨b_g2, hg, -⟩
    have ho := own_apart ho b_g (by decide) hg
    have b_o := b_o.by hg (fun e => blk_ne b_o b_g (by decide) (Option.some.inj e))
    have hcw := hcw.grown hg hcw.size (by rintro _ ⟨⟩; omega)
    have b_g : Blk w2 A_g 65 [.func (.func 28) #[picV t] #[]] := b_g2
    clear b_g2 hg
    refine AwC.back ?_
    refine AwC.done (by assumption) (by kernel_rfl) (Pg.low ?_)
    exact Pg.midS ((ov, A_o, A_g)) ⟨rfl, rfl, rfl, rfl, rfl, rfl, trivial⟩ (⟨hcw, ho, l_o, b_o, l_g, b_g⟩)
    refine Lw.callF rfl rfl (pof_c t _ (h_t.bs hcw) (by omega)) ?_
    rintro _ w ⟨rfl, hn⟩
    replace hcw := hcw.bs hn
    replace b_o := b_o.bs hn
    replace b_g := b_g.bs hn
    clear hn
    refine AwC.back ?_
    refine AwC.take (i := 5) (NoP.lift NoP.midG) rfl (by kernel_rfl) (by kernel_rfl) (by kernel_rfl) (fun w1 hc => Ex.mkFn (vs := [picV t]) (us := []) rfl rfl) rfl ?_
    refine AwC.only (by assumption) (i := 2) (by kernel_rfl) rfl ?_
    refine Lw.valW (Xw.make (l := 0) (c := M) st_23 it_21 rfl rfl rfl (Nat.zero_le _) (by omega) (by omega)) rfl ?_
    rintro ov w ⟨ho, -, hn, -⟩
    have ho := own_mono (B' := B1) ho (Nat.le_trans (Nat.le_of_eq hB1) hcw.size)
    replace hcw := hcw.bs hn
    replace b_o := b_o.bs hn
    replace b_g := b_g.bs hn
    clear hn
    refine AwC.back ?_
    refine AwC.only (by assumption) (i := 8) (by kernel_rfl) rfl ?_
    refine Lw.unit (Xu.stB (u := ov) (sz_23 _) rfl rfl (own_sl ho).one' b_o Nat.zero_lt_one) ?_
    rintro w2 ⟨b_o2, hg, -⟩
    have ho := own_apart ho b_o (by decide) hg
    try replace b_g := b_g.by hg (fun e => blk_ne b_g b_o (by decide) (Option.some.inj e))
    have hcw := hcw.grown hg hcw.size (by rintro _ ⟨⟩; omega)
    have b_o : Blk w2 A_o 23 [ov] := b_o2
    clear b_o2 hg
    refine AwC.back ?_
    refine AwC.only (by assumption) (i := 9) (by kernel_rfl) rfl ?_
    refine Lw.unit (Xu.stB (u := .func (.func 28) #[picV t] #[]) (sz_65 _) rfl rfl rfl b_g Nat.zero_lt_one) ?_
    rintro w2 ⟨b_g2, hg, -⟩
    have ho := own_apart ho b_g (by decide) hg
    have b_o := b_o.by hg (fun e => blk_ne b_o b_g (by decide) (Option.some.inj e))
    have hcw := hcw.grown hg hcw.size (by rintro _ ⟨⟩; omega)
    have b_g : Blk w2 A_g 65 [.func (.func 28) #[picV t] #[]] := b_g2
    clear b_g2 hg
    refine AwC.back ?_
    refine AwC.done (by assumption) (by kernel_rfl) (Pg.low ?_)
    exact Pg.midS ((ov, A_o, A_g)) ⟨rfl, rfl, rfl, rfl, rfl, rfl, trivial⟩ (⟨hcw, ho, l_o, b_o, l_g, b_g⟩)
    have zc := hcw.size
    refine Lw.newA it_65 rfl ?_
    rintro A_g w eA_g b_g hn -
    have l_g : B1 ≤ A_g := by omega
    clear zc
    replace hcw := hcw.bs hn
    clear hn
    refine AwC.back ?_
    refine AwC.three (by assumption) (i0 := 2) (i1 := 4) (i2 := 6) (by kernel_rfl) rfl rfl rfl ?_ ?_ ?_
    refine Lw.valW (Xw.make (l := 0) (c := M) st_23 it_21 rfl rfl rfl (Nat.zero_le _) (by omega) (by omega)) rfl ?_
    rintro ov w ⟨ho, -, hn, -⟩
    have ho := own_mono (B' := B1) ho (Nat.le_trans (Nat.le_of_eq hB1) hcw.size)
    replace hcw := hcw.bs hn
    replace b_g := b_g.bs hn
    clear hn
    refine AwC.back ?_
    refine AwC.two (by assumption) (i := 4) (j := 6) (by kernel_rfl) rfl rfl ?_ ?_
    refine Lw.callF rfl rfl (pof_c t _ (h_t.bs hcw) (by omega)) ?_
    rintro _ w ⟨rfl, hn⟩
    replace hcw := hcw.bs hn
    replace b_g := b_g.bs hn
    replace ho := ho.bs hn
    clear hn
    refine AwC.back ?_
    refine AwC.take (i := 5) (NoP.lift NoP.midG) rfl (by kernel_rfl) (by kernel_rfl) (by kernel_rfl) (fun w1 hc => Ex.mkFn (vs := [picV t]) (us := []) rfl rfl) rfl ?_
    refine AwC.only (by assumption) (i := 6) (by kernel_rfl) rfl ?_
    have zc := hcw.size
    refine Lw.newA it_23 rfl ?_
    rintro A_o w eA_o b_o hn -
    have l_o : B1 ≤ A_o := by omega
    clear zc
    replace hcw := hcw.bs hn
    replace b_g := b_g.bs hn
    replace ho := ho.bs hn
    clear hn
    refine AwC.back ?_
    refine AwC.only (by assumption) (i := 8) (by kernel_rfl) rfl ?_
    refine Lw.unit (Xu.stB (u := ov) (sz_23 _) rfl rfl (own_sl ho).one' b_o Nat.zero_lt_one) ?_
    rintro w2 ⟨b_o2, hg, -⟩
    have ho := own_apart ho b_o (by decide) hg
    try replace b_g := b_g.by hg (fun e => blk_ne b_g b_o (by decide) (Option.some.inj e))
    have hcw := hcw.grown hg hcw.size (by rintro _ ⟨⟩; omega)
    have b_o : Blk w2 A_o 23 [ov] := b_o2
    clear b_o2 hg
    refine AwC.back ?_
    refine AwC.only (by assumption) (i := 9) (by kernel_rfl) rfl ?_
    refine Lw.unit (Xu.stB (u := .func (.func 28) #[picV t] #[]) (sz_65 _) rfl rfl rfl b_g Nat.zero_lt_one) ?_
    rintro w2 ⟨b_g2, hg, -⟩
    have ho := own_apart ho b_g (by decide) hg
    have b_o := b_o.by hg (fun e => blk_ne b_o b_g (by decide) (Option.some.inj e))
    have hcw := hcw.grown hg hcw.size (by rintro _ ⟨⟩; omega)
    have b_g : Blk w2 A_g 65 [.func (.func 28) #[picV t] #[]] := b_g2
    clear b_g2 hg
    refine AwC.back ?_
    refine AwC.done (by assumption) (by kernel_rfl) (Pg.low ?_)
    exact Pg.midS ((ov, A_o, A_g)) ⟨rfl, rfl, rfl, rfl, rfl, rfl, trivial⟩ (⟨hcw, ho, l_o, b_o, l_g, b_g⟩)
    have zc := hcw.size
    refine Lw.newA it_23 rfl ?_
    rintro A_o w eA_o b_o hn -
    have l_o : B1 ≤ A_o := by omega
    clear zc
    replace hcw := hcw.bs hn
    replace b_g := b_g.bs hn
    replace ho := ho.bs hn
    clear hn
    refine AwC.back ?_
    refine AwC.only (by assumption) (i := 4) (by kernel_rfl) rfl ?_
    refine Lw.callF rfl rfl (pof_c t _ (h_t.bs hcw) (by omega)) ?_
    rintro _ w ⟨rfl, hn⟩
    replace hcw := hcw.bs hn
    replace b_g := b_g.bs hn
    replace ho := ho.bs hn
    replace b_o := b_o.bs hn
    clear hn
    refine AwC.back ?_
    refine AwC.take (i := 5) (NoP.lift NoP.midG) rfl (by kernel_rfl) (by kernel_rfl) (by kernel_rfl) (fun w1 hc => Ex.mkFn (vs := [picV t]) (us := []) rfl rfl) rfl ?_
    refine AwC.only (by assumption) (i := 8) (by kernel_rfl) rfl ?_
    refine Lw.unit (Xu.stB (u := ov) (sz_23 _) rfl rfl (own_sl ho).one' b_o Nat.zero_lt_one) ?_
    rintro w2 ⟨b_o2, hg, -⟩
    have ho := own_apart ho b_o (by decide) hg
    try replace b_g := b_g.by hg (fun e => blk_ne b_g b_o (by decide) (Option.some.inj e))
    have hcw := hcw.grown hg hcw.size (by rintro _ ⟨⟩; omega)
    have b_o : Blk w2 A_o 23 [ov] := b_o2
    clear b_o2 hg
    refine AwC.back ?_
    refine AwC.only (by assumption) (i := 9) (by kernel_rfl) rfl ?_
    refine Lw.unit (Xu.stB (u := .func (.func 28) #[picV t] #[]) (sz_65 _) rfl rfl rfl b_g Nat.zero_lt_one) ?_
    rintro w2 ⟨b_g2, hg, -⟩
    have ho := own_apart ho b_g (by decide) hg
    have b_o := b_o.by hg (fun e => blk_ne b_o b_g (by decide) (Option.some.inj e))
    have hcw := hcw.grown hg hcw.size (by rintro _ ⟨⟩; omega)
    have b_g : Blk w2 A_g 65 [.func (.func 28) #[picV t] #[]] := b_g2
    clear b_g2 hg
    refine AwC.back ?_
    refine AwC.done (by assumption) (by kernel_rfl) (Pg.low ?_)
    exact Pg.midS ((ov, A_o, A_g)) ⟨rfl, rfl, rfl, rfl, rfl, rfl, trivial⟩ (⟨hcw, ho, l_o, b_o, l_g, b_g⟩)
    refine Lw.callF rfl rfl (pof_c t _ (h_t.bs hcw) (by omega)) ?_
    rintro _ w ⟨rfl, hn⟩
    replace hcw := hcw.bs hn
    replace b_g := b_g.bs hn
    clear hn
    refine AwC.back ?_
    refine AwC.take (i := 5) (NoP.lift NoP.midG) rfl (by kernel_rfl) (by kernel_rfl) (by kernel_rfl) (fun w1 hc => Ex.mkFn (vs := [picV t]) (us := []) rfl rfl) rfl ?_
    refine AwC.two (by assumption) (i := 2) (j := 6) (by kernel_rfl) rfl rfl ?_ ?_
    refine Lw.valW (Xw.make (l := 0) (c := M) st_23 it_21 rfl rfl rfl (Nat.zero_le _) (by omega) (by omega)) rfl ?_
    rintro ov w ⟨ho, -, hn, -⟩
    have ho := own_mono (B' := B1) ho (Nat.le_trans (Nat.le_of_eq hB1) hcw.size)
    replace hcw := hcw.bs hn
    replace b_g := b_g.bs hn
    clear hn
    refine AwC.back ?_
    refine AwC.only (by assumption) (i := 6) (by kernel_rfl) rfl ?_
    have zc := hcw.size
    refine Lw.newA it_23 rfl ?_
    rintro A_o w eA_o b_o hn -
    have l_o : B1 ≤ A_o := by omega
    clear zc
    replace hcw := hcw.bs hn
    replace b_g := b_g.bs hn
    replace ho := ho.bs hn
    clear hn
    refine AwC.back ?_
    refine AwC.only (by assumption) (i := 8) (by kernel_rfl) rfl ?_
    refine Lw.unit (Xu.stB (u := ov) (sz_23 _) rfl rfl (own_sl ho).one' b_o Nat.zero_lt_one) ?_
    rintro w2 ⟨b_o2, hg, -⟩
    have ho := own_apart ho b_o (by decide) hg
    try replace b_g := b_g.by hg (fun e => blk_ne b_g b_o (by decide) (Option.some.inj e))
    have hcw := hcw.grown hg hcw.size (by rintro _ ⟨⟩; omega)
    have b_o : Blk w2 A_o 23 [ov] := b_o2
    clear b_o2 hg
    refine AwC.back ?_
    refine AwC.only (by assumption) (i := 9) (by kernel_rfl) rfl ?_
    refine Lw.unit (Xu.stB (u := .func (.func 28) #[picV t] #[]) (sz_65 _) rfl rfl rfl b_g Nat.zero_lt_one) ?_
    rintro w2 ⟨b_g2, hg, -⟩
    have ho := own_apart ho b_g (by decide) hg
    have b_o := b_o.by hg (fun e => blk_ne b_o b_g (by decide) (Option.some.inj e))
    have hcw := hcw.grown hg hcw.size (by rintro _ ⟨⟩; omega)
    have b_g : Blk w2 A_g 65 [.func (.func 28) #[picV t] #[]] := b_g2
    clear b_g2 hg
    refine AwC.back ?_
    refine AwC.done (by assumption) (by kernel_rfl) (Pg.low ?_)
    exact Pg.midS ((ov, A_o, A_g)) ⟨rfl, rfl, rfl, rfl, rfl, rfl, trivial⟩ (⟨hcw, ho, l_o, b_o, l_g, b_g⟩)
    have zc := hcw.size
    refine Lw.newA it_23 rfl ?_
    rintro A_o w eA_o b_o hn -
    have l_o : B1 ≤ A_o := by omega
    clear zc
    replace hcw := hcw.bs hn
    replace b_g := b_g.bs hn
    clear hn
    refine AwC.back ?_
    refine AwC.only (by assumption) (i := 2) (by kernel_rfl) rfl ?_
    refine Lw.valW (Xw.make (l := 0) (c := M) st_23 it_21 rfl rfl rfl (Nat.zero_le _) (by omega) (by omega)) rfl ?_
    rintro ov w ⟨ho, -, hn, -⟩
    have ho := own_mono (B' := B1) ho (Nat.le_trans (Nat.le_of_eq hB1) hcw.size)
    replace hcw := hcw.bs hn
    replace b_g := b_g.bs hn
    replace b_o := b_o.bs hn
    clear hn
    refine AwC.back ?_
    refine AwC.only (by assumption) (i := 8) (by kernel_rfl) rfl ?_
    refine Lw.unit (Xu.stB (u := ov) (sz_23 _) rfl rfl (own_sl ho).one' b_o Nat.zero_lt_one) ?_
    rintro w2 ⟨b_o2, hg, -⟩
    have ho := own_apart ho b_o (by decide) hg
    try replace b_g := b_g.by hg (fun e => blk_ne b_g b_o (by decide) (Option.some.inj e))
    have hcw := hcw.grown hg hcw.size (by rintro _ ⟨⟩; omega)
    have b_o : Blk w2 A_o 23 [ov] := b_o2
    clear b_o2 hg
    refine AwC.back ?_
    refine AwC.only (by assumption) (i := 9) (by kernel_rfl) rfl ?_
    refine Lw.unit (Xu.stB (u := .func (.func 28) #[picV t] #[]) (sz_65 _) rfl rfl rfl b_g Nat.zero_lt_one) ?_
    rintro w2 ⟨b_g2, hg, -⟩
    have ho := own_apart ho b_g (by decide) hg
    have b_o := b_o.by hg (fun e => blk_ne b_o b_g (by decide) (Option.some.inj e))
    have hcw := hcw.grown hg hcw.size (by rintro _ ⟨⟩; omega)
    have b_g : Blk w2 A_g 65 [.func (.func 28) #[picV t] #[]] := b_g2
    clear b_g2 hg
    refine AwC.back ?_
    refine AwC.done (by assumption) (by kernel_rfl) (Pg.low ?_)
    exact Pg.midS ((ov, A_o, A_g)) ⟨rfl, rfl, rfl, rfl, rfl, rfl, trivial⟩ (⟨hcw, ho, l_o, b_o, l_g, b_g⟩)
    have zc := hcw.size
    refine Lw.newA it_23 rfl ?_
    rintro A_o w eA_o b_o hn -
    have l_o : B1 ≤ A_o := by omega
    clear zc
    replace hcw := hcw.bs hn
    replace b_g := b_g.bs hn
    clear hn
    refine AwC.back ?_
    refine AwC.two (by assumption) (i := 2) (j := 4) (by kernel_rfl) rfl rfl ?_ ?_
    refine Lw.valW (Xw.make (l := 0) (c := M) st_23 it_21 rfl rfl rfl (Nat.zero_le _) (by omega) (by omega)) rfl ?_
    rintro ov w ⟨ho, -, hn, -⟩
    have ho := own_mono (B' := B1) ho (Nat.le_trans (Nat.le_of_eq hB1) hcw.size)
    replace hcw := hcw.bs hn
    replace b_g := b_g.bs hn
    replace b_o := b_o.bs hn
    clear hn
    refine AwC.back ?_
    refine AwC.only (by assumption) (i := 4) (by kernel_rfl) rfl ?_
    refine Lw.callF rfl rfl (pof_c t _ (h_t.bs hcw) (by omega)) ?_
    rintro _ w ⟨rfl, hn⟩
    replace hcw := hcw.bs hn
    replace b_g := b_g.bs hn
    replace b_o := b_o.bs hn
    replace ho := ho.bs hn
    clear hn
    refine AwC.back ?_
    refine AwC.take (i := 5) (NoP.lift NoP.midG) rfl (by kernel_rfl) (by kernel_rfl) (by kernel_rfl) (fun w1 hc => Ex.mkFn (vs := [picV t]) (us := []) rfl rfl) rfl ?_
    refine AwC.only (by assumption) (i := 8) (by kernel_rfl) rfl ?_
    refine Lw.unit (Xu.stB (u := ov) (sz_23 _) rfl rfl (own_sl ho).one' b_o Nat.zero_lt_one) ?_
    rintro w2 ⟨b_o2, hg, -⟩
    have ho := own_apart ho b_o (by decide) hg
    try replace b_g := b_g.by hg (fun e => blk_ne b_g b_o (by decide) (Option.some.inj e))
    have hcw := hcw.grown hg hcw.size (by rintro _ ⟨⟩; omega)
    have b_o : Blk w2 A_o 23 [ov] := b_o2
    clear b_o2 hg
    refine AwC.back ?_
    refine AwC.only (by assumption) (i := 9) (by kernel_rfl) rfl ?_
    refine Lw.unit (Xu.stB (u := .func (.func 28) #[picV t] #[]) (sz_65 _) rfl rfl rfl b_g Nat.zero_lt_one) ?_
    rintro w2 ⟨b_g2, hg, -⟩
    have ho := own_apart ho b_g (by decide) hg
    have b_o := b_o.by hg (fun e => blk_ne b_o b_g (by decide) (Option.some.inj e))
    have hcw := hcw.grown hg hcw.size (by rintro _ ⟨⟩; omega)
    have b_g : Blk w2 A_g 65 [.func (.func 28) #[picV t] #[]] := b_g2
    clear b_g2 hg
    refine AwC.back ?_
    refine AwC.done (by assumption) (by kernel_rfl) (Pg.low ?_)
    exact Pg.midS ((ov, A_o, A_g)) ⟨rfl, rfl, rfl, rfl, rfl, rfl, trivial⟩ (⟨hcw, ho, l_o, b_o, l_g, b_g⟩)
    refine Lw.callF rfl rfl (pof_c t _ (h_t.bs hcw) (by omega)) ?_
    rintro _ w ⟨rfl, hn⟩
    replace hcw := hcw.bs hn
    replace b_g := b_g.bs hn
    replace b_o := b_o.bs hn
    clear hn
    refine AwC.back ?_
    refine AwC.take (i := 5) (NoP.lift NoP.midG) rfl (by kernel_rfl) (by kernel_rfl) (by kernel_rfl) (fun w1 hc => Ex.mkFn (vs := [picV t]) (us := []) rfl rfl) rfl ?_
    refine AwC.only (by assumption) (i := 2) (by kernel_rfl) rfl ?_
    refine Lw.valW (Xw.make (l := 0) (c := M) st_23 it_21 rfl rfl rfl (Nat.zero_le _) (by omega) (by omega)) rfl ?_
    rintro ov w ⟨ho, -, hn, -⟩
    have ho := own_mono (B' := B1) ho (Nat.le_trans (Nat.le_of_eq hB1) hcw.size)
    replace hcw := hcw.bs hn
    replace b_g := b_g.bs hn
    replace b_o := b_o.bs hn
    clear hn
    refine AwC.back ?_
    refine AwC.only (by assumption) (i := 8) (by kernel_rfl) rfl ?_
    refine Lw.unit (Xu.stB (u := ov) (sz_23 _) rfl rfl (own_sl ho).one' b_o Nat.zero_lt_one) ?_
    rintro w2 ⟨b_o2, hg, -⟩
    have ho := own_apart ho b_o (by decide) hg
    try replace b_g := b_g.by hg (fun e => blk_ne b_g b_o (by decide) (Option.some.inj e))
    have hcw := hcw.grown hg hcw.size (by rintro _ ⟨⟩; omega)
    have b_o : Blk w2 A_o 23 [ov] := b_o2
    clear b_o2 hg
    refine AwC.back ?_
    refine AwC.only (by assumption) (i := 9) (by kernel_rfl) rfl ?_
    refine Lw.unit (Xu.stB (u := .func (.func 28) #[picV t] #[]) (sz_65 _) rfl rfl rfl b_g Nat.zero_lt_one) ?_
    rintro w2 ⟨b_g2, hg, -⟩
    have ho := own_apart ho b_g (by decide) hg
    have b_o := b_o.by hg (fun e => blk_ne b_o b_g (by decide) (Option.some.inj e))
    have hcw := hcw.grown hg hcw.size (by rintro _ ⟨⟩; omega)
    have b_g : Blk w2 A_g 65 [.func (.func 28) #[picV t] #[]] := b_g2
    clear b_g2 hg
    refine AwC.back ?_
    refine AwC.done (by assumption) (by kernel_rfl) (Pg.low ?_)
    exact Pg.midS ((ov, A_o, A_g)) ⟨rfl, rfl, rfl, rfl, rfl, rfl, trivial⟩ (⟨hcw, ho, l_o, b_o, l_g, b_g⟩)
    have zc := hcw.size
    refine Lw.newA it_23 rfl ?_
    rintro A_o w eA_o b_o hn -
    have l_o : B1 ≤ A_o := by omega
    clear zc
    replace hcw := hcw.bs hn
    clear hn
    refine AwC.back ?_
    refine AwC.two (by assumption) (i := 1) (j := 7) (by kernel_rfl) rfl rfl ?_ ?_
    refine Lw.callF rfl rfl (size_c x S _ ((own_slT hx).bs hcw)) ?_
    rintro _ w ⟨rfl, hn⟩
    replace hcw := hcw.bs hn
    replace b_o := b_o.bs hn
    clear hn
    refine Lw.know 29 (v' := .int .i64 (M : Int)) rfl (congrArg (Value.int .i64) (by omega)) ?_
    refine AwC.back ?_
    refine AwC.three (by assumption) (i0 := 2) (i1 := 4) (i2 := 7) (by kernel_rfl) rfl rfl rfl ?_ ?_ ?_
    refine Lw.valW (Xw.make (l := 0) (c := M) st_23 it_21 rfl rfl rfl (Nat.zero_le _) (by omega) (by omega)) rfl ?_
    rintro ov w ⟨ho, -, hn, -⟩
    have ho := own_mono (B' := B1) ho (Nat.le_trans (Nat.le_of_eq hB1) hcw.size)
    replace hcw := hcw.bs hn
    replace b_o := b_o.bs hn
    clear hn
    refine AwC.back ?_
    refine AwC.two (by assumption) (i := 4) (j := 7) (by kernel_rfl) rfl rfl ?_ ?_
    refine Lw.callF rfl rfl (pof_c t _ (h_t.bs hcw) (by omega)) ?_
    rintro _ w ⟨rfl, hn⟩
    replace hcw := hcw.bs hn
    replace b_o := b_o.bs hn
    replace ho := ho.bs hn
    clear hn
    refine AwC.back ?_
    refine AwC.take (i := 5) (NoP.lift NoP.midG) rfl (by kernel_rfl) (by kernel_rfl) (by kernel_rfl) (fun w1 hc => Ex.mkFn (vs := [picV t]) (us := []) rfl rfl) rfl ?_
    refine AwC.only (by assumption) (i := 7) (by kernel_rfl) rfl ?_
    have zc := hcw.size
    refine Lw.newA it_65 rfl ?_
    rintro A_g w eA_g b_g hn -
    have l_g : B1 ≤ A_g := by omega
    clear zc
    replace hcw := hcw.bs hn
    replace b_o := b_o.bs hn
    replace ho := ho.bs hn
    clear hn
    refine AwC.back ?_
    refine AwC.only (by assumption) (i := 8) (by kernel_rfl) rfl ?_
    refine Lw.unit (Xu.stB (u := ov) (sz_23 _) rfl rfl (own_sl ho).one' b_o Nat.zero_lt_one) ?_
    rintro w2 ⟨b_o2, hg, -⟩
    have ho := own_apart ho b_o (by decide) hg
    try replace b_g := b_g.by hg (fun e => blk_ne b_g b_o (by decide) (Option.some.inj e))
    have hcw := hcw.grown hg hcw.size (by rintro _ ⟨⟩; omega)
    have b_o : Blk w2 A_o 23 [ov] := b_o2
    clear b_o2 hg
    refine AwC.back ?_
    refine AwC.only (by assumption) (i := 9) (by kernel_rfl) rfl ?_
    refine Lw.unit (Xu.stB (u := .func (.func 28) #[picV t] #[]) (sz_65 _) rfl rfl rfl b_g Nat.zero_lt_one) ?_
    rintro w2 ⟨b_g2, hg, -⟩
    have ho := own_apart ho b_g (by decide) hg
    have b_o := b_o.by hg (fun e => blk_ne b_o b_g (by decide) (Option.some.inj e))
    have hcw := hcw.grown hg hcw.size (by rintro _ ⟨⟩; omega)
    have b_g : Blk w2 A_g 65 [.func (.func 28) #[picV t] #[]] := b_g2
    clear b_g2 hg
    refine AwC.back ?_
    refine AwC.done (by assumption) (by kernel_rfl) (Pg.low ?_)
    exact Pg.midS ((ov, A_o, A_g)) ⟨rfl, rfl, rfl, rfl, rfl, rfl, trivial⟩ (⟨hcw, ho, l_o, b_o, l_g, b_g⟩)
    have zc := hcw.size
    refine Lw.newA it_65 rfl ?_
    rintro A_g w eA_g b_g hn -
    have l_g : B1 ≤ A_g := by omega
    clear zc
    replace hcw := hcw.bs hn
    replace b_o := b_o.bs hn
    replace ho := ho.bs hn
    clear hn
    refine AwC.back ?_
    refine AwC.only (by assumption) (i := 4) (by kernel_rfl) rfl ?_
    refine Lw.callF rfl rfl (pof_c t _ (h_t.bs hcw) (by omega)) ?_
    rintro _ w ⟨rfl, hn⟩
    replace hcw := hcw.bs hn
    replace b_o := b_o.bs hn
    replace ho := ho.bs hn
    replace b_g := b_g.bs hn
    clear hn
    refine AwC.back ?_
    refine AwC.take (i := 5) (NoP.lift NoP.midG) rfl (by kernel_rfl) (by kernel_rfl) (by kernel_rfl) (fun w1 hc => Ex.mkFn (vs := [picV t]) (us := []) rfl rfl) rfl ?_
    refine AwC.only (by assumption) (i := 8) (by kernel_rfl) rfl ?_
    refine Lw.unit (Xu.stB (u := ov) (sz_23 _) rfl rfl (own_sl ho).one' b_o Nat.zero_lt_one) ?_
    rintro w2 ⟨b_o2, hg, -⟩
    have ho := own_apart ho b_o (by decide) hg
    try replace b_g := b_g.by hg (fun e => blk_ne b_g b_o (by decide) (Option.some.inj e))
    have hcw := hcw.grown hg hcw.size (by rintro _ ⟨⟩; omega)
    have b_o : Blk w2 A_o 23 [ov] := b_o2
    clear b_o2 hg
    refine AwC.back ?_
    refine AwC.only (by assumption) (i := 9) (by kernel_rfl) rfl ?_
    refine Lw.unit (Xu.stB (u := .func (.func 28) #[picV t] #[]) (sz_65 _) rfl rfl rfl b_g Nat.zero_lt_one) ?_
    rintro w2 ⟨b_g2, hg, -⟩
    have ho := own_apart ho b_g (by decide) hg
    have b_o := b_o.by hg (fun e => blk_ne b_o b_g (by decide) (Option.some.inj e))
    have hcw := hcw.grown hg hcw.size (by rintro _ ⟨⟩; omega)
    have b_g : Blk w2 A_g 65 [.func (.func 28) #[picV t] #[]] := b_g2
    clear b_g2 hg
    refine AwC.back ?_
    refine AwC.done (by assumption) (by kernel_rfl) (Pg.low ?_)
    exact Pg.midS ((ov, A_o, A_g)) ⟨rfl, rfl, rfl, rfl, rfl, rfl, trivial⟩ (⟨hcw, ho, l_o, b_o, l_g, b_g⟩)
    refine Lw.callF rfl rfl (pof_c t _ (h_t.bs hcw) (by omega)) ?_
    rintro _ w ⟨rfl, hn⟩
    replace hcw := hcw.bs hn
    replace b_o := b_o.bs hn
    clear hn
    refine AwC.back ?_
    refine AwC.take (i := 5) (NoP.lift NoP.midG) rfl (by kernel_rfl) (by kernel_rfl) (by kernel_rfl) (fun w1 hc => Ex.mkFn (vs := [picV t]) (us := []) rfl rfl) rfl ?_
    refine AwC.two (by assumption) (i := 2) (j := 7) (by kernel_rfl) rfl rfl ?_ ?_
    refine Lw.valW (Xw.make (l := 0) (c := M) st_23 it_21 rfl rfl rfl (Nat.zero_le _) (by omega) (by omega)) rfl ?_
    rintro ov w ⟨ho, -, hn, -⟩
    have ho := own_mono (B' := B1) ho (Nat.le_trans (Nat.le_of_eq hB1) hcw.size)
    replace hcw := hcw.bs hn
    replace b_o := b_o.bs hn
    clear hn
    refine AwC.back ?_
    refine AwC.only (by assumption) (i := 7) (by kernel_rfl) rfl ?_
    have zc := hcw.size
    refine Lw.newA it_65 rfl ?_
    rintro A_g w eA_g b_g hn -
    have l_g : B1 ≤ A_g := by omega
    clear zc
    replace hcw := hcw.bs hn
    replace b_o := b_o.bs hn
    replace ho := ho.bs hn
    clear hn
    refine AwC.back ?_
    refine AwC.only (by assumption) (i := 8) (by kernel_rfl) rfl ?_
    refine Lw.unit (Xu.stB (u := ov) (sz_23 _) rfl rfl (own_sl ho).one' b_o Nat.zero_lt_one) ?_
    rintro w2 ⟨b_o2, hg, -⟩
    have ho := own_apart ho b_o (by decide) hg
    try replace b_g := b_g.by hg (fun e => blk_ne b_g b_o (by decide) (Option.some.inj e))
    have hcw := hcw.grown hg hcw.size (by rintro _ ⟨⟩; omega)
    have b_o : Blk w2 A_o 23 [ov] := b_o2
    clear b_o2 hg
    refine AwC.back ?_
    refine AwC.only (by assumption) (i := 9) (by kernel_rfl) rfl ?_
    refine Lw.unit (Xu.stB (u := .func (.func 28) #[picV t] #[]) (sz_65 _) rfl rfl rfl b_g Nat.zero_lt_one) ?_
    rintro w2 ⟨b_g2, hg, -⟩
    have ho := own_apart ho b_g (by decide) hg
    have b_o := b_o.by hg (fun e => blk_ne b_o b_g (by decide) (Option.some.inj e))
    have hcw := hcw.grown hg hcw.size (by rintro _ ⟨⟩; omega)
    have b_g : Blk w2 A_g 65 [.func (.func 28) #[picV t] #[]] := b_g2
    clear b_g2 hg
    refine AwC.back ?_
    refine AwC.done (by assumption) (by kernel_rfl) (Pg.low ?_)
    exact Pg.midS ((ov, A_o, A_g)) ⟨rfl, rfl, rfl, rfl, rfl, rfl, trivial⟩ (⟨hcw, ho, l_o, b_o, l_g, b_g⟩)
    have zc := hcw.size
    refine Lw.newA it_65 rfl ?_
    rintro A_g w eA_g b_g hn -
    have l_g : B1 ≤ A_g := by omega
    clear zc
    replace hcw := hcw.bs hn
    replace b_o := b_o.bs hn
    clear hn
    refine AwC.back ?_
    refine AwC.only (by assumption) (i := 2) (by kernel_rfl) rfl ?_
    refine Lw.valW (Xw.make (l := 0) (c := M) st_23 it_21 rfl rfl rfl (Nat.zero_le _) (by omega) (by omega)) rfl ?_
    rintro ov w ⟨ho, -, hn, -⟩
    have ho := own_mono (B' := B1) ho (Nat.le_trans (Nat.le_of_eq hB1) hcw.size)
    replace hcw := hcw.bs hn
    replace b_o := b_o.bs hn
    replace b_g := b_g.bs hn
    clear hn
    refine AwC.back ?_
    refine AwC.only (by assumption) (i := 8) (by kernel_rfl) rfl ?_
    refine Lw.unit (Xu.stB (u := ov) (sz_23 _) rfl rfl (own_sl ho).one' b_o Nat.zero_lt_one) ?_
    rintro w2 ⟨b_o2, hg, -⟩
    have ho := own_apart ho b_o (by decide) hg
    try replace b_g := b_g.by hg (fun e => blk_ne b_g b_o (by decide) (Option.some.inj e))
    have hcw := hcw.grown hg hcw.size (by rintro _ ⟨⟩; omega)
    have b_o : Blk w2 A_o 23 [ov] := b_o2
    clear b_o2 hg
    refine AwC.back ?_
    refine AwC.only (by assumption) (i := 9) (by kernel_rfl) rfl ?_
    refine Lw.unit (Xu.stB (u := .func (.func 28) #[picV t] #[]) (sz_65 _) rfl rfl rfl b_g Nat.zero_lt_one) ?_
    rintro w2 ⟨b_g2, hg, -⟩
    have ho := own_apart ho b_g (by decide) hg
    have b_o := b_o.by hg (fun e => blk_ne b_o b_g (by decide) (Option.some.inj e))
    have hcw := hcw.grown hg hcw.size (by rintro _ ⟨⟩; omega)
    have b_g : Blk w2 A_g 65 [.func (.func 28) #[picV t] #[]] := b_g2
    clear b_g2 hg
    refine AwC.back ?_
    refine AwC.done (by assumption) (by kernel_rfl) (Pg.low ?_)
    exact Pg.midS ((ov, A_o, A_g)) ⟨rfl, rfl, rfl, rfl, rfl, rfl, trivial⟩ (⟨hcw, ho, l_o, b_o, l_g, b_g⟩)
    have zc := hcw.size
    refine Lw.newA it_65 rfl ?_
    rintro A_g w eA_g b_g hn -
    have l_g : B1 ≤ A_g := by omega
    clear zc
    replace hcw := hcw.bs hn
    replace b_o := b_o.bs hn
    clear hn
    refine AwC.back ?_
    refine AwC.two (by assumption) (i := 2) (j := 4) (by kernel_rfl) rfl rfl ?_ ?_
    refine Lw.valW (Xw.make (l := 0) (c := M) st_23 it_21 rfl rfl rfl (Nat.zero_le _) (by omega) (by omega)) rfl ?_
    rintro ov w ⟨ho, -, hn, -⟩
    have ho := own_mono (B' := B1) ho (Nat.le_trans (Nat.le_of_eq hB1) hcw.size)
    replace hcw := hcw.bs hn
    replace b_o := b_o.bs hn
    replace b_g := b_g.bs hn
    clear hn
    refine AwC.back ?_
    refine AwC.only (by assumption) (i := 4) (by kernel_rfl) rfl ?_
    refine Lw.callF rfl rfl (pof_c t _ (h_t.bs hcw) (by omega)) ?_
    rintro _ w ⟨rfl, hn⟩
    replace hcw := hcw.bs hn
    replace b_o := b_o.bs hn
    replace b_g := b_g.bs hn
    replace ho := ho.bs hn
    clear hn
    refine AwC.back ?_
    refine AwC.take (i := 5) (NoP.lift NoP.midG) rfl (by kernel_rfl) (by kernel_rfl) (by kernel_rfl) (fun w1 hc => Ex.mkFn (vs := [picV t]) (us := []) rfl rfl) rfl ?_
    refine AwC.only (by assumption) (i := 8) (by kernel_rfl) rfl ?_
    refine Lw.unit (Xu.stB (u := ov) (sz_23 _) rfl rfl (own_sl ho).one' b_o Nat.zero_lt_one) ?_
    rintro w2 ⟨b_o2, hg, -⟩
    have ho := own_apart ho b_o (by decide) hg
    try replace b_g := b_g.by hg (fun e => blk_ne b_g b_o (by decide) (Option.some.inj e))
    have hcw := hcw.grown hg hcw.size (by rintro _ ⟨⟩; omega)
    have b_o : Blk w2 A_o 23 [ov] := b_o2
    clear b_o2 hg
    refine AwC.back ?_
    refine AwC.only (by assumption) (i := 9) (by kernel_rfl) rfl ?_
    refine Lw.unit (Xu.stB (u := .func (.func 28) #[picV t] #[]) (sz_65 _) rfl rfl rfl b_g Nat.zero_lt_one) ?_
    rintro w2 ⟨b_g2, hg, -⟩
    have ho := own_apart ho b_g (by decide) hg
    have b_o := b_o.by hg (fun e => blk_ne b_o b_g (by decide) (Option.some.inj e))
    have hcw := hcw.grown hg hcw.size (by rintro _ ⟨⟩; omega)
    have b_g : Blk w2 A_g 65 [.func (.func 28) #[picV t] #[]] := b_g2
    clear b_g2 hg
    refine AwC.back ?_
    refine AwC.done (by assumption) (by kernel_rfl) (Pg.low ?_)
    exact Pg.midS ((ov, A_o, A_g)) ⟨rfl, rfl, rfl, rfl, rfl, rfl, trivial⟩ (⟨hcw, ho, l_o, b_o, l_g, b_g⟩)
    refine Lw.callF rfl rfl (pof_c t _ (h_t.bs hcw) (by omega)) ?_
    rintro _ w ⟨rfl, hn⟩
    replace hcw := hcw.bs hn
    replace b_o := b_o.bs hn
    replace b_g := b_g.bs hn
    clear hn
    refine AwC.back ?_
    refine AwC.take (i := 5) (NoP.lift NoP.midG) rfl (by kernel_rfl) (by kernel_rfl) (by kernel_rfl) (fun w1 hc => Ex.mkFn (vs := [picV t]) (us := []) rfl rfl) rfl ?_
    refine AwC.only (by assumption) (i := 2) (by kernel_rfl) rfl ?_
    refine Lw.valW (Xw.make (l := 0) (c := M) st_23 it_21 rfl rfl rfl (Nat.zero_le _) (by omega) (by omega)) rfl ?_
    rintro ov w ⟨ho, -, hn, -⟩
    have ho := own_mono (B' := B1) ho (Nat.le_trans (Nat.le_of_eq hB1) hcw.size)
    replace hcw := hcw.bs hn
    replace b_o := b_o.bs hn
    replace b_g := b_g.bs hn
    clear hn
    refine AwC.back ?_
    refine AwC.only (by assumption) (i := 8) (by kernel_rfl) rfl ?_
    refine Lw.unit (Xu.stB (u := ov) (sz_23 _) rfl rfl (own_sl ho).one' b_o Nat.zero_lt_one) ?_
    rintro w2 ⟨b_o2, hg, -⟩
    have ho := own_apart ho b_o (by decide) hg
    try replace b_g := b_g.by hg (fun e => blk_ne b_g b_o (by decide) (Option.some.inj e))
    have hcw := hcw.grown hg hcw.size (by rintro _ ⟨⟩; omega)
    have b_o : Blk w2 A_o 23 [ov] := b_o2
    clear b_o2 hg
    refine AwC.back ?_
    refine AwC.only (by assumption) (i := 9) (by kernel_rfl) rfl ?_
    refine Lw.unit (Xu.stB (u := .func (.func 28) #[picV t] #[]) (sz_65 _) rfl rfl rfl b_g Nat.zero_lt_one) ?_
    rintro w2 ⟨b_g2, hg, -⟩
    have ho := own_apart ho b_g (by decide) hg
    have b_o := b_o.by hg (fun e => blk_ne b_o b_g (by decide) (Option.some.inj e))
    have hcw := hcw.grown hg hcw.size (by rintro _ ⟨⟩; omega)
    have b_g : Blk w2 A_g 65 [.func (.func 28) #[picV t] #[]] := b_g2
    clear b_g2 hg
    refine AwC.back ?_
    refine AwC.done (by assumption) (by kernel_rfl) (Pg.low ?_)
    exact Pg.midS ((ov, A_o, A_g)) ⟨rfl, rfl, rfl, rfl, rfl, rfl, trivial⟩ (⟨hcw, ho, l_o, b_o, l_g, b_g⟩)
    have zc := hcw.size
    refine Lw.newA it_65 rfl ?_
    rintro A_g w eA_g b_g hn -
    have l_g : B1 ≤ A_g := by omega
    clear zc
    replace hcw := hcw.bs hn
    replace b_o := b_o.bs hn
    clear hn
    refine AwC.back ?_
    refine AwC.only (by assumption) (i := 1) (by kernel_rfl) rfl ?_
    refine Lw.callF rfl rfl (size_c x S _ ((own_slT hx).bs hcw)) ?_
    rintro _ w ⟨rfl, hn⟩
    replace hcw := hcw.bs hn
    replace b_o := b_o.bs hn
    replace b_g := b_g.bs hn
    clear hn
    refine Lw.know 29 (v' := .int .i64 (M : Int)) rfl (congrArg (Value.int .i64) (by omega)) ?_
    refine AwC.back ?_
    refine AwC.two (by assumption) (i := 2) (j := 4) (by kernel_rfl) rfl rfl ?_ ?_
    refine Lw.valW (Xw.make (l := 0) (c := M) st_23 it_21 rfl rfl rfl (Nat.zero_le _) (by omega) (by omega)) rfl ?_
    rintro ov w ⟨ho, -, hn, -⟩
    have ho := own_mono (B' := B1) ho (Nat.le_trans (Nat.le_of_eq hB1) hcw.size)
    replace hcw := hcw.bs hn
    replace b_o := b_o.bs hn
    replace b_g := b_g.bs hn
    clear hn
    refine AwC.back ?_
    refine AwC.only (by assumption) (i := 4) (by kernel_rfl) rfl ?_
    refine Lw.callF rfl rfl (pof_c t _ (h_t.bs hcw) (by omega)) ?_
    rintro _ w ⟨rfl, hn⟩
    replace hcw := hcw.bs hn
    replace b_o := b_o.bs hn
    replace b_g := b_g.bs hn
    replace ho := ho.bs hn
    clear hn
    refine AwC.back ?_
    refine AwC.take (i := 5) (NoP.lift NoP.midG) rfl (by kernel_rfl) (by kernel_rfl) (by kernel_rfl) (fun w1 hc => Ex.mkFn (vs := [picV t]) (us := []) rfl rfl) rfl ?_
    refine AwC.only (by assumption) (i := 8) (by kernel_rfl) rfl ?_
    refine Lw.unit (Xu.stB (u := ov) (sz_23 _) rfl rfl (own_sl ho).one' b_o Nat.zero_lt_one) ?_
    rintro w2 ⟨b_o2, hg, -⟩
    have ho := own_apart ho b_o (by decide) hg
    try replace b_g := b_g.by hg (fun e => blk_ne b_g b_o (by decide) (Option.some.inj e))
    have hcw := hcw.grown hg hcw.size (by rintro _ ⟨⟩; omega)
    have b_o : Blk w2 A_o 23 [ov] := b_o2
    clear b_o2 hg
    refine AwC.back ?_
    refine AwC.only (by assumption) (i := 9) (by kernel_rfl) rfl ?_
    refine Lw.unit (Xu.stB (u := .func (.func 28) #[picV t] #[]) (sz_65 _) rfl rfl rfl b_g Nat.zero_lt_one) ?_
    rintro w2 ⟨b_g2, hg, -⟩
    have ho := own_apart ho b_g (by decide) hg
    have b_o := b_o.by hg (fun e => blk_ne b_o b_g (by decide) (Option.some.inj e))
    have hcw := hcw.grown hg hcw.size (by rintro _ ⟨⟩; omega)
    have b_g : Blk w2 A_g 65 [.func (.func 28) #[picV t] #[]] := b_g2
    clear b_g2 hg
    refine AwC.back ?_
    refine AwC.done (by assumption) (by kernel_rfl) (Pg.low ?_)
    exact Pg.midS ((ov, A_o, A_g)) ⟨rfl, rfl, rfl, rfl, rfl, rfl, trivial⟩ (⟨hcw, ho, l_o, b_o, l_g, b_g⟩)
    refine Lw.callF rfl rfl (pof_c t _ (h_t.bs hcw) (by omega)) ?_
    rintro _ w ⟨rfl, hn⟩
    replace hcw := hcw.bs hn
    replace b_o := b_o.bs hn
    replace b_g := b_g.bs hn
    clear hn
    refine AwC.back ?_
    refine AwC.take (i := 5) (NoP.lift NoP.midG) rfl (by kernel_rfl) (by kernel_rfl) (by kernel_rfl) (fun w1 hc => Ex.mkFn (vs := [picV t]) (us := []) rfl rfl) rfl ?_
    refine AwC.only (by assumption) (i := 2) (by kernel_rfl) rfl ?_
    refine Lw.valW (Xw.make (l := 0) (c := M) st_23 it_21 rfl rfl rfl (Nat.zero_le _) (by omega) (by omega)) rfl ?_
    rintro ov w ⟨ho, -, hn, -⟩
    have ho := own_mono (B' := B1) ho (Nat.le_trans (Nat.le_of_eq hB1) hcw.size)
    replace hcw := hcw.bs hn
    replace b_o := b_o.bs hn
    replace b_g := b_g.bs hn
    clear hn
    refine AwC.back ?_
    refine AwC.only (by assumption) (i := 8) (by kernel_rfl) rfl ?_
    refine Lw.unit (Xu.stB (u := ov) (sz_23 _) rfl rfl (own_sl ho).one' b_o Nat.zero_lt_one) ?_
    rintro w2 ⟨b_o2, hg, -⟩
    have ho := own_apart ho b_o (by decide) hg
    try replace b_g := b_g.by hg (fun e => blk_ne b_g b_o (by decide) (Option.some.inj e))
    have hcw := hcw.grown hg hcw.size (by rintro _ ⟨⟩; omega)
    have b_o : Blk w2 A_o 23 [ov] := b_o2
    clear b_o2 hg
    refine AwC.back ?_
    refine AwC.only (by assumption) (i := 9) (by kernel_rfl) rfl ?_
    refine Lw.unit (Xu.stB (u := .func (.func 28) #[picV t] #[]) (sz_65 _) rfl rfl rfl b_g Nat.zero_lt_one) ?_
    rintro w2 ⟨b_g2, hg, -⟩
    have ho := own_apart ho b_g (by decide) hg
    have b_o := b_o.by hg (fun e => blk_ne b_o b_g (by decide) (Option.some.inj e))
    have hcw := hcw.grown hg hcw.size (by rintro _ ⟨⟩; omega)
    have b_g : Blk w2 A_g 65 [.func (.func 28) #[picV t] #[]] := b_g2
    clear b_g2 hg
    refine AwC.back ?_
    refine AwC.done (by assumption) (by kernel_rfl) (Pg.low ?_)
    exact Pg.midS ((ov, A_o, A_g)) ⟨rfl, rfl, rfl, rfl, rfl, rfl, trivial⟩ (⟨hcw, ho, l_o, b_o, l_g, b_g⟩)
    have zc := hcw.size
    refine Lw.newA it_65 rfl ?_
    rintro A_g w eA_g b_g hn -
    have l_g : B1 ≤ A_g := by omega
    clear zc
    replace hcw := hcw.bs hn
    clear hn
    refine AwC.back ?_
    refine AwC.two (by assumption) (i := 1) (j := 6) (by kernel_rfl) rfl rfl ?_ ?_
    refine Lw.callF rfl rfl (size_c x S _ ((own_slT hx).bs hcw)) ?_
    rintro _ w ⟨rfl, hn⟩
    replace hcw := hcw.bs hn
    replace b_g := b_g.bs hn
    clear hn
    refine Lw.know 29 (v' := .int .i64 (M : Int)) rfl (congrArg (Value.int .i64) (by omega)) ?_
    refine AwC.back ?_
    refine AwC.three (by assumption) (i0 := 2) (i1 := 4) (i2 := 6) (by kernel_rfl) rfl rfl rfl ?_ ?_ ?_
    refine Lw.valW (Xw.make (l := 0) (c := M) st_23 it_21 rfl rfl rfl (Nat.zero_le _) (by omega) (by omega)) rfl ?_
    rintro ov w ⟨ho, -, hn, -⟩
    have ho := own_mono (B' := B1) ho (Nat.le_trans (Nat.le_of_eq hB1) hcw.size)
    replace hcw := hcw.bs hn
    replace b_g := b_g.bs hn
    clear hn
    refine AwC.back ?_
    refine AwC.two (by assumption) (i := 4) (j := 6) (by kernel_rfl) rfl rfl ?_ ?_
    refine Lw.callF rfl rfl (pof_c t _ (h_t.bs hcw) (by omega)) ?_
    rintro _ w ⟨rfl, hn⟩
    replace hcw := hcw.bs hn
    replace b_g := b_g.bs hn
    replace ho := ho.bs hn
    clear hn
    refine AwC.back ?_
    refine AwC.take (i := 5) (NoP.lift NoP.midG) rfl (by kernel_rfl) (by kernel_rfl) (by kernel_rfl) (fun w1 hc => Ex.mkFn (vs := [picV t]) (us := []) rfl rfl) rfl ?_
    refine AwC.only (by assumption) (i := 6) (by kernel_rfl) rfl ?_
    have zc := hcw.size
    refine Lw.newA it_23 rfl ?_
    rintro A_o w eA_o b_o hn -
    have l_o : B1 ≤ A_o := by omega
    clear zc
    replace hcw := hcw.bs hn
    replace b_g := b_g.bs hn
    replace ho := ho.bs hn
    clear hn
    refine AwC.back ?_
    refine AwC.only (by assumption) (i := 8) (by kernel_rfl) rfl ?_
    refine Lw.unit (Xu.stB (u := ov) (sz_23 _) rfl rfl (own_sl ho).one' b_o Nat.zero_lt_one) ?_
    rintro w2 ⟨b_o2, hg, -⟩
    have ho := own_apart ho b_o (by decide) hg
    try replace b_g := b_g.by hg (fun e => blk_ne b_g b_o (by decide) (Option.some.inj e))
    have hcw := hcw.grown hg hcw.size (by rintro _ ⟨⟩; omega)
    have b_o : Blk w2 A_o 23 [ov] := b_o2
    clear b_o2 hg
    refine AwC.back ?_
    refine AwC.only (by assumption) (i := 9) (by kernel_rfl) rfl ?_
    refine Lw.unit (Xu.stB (u := .func (.func 28) #[picV t] #[]) (sz_65 _) rfl rfl rfl b_g Nat.zero_lt_one) ?_
    rintro w2 ⟨b_g2, hg, -⟩
    have ho := own_apart ho b_g (by decide) hg
    have b_o := b_o.by hg (fun e => blk_ne b_o b_g (by decide) (Option.some.inj e))
    have hcw := hcw.grown hg hcw.size (by rintro _ ⟨⟩; omega)
    have b_g : Blk w2 A_g 65 [.func (.func 28) #[picV t] #[]] := b_g2
    clear b_g2 hg
    refine AwC.back ?_
    refine AwC.done (by assumption) (by kernel_rfl) (Pg.low ?_)
    exact Pg.midS ((ov, A_o, A_g)) ⟨rfl, rfl, rfl, rfl, rfl, rfl, trivial⟩ (⟨hcw, ho, l_o, b_o, l_g, b_g⟩)
    have zc := hcw.size
    refine Lw.newA it_23 rfl ?_
    rintro A_o w eA_o b_o hn -
    have l_o : B1 ≤ A_o := by omega
    clear zc
    replace hcw := hcw.bs hn
    replace b_g := b_g.bs hn
    replace ho := ho.bs hn
    clear hn
    refine AwC.back ?_
    refine AwC.only (by assumption) (i := 4) (by kernel_rfl) rfl ?_
    refine Lw.callF rfl rfl (pof_c t _ (h_t.bs hcw) (by omega)) ?_
    rintro _ w ⟨rfl, hn⟩
    replace hcw := hcw.bs hn
    replace b_g := b_g.bs hn
    replace ho := ho.bs hn
    replace b_o := b_o.bs hn
    clear hn
    refine AwC.back ?_
    refine AwC.take (i := 5) (NoP.lift NoP.midG) rfl (by kernel_rfl) (by kernel_rfl) (by kernel_rfl) (fun w1 hc => Ex.mkFn (vs := [picV t]) (us := []) rfl rfl) rfl ?_
    refine AwC.only (by assumption) (i := 8) (by kernel_rfl) rfl ?_
    refine Lw.unit (Xu.stB (u := ov) (sz_23 _) rfl rfl (own_sl ho).one' b_o Nat.zero_lt_one) ?_
    rintro w2 ⟨b_o2, hg, -⟩
    have ho := own_apart ho b_o (by decide) hg
    try replace b_g := b_g.by hg (fun e => blk_ne b_g b_o (by decide) (Option.some.inj e))
    have hcw := hcw.grown hg hcw.size (by rintro _ ⟨⟩; omega)
    have b_o : Blk w2 A_o 23 [ov] := b_o2
    clear b_o2 hg
    refine AwC.back ?_
    refine AwC.only (by assumption) (i := 9) (by kernel_rfl) rfl ?_
    refine Lw.unit (Xu.stB (u := .func (.func 28) #[picV t] #[]) (sz_65 _) rfl rfl rfl b_g Nat.zero_lt_one) ?_
    rintro w2 ⟨b_g2, hg, -⟩
    have ho := own_apart ho b_g (by decide) hg
    have b_o := b_o.by hg (fun e => blk_ne b_o b_g (by decide) (Option.some.inj e))
    have hcw := hcw.grown hg hcw.size (by rintro _ ⟨⟩; omega)
    have b_g : Blk w2 A_g 65 [.func (.func 28) #[picV t] #[]] := b_g2
    clear b_g2 hg
    refine AwC.back ?_
    refine AwC.done (by assumption) (by kernel_rfl) (Pg.low ?_)
    exact Pg.midS ((ov, A_o, A_g)) ⟨rfl, rfl, rfl, rfl, rfl, rfl, trivial⟩ (⟨hcw, ho, l_o, b_o, l_g, b_g⟩)
    refine Lw.callF rfl rfl (pof_c t _ (h_t.bs hcw) (by omega)) ?_
    rintro _ w ⟨rfl, hn⟩
    replace hcw := hcw.bs hn
    replace b_g := b_g.bs hn
    clear hn
    refine AwC.back ?_
    refine AwC.take (i := 5) (NoP.lift NoP.midG) rfl (by kernel_rfl) (by kernel_rfl) (by kernel_rfl) (fun w1 hc => Ex.mkFn (vs := [picV t]) (us := []) rfl rfl) rfl ?_
    refine AwC.two (by assumption) (i := 2) (j := 6) (by kernel_rfl) rfl rfl ?_ ?_
    refine Lw.valW (Xw.make (l := 0) (c := M) st_23 it_21 rfl rfl rfl (Nat.zero_le _) (by omega) (by omega)) rfl ?_
    rintro ov w ⟨ho, -, hn, -⟩
    have ho := own_mono (B' := B1) ho (Nat.le_trans (Nat.le_of_eq hB1) hcw.size)
    replace hcw := hcw.bs hn
    replace b_g := b_g.bs hn
    clear hn
    refine AwC.back ?_
    refine AwC.only (by assumption) (i := 6) (by kernel_rfl) rfl ?_
    have zc := hcw.size
    refine Lw.newA it_23 rfl ?_
    rintro A_o w eA_o b_o hn -
    have l_o : B1 ≤ A_o := by omega
    clear zc
    replace hcw := hcw.bs hn
    replace b_g := b_g.bs hn
    replace ho := ho.bs hn
    clear hn
    refine AwC.back ?_
    refine AwC.only (by assumption) (i := 8) (by kernel_rfl) rfl ?_
    refine Lw.unit (Xu.stB (u := ov) (sz_23 _) rfl rfl (own_sl ho).one' b_o Nat.zero_lt_one) ?_
    rintro w2 ⟨b_o2, hg, -⟩
    have ho := own_apart ho b_o (by decide) hg
    try replace b_g := b_g.by hg (fun e => blk_ne b_g b_o (by decide) (Option.some.inj e))
    have hcw := hcw.grown hg hcw.size (by rintro _ ⟨⟩; omega)
    have b_o : Blk w2 A_o 23 [ov] := b_o2
    clear b_o2 hg
    refine AwC.back ?_
    refine AwC.only (by assumption) (i := 9) (by kernel_rfl) rfl ?_
    refine Lw.unit (Xu.stB (u := .func (.func 28) #[picV t] #[]) (sz_65 _) rfl rfl rfl b_g Nat.zero_lt_one) ?_
    rintro w2 ⟨b_g2, hg, -⟩
    have ho := own_apart ho b_g (by decide) hg
    have b_o := b_o.by hg (fun e => blk_ne b_o b_g (by decide) (Option.some.inj e))
    have hcw := hcw.grown hg hcw.size (by rintro _ ⟨⟩; omega)
    have b_g : Blk w2 A_g 65 [.func (.func 28) #[picV t] #[]] := b_g2
    clear b_g2 hg
    refine AwC.back ?_
    refine AwC.done (by assumption) (by kernel_rfl) (Pg.low ?_)
    exact Pg.midS ((ov, A_o, A_g)) ⟨rfl, rfl, rfl, rfl, rfl, rfl, trivial⟩ (⟨hcw, ho, l_o, b_o, l_g, b_g⟩)
    have zc := hcw.size
    refine Lw.newA it_23 rfl ?_
    rintro A_o w eA_o b_o hn -
    have l_o : B1 ≤ A_o := by omega
    clear zc
    replace hcw := hcw.bs hn
    replace b_g := b_g.bs hn
    clear hn
    refine AwC.back ?_
    refine AwC.only (by assumption) (i := 2) (by kernel_rfl) rfl ?_
    refine Lw.valW (Xw.make (l := 0) (c := M) st_23 it_21 rfl rfl rfl (Nat.zero_le _) (by omega) (by omega)) rfl ?_
    rintro ov w ⟨ho, -, hn, -⟩
    have ho := own_mono (B' := B1) ho (Nat.le_trans (Nat.le_of_eq hB1) hcw.size)
    replace hcw := hcw.bs hn
    replace b_g := b_g.bs hn
    replace b_o := b_o.bs hn
    clear hn
    refine AwC.back ?_
    refine AwC.only (by assumption) (i := 8) (by kernel_rfl) rfl ?_
    refine Lw.unit (Xu.stB (u := ov) (sz_23 _) rfl rfl (own_sl ho).one' b_o Nat.zero_lt_one) ?_
    rintro w2 ⟨b_o2, hg, -⟩
    have ho := own_apart ho b_o (by decide) hg
    try replace b_g := b_g.by hg (fun e => blk_ne b_g b_o (by decide) (Option.some.inj e))
    have hcw := hcw.grown hg hcw.size (by rintro _ ⟨⟩; omega)
    have b_o : Blk w2 A_o 23 [ov] := b_o2
    clear b_o2 hg
    refine AwC.back ?_
    refine AwC.only (by assumption) (i := 9) (by kernel_rfl) rfl ?_
    refine Lw.unit (Xu.stB (u := .func (.func 28) #[picV t] #[]) (sz_65 _) rfl rfl rfl b_g Nat.zero_lt_one) ?_
    rintro w2 ⟨b_g2, hg, -⟩
    have ho := own_apart ho b_g (by decide) hg
    have b_o := b_o.by hg (fun e => blk_ne b_o b_g (by decide) (Option.some.inj e))
    have hcw := hcw.grown hg hcw.size (by rintro _ ⟨⟩; omega)
    have b_g : Blk w2 A_g 65 [.func (.func 28) #[picV t] #[]] := b_g2
    clear b_g2 hg
    refine AwC.back ?_
    refine AwC.done (by assumption) (by kernel_rfl) (Pg.low ?_)
    exact Pg.midS ((ov, A_o, A_g)) ⟨rfl, rfl, rfl, rfl, rfl, rfl, trivial⟩ (⟨hcw, ho, l_o, b_o, l_g, b_g⟩)
    have zc := hcw.size
    refine Lw.newA it_23 rfl ?_
    rintro A_o w eA_o b_o hn -
    have l_o : B1 ≤ A_o := by omega
    clear zc
    replace hcw := hcw.bs hn
    replace b_g := b_g.bs hn
    clear hn
    refine AwC.back ?_
    refine AwC.two (by assumption) (i := 2) (j := 4) (by kernel_rfl) rfl rfl ?_ ?_
    refine Lw.valW (Xw.make (l := 0) (c := M) st_23 it_21 rfl rfl rfl (Nat.zero_le _) (by omega) (by omega)) rfl ?_
    rintro ov w ⟨ho, -, hn, -⟩
    have ho := own_mono (B' := B1) ho (Nat.le_trans (Nat.le_of_eq hB1) hcw.size)
    replace hcw := hcw.bs hn
    replace b_g := b_g.bs hn
    replace b_o := b_o.bs hn
    clear hn
    refine AwC.back ?_
    refine AwC.only (by assumption) (i := 4) (by kernel_rfl) rfl ?_
    refine Lw.callF rfl rfl (pof_c t _ (h_t.bs hcw) (by omega)) ?_
    rintro _ w ⟨rfl, hn⟩
    replace hcw := hcw.bs hn
    replace b_g := b_g.bs hn
    replace b_o := b_o.bs hn
    replace ho := ho.bs hn
    clear hn
    refine AwC.back ?_
    refine AwC.take (i := 5) (NoP.lift NoP.midG) rfl (by kernel_rfl) (by kernel_rfl) (by kernel_rfl) (fun w1 hc => Ex.mkFn (vs := [picV t]) (us := []) rfl rfl) rfl ?_
    refine AwC.only (by assumption) (i := 8) (by kernel_rfl) rfl ?_
    refine Lw.unit (Xu.stB (u := ov) (sz_23 _) rfl rfl (own_sl ho).one' b_o Nat.zero_lt_one) ?_
    rintro w2 ⟨b_o2, hg, -⟩
    have ho := own_apart ho b_o (by decide) hg
    try replace b_g := b_g.by hg (fun e => blk_ne b_g b_o (by decide) (Option.some.inj e))
    have hcw := hcw.grown hg hcw.size (by rintro _ ⟨⟩; omega)
    have b_o : Blk w2 A_o 23 [ov] := b_o2
    clear b_o2 hg
    refine AwC.back ?_
    refine AwC.only (by assumption) (i := 9) (by kernel_rfl) rfl ?_
    refine Lw.unit (Xu.stB (u := .func (.func 28) #[picV t] #[]) (sz_65 _) rfl rfl rfl b_g Nat.zero_lt_one) ?_
    rintro w2 ⟨b_g2, hg, -⟩
    have ho := own_apart ho b_g (by decide) hg
    have b_o := b_o.by hg (fun e => blk_ne b_o b_g (by decide) (Option.some.inj e))
    have hcw := hcw.grown hg hcw.size (by rintro _ ⟨⟩; omega)
    have b_g : Blk w2 A_g 65 [.func (.func 28) #[picV t] #[]] := b_g2
    clear b_g2 hg
    refine AwC.back ?_
    refine AwC.done (by assumption) (by kernel_rfl) (Pg.low ?_)
    exact Pg.midS ((ov, A_o, A_g)) ⟨rfl, rfl, rfl, rfl, rfl, rfl, trivial⟩ (⟨hcw, ho, l_o, b_o, l_g, b_g⟩)
    refine Lw.callF rfl rfl (pof_c t _ (h_t.bs hcw) (by omega)) ?_
    rintro _ w ⟨rfl, hn⟩
    replace hcw := hcw.bs hn
    replace b_g := b_g.bs hn
    replace b_o := b_o.bs hn
    clear hn
    refine AwC.back ?_
    refine AwC.take (i := 5) (NoP.lift NoP.midG) rfl (by kernel_rfl) (by kernel_rfl) (by kernel_rfl) (fun w1 hc => Ex.mkFn (vs := [picV t]) (us := []) rfl rfl) rfl ?_
    refine AwC.only (by assumption) (i := 2) (by kernel_rfl) rfl ?_
    refine Lw.valW (Xw.make (l := 0) (c := M) st_23 it_21 rfl rfl rfl (Nat.zero_le _) (by omega) (by omega)) rfl ?_
    rintro ov w ⟨ho, -, hn, -⟩
    have ho := own_mono (B' := B1) ho (Nat.le_trans (Nat.le_of_eq hB1) hcw.size)
    replace hcw := hcw.bs hn
    replace b_g := b_g.bs hn
    replace b_o := b_o.bs hn
    clear hn
    refine AwC.back ?_
    refine AwC.only (by assumption) (i := 8) (by kernel_rfl) rfl ?_
    refine Lw.unit (Xu.stB (u := ov) (sz_23 _) rfl rfl (own_sl ho).one' b_o Nat.zero_lt_one) ?_
    rintro w2 ⟨b_o2, hg, -⟩
    have ho := own_apart ho b_o (by decide) hg
    try replace b_g := b_g.by hg (fun e => blk_ne b_g b_o (by decide) (Option.some.inj e))
    have hcw := hcw.grown hg hcw.size (by rintro _ ⟨⟩; omega)
    have b_o : Blk w2 A_o 23 [ov] := b_o2
    clear b_o2 hg
    refine AwC.back ?_
    refine AwC.only (by assumption) (i := 9) (by kernel_rfl) rfl ?_
    refine Lw.unit (Xu.stB (u := .func (.func 28) #[picV t] #[]) (sz_65 _) rfl rfl rfl b_g Nat.zero_lt_one) ?_
    rintro w2 ⟨b_g2, hg, -⟩
    have ho := own_apart ho b_g (by decide) hg
    have b_o := b_o.by hg (fun e => blk_ne b_o b_g (by decide) (Option.some.inj e))
    have hcw := hcw.grown hg hcw.size (by rintro _ ⟨⟩; omega)
    have b_g : Blk w2 A_g 65 [.func (.func 28) #[picV t] #[]] := b_g2
    clear b_g2 hg
    refine AwC.back ?_
    refine AwC.done (by assumption) (by kernel_rfl) (Pg.low ?_)
    exact Pg.midS ((ov, A_o, A_g)) ⟨rfl, rfl, rfl, rfl, rfl, rfl, trivial⟩ (⟨hcw, ho, l_o, b_o, l_g, b_g⟩)
    have zc := hcw.size
    refine Lw.newA it_23 rfl ?_
    rintro A_o w eA_o b_o hn -
    have l_o : B1 ≤ A_o := by omega
    clear zc
    replace hcw := hcw.bs hn
    replace b_g := b_g.bs hn
    clear hn
    refine AwC.back ?_
    refine AwC.only (by assumption) (i := 1) (by kernel_rfl) rfl ?_
    refine Lw.callF rfl rfl (size_c x S _ ((own_slT hx).bs hcw)) ?_
    rintro _ w ⟨rfl, hn⟩
    replace hcw := hcw.bs hn
    replace b_g := b_g.bs hn
    replace b_o := b_o.bs hn
    clear hn
    refine Lw.know 29 (v' := .int .i64 (M : Int)) rfl (congrArg (Value.int .i64) (by omega)) ?_
    refine AwC.back ?_
    refine AwC.two (by assumption) (i := 2) (j := 4) (by kernel_rfl) rfl rfl ?_ ?_
    refine Lw.valW (Xw.make (l := 0) (c := M) st_23 it_21 rfl rfl rfl (Nat.zero_le _) (by omega) (by omega)) rfl ?_
    rintro ov w ⟨ho, -, hn, -⟩
    have ho := own_mono (B' := B1) ho (Nat.le_trans (Nat.le_of_eq hB1) hcw.size)
    replace hcw := hcw.bs hn
    replace b_g := b_g.bs hn
    replace b_o := b_o.bs hn
    clear hn
    refine AwC.back ?_
    refine AwC.only (by assumption) (i := 4) (by kernel_rfl) rfl ?_
    refine Lw.callF rfl rfl (pof_c t _ (h_t.bs hcw) (by omega)) ?_
    rintro _ w ⟨rfl, hn⟩
    replace hcw := hcw.bs hn
    replace b_g := b_g.bs hn
    replace b_o := b_o.bs hn
    replace ho := ho.bs hn
    clear hn
    refine AwC.back ?_
    refine AwC.take (i := 5) (NoP.lift NoP.midG) rfl (by kernel_rfl) (by kernel_rfl) (by kernel_rfl) (fun w1 hc => Ex.mkFn (vs := [picV t]) (us := []) rfl rfl) rfl ?_
    refine AwC.only (by assumption) (i := 8) (by kernel_rfl) rfl ?_
    refine Lw.unit (Xu.stB (u := ov) (sz_23 _) rfl rfl (own_sl ho).one' b_o Nat.zero_lt_one) ?_
    rintro w2 ⟨b_o2, hg, -⟩
    have ho := own_apart ho b_o (by decide) hg
    try replace b_g := b_g.by hg (fun e => blk_ne b_g b_o (by decide) (Option.some.inj e))
    have hcw := hcw.grown hg hcw.size (by rintro _ ⟨⟩; omega)
    have b_o : Blk w2 A_o 23 [ov] := b_o2
    clear b_o2 hg
    refine AwC.back ?_
    refine AwC.only (by assumption) (i := 9) (by kernel_rfl) rfl ?_
    refine Lw.unit (Xu.stB (u := .func (.func 28) #[picV t] #[]) (sz_65 _) rfl rfl rfl b_g Nat.zero_lt_one) ?_
    rintro w2 ⟨b_g2, hg, -⟩
    have ho := own_apart ho b_g (by decide) hg
    have b_o := b_o.by hg (fun e => blk_ne b_o b_g (by decide) (Option.some.inj e))
    have hcw := hcw.grown hg hcw.size (by rintro _ ⟨⟩; omega)
    have b_g : Blk w2 A_g 65 [.func (.func 28) #[picV t] #[]] := b_g2
    clear b_g2 hg
    refine AwC.back ?_
    refine AwC.done (by assumption) (by kernel_rfl) (Pg.low ?_)
    exact Pg.midS ((ov, A_o, A_g)) ⟨rfl, rfl, rfl, rfl, rfl, rfl, trivial⟩ (⟨hcw, ho, l_o, b_o, l_g, b_g⟩)
    refine Lw.callF rfl rfl (pof_c t _ (h_t.bs hcw) (by omega)) ?_
    rintro _ w ⟨rfl, hn⟩
    replace hcw := hcw.bs hn
    replace b_g := b_g.bs hn
    replace b_o := b_o.bs hn
    clear hn
    refine AwC.back ?_
    refine AwC.take (i := 5) (NoP.lift NoP.midG) rfl (by kernel_rfl) (by kernel_rfl) (by kernel_rfl) (fun w1 hc => Ex.mkFn (vs := [picV t]) (us := []) rfl rfl) rfl ?_
    refine AwC.only (by assumption) (i := 2) (by kernel_rfl) rfl ?_
    refine Lw.valW (Xw.make (l := 0) (c := M) st_23 it_21 rfl rfl rfl (Nat.zero_le _) (by omega) (by omega)) rfl ?_
    rintro ov w ⟨ho, -, hn, -⟩
    have ho := own_mono (B' := B1) ho (Nat.le_trans (Nat.le_of_eq hB1) hcw.size)
    replace hcw := hcw.bs hn
    replace b_g := b_g.bs hn
    replace b_o := b_o.bs hn
    clear hn
    refine AwC.back ?_
    refine AwC.only (by assumption) (i := 8) (by kernel_rfl) rfl ?_
    refine Lw.unit (Xu.stB (u := ov) (sz_23 _) rfl rfl (own_sl ho).one' b_o Nat.zero_lt_one) ?_
    rintro w2 ⟨b_o2, hg, -⟩
    have ho := own_apart ho b_o (by decide) hg
    try replace b_g := b_g.by hg (fun e => blk_ne b_g b_o (by decide) (Option.some.inj e))
    have hcw := hcw.grown hg hcw.size (by rintro _ ⟨⟩; omega)
    have b_o : Blk w2 A_o 23 [ov] := b_o2
    clear b_o2 hg
    refine AwC.back ?_
    refine AwC.only (by assumption) (i := 9) (by kernel_rfl) rfl ?_
    refine Lw.unit (Xu.stB (u := .func (.func 28) #[picV t] #[]) (sz_65 _) rfl rfl rfl b_g Nat.zero_lt_one) ?_
    rintro w2 ⟨b_g2, hg, -⟩
    have ho := own_apart ho b_g (by decide) hg
    have b_o := b_o.by hg (fun e => blk_ne b_o b_g (by decide) (Option.some.inj e))
    have hcw := hcw.grown hg hcw.size (by rintro _ ⟨⟩; omega)
    have b_g : Blk w2 A_g 65 [.func (.func 28) #[picV t] #[]] := b_g2
    clear b_g2 hg
    refine AwC.back ?_
    refine AwC.done (by assumption) (by kernel_rfl) (Pg.low ?_)
    exact Pg.midS ((ov, A_o, A_g)) ⟨rfl, rfl, rfl, rfl, rfl, rfl, trivial⟩ (⟨hcw, ho, l_o, b_o, l_g, b_g⟩)
  rintro ⟨ov, A_o, A_g⟩ w ⟨hn, ho, l_o, b_o, l_g, b_g⟩
  dsimp only at ho l_o b_o l_g b_g ⊢
  refine Cg.out ?_
  replace hB := hB.bs hn
  replace h_t := h_t.bs hn
  replace b_t := b_t.bs hn
  replace b_s := b_s.bs hn
  replace b_r := b_r.bs hn
  replace hx := hx.bs hn
  clear hn
  have g0 := good_at gS (k := 0) (by omega)
  have g1 := good_at gS (k := 1) (by omega)
  have g2 := good_at gS (k := 2) (by omega)
  have t0 := good_at ok.gt (k := 0) (by omega)
  have t1 := good_at ok.gt (k := 1) (by omega)
  have t2 := good_at ok.gt (k := 2) (by omega)
  have mm : 1 * 1 ≤ (m : Int) * (m : Int) := Int.mul_le_mul okw.1 okw.1 (by decide) (by omega)
  have mm2 : (m : Int) * (m : Int) ≤ 64 * 64 := Int.mul_le_mul okw.2 okw.2 (by omega) (by decide)
  refine Cg.seq ?_
  refine Cg.seq ?_
  refine Cg.region (by kernel_rfl) ?_
  refine Lw.val (Ex.move rfl) rfl ?_
  refine Lw.callF rfl rfl (spots_c x S _ (own_slT hx)) ?_
  rintro _ w ⟨A_i, rfl, b_i, eA_i, hn⟩
  replace hB := hB.bs hn
  replace h_t := h_t.bs hn
  replace b_t := b_t.bs hn
  replace b_s := b_s.bs hn
  replace b_r := b_r.bs hn
  replace hx := hx.bs hn
  replace ho := ho.bs hn
  replace b_o := b_o.bs hn
  replace b_g := b_g.bs hn
  clear hn
  refine Lw.nil (Pg.low ?_)
  refine Pg.thenN (Cg.out ?_)
  refine Cg.block ?_
  rename World => w0
  have zB1 : B1 ≤ w0.heap.size := by have := blk_lt b_o; omega
  have zi := blk_lt b_i
  have zW0 := below_size hB
  have hxb := own_block hx
  refine Cg.range rfl (spots_sq A_i x S w0 b_i (own_slT hx) okS lS) (fun b hb => hb.elim (fun e => by rw [e]; exact zi) (fun e => (hxb b e).2)) (fun _ => rfl) (by kernel_rfl) (fun (pre : List (Nat)) w' => (∃ ov, Blk w' A_o 23 [ov] ∧ w'.ownsRow B1 21 1 ov pre.length ((pre.map (pooV t.l t.s S m)).map i32)) ∧ Blk w' A_g 65 [.func (.func 28) #[picV t] #[]] ∧ Blk w' A_i 22 [x] ∧ Below B1 w0 w') (by rintro _ ⟨⟩) ?_ ?_ ?_ ?_ ?_
  · exact ⟨⟨ov, b_o, ho⟩, b_g, b_i, Below.refl _ _⟩
  · rintro pre A A' ⟨⟨ov, h1, h2⟩, h3, h6, h5⟩ hc
    exact ⟨⟨ov, h1.nc hc, own_nc h2 hc⟩, h3.nc hc, h6.nc hc, h5.nc hc zB1 zB1⟩
  · rintro pre A A' ⟨⟨ov, h1, h2⟩, h3, h6, h5⟩ hc
    have hc := itr_none hc
    exact ⟨⟨ov, h1.bs hc, own_bs h2 hc⟩, h3.bs hc, h6.bs hc, h5.trans (hc.mono (Nat.le_trans zB1 h5.size))⟩
  · rintro lp pre i u hl ⟨⟨ov, b_o, ho⟩, b_g, b_i, hK⟩ hpre hrec
    obtain ⟨hi, hiM, -⟩ := range_pre hpre
    refine Cg.region (by kernel_rfl) ?_
    refine Lw.boxed (cs := [.int .i64 (spc S i), .int .i64 (spy S i), .int .i64 (spx S i)]) it_72 rfl rfl rfl rfl (fun _ => rfl) (rfl) ?_
    rintro A_to u1 eA_to b_to hn1 zhn1
    refine Lw.nil (Pg.low ?_)
    refine Pg.asg ((KeepsFrom.refl _ _).bs hn1) (Kp.refl.bs hn1) ?_
    rintro w hn hz hrec
    have zu := blk_lt b_o
    have hK1 := hK.trans (hn1.mono (by omega))
    have hK := hK1.nc hn (by omega) zB1
    have ho := own_nc (own_bs ho hn1) hn
    have b_o := (b_o.bs hn1).nc hn
    have b_g := (b_g.bs hn1).nc hn
    have b_i := (b_i.bs hn1).nc hn
    have b_to := b_to.nc hn
    clear hK1 hn1 zu hn hz
    have b_s := b_s.bl hK (by omega)
    have hBw := hB.trans (hK.mono (by omega))
    have zK := hK.size
    have ci : 0 ≤ spc S i ∧ spc S i < S.getD 0 default := spc_in okS lS (by omega)
    have yi : 0 ≤ spy S i ∧ spy S i < S.getD 1 default := ⟨Int.emod_nonneg _ (by omega), Int.emod_lt_of_pos _ (by omega)⟩
    have xi2 : 0 ≤ spx S i ∧ spx S i < S.getD 2 default := ⟨Int.emod_nonneg _ (by omega), Int.emod_lt_of_pos _ (by omega)⟩
    have my : 0 ≤ spy S i * (m : Int) ∧ spy S i * (m : Int) ≤ 64 * 64 := ⟨Int.mul_nonneg yi.1 (by omega), Int.mul_le_mul (by omega) okw.2 (by omega) (by decide)⟩
    have mx' : 0 ≤ spx S i * (m : Int) ∧ spx S i * (m : Int) ≤ 64 * 64 := ⟨Int.mul_nonneg xi2.1 (by omega), Int.mul_le_mul (by omega) okw.2 (by omega) (by decide)⟩
    have tl : (spc S i + 1) * (t.s.getD 1 default * t.s.getD 2 default) ≤ t.l.length := by
      rw [ok.tl]
      exact Int.mul_le_mul_of_nonneg_right (by omega) (Int.mul_nonneg (by omega) (by omega))
    have h_ty := (h_t0.bs hBw).2
    have hob : ∀ b, ov.ownBlock = some b → B1 ≤ b ∧ b < w.heap.size := fun b e => own_block ho b e
    refine Cg.block ?_
    refine Cg.seq ?_
    refine Cg.region (by kernel_rfl) ?_
    refine Lw.val (Ex.ldB (ag_65 _) rfl (by assumption) rfl) rfl ?_
    refine Lw.val (Ex.fieldAddr (q := 0) Tryz.underlying72 rfl (sz_3 _) rfl) rfl ?_
    refine Lw.val (Ex.ldB (ag_3 _) rfl (by assumption) rfl) rfl ?_
    refine Lw.val (Ex.fieldAddr (q := 0) Tryz.underlying72 rfl (sz_3 _) rfl) rfl ?_
    refine Lw.val (Ex.ldB (ag_3 _) rfl (by assumption) rfl) rfl ?_
    refine Lw.val (Ex.ldB (ag_3 _) rfl (by assumption) rfl) rfl ?_
    refine Lw.val (Ex.mulI rfl rfl (by omega)) rfl ?_
    refine Lw.val (Ex.fieldAddr (q := 0) Tryz.underlying72 rfl (sz_3 _) rfl) rfl ?_
    refine Lw.val (Ex.ldB (ag_3 _) rfl (by assumption) rfl) rfl ?_
    refine Lw.val (Ex.ldB (ag_3 _) rfl (by assumption) rfl) rfl ?_
    refine Lw.val (Ex.mulI rfl rfl (by omega)) rfl ?_
    refine Lw.callV (p := [picV t]) (q := []) rfl rfl rfl (at_c t (spc S i) (spy S i * (m : Int)) (spx S i * (m : Int)) _ h_ty (by omega) (by omega) (by omega) (by omega) (by omega) tl) ?_
    rintro _ w ⟨rfl, hn⟩
    replace ho := ho.bs hn
    replace b_o := b_o.bs hn
    replace b_g := b_g.bs hn
    replace b_i := b_i.bs hn
    replace b_to := b_to.bs hn
    replace b_s := b_s.bs hn
    replace h_ty := h_ty.bs hn
    have hK6 := hK.trans (hn.mono (by omega))
    have hKf := (KeepsFrom.refl w0.heap.size _).bs hn
    have hN1 := hn
    clear hn
    rw [show pic t.l (t.s.getD 1 default) (t.s.getD 2 default) (spc S i) (spy S i * (m : Int)) (spx S i * (m : Int)) = mx (pooF t.l t.s S m i) (pooF t.l t.s S m i 0) 0 by simp [mx, pooF]]
    refine Lw.val (Ex.assign rfl) rfl ?_
    refine Lw.nil (Pg.low ?_)
    refine Pg.thenN (Cg.out ?_)
    refine Cg.seq ?_
    refine Cg.seq ?_
    refine Cg.region (by kernel_rfl) ?_
    refine Lw.val (Ex.ldB (ag_3 _) rfl (by assumption) rfl) rfl ?_
    refine Lw.val (Ex.ldB (ag_3 _) rfl (by assumption) rfl) rfl ?_
    refine Lw.val (Ex.mulI rfl rfl (by omega)) rfl ?_
    refine Lw.val (Ex.move rfl) rfl ?_
    refine Lw.nil (Pg.low ?_)
    refine Pg.thenN (Cg.out ?_)
    refine Cg.block ?_
    rename World => w8
    refine Cg.loop (S := Nat) (fun k => [(3, .pointer (some ⟨A_s, 0, none⟩)), (8, .pointer (some ⟨A_o, 0, none⟩)), (9, .pointer (some ⟨A_g, 0, none⟩)), (10, .pointer (some ⟨A_to, 0, none⟩)), (11, i32 (mx (pooF t.l t.s S m i) (pooF t.l t.s S m i 0) k)), (51, .int .i64 ((m : Int) * (m : Int))), (52, .int .i64 (k : Int))]) (fun k w' => k ≤ m * m ∧ Below w8.heap.size w8 w') (fun k => m * m - k) (0) ⟨rfl, rfl, rfl, rfl, rfl, rfl, rfl, trivial⟩ ?_ ?_
    · exact ⟨Nat.zero_le _, Below.refl _ _⟩
    rintro k w ⟨hk, hn⟩
    have mmc : ((m * m : Nat) : Int) = (m : Int) * (m : Int) := Int.natCast_mul m m
    refine Cg.seq ?_
    refine Cg.region (by kernel_rfl) ?_
    refine Lw.val (Ex.lss rfl rfl) rfl ?_
    refine Lw.nil (Pg.low ?_)
    refine Pg.thenN (Cg.out ?_)
    refine Cg.seq ?_
    refine Cg.cond rfl ?_ ?_
    · intro h
      have hk' : k < m * m := by have := of_decide_eq_true h; omega
      have km : (0 : Int) ≤ ((k / m : Nat) : Int) ∧ ((k / m : Nat) : Int) < m := ⟨Int.natCast_nonneg _, by have := Nat.div_lt_of_lt_mul hk'; exact_mod_cast this⟩
      have kr : (0 : Int) ≤ ((k % m : Nat) : Int) ∧ ((k % m : Nat) : Int) < m := ⟨Int.natCast_nonneg _, by have := Nat.mod_lt k (show 0 < m by omega); exact_mod_cast this⟩
      obtain ⟨kd, hkd⟩ : ∃ d : Nat, d = k / m := ⟨_, rfl⟩
      obtain ⟨ke, hke⟩ : ∃ d : Nat, d = k % m := ⟨_, rfl⟩
      rw [← hkd] at km
      rw [← hke] at kr
      have eF : pic t.l (t.s.getD 1 default) (t.s.getD 2 default) (spc S i) (spy S i * (m : Int) + (kd : Int)) (spx S i * (m : Int) + (ke : Int)) = pooF t.l t.s S m i k := by rw [hkd, hke]; rfl
      replace ho := ho.bs hn
      replace b_o := b_o.bs hn
      replace b_g := b_g.bs hn
      replace b_i := b_i.bs hn
      replace b_to := b_to.bs hn
      replace b_s := b_s.bs hn
      replace h_ty := h_ty.bs hn
      refine Cg.skip ?_
      refine Pg.thenN (Cg.out ?_)
      refine Cg.seq ?_
      refine Cg.block ?_
      refine Cg.seq ?_
      refine Cg.region (by kernel_rfl) ?_
      refine Lw.val (Ex.move rfl) rfl ?_
      refine Lw.val (Ex.assign rfl) rfl ?_
      refine Lw.nil (Pg.low ?_)
      refine Pg.thenN (Cg.out ?_)
      refine Cg.quiet mixed (by kernel_rfl) (by kernel_rfl) ?_
      refine Qw.val (fun w1 hq => Ex.move rfl) rfl ?_
      refine Qw.val (fun w1 hq => Ex.ldB (ag_65 _) rfl (Blk.bs (by assumption) hq) rfl) rfl ?_
      refine Qw.val (fun w1 hq => Ex.fieldAddr (q := 0) Tryz.underlying72 rfl (sz_3 _) rfl) rfl ?_
      refine Qw.val (fun w1 hq => Ex.ldB (ag_3 _) rfl (Blk.bs (by assumption) hq) rfl) rfl ?_
      refine Qw.val (fun w1 hq => Ex.fieldAddr (q := 0) Tryz.underlying72 rfl (sz_3 _) rfl) rfl ?_
      refine Qw.val (fun w1 hq => Ex.ldB (ag_3 _) rfl (Blk.bs (by assumption) hq) rfl) rfl ?_
      refine Qw.val (fun w1 hq => Ex.ldB (ag_3 _) rfl (Blk.bs (by assumption) hq) rfl) rfl ?_
      refine Qw.val (fun w1 hq => Ex.mulI rfl rfl (by omega)) rfl ?_
      refine Qw.val (fun w1 hq => Ex.move rfl) rfl ?_
      refine Qw.val (fun w1 hq => Ex.ldB (ag_3 _) rfl (Blk.bs (by assumption) hq) rfl) rfl ?_
      refine Qw.val (fun w1 hq => (Ex.quoI rfl rfl (by omega) (by omega)).as (congrArg (Value.int .i64) (show (k : Int) / (m : Int) = (kd : Int) by rw [hkd]; rfl))) rfl ?_
      refine Qw.val (fun w1 hq => Ex.addI rfl rfl (by omega)) rfl ?_
      refine Qw.val (fun w1 hq => Ex.fieldAddr (q := 0) Tryz.underlying72 rfl (sz_3 _) rfl) rfl ?_
      refine Qw.val (fun w1 hq => Ex.ldB (ag_3 _) rfl (Blk.bs (by assumption) hq) rfl) rfl ?_
      refine Qw.val (fun w1 hq => Ex.ldB (ag_3 _) rfl (Blk.bs (by assumption) hq) rfl) rfl ?_
      refine Qw.val (fun w1 hq => Ex.mulI rfl rfl (by omega)) rfl ?_
      refine Qw.val (fun w1 hq => Ex.move rfl) rfl ?_
      refine Qw.val (fun w1 hq => Ex.ldB (ag_3 _) rfl (Blk.bs (by assumption) hq) rfl) rfl ?_
      refine Qw.val (fun w1 hq => (Ex.remI rfl rfl (by omega) (by omega)).as (congrArg (Value.int .i64) (show (k : Int) % (m : Int) = (ke : Int) by rw [hke]; rfl))) rfl ?_
      refine Qw.val (fun w1 hq => Ex.addI rfl rfl (by omega)) rfl ?_
      refine Qw.callV (p := [picV t]) (q := []) rfl rfl rfl (fun w1 hq => (at_c t (spc S i) (spy S i * (m : Int) + (kd : Int)) (spx S i * (m : Int) + (ke : Int)) w1 (Sl.bs h_ty hq) (by omega) (by omega) (by omega) (by omega) (by omega) tl).q hq) ?_
      refine Qw.val (fun w1 hq => (Ex.max2 rfl rfl).as (congrArg (Value.int .i32) (smax_int _ _).symm)) rfl ?_
      refine Qw.val (fun w1 hq => Ex.assign rfl) rfl ?_
      refine Qw.nil (fun w9 hq => (Pg.low ?_))
      refine Pg.blkN ?_
      refine Pg.thenN (Cg.out ?_)
      refine Cg.region (by kernel_rfl) ?_
      refine Lw.val (Ex.addI rfl rfl (by omega)) rfl ?_
      refine Lw.val (Ex.move rfl) rfl ?_
      refine Lw.nil (Pg.low ?_)
      exact Pg.thenN (Pg.next (k + 1) ⟨rfl, rfl, rfl, rfl, congrArg (fun z => some (i32 (smax _ z))) eF, rfl, rfl, trivial⟩ (⟨hk', bt hn hq⟩) (by omega))
    intro h
    have hk' : k = m * m := by have := of_decide_eq_false h; omega
    subst hk'
    replace ho := ho.bs hn
    replace b_o := b_o.bs hn
    replace b_g := b_g.bs hn
    replace b_i := b_i.bs hn
    replace b_to := b_to.bs hn
    replace b_s := b_s.bs hn
    replace h_ty := h_ty.bs hn
    have hKf := hKf.bs hn
    have zu := hN1.size
    have zn := hn.size
    have hK7 := hK6.trans (hn.mono (by omega))
    have lM : pre.length < 4096 := by omega
    refine Cg.exit ?_
    refine Pg.thenE ?_
    refine Pg.thenE ?_
    refine Pg.blkHit ?_
    refine Pg.thenN (Cg.out ?_)
    refine Cg.region (by kernel_rfl) ?_
    refine Lw.val (Ex.ldB (ag_23 _) rfl (by assumption) rfl) rfl ?_
    refine Lw.val (Ex.move rfl) rfl ?_
    refine Lw.valW (Xw.lit (vs := [pooV t.l t.s S m i].map i32) st_23 it_21 rfl rfl rfl rfl rfl) rfl ?_
    rintro z w5 ⟨hz, -, hn5, -⟩
    have b_o := b_o.bs hn5
    have b_g := b_g.bs hn5
    have b_i := b_i.bs hn5
    have ho := own_bs ho hn5
    have z5 := hn5.size
    refine Lw.valW (Xw.append (base := B1) st_23 it_21 rfl (by decide) rfl rfl ho (own_sl hz) (one_map (fun _ => rfl) _) (by omega) (by omega) (by omega)) rfl ?_
    rintro ov2 w6 ⟨ho6, hb6, hg6⟩
    rw [← List.map_append, ← List.map_singleton (f := pooV t.l t.s S m), ← List.map_append] at ho6
    have hne : ∀ {A T : Nat} {cs : List Value}, Blk w5 A T cs → 21 ≠ T → some A ≠ ov.ownBlock := fun h e => blk_own_ne ho h e
    have b_o6 := b_o.by hg6 (hne b_o (by decide))
    have b_g := b_g.by hg6 (hne b_g (by decide))
    have b_i6 := b_i.by hg6 (hne b_i (by decide))
    have hK6 : Below B1 w0 w6 := (hK7.trans (hn5.mono (by omega))).trans hb6
    refine Lw.unit (Xu.stB (u := ov2) (sz_23 _) rfl rfl (own_sl ho6).one' b_o6 Nat.zero_lt_one) ?_
    rintro w7 ⟨b_o7, hg7, -⟩
    have ho7 := own_apart ho6 b_o6 (by decide) hg7
    have b_g := b_g.by hg7 (fun e => blk_ne b_g b_o6 (by decide) (Option.some.inj e))
    have b_i7 := b_i6.by hg7 (fun e => blk_ne b_i6 b_o6 (by decide) (Option.some.inj e))
    have hK7 := hK6.grown hg7 (Nat.le_trans zB1 hK6.size) (by rintro _ ⟨⟩; omega)
    have el : (pre ++ [i]).length = pre.length + 1 := by simp
    refine Lw.nil (Pg.low ?_)
    refine Pg.blkN ?_
    exact Pg.rnd (((hKf.bs hn5).own ho hg6).blk b_o6 hg7) (((((Kp.refl.bs hN1).bs hn).bs hn5).grown hg6 (fun b e h => h.elim (fun h => hne b_i (by decide) (by rw [← h, e])) (fun h => by have := hxl b h; have := hob b e; omega))).grown hg7 (fun b e h => by cases e; exact h.elim (fun h => blk_ne b_i6 b_o6 (by decide) h.symm) (fun h => by have := hxl A_o h; omega))) (⟨⟨ov2, b_o7, by rw [el]; exact ho7⟩, b_g, b_i7, hK7⟩)
  rintro d w hd ⟨⟨ov, b_o, ho⟩, b_g, b_i, hK⟩ hD
  have eM : (List.range (Shapes.size S).toNat).length = M := by rw [List.length_range]; exact hM.symm
  have hx := own_heap hx (fun k e => hK.block k (by have := hxl k e; omega))
  have b_r := b_r.bl hK (by omega)
  have hB := hB.trans (hK.mono (by omega))
  have zK := hK.size
  have eL : (List.range (Shapes.size S).toNat).map (pooV t.l t.s S m) = wpoL t (m : Int) := by unfold wpoL pooL; rw [← hS, Int.toNat_natCast]
  rw [eL] at ho
  rw [List.length_range] at ho
  have lL : (wpoL t (m : Int)).length = (Shapes.size S).toNat := by rw [← eL]; simp
  rw [← lL] at ho
  have hox := own_block ho
  refine Pg.blkN ?_
  refine Pg.thenN (Cg.out ?_)
  refine Cg.seq ?_
  refine Cg.region (by kernel_rfl) ?_
  refine Lw.val (Ex.move rfl) rfl ?_
  refine Lw.val (Ex.ldB (ag_23 _) rfl (by assumption) rfl) rfl ?_
  refine Lw.val (Ex.build (vs := [(0, x), (1, ov)]) (cs := [x, ov]) rfl (bt_ten _ _ (own_slT hx).one (own_slT ho).one)) rfl ?_
  refine Lw.unit (Xu.stA (cs := [x, ov]) rfl rfl rfl rfl (by simp [(own_slT hx).one', (own_slT ho).one']) b_r rfl) ?_
  rintro w4 ⟨b_r4, hg, hz4⟩
  have hD := (hg.block d (Array.getElem?_eq_some_iff.1 hD).1 (by intro e; cases e; omega)).trans hD
  have hB := hB.grown hg (by omega) (by rintro _ ⟨⟩; omega)
  have ho := own_heap ho (fun k e => hg.block k (own_block ho k e).2 (by intro e2; have := hox k e; cases e2; omega))
  have hx := own_heap hx (fun k e => hg.block k (own_block hx k e).2 (by intro e2; cases e2; have := own_block hx _ e; omega))
  have zB := below_size hB
  refine Lw.val (Ex.assign rfl) rfl ?_
  refine Lw.nil (Pg.low ?_)
  refine Pg.thenN (Cg.out ?_)
  refine Cg.ret ?_
  refine Pg.close (hD) (fun w hn _ => ?_)
  have b_r := b_r4.nc hn
  have ho := own_nc ho hn
  have hx := own_nc hx hn
  have hB := hB.nc hn (by omega) (Nat.le_refl _)
  refine Pw.retCT rfl rfl rfl (by assumption) (Tryz.underlying25) rfl rfl rfl ?_
  exact ⟨hB, x, ov, rfl, fun h => absurd rfl h, fun _ => ⟨.inl (own_mono hx (by omega)), own_mono ho (by omega), fun k e1 e2 => by have := hox k e1; have := hxl k e2; omega⟩⟩
theorem wpo_c (t : T4) (wide : Int) (W : World) (h_t : t.at W) : Fnc Tryz.prog 7 [t.v, .int .i64 wide] W (fun r w' => Below W.heap.size W w' ∧ Gets W w' r (wpoE t wide) (pshS t.s wide) (wpoL t wide)) :=
  (wpo0_c t wide W h_t).mono fun _ _ ⟨h1, h2⟩ => ⟨h1, h2.gets⟩
end Go.Proofs.YtgjpjpdmkeifeaaGreatDoor
