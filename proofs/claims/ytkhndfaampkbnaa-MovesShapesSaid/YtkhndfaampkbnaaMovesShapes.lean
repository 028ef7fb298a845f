/- The same numbers in another shape: refused, or just these numbers, and back again: for any tensor, any shape; no condition. -/
import Derived.Test.YtkhndfaampkbnaaMovesLaw
import Derived.Test.YtkhndfaampkbnaaTensorsArg
namespace Go.Proofs.Ytkhndfaampkbnaa
open Go Go.Dd Go.RowKit Go.ChangeShapes Go.WideShapes Go.ChangeAt

theorem mvE_cases (t : T4) (s : List Int) : mvE t s = 0 ∨ mvE t s = 1 ∨ mvE t s = 10 := by unfold mvE; split <;> (try split) <;> simp
theorem mvE_ok {t : T4} {s : List Int} (h : mvE t s = 0) : tok t.s t.l = true ∧ Shapes.ok s = true ∧ Shapes.size s = (t.l.length : Int) := by
  unfold mvE at h
  cases k1 : tok t.s t.l <;> cases k2 : Shapes.ok s <;> simp [k1, k2] at h ⊢
  exact h
theorem mvE_back {t c : T4} {s : List Int} (h : mvE t s = 0) (hs : c.s = s) (hl : c.l = t.l) : mvE c t.s = 0 := by
  obtain ⟨k1, k2, k3⟩ := mvE_ok h
  obtain ⟨o1, o2⟩ := tok_ok k1
  have := Shapes.size_le t.s
  unfold mvE
  rw [hs, hl, o1, show tok s t.l = true by unfold tok; rw [k2, decide_eq_true k3.symm]; rfl]
  simp; omega
theorem movesShapes_w (t : T4) (u : Value) (s : List Int) (W : World) (h_t : t.at W) (h_u : SlT (Value.int .i64) W u s) (f : few t) :
    Fnc Try.prog 3 [t.v, u] W (fun r w' => r = .bool true ∧ Below W.heap.size W w') := by
  have hB := Below.refl W.heap.size W
  refine Fnc.enter (n := 68) Try.func3 (by kernel_rfl) rfl rfl rfl ?_
  refine Cw.seq ?_
  refine Cw.region ?_
  refine Lw.boxV (cs := [t.x, t.y]) rfl rfl rfl ?_
  rintro A_t w eA_t b_t hn -
  replace hB := hB.bs hn
  replace h_t := h_t.bs hn
  replace h_u := h_u.bs hn
  clear hn
  refine Lw.val (Ex.assign rfl) rfl ?_
  refine Lw.nil ?_
  refine Pw.thenN (Cw.out ?_)
  refine Cw.seq ?_
  refine Cw.seq ?_
  refine Cw.region ?_
  refine Lw.callF rfl rfl (alive_c _) ?_
  rintro _ w ⟨rfl, hn⟩
  replace hB := hB.bs hn
  replace h_t := h_t.bs hn
  replace h_u := h_u.bs hn
  replace b_t := b_t.bs hn
  clear hn
  refine Lw.val (Ex.not rfl) rfl ?_
  refine Lw.val (Ex.move rfl) rfl ?_
  refine Lw.know 12 (v' := .bool false) rfl (congrArg Value.bool (rfl)) ?_
  refine Lw.take (dj := 12) rfl rfl ?_
  refine Lw.val (Ex.ldA (ag_25 _) (sz_25 _) rfl rfl (by assumption)) rfl ?_
  refine Lw.take (dj := 12) rfl rfl ?_
  refine Lw.callF rfl rfl (small_c t _ h_t f) ?_
  rintro _ w ⟨rfl, hn⟩
  replace hB := hB.bs hn
  replace h_t := h_t.bs hn
  replace h_u := h_u.bs hn
  replace b_t := b_t.bs hn
  clear hn
  refine Lw.take (dj := 12) rfl rfl ?_
  refine Lw.val (Ex.not rfl) rfl ?_
  refine Lw.val (Ex.pickF rfl rfl) rfl ?_
  refine Lw.val (Ex.move rfl) rfl ?_
  refine Lw.part 17 rfl ?_ ?_
  · intro _
    refine Lw.pass (dj := 17) rfl rfl rfl rfl ?_
    refine Lw.pass (dj := 17) rfl rfl rfl rfl ?_
    refine Lw.pass (dj := 17) rfl rfl rfl rfl ?_
    refine Lw.val (Ex.pickT rfl rfl) rfl ?_
    refine Lw.nil ?_
    refine Pw.thenN (Cw.out ?_)
    refine Cw.condT rfl ?_
    refine Cw.seq ?_
    refine Cw.region ?_
    refine Lw.callF rfl rfl (alive_c _) ?_
    rintro _ w ⟨rfl, hn⟩
    replace hB := hB.bs hn
    replace h_t := h_t.bs hn
    replace h_u := h_u.bs hn
    replace b_t := b_t.bs hn
    clear hn
    refine Lw.val (Ex.assign rfl) rfl ?_
    refine Lw.nil ?_
    refine Pw.thenN (Cw.out ?_)
    refine Cw.ret ?_
    refine Pw.thenR ?_
    refine Pw.ret1 rfl rfl ?_
    exact ⟨rfl, hB⟩
  intro g1
  have k_t : tok t.s t.l = true := (sml_ok (by simpa using g1)).1
  clear g1
  refine Lw.take (dj := 17) rfl rfl ?_
  refine Lw.val (Ex.move rfl) rfl ?_
  refine Lw.take (dj := 17) rfl rfl ?_
  refine Lw.val (Ex.lenS st_22 rfl (by assumption)) rfl ?_
  refine Lw.take (dj := 17) rfl rfl ?_
  refine Lw.val (Ex.gtr rfl rfl) rfl ?_
  refine Lw.val (Ex.pickF rfl rfl) rfl ?_
  refine Lw.nil ?_
  refine Pw.thenN (Cw.out ?_)
  refine Cw.cond rfl ?_ ?_
  · intro _
    refine Cw.seq ?_
    refine Cw.region ?_
    refine Lw.callF rfl rfl (alive_c _) ?_
    rintro _ w ⟨rfl, hn⟩
    replace hB := hB.bs hn
    replace h_t := h_t.bs hn
    replace h_u := h_u.bs hn
    replace b_t := b_t.bs hn
    clear hn
    refine Lw.val (Ex.assign rfl) rfl ?_
    refine Lw.nil ?_
    refine Pw.thenN (Cw.out ?_)
    refine Cw.ret ?_
    refine Pw.thenR ?_
    refine Pw.ret1 rfl rfl ?_
    exact ⟨rfl, hB⟩
  intro _
  have h_t1 := h_t.1
  have h_t2 := h_t.2
  refine Cw.skip ?_
  refine Pw.thenN (Cw.out ?_)
  refine Cw.seq ?_
  refine Cw.region ?_
  refine Lw.val (Ex.ldA (ag_25 _) (sz_25 _) rfl rfl (by assumption)) rfl ?_
  refine Lw.val (Ex.move rfl) rfl ?_
  refine Lw.callF rfl rfl (mshape_g t u s _ h_t h_u) ?_
  rintro r w ⟨hn, x, rfl, h_x, n_x, z_x⟩
  replace hB := hB.bs hn
  replace h_t := h_t.bs hn
  replace h_u := h_u.bs hn
  replace b_t := b_t.bs hn
  replace h_t1 := h_t1.bs hn
  replace h_t2 := h_t2.bs hn
  clear hn
  refine Lw.val (Ex.move rfl) rfl ?_
  refine Lw.val (Ex.extract (i := 0) rfl rfl) rfl ?_
  refine Lw.val (Ex.extract (i := 1) rfl rfl) rfl ?_
  have h_x1 := h_x.1
  have h_x2 := h_x.2
  refine Lw.boxed (cs := [x.x, x.y]) it_25 rfl rfl rfl rfl (fun _ => rfl) (h_x.one) ?_
  rintro A_x w eA_x b_x hn -
  replace hB := hB.bs hn
  replace h_t := h_t.bs hn
  replace h_u := h_u.bs hn
  replace b_t := b_t.bs hn
  replace h_t1 := h_t1.bs hn
  replace h_t2 := h_t2.bs hn
  replace h_x := h_x.bs hn
  replace h_x1 := h_x1.bs hn
  replace h_x2 := h_x2.bs hn
  clear hn
  refine Lw.val (Ex.assign rfl) rfl ?_
  refine Lw.nil ?_
  refine Pw.thenN (Cw.out ?_)
  refine Cw.seq ?_
  refine Cw.seq ?_
  refine Cw.region ?_
  refine Lw.val (Ex.move rfl) rfl ?_
  refine Lw.val (Ex.neq rfl rfl) rfl ?_
  refine Lw.nil ?_
  refine Pw.thenN (Cw.out ?_)
  obtain ⟨E, hE⟩ : ∃ E, E = mvE t s := ⟨_, rfl⟩
  rw [← hE] at z_x n_x ⊢
  refine Cw.cond rfl ?_ ?_
  · intro g
    have g : E ≠ 0 := by simpa using g
    have l_x : x.l = [] := (n_x g).2
    refine Cw.seq ?_
    refine Cw.region ?_
    refine Lw.val (Ex.move rfl) rfl ?_
    refine Lw.val (Ex.eql rfl rfl) rfl ?_
    refine Lw.val (Ex.move rfl) rfl ?_
    refine Lw.part 33 rfl ?_ ?_
    · intro g2
      refine Lw.pass (dj := 33) rfl rfl rfl rfl ?_
      refine Lw.pass (dj := 33) rfl rfl rfl rfl ?_
      refine Lw.val (Ex.pickT rfl rfl) rfl ?_
      refine Lw.val (Ex.move rfl) rfl ?_
      refine Lw.take (dj := 37) rfl rfl ?_
      refine Lw.val (Ex.fieldAddr (q := 0) Try.underlying25 rfl (sz_23 _) rfl) rfl ?_
      refine Lw.take (dj := 37) rfl rfl ?_
      refine Lw.val (Ex.ldB (ag_23 _) rfl (by assumption) rfl) rfl ?_
      refine Lw.take (dj := 37) rfl rfl ?_
      refine Lw.val (Ex.lenS st_23 rfl (by assumption)) rfl ?_
      refine Lw.take (dj := 37) rfl rfl ?_
      refine Lw.val (Ex.eql rfl rfl) rfl ?_
      refine Lw.val (Ex.pickT rfl rfl) rfl ?_
      refine Lw.val (Ex.assign rfl) rfl ?_
      refine Lw.nil ?_
      refine Pw.thenN (Cw.out ?_)
      refine Cw.ret ?_
      refine Pw.thenR ?_
      refine Pw.ret1 rfl rfl ?_
      exact ⟨by simp [l_x], hB⟩
    intro g2
    have g2 : E ≠ 1 := by simpa using g2
    have g3 : E = 10 := by
      rcases mvE_cases t s with h | h | h <;> omega
    refine Lw.take (dj := 33) rfl rfl ?_
    refine Lw.val (Ex.move rfl) rfl ?_
    refine Lw.take (dj := 33) rfl rfl ?_
    refine Lw.val (Ex.eql rfl rfl) rfl ?_
    refine Lw.val (Ex.pickF rfl rfl) rfl ?_
    refine Lw.val (Ex.move rfl) rfl ?_
    refine Lw.know 37 (v' := .bool true) rfl (congrArg Value.bool ((decide_eq_true g3))) ?_
    refine Lw.take (dj := 37) rfl rfl ?_
    refine Lw.val (Ex.fieldAddr (q := 0) Try.underlying25 rfl (sz_23 _) rfl) rfl ?_
    refine Lw.take (dj := 37) rfl rfl ?_
    refine Lw.val (Ex.ldB (ag_23 _) rfl (by assumption) rfl) rfl ?_
    refine Lw.take (dj := 37) rfl rfl ?_
    refine Lw.val (Ex.lenS st_23 rfl (by assumption)) rfl ?_
    refine Lw.take (dj := 37) rfl rfl ?_
    refine Lw.val (Ex.eql rfl rfl) rfl ?_
    refine Lw.val (Ex.pickT rfl rfl) rfl ?_
    refine Lw.val (Ex.assign rfl) rfl ?_
    refine Lw.nil ?_
    refine Pw.thenN (Cw.out ?_)
    refine Cw.ret ?_
    refine Pw.thenR ?_
    refine Pw.ret1 rfl rfl ?_
    exact ⟨by simp [l_x], hB⟩
  intro g
  have g : E = 0 := by simpa using g
  obtain ⟨s_x, l_x⟩ := z_x g
  have e_y := mvE_back (hE.symm.trans g) s_x l_x
  refine Cw.skip ?_
  refine Pw.thenN (Cw.out ?_)
  refine Cw.seq ?_
  refine Cw.region ?_
  refine Lw.val (Ex.ldA (ag_25 _) (sz_25 _) rfl rfl (by assumption)) rfl ?_
  refine Lw.val (Ex.fieldAddr (q := 0) Try.underlying25 rfl (sz_22 _) rfl) rfl ?_
  refine Lw.val (Ex.ldB (ag_22 _) rfl (by assumption) rfl) rfl ?_
  refine Lw.callF rfl rfl (mshape_g x t.x t.s _ h_x h_t1) ?_
  rintro r w ⟨hn, y, rfl, h_y, -, z_y⟩
  rw [e_y]
  obtain ⟨s_y, l_y⟩ := z_y e_y
  replace hB := hB.bs hn
  replace h_t := h_t.bs hn
  replace h_u := h_u.bs hn
  replace b_t := b_t.bs hn
  replace h_t1 := h_t1.bs hn
  replace h_t2 := h_t2.bs hn
  replace h_x := h_x.bs hn
  replace h_x1 := h_x1.bs hn
  replace h_x2 := h_x2.bs hn
  replace b_x := b_x.bs hn
  clear hn
  refine Lw.val (Ex.move rfl) rfl ?_
  refine Lw.val (Ex.extract (i := 0) rfl rfl) rfl ?_
  refine Lw.val (Ex.extract (i := 1) rfl rfl) rfl ?_
  refine Lw.boxed (cs := [y.x, y.y]) it_25 rfl rfl rfl rfl (fun _ => rfl) (h_y.one) ?_
  rintro A_y w eA_y b_y hn -
  replace hB := hB.bs hn
  replace h_t := h_t.bs hn
  replace h_u := h_u.bs hn
  replace b_t := b_t.bs hn
  replace h_t1 := h_t1.bs hn
  replace h_t2 := h_t2.bs hn
  replace h_x := h_x.bs hn
  replace h_x1 := h_x1.bs hn
  replace h_x2 := h_x2.bs hn
  replace b_x := b_x.bs hn
  replace h_y := h_y.bs hn
  clear hn
  refine Lw.val (Ex.assign rfl) rfl ?_
  refine Lw.nil ?_
  refine Pw.thenN (Cw.out ?_)
  refine Cw.seq ?_
  refine Cw.region ?_
  refine Lw.val (Ex.fieldAddr (q := 0) Try.underlying25 rfl (sz_23 _) rfl) rfl ?_
  refine Lw.val (Ex.ldB (ag_23 _) rfl (by assumption) rfl) rfl ?_
  refine Lw.val (Ex.fieldAddr (q := 0) Try.underlying25 rfl (sz_23 _) rfl) rfl ?_
  refine Lw.val (Ex.ldB (ag_23 _) rfl (by assumption) rfl) rfl ?_
  refine Lw.callF rfl rfl (sameNumbers_c x.y t.y _ _ _ h_x2 h_t2) ?_
  rintro _ w ⟨rfl, hn⟩
  replace hB := hB.bs hn
  replace h_t := h_t.bs hn
  replace h_u := h_u.bs hn
  replace b_t := b_t.bs hn
  replace h_t1 := h_t1.bs hn
  replace h_t2 := h_t2.bs hn
  replace h_x := h_x.bs hn
  replace h_x1 := h_x1.bs hn
  replace h_x2 := h_x2.bs hn
  replace b_x := b_x.bs hn
  replace h_y := h_y.bs hn
  replace b_y := b_y.bs hn
  clear hn
  refine Lw.val (Ex.move rfl) rfl ?_
  refine Lw.know 55 (v' := .bool true) rfl (congrArg Value.bool ((decide_eq_true l_x))) ?_
  refine Lw.take (dj := 55) rfl rfl ?_
  refine Lw.val (Ex.fieldAddr (q := 0) Try.underlying25 rfl (sz_22 _) rfl) rfl ?_
  refine Lw.take (dj := 55) rfl rfl ?_
  refine Lw.val (Ex.ldB (ag_22 _) rfl (by assumption) rfl) rfl ?_
  refine Lw.take (dj := 55) rfl rfl ?_
  refine Lw.val (Ex.move rfl) rfl ?_
  refine Lw.take (dj := 55) rfl rfl ?_
  refine Lw.callF rfl rfl (sameInts_c x.x u _ _ _ h_x1 h_u) ?_
  rintro _ w ⟨rfl, hn⟩
  replace hB := hB.bs hn
  replace h_t := h_t.bs hn
  replace h_u := h_u.bs hn
  replace b_t := b_t.bs hn
  replace h_t1 := h_t1.bs hn
  replace h_t2 := h_t2.bs hn
  replace h_x := h_x.bs hn
  replace h_x1 := h_x1.bs hn
  replace h_x2 := h_x2.bs hn
  replace b_x := b_x.bs hn
  replace h_y := h_y.bs hn
  replace b_y := b_y.bs hn
  clear hn
  refine Lw.val (Ex.pickT rfl rfl) rfl ?_
  refine Lw.val (Ex.assign rfl) rfl ?_
  refine Lw.nil ?_
  refine Pw.thenN (Cw.out ?_)
  refine Cw.seq ?_
  refine Cw.region ?_
  refine Lw.val (Ex.move rfl) rfl ?_
  refine Lw.val (Ex.move rfl) rfl ?_
  refine Lw.know 62 (v' := .bool true) rfl (congrArg Value.bool ((decide_eq_true s_x))) ?_
  refine Lw.take (dj := 62) rfl rfl ?_
  refine Lw.val (Ex.ldA (ag_25 _) (sz_25 _) rfl rfl (by assumption)) rfl ?_
  refine Lw.take (dj := 62) rfl rfl ?_
  refine Lw.val (Ex.move rfl) rfl ?_
  refine Lw.take (dj := 62) rfl rfl ?_
  refine Lw.val (Ex.ldA (ag_25 _) (sz_25 _) rfl rfl (by assumption)) rfl ?_
  refine Lw.take (dj := 62) rfl rfl ?_
  refine Lw.callF rfl rfl (is9_c y 0 t _ h_y h_t) ?_
  rintro _ w ⟨rfl, hn⟩
  replace hB := hB.bs hn
  replace h_t := h_t.bs hn
  replace h_u := h_u.bs hn
  replace b_t := b_t.bs hn
  replace h_t1 := h_t1.bs hn
  replace h_t2 := h_t2.bs hn
  replace h_x := h_x.bs hn
  replace h_x1 := h_x1.bs hn
  replace h_x2 := h_x2.bs hn
  replace b_x := b_x.bs hn
  replace h_y := h_y.bs hn
  replace b_y := b_y.bs hn
  clear hn
  refine Lw.val (Ex.pickT rfl rfl) rfl ?_
  refine Lw.val (Ex.assign rfl) rfl ?_
  refine Lw.nil ?_
  refine Pw.thenN (Cw.out ?_)
  refine Cw.ret ?_
  refine Pw.ret1 rfl rfl ?_
  exact ⟨by simp [s_y, l_y, l_x], hB⟩
set_option maxRecDepth 100000 in
set_option maxHeartbeats 2000000 in
theorem movesShapes_lifted (os : Os) (started : os.Started) (H : Type) (enc : TypeId × Value → H) :
    ReturnsInHanded {} Try.checked os 3 .any (Rows.movesShapesSpec.pre6 enc Try.prog Try.f3 Rows.movesShapesRow.domain false) (Rows.movesShapesSpec.post enc Try.prog Try.f3 false true false false) := by
  refine returnsInHanded_of_change_sized (C := Try.checked) own started (by kernel_rfl) Try.func3
    (ChangeSpec.witness6 (enc := enc) (C := Try.checked) false ⟨#[], #[.agg #[.slice none 0 0, .slice none 0 0], .slice none 0 0], []⟩ 8 (by kernel_rfl) (by kernel_rfl) (by kernel_rfl) (by kernel_rfl)) ?_
  intro W base args ds gs before hval0 hW hcnd hsz0 _
  have hval : ∀ (j : Nat) t v, Try.f3.params[j]? = some t → args[j]? = some v → Value.okWide Try.prog W .any base t v := hval0
  have hW' := hW
  obtain ⟨p, q, hA0, hV, rfl, hfz, hnd⟩ := hW
  have hA : DataW.TrodAll enc Try.prog W 0 (fun _ => true) true Try.f3.params.toList args.toList ds p := hA0
  have hsz : (DataW.weightsEach Try.prog (Try.f3.params.toList ++ Rows.movesShapesSpec.plain.varTypes Try.prog) (ds ++ gs)).all (· ≤ reachBytes) = true := hsz0
  rw [Try.params3] at hA hval hsz
  obtain ⟨v0, vs0, d0, ds0, p0, q0, hargs, rfl, rfl, h0, r0⟩ := trodAll_cons hA
  obtain ⟨v1, vs1, d1, ds1, p1, q1, rfl, rfl, rfl, h1, r1⟩ := trodAll_cons r0
  obtain ⟨rfl, rfl, rfl⟩ := trodAll_nil r1
  obtain rfl : args = #[v0, v1] := by cases args; simp_all
  obtain ⟨rfl, rfl⟩ := trodVars_none hV
  have k0 := h0
  have lt0 : ∀ x ∈ p0, x.block < W.heap.size := by obtain ⟨m, hm⟩ := k0; exact DataW.trod_lt m _ _ _ hm
  have i0 := in_of (j := 0) (t := 25) hsz rfl rfl h0
  have o0 := hval 0 25 v0 rfl rfl
  have k1 := h1
  have lt1 : ∀ x ∈ p1, x.block < W.heap.size := by obtain ⟨m, hm⟩ := k1; exact DataW.trod_lt m _ _ _ hm
  have i1 := in_of (j := 1) (t := 22) hsz rfl rfl h1
  have o1 := hval 1 22 v1 rfl rfl
  clear hA0 hval0 hsz0 hsz
  obtain ⟨a, rfl, ha, b1, b2⟩ := arg_ten o0 i0
  obtain ⟨s, hs, ls⟩ := arg_slT un_22 (by kernel_rfl) (fun cs h => (In.int un_3 h).imp fun _ h => h.1) o1 i1
  refine (law_calls (movesShapes_w a v1 s W ha hs ⟨by omega, by omega⟩)).mono fun e W' ⟨he, bel⟩ => ?_
  subst he
  exact ⟨_, rfl, _, _, _, [], _, [], hW', trodAll_mk1 (shut_bool un_4 _), (trodAll_cons_mk (Below.trod laidOut (by kernel_rfl) (of_decide_eq_true (by kernel_rfl)) k0 bel lt0) (trodAll_cons_mk (Below.trod laidOut (by kernel_rfl) (of_decide_eq_true (by kernel_rfl)) k1 bel lt1) trodAll_mk0)), rfl, bel.frame _, fun h => by cases h⟩

/-- The statement. -/
theorem movesShapes_proved : Rows.MovesShapesSaid :=
  OpenClaim.holds_of_wide 3 Try.f3 rfl rfl rfl rfl rfl rfl rfl ⟨rfl, rfl, rfl, rfl, rfl⟩ rfl rfl rfl rfl rfl (by kernel_rfl) Try.func3 (by kernel_rfl)
    (of_decide_eq_true (by kernel_rfl)) (by unfold Func.isWrapper; first | (rw [if_pos (by decide +kernel)]; kernel_rfl) | (rw [if_neg (by decide +kernel)]; exact ⟨rfl, rfl⟩))
    (fun os started H enc _ => movesShapes_lifted os started H enc)
#print axioms movesShapes_proved
end Go.Proofs.Ytkhndfaampkbnaa
