/- Noughts that stand around a picture by themselves are as good as pad; windows beside one another make what each makes by itself, one behind the other: for any picture, any windows, any step, any pad; no condition. -/
import Derived.Test.YtgjpjpdmkeifeaaWinMore
import Derived.Test.YtgjpjpdmkeifeaaInt
namespace Go.Proofs.Ytgjpjpdmkeifeaa
open Go Go.Dd Go.RowKit Go.ChangeShapes Go.WideShapes Go.ChangeAt

theorem whole_wide {t f v : T4} {step p : Int} (e : wofE t f step p = 0) (hv : v.s = [t.s.getD 0 default, t.s.getD 1 default + 2 * p, t.s.getD 2 default + 2 * p]) (okv : Shapes.ok v.s = true)
    (hl : v.l = (List.range (Shapes.size v.s).toNat).map (padF t.l (t.s.getD 1 default) (t.s.getD 2 default) v.s p t.l.length)) :
    wofE v f step 0 = 0 ∧ wshS v.s f.s step 0 = wshS t.s f.s step p ∧ wofL v f step 0 = wofL t f step p := by
  obtain ⟨k1, k2, k3⟩ := wofE_ok e
  have V := win_ok k1 k2 k3
  have T := (Shapes.ok_iff t.s).1 (tok_ok k1).1
  have l3 := V.lt
  have d0 := good_at T.2.1 (k := 0) (by omega)
  have d1 := good_at T.2.1 (k := 1) (by omega)
  have d2 := good_at T.2.1 (k := 2) (by omega)
  have v0 : v.s.getD 0 default = t.s.getD 0 default := by rw [hv]; rfl
  have v1 : v.s.getD 1 default = t.s.getD 1 default + 2 * p := by rw [hv]; rfl
  have v2 : v.s.getD 2 default = t.s.getD 2 default + 2 * p := by rw [hv]; rfl
  have lv : v.s.length = 3 := by rw [hv]; rfl
  have pd := V.pd
  have kv : tok v.s v.l = true := tok_mk okv (by rw [hl]; simp)
  have eS : wshS v.s f.s step 0 = wshS t.s f.s step p := by
    unfold wshS
    rw [v1, v2, show t.s.getD 1 default + 2 * p + 2 * 0 = t.s.getD 1 default + 2 * p by omega, show t.s.getD 2 default + 2 * p + 2 * 0 = t.s.getD 2 default + 2 * p by omega]
  refine ⟨?_, eS, ?_⟩
  · rw [wofE_tok kv k2]
    have hA : wshA v.s f.s step 0 = false := by
      have s1 := V.st
      have o2 := (tok_ok k2).1
      simp only [wshA, okv, o2, Bool.not_true, Bool.false_or, Bool.or_eq_false_iff, decide_eq_false_iff_not]
      omega
    have hB : wshB v.s f.s = true := by
      have c := V.c
      have l4 := V.lf
      simp only [wshB, Bool.and_eq_true, decide_eq_true_eq]
      exact ⟨⟨lv, l4⟩, by rw [v0]; exact c⟩
    unfold wshE
    rw [hA, hB, eS, V.ok]; rfl
  · unfold wofL
    rw [eS]
    refine List.map_congr_left fun i _ => ?_
    unfold wofF
    rw [eS]
    have zt : (t.l.length : Int) = t.s.getD 0 default * (t.s.getD 1 default * t.s.getD 2 default) := V.tl
    have zv : Shapes.size v.s = t.s.getD 0 default * (v.s.getD 1 default * v.s.getD 2 default) := by rw [Shapes.size_ok okv, prod3 lv, v0]
    have hw := pic_pad (tl := t.l) (vl := v.l) (t := t.s) (s := v.s) (p := p) (C := t.s.getD 0 default) pd.1 v1 v2 (fun j hj => by
      have hj2 : j < (Shapes.size v.s).toNat := by omega
      have cj := spc_in okv lv (i := (j : Int)) (by omega)
      rw [v0] at cj
      have e1 : v.l.getD j default = padF t.l (t.s.getD 1 default) (t.s.getD 2 default) v.s p t.l.length j := by rw [hl]; simp [hj2]
      rw [e1]
      exact padF_pic d1.1 d2.1 zt cj.2)
    refine winS_wide (C := t.s.getD 0 default) hw fun j hj => ?_
    have ln : (f.s.drop 1).length = 3 := by rw [List.length_drop, V.lf]
    have cj := spc_in V.okf ln (i := (j : Int)) (by have := Shapes.size_le (f.s.drop 1); unfold wofN at hj; omega)
    have e1 : (f.s.drop 1).getD 0 default = f.s.getD 1 default := by simp
    rw [e1, ← V.c] at cj
    exact cj
/-- How many places one of the windows makes. -/
def yx (t f : T4) (step p : Int) : Nat := ((wshS t.s f.s step p).getD 1 default * (wshS t.s f.s step p).getD 2 default).toNat
theorem whole_piece {t f g : T4} {step p : Int} (e : wofE t f step p = 0) {o : Nat} (ho : (o : Int) < f.s.getD 0 default) (hg : g.s = [1, t.s.getD 0 default, f.s.getD 2 default, f.s.getD 3 default]) (hl : g.l = (f.l.drop (o * wofN f)).take (wofN f)) :
    wofE t g step p = 0 ∧ wofL t g step p = (List.range (yx t f step p)).map fun i => wofF t f step p (o * yx t f step p + i) := by
  obtain ⟨k1, k2, k3⟩ := wofE_ok e
  have V := win_ok k1 k2 k3
  have lS := V.lS
  have l4 := V.lf
  have f1 := good_at V.gf (k := 1) (by omega)
  have f2 := good_at V.gf (k := 2) (by omega)
  have f3 := good_at V.gf (k := 3) (by omega)
  have s0 := good_at V.gS (k := 0) (by omega)
  have s1 := good_at V.gS (k := 1) (by omega)
  have s2 := good_at V.gS (k := 2) (by omega)
  have gd : g.s.drop 1 = f.s.drop 1 := by
    rw [hg, V.c]
    conv => rhs; rw [list4 l4]
    rfl
  have gN : wofN g = wofN f := by unfold wofN; rw [gd]
  have okg : Shapes.ok g.s = true := by
    have := (Shapes.ok_iff _).1 V.okf
    rw [Shapes.ok_iff]
    have hp : Shapes.prod g.s = Shapes.prod (f.s.drop 1) := by rw [← gd, hg]; simp [Shapes.prod]
    refine ⟨by rw [hg]; simp, ?_, by rw [hp]; exact this.2.2⟩
    rw [hg]
    intro y hy
    simp only [List.mem_cons, List.not_mem_nil, or_false] at hy
    have c := V.c
    rcases hy with rfl | rfl | rfl | rfl <;> omega
  have zg : Shapes.size g.s = (wofN f : Int) := by
    rw [Shapes.size_ok okg, V.n, hg, ← V.c]
    simp only [Shapes.prod, Int.one_mul, Int.mul_one]
  have n1 := V.n1
  have fl := V.fl
  have q1 : ((o : Int) + 1) * (wofN f : Int) ≤ f.s.getD 0 default * (wofN f : Int) := Int.mul_le_mul_of_nonneg_right (by omega) (by omega)
  rw [Int.add_mul, Int.one_mul] at q1
  have q2 : ((o * wofN f : Nat) : Int) = (o : Int) * (wofN f : Int) := Int.natCast_mul _ _
  have lg : g.l.length = wofN f := by rw [hl, List.length_take, List.length_drop]; omega
  have kg : tok g.s g.l = true := tok_mk okg (by rw [lg, zg]; omega)
  obtain ⟨S, hS⟩ : ∃ S, S = wshS t.s f.s step p := ⟨_, rfl⟩
  have okS := V.ok
  have gS := V.gS
  have cS := V.o
  rw [← hS] at lS s0 s1 s2 okS gS cS
  have e2 : g.s.getD 2 default = f.s.getD 2 default := by rw [hg]; rfl
  have e3 : g.s.getD 3 default = f.s.getD 3 default := by rw [hg]; rfl
  have eS : wshS t.s g.s step p = [1, S.getD 1 default, S.getD 2 default] := by
    rw [hS]
    unfold wshS
    rw [e2, e3, hg]; rfl
  have szS := Shapes.size_ok okS
  rw [prod3 lS] at szS
  have szl := Shapes.size_le S
  have q3 : 1 * (S.getD 1 default * S.getD 2 default) ≤ S.getD 0 default * (S.getD 1 default * S.getD 2 default) := Int.mul_le_mul_of_nonneg_right s0.1 (Int.mul_nonneg (by omega) (by omega))
  have ok' : Shapes.ok [1, S.getD 1 default, S.getD 2 default] = true := by
    rw [Shapes.ok_iff]
    refine ⟨by simp, ?_, by simp only [Shapes.prod, Int.one_mul, Int.mul_one]; omega⟩
    intro y hy
    simp only [List.mem_cons, List.not_mem_nil, or_false] at hy
    rcases hy with rfl | rfl | rfl <;> omega
  have sz' : Shapes.size [1, S.getD 1 default, S.getD 2 default] = S.getD 1 default * S.getD 2 default := by rw [Shapes.size_ok ok']; simp [Shapes.prod]
  refine ⟨?_, ?_⟩
  · rw [wofE_tok k1 kg]
    have hA : wshA t.s g.s step p = false := by
      have a1 := V.st
      have a2 := V.pd
      have o1 := (tok_ok k1).1
      simp only [wshA, o1, okg, Bool.not_true, Bool.false_or, Bool.or_eq_false_iff, decide_eq_false_iff_not]
      omega
    have hB : wshB t.s g.s = true := by
      have lt := V.lt
      simp only [wshB, Bool.and_eq_true, decide_eq_true_eq]
      exact ⟨⟨lt, by rw [hg]; rfl⟩, by rw [hg]; rfl⟩
    unfold wshE
    rw [hA, hB, eS, ok']; rfl
  · unfold wofL yx
    rw [eS, sz', ← hS]
    refine List.map_congr_left fun i hi => ?_
    rw [List.mem_range] at hi
    unfold wofF
    rw [eS, gN, gd, hl, ← hS]
    have m0 : 0 ≤ S.getD 1 default * S.getD 2 default := Int.mul_nonneg (by omega) (by omega)
    exact winS_piece rfl rfl s1.1 s2.1 (by omega) (by push_cast; rw [Int.toNat_of_nonneg m0])
theorem whole_all {t f : T4} {step p : Int} (e : wofE t f step p = 0) {O : Nat} (hO : (O : Int) = f.s.getD 0 default) : (List.range (O * yx t f step p)).map (wofF t f step p) = wofL t f step p := by
  obtain ⟨k1, k2, k3⟩ := wofE_ok e
  have V := win_ok k1 k2 k3
  have lS := V.lS
  have s1 := good_at V.gS (k := 1) (by omega)
  have s2 := good_at V.gS (k := 2) (by omega)
  unfold wofL
  have : (Shapes.size (wshS t.s f.s step p)).toNat = O * yx t f step p := by
    have m0 : 0 ≤ (wshS t.s f.s step p).getD 1 default * (wshS t.s f.s step p).getD 2 default := Int.mul_nonneg (by omega) (by omega)
    have h1 : ((O * yx t f step p : Nat) : Int) = Shapes.size (wshS t.s f.s step p) := by
      rw [Shapes.size_ok V.ok, prod3 lS, V.o, ← hO, Int.natCast_mul]
      unfold yx
      rw [Int.toNat_of_nonneg m0]
    omega
  rw [this]
theorem whole_step {F : Nat → BitVec 32} (o n : Nat) : (List.range (o * n)).map F ++ (List.range n).map (fun i => F (o * n + i)) = (List.range ((o + 1) * n)).map F := by
  rw [Nat.succ_mul, List.range_add, List.map_append, List.map_map]; rfl
theorem at_stay {w0 w w' : World} {a : T4} {B : Nat} (p : a.at w0) (h : a.at w) (hB : w0.heap.size ≤ B) (g : Below B w w') : a.at w' :=
  ⟨Sl.stay h.1 fun k e hne => g.block k (Nat.lt_of_lt_of_le (Sl.blk p.1 hne k e) hB), Sl.stay h.2 fun k e hne => g.block k (Nat.lt_of_lt_of_le (Sl.blk p.2 hne k e) hB)⟩
def nwE (s : List Int) : Int := if Shapes.ok s then 0 else 1
theorem new_p (u : Value) (s : List Int) (W : World) (hu : SlT (Value.int .i64) W u s) : Fnc Try.prog 20 [u] W (fun r w' => Below W.heap.size W w' ∧ Gets W w' r (nwE s) s (List.replicate (Shapes.size s).toNat 0#32)) :=
  (new_c u s W hu).mono fun _ w' ⟨h1, h2⟩ => ⟨h1, by
    unfold nwE
    rcases h2 with ⟨h, x, y, rfl, hm⟩ | ⟨h, rfl⟩
    · exact ⟨⟨x, y, s, _⟩, by rw [h]; rfl, hm.at, fun e => by simp [h] at e, fun _ => ⟨rfl, rfl, hm⟩⟩
    · exact ⟨⟨_, _, [], []⟩, by rw [h]; rfl, nilT _, fun _ => ⟨rfl, rfl⟩, fun e => by simp [h] at e⟩⟩
theorem windowsWhole_w (z : Sld) (t f : T4) (hzt : z.T = t) (hzf : z.W = f) (W : World) (h_t : t.at W) (h_f : f.at W) (f1 : few z.T) (f2 : few z.W) :
    Fnc Try.prog 6 [z.v] W (fun r w' => r = .bool true ∧ Below W.heap.size W w') := by
  have hB := Below.refl W.heap.size W
  have h_zt : z.T.at W := hzt ▸ h_t
  have h_zf : z.W.at W := hzf ▸ h_f
  refine Fnc.enter (n := 206) Try.func6 (by kernel_rfl) rfl rfl rfl ?_
  refine Cw.seq ?_
  refine Cw.region ?_
  refine Lw.boxV (cs := z.c) rfl rfl rfl ?_
  rintro A_z w eA_z b_z hn -
  replace hB := hB.bs hn
  replace h_t := h_t.bs hn
  replace h_f := h_f.bs hn
  replace h_zt := h_zt.bs hn
  replace h_zf := h_zf.bs hn
  clear hn
  refine Lw.val (Ex.assign rfl) rfl ?_
  refine Lw.nil ?_
  refine Pw.thenN (Cw.out ?_)
  refine Cw.seq ?_
  refine Cw.seq ?_
  refine Cw.region ?_
  refine Lw.callF rfl rfl (alive_c _) ?_
  rintro _ w ⟨rfl, hn⟩
  replace hB := hB.bs hn
  replace h_t := h_t.bs hn
  replace h_f := h_f.bs hn
  replace h_zt := h_zt.bs hn
  replace h_zf := h_zf.bs hn
  replace b_z := b_z.bs hn
  clear hn
  refine Lw.val (Ex.not rfl) rfl ?_
  refine Lw.val (Ex.move rfl) rfl ?_
  refine Lw.know 23 (v' := .bool false) rfl (congrArg Value.bool (rfl)) ?_
  refine Lw.take (dj := 23) rfl rfl ?_
  refine Lw.val (Ex.ldA (ag_42 _) (sz_42 _) rfl rfl (by assumption)) rfl ?_
  refine Lw.take (dj := 23) rfl rfl ?_
  refine Lw.callF rfl rfl (great_c z _ h_zt h_zf f1 f2) ?_
  rintro _ w ⟨rfl, hn⟩
  replace hB := hB.bs hn
  replace h_t := h_t.bs hn
  replace h_f := h_f.bs hn
  replace h_zt := h_zt.bs hn
  replace h_zf := h_zf.bs hn
  replace b_z := b_z.bs hn
  clear hn
  refine Lw.val (Ex.pickF rfl rfl) rfl ?_
  refine Lw.nil ?_
  refine Pw.thenN (Cw.out ?_)
  refine Cw.cond rfl ?_ ?_
  · intro _
    refine Cw.seq ?_
    refine Cw.region ?_
    refine Lw.callF rfl rfl (alive_c _) ?_
    rintro _ w ⟨rfl, hn⟩
    replace hB := hB.bs hn
    replace h_t := h_t.bs hn
    replace h_f := h_f.bs hn
    replace h_zt := h_zt.bs hn
    replace h_zf := h_zf.bs hn
    replace b_z := b_z.bs hn
    clear hn
    refine Lw.val (Ex.assign rfl) rfl ?_
    refine Lw.nil ?_
    refine Pw.thenN (Cw.out ?_)
    refine Cw.ret ?_
    refine Pw.thenR ?_
    refine Pw.ret1 rfl rfl ?_
    exact ⟨rfl, hB⟩
  intro g1
  obtain ⟨lt1, lt2, lf1, lf2⟩ := gr_no g1 f1 f2
  clear g1
  obtain ⟨st, hst⟩ : ∃ s, s = z.step := ⟨_, rfl⟩
  obtain ⟨p, hp⟩ : ∃ s, s = z.pad := ⟨_, rfl⟩
  rw [show z.c = [t.x, t.y, f.x, f.y, .int .i64 st, .int .i64 p, .int .i64 z.wide] by rw [hst, hp, ← hzt, ← hzf]] at b_z
  rw [hzt] at lt1 lt2
  rw [hzf] at lf1 lf2
  clear h_zt h_zf hst hp hzt hzf f1 f2
  refine Cw.skip ?_
  refine Pw.thenN (Cw.out ?_)
  refine Cw.seq ?_
  refine Cw.region ?_
  refine Lw.val (Ex.fieldAddr (q := 1) Try.underlying42 rfl (sz_25 _) rfl) rfl ?_
  refine Lw.val (Ex.ldAt (ds := [t.x, t.y]) (ag_25 _) (sz_25 _) rfl rfl (by assumption) rfl) rfl ?_
  refine Lw.val (Ex.fieldAddr (q := 1) Try.underlying42 rfl (sz_25 _) rfl) rfl ?_
  refine Lw.val (Ex.ldAt (ds := [f.x, f.y]) (ag_25 _) (sz_25 _) rfl rfl (by assumption) rfl) rfl ?_
  refine Lw.val (Ex.fieldAddr (q := 0) Try.underlying42 rfl (sz_3 _) rfl) rfl ?_
  refine Lw.val (Ex.ldB (ag_3 _) rfl (by assumption) rfl) rfl ?_
  refine Lw.val (Ex.fieldAddr (q := 0) Try.underlying42 rfl (sz_3 _) rfl) rfl ?_
  refine Lw.val (Ex.ldB (ag_3 _) rfl (by assumption) rfl) rfl ?_
  refine Lw.callF rfl rfl (wof_c t f st p _ h_t h_f) ?_
  rintro r w ⟨hn, x, rfl, h_x, n_x, z_x⟩
  replace hB := hB.bs hn
  replace h_t := h_t.bs hn
  replace h_f := h_f.bs hn
  replace b_z := b_z.bs hn
  clear hn
  refine Lw.val (Ex.move rfl) rfl ?_
  refine Lw.val (Ex.extract (i := 0) rfl rfl) rfl ?_
  refine Lw.val (Ex.extract (i := 1) rfl rfl) rfl ?_
  refine Lw.boxed (cs := [x.x, x.y]) it_25 rfl rfl rfl rfl (fun _ => rfl) (h_x.one) ?_
  rintro A_x w eA_x b_x hn -
  replace hB := hB.bs hn
  replace h_t := h_t.bs hn
  replace h_f := h_f.bs hn
  replace b_z := b_z.bs hn
  replace h_x := h_x.bs hn
  clear hn
  refine Lw.val (Ex.assign rfl) rfl ?_
  refine Lw.nil ?_
  refine Pw.thenN (Cw.out ?_)
  refine Cw.seq ?_
  refine Cw.seq ?_
  refine Cw.region ?_
  refine Lw.val (Ex.move rfl) rfl ?_
  refine Lw.val (Ex.neq rfl rfl) rfl ?_
  refine Lw.nil ?_
  refine Pw.thenN (Cw.out ?_)
  have h_x2 := h_x.2
  obtain ⟨E, hE⟩ : ∃ E, E = wofE t f st p := ⟨_, rfl⟩
  rw [← hE] at z_x n_x ⊢
  refine Cw.cond rfl ?_ ?_
  · intro g
    have g : E ≠ 0 := by simpa using g
    refine Cw.seq ?_
    refine Cw.region ?_
    refine Lw.val (Ex.fieldAddr (q := 0) Try.underlying25 rfl (sz_23 _) rfl) rfl ?_
    refine Lw.val (Ex.ldB (ag_23 _) rfl (by assumption) rfl) rfl ?_
    refine Lw.val (Ex.lenS st_23 rfl (by assumption)) rfl ?_
    refine Lw.val (Ex.eql rfl rfl) rfl ?_
    refine Lw.val (Ex.assign rfl) rfl ?_
    refine Lw.nil ?_
    refine Pw.thenN (Cw.out ?_)
    refine Cw.ret ?_
    refine Pw.thenR ?_
    refine Pw.ret1 rfl rfl ?_
    exact ⟨congrArg Value.bool (decide_eq_true (by rw [(n_x g).2]; rfl)), hB⟩
  intro g
  have e0 : E = 0 := by simpa using g
  obtain ⟨s_x, l_x, -⟩ := z_x e0
  rw [e0]
  rw [hE] at e0
  clear z_x n_x hE g
  obtain ⟨k1, k2, k3⟩ := wofE_ok e0
  have V := win_ok k1 k2 k3
  have T := (Shapes.ok_iff t.s).1 (tok_ok k1).1
  have l3 := V.lt
  have l4 := V.lf
  have pd := V.pd
  have d0 := good_at T.2.1 (k := 0) (by omega)
  have d1 := good_at T.2.1 (k := 1) (by omega)
  have d2 := good_at T.2.1 (k := 2) (by omega)
  have q0 := good_at V.gf (k := 0) (by omega)
  have tl := V.tl
  have h_t1 := h_t.1
  have h_t2 := h_t.2
  have h_f1 := h_f.1
  have h_f2 := h_f.2
  refine Cw.skip ?_
  refine Pw.thenN (Cw.out ?_)
  refine Cw.seq ?_
  refine Cw.region ?_
  refine Lw.val (Ex.fieldAddr (q := 1) Try.underlying42 rfl (sz_25 _) rfl) rfl ?_
  refine Lw.val (Ex.fieldAddr (q := 0) Try.underlying25 rfl (sz_22 _) rfl) rfl ?_
  refine Lw.val (Ex.ldB (ag_22 _) rfl (by assumption) rfl) rfl ?_
  refine Lw.val (Ex.idxT st_22 rfl rfl (by assumption) 0 rfl (by omega)) rfl ?_
  refine Lw.val (Ex.ldT (ag_3 _) rfl (by assumption) (by omega)) rfl ?_
  refine Lw.val (Ex.assign rfl) rfl ?_
  refine Lw.nil ?_
  refine Pw.thenN (Cw.out ?_)
  refine Cw.seq ?_
  refine Cw.region ?_
  refine Lw.val (Ex.fieldAddr (q := 1) Try.underlying42 rfl (sz_25 _) rfl) rfl ?_
  refine Lw.val (Ex.fieldAddr (q := 0) Try.underlying25 rfl (sz_22 _) rfl) rfl ?_
  refine Lw.val (Ex.ldB (ag_22 _) rfl (by assumption) rfl) rfl ?_
  refine Lw.val (Ex.idxT st_22 rfl rfl (by assumption) 1 rfl (by omega)) rfl ?_
  refine Lw.val (Ex.ldT (ag_3 _) rfl (by assumption) (by omega)) rfl ?_
  refine Lw.val (Ex.assign rfl) rfl ?_
  refine Lw.nil ?_
  refine Pw.thenN (Cw.out ?_)
  refine Cw.seq ?_
  refine Cw.region ?_
  refine Lw.val (Ex.fieldAddr (q := 1) Try.underlying42 rfl (sz_25 _) rfl) rfl ?_
  refine Lw.val (Ex.fieldAddr (q := 0) Try.underlying25 rfl (sz_22 _) rfl) rfl ?_
  refine Lw.val (Ex.ldB (ag_22 _) rfl (by assumption) rfl) rfl ?_
  refine Lw.val (Ex.idxT st_22 rfl rfl (by assumption) 2 rfl (by omega)) rfl ?_
  refine Lw.val (Ex.ldT (ag_3 _) rfl (by assumption) (by omega)) rfl ?_
  refine Lw.val (Ex.assign rfl) rfl ?_
  refine Lw.nil ?_
  refine Pw.thenN (Cw.out ?_)
  refine Cw.seq ?_
  refine Cw.region ?_
  refine Lw.val (Ex.fieldAddr (q := 0) Try.underlying42 rfl (sz_3 _) rfl) rfl ?_
  refine Lw.val (Ex.ldB (ag_3 _) rfl (by assumption) rfl) rfl ?_
  refine Lw.val (Ex.assign rfl) rfl ?_
  refine Lw.nil ?_
  refine Pw.thenN (Cw.out ?_)
  refine Cw.seq ?_
  refine Cw.region ?_
  refine Lw.val (Ex.move rfl) rfl ?_
  refine Lw.val (Ex.move rfl) rfl ?_
  refine Lw.val (Ex.move rfl) rfl ?_
  refine Lw.val (Ex.mulI rfl rfl (by omega)) rfl ?_
  refine Lw.val (Ex.addI rfl rfl (by omega)) rfl ?_
  refine Lw.val (Ex.move rfl) rfl ?_
  refine Lw.val (Ex.move rfl) rfl ?_
  refine Lw.val (Ex.mulI rfl rfl (by omega)) rfl ?_
  refine Lw.val (Ex.addI rfl rfl (by omega)) rfl ?_
  obtain ⟨sv, hsv⟩ : ∃ s, s = [t.s.getD 0 default, t.s.getD 1 default + 2 * p, t.s.getD 2 default + 2 * p] := ⟨_, rfl⟩
  refine Lw.valW (Xw.lit (vs := ([t.s.getD 0 default, t.s.getD 1 default + 2 * p, t.s.getD 2 default + 2 * p] : List Int).map (Value.int .i64)) st_22 it_3 rfl rfl rfl rfl rfl) rfl ?_
  rintro u w ⟨ho, -, hn, -⟩
  rw [← hsv] at ho
  have t_u := own_slT ho
  clear ho
  replace hB := hB.bs hn
  replace h_t := h_t.bs hn
  replace h_f := h_f.bs hn
  replace b_z := b_z.bs hn
  replace h_x := h_x.bs hn
  replace b_x := b_x.bs hn
  replace h_x2 := h_x2.bs hn
  replace h_t1 := h_t1.bs hn
  replace h_t2 := h_t2.bs hn
  replace h_f1 := h_f1.bs hn
  replace h_f2 := h_f2.bs hn
  clear hn
  have y_z := blk_lt b_z
  have y_x := blk_lt b_x
  have y_B := below_size hB
  have p_t := h_t
  have p_f := h_f
  have p_x := h_x
  refine Lw.callF rfl rfl (new_p u sv _ t_u) ?_
  rintro r w7 ⟨hn7, v, rfl, h_v, -, z_v⟩
  refine Lw.val (Ex.move rfl) rfl ?_
  refine Lw.val (Ex.extract (i := 0) rfl rfl) rfl ?_
  refine Lw.val (Ex.extract (i := 1) rfl rfl) rfl ?_
  refine Lw.boxed (cs := [v.x, v.y]) it_25 rfl rfl rfl rfl (fun _ => rfl) (h_v.one) ?_
  rintro A_v w8 eA_v b_v hn8 zhn8
  have hw8 := bt hn7 hn8
  replace hB := hB.bs hw8
  replace h_t := h_t.bs hw8
  replace h_f := h_f.bs hw8
  replace b_z := b_z.bs hw8
  replace h_x := h_x.bs hw8
  replace b_x := b_x.bs hw8
  replace h_x2 := h_x2.bs hw8
  replace h_t1 := h_t1.bs hw8
  replace h_t2 := h_t2.bs hw8
  replace h_f1 := h_f1.bs hw8
  replace h_f2 := h_f2.bs hw8
  refine Lw.val (Ex.assign rfl) rfl ?_
  refine Lw.nil ?_
  refine Pw.thenN (Cw.out ?_)
  refine Cw.seq ?_
  refine Cw.seq ?_
  refine Cw.region ?_
  refine Lw.val (Ex.move rfl) rfl ?_
  refine Lw.val (Ex.eql rfl rfl) rfl ?_
  refine Lw.nil ?_
  refine Pw.thenN (Cw.out ?_)
  obtain ⟨F, hF⟩ : ∃ E, E = nwE sv := ⟨_, rfl⟩
  rw [← hF] at z_v ⊢
  refine Cw.mid (F := [(1, .pointer (some ⟨A_z, 0, none⟩)), (3, .pointer (some ⟨A_x, 0, none⟩)), (5, .int .i64 (t.s.getD 0 default))]) (I := fun w' => Below w.heap.size w8 w') ?_ ?_
  · refine Cw.cond rfl ?_ ?_
    · intro g
      have g0 : F = 0 := by simpa using g
      obtain ⟨s_v, l_v, m_v⟩ := z_v g0
      have okv : Shapes.ok sv = true := by
        rw [hF] at g0
        unfold nwE at g0
        split at g0
        · assumption
        · cases g0
      have M := mine_new m_v eA_v b_v hn8 zhn8 hn7.size
      have v0 : sv.getD 0 default = t.s.getD 0 default := by rw [hsv]; rfl
      have v1 : sv.getD 1 default = t.s.getD 1 default + 2 * p := by rw [hsv]; rfl
      have v2 : sv.getD 2 default = t.s.getD 2 default + 2 * p := by rw [hsv]; rfl
      have lv : sv.length = 3 := by rw [hsv]; rfl
      obtain ⟨Mn, hMn⟩ : ∃ M, M = (Shapes.size sv).toNat := ⟨_, rfl⟩
      have szv := Shapes.size_le sv
      have szo := Shapes.size_ok okv
      rw [prod3 lv, v0] at szo
      have hp0 := padF_zero t.l (t := t.s) (s := sv) (p := p) d1.1 d2.1 Mn (fun j hj => (spc_in okv lv (by omega)).1)
      rw [← hMn, ← hp0] at M
      have m7' : w.heap.size ≤ w8.heap.size := hw8.size
      clear hw8 hn8 hn7 z_v m_v hp0 b_v zhn8 l_v h_v
      refine Cw.seq ?_
      refine Cw.seq ?_
      refine Cw.region ?_
      refine Lw.val (Ex.assign rfl) rfl ?_
      refine Lw.nil ?_
      refine Pw.thenN (Cw.out ?_)
      refine Cw.block ?_
      refine Cw.loop (S := Nat) (fun i => [(1, .pointer (some ⟨A_z, 0, none⟩)), (3, .pointer (some ⟨A_x, 0, none⟩)), (4, .int .i64 0), (5, .int .i64 (t.s.getD 0 default)), (6, .int .i64 (t.s.getD 1 default)), (7, .int .i64 (t.s.getD 2 default)), (8, .int .i64 p), (9, .pointer (some ⟨A_v, 0, none⟩)), (10, .int .i64 F), (11, .int .i64 (i : Int))]) (fun i w' => i ≤ t.l.length ∧ Below w.heap.size w8 w' ∧ MineT w' w.heap.size w8.heap.size A_v v.x v.y sv ((List.range Mn).map (padF t.l (t.s.getD 1 default) (t.s.getD 2 default) sv p i))) (fun i => t.l.length - i) (0) ⟨rfl, rfl, rfl, rfl, rfl, rfl, rfl, rfl, rfl, rfl, trivial⟩ ?_ ?_
      · exact ⟨Nat.zero_le _, Below.refl _ _, M⟩
      clear M
      rintro i w11 ⟨hi, hw, M⟩
      have b_z2 := b_z.bl hw y_z
      have h_t22 := (at_stay p_t h_t (Nat.le_refl _) hw).2
      have b_v2 := M.box
      have y_v := M.sly
      refine Cw.seq ?_
      refine Cw.seq ?_
      refine Cw.region ?_
      refine Lw.val (Ex.move rfl) rfl ?_
      refine Lw.val (Ex.fieldAddr (q := 1) Try.underlying42 rfl (sz_25 _) rfl) rfl ?_
      refine Lw.val (Ex.fieldAddr (q := 0) Try.underlying25 rfl (sz_23 _) rfl) rfl ?_
      refine Lw.val (Ex.ldB (ag_23 _) rfl (by assumption) rfl) rfl ?_
      refine Lw.val (Ex.lenS st_23 rfl (by assumption)) rfl ?_
      refine Lw.val (Ex.lss rfl rfl) rfl ?_
      refine Lw.nil ?_
      refine Pw.thenN (Cw.out ?_)
      refine Cw.cond rfl ?_ ?_
      · intro h
        have hi' : i < t.l.length := by simp at h; omega
        have hi0 : (0 : Int) ≤ (i : Int) := by omega
        have m12 : 1 * 1 ≤ t.s.getD 1 default * t.s.getD 2 default := Int.mul_le_mul d1.1 d2.1 (by decide) (by omega)
        have m13 : t.s.getD 1 default * t.s.getD 2 default ≤ 64 * 64 := Int.mul_le_mul d1.2 d2.2 (by omega) (by decide)
        have ci := spc_in (tok_ok k1).1 l3 (i := (i : Int)) (by have := Shapes.size_ok (tok_ok k1).1; rw [prod3 l3] at this; omega)
        obtain ⟨-, ay, ax⟩ := spot_on (s := t.s) (j := (i : Int)) d1.1 d2.1
        have e1 : 0 ≤ spc t.s i * (t.s.getD 1 default + 2 * p) := Int.mul_nonneg ci.1 (by omega)
        have e2 : (spc t.s i + 1) * (t.s.getD 1 default + 2 * p) ≤ t.s.getD 0 default * (t.s.getD 1 default + 2 * p) := Int.mul_le_mul_of_nonneg_right (by omega) (by omega)
        have e5 : t.s.getD 0 default * (t.s.getD 1 default + 2 * p) ≤ 64 * 80 := Int.mul_le_mul d0.2 (by omega) (by omega) (by decide)
        rw [Int.add_mul, Int.one_mul] at e2
        have e3 : 0 ≤ (spc t.s i * (t.s.getD 1 default + 2 * p) + spy t.s i + p) * (t.s.getD 2 default + 2 * p) := Int.mul_nonneg (by omega) (by omega)
        have e4 : (spc t.s i * (t.s.getD 1 default + 2 * p) + spy t.s i + p + 1) * (t.s.getD 2 default + 2 * p) ≤ (t.s.getD 0 default * (t.s.getD 1 default + 2 * p)) * (t.s.getD 2 default + 2 * p) := Int.mul_le_mul_of_nonneg_right (by omega) (by omega)
        rw [Int.add_mul _ 1, Int.one_mul, Int.mul_assoc (t.s.getD 0 default), ← v1, ← v2, ← szo, v1, v2] at e4
        obtain ⟨K, hK⟩ : ∃ K : Nat, (spc t.s i * (t.s.getD 1 default + 2 * p) + spy t.s i + p) * (t.s.getD 2 default + 2 * p) + spx t.s i + p = (K : Int) := ⟨_, (Int.toNat_of_nonneg (by omega)).symm⟩
        have hKM : K < Mn := by omega
        have hKl : K < ((List.range Mn).map (padF t.l (t.s.getD 1 default) (t.s.getD 2 default) sv p i)).length := by simpa using hKM
        have hk : (K : Int) = (spc t.s i * sv.getD 1 default + (spy t.s i + p)) * sv.getD 2 default + (spx t.s i + p) := by
          rw [v1, v2, ← hK, Int.add_assoc (spc t.s i * (t.s.getD 1 default + 2 * p))]; omega
        refine Cw.skip ?_
        refine Pw.thenN (Cw.out ?_)
        refine Cw.seq ?_
        refine Cw.block ?_
        refine Cw.seq ?_
        refine Cw.region ?_
        refine Lw.val (Ex.move rfl) rfl ?_
        refine Lw.val (Ex.move rfl) rfl ?_
        refine Lw.val (Ex.move rfl) rfl ?_
        refine Lw.val (Ex.mulI rfl rfl (by omega)) rfl ?_
        refine Lw.val ((Ex.quoI rfl rfl (by omega) (by omega)).as (congrArg (Value.int .i64) (show _ = spc t.s i from rfl))) rfl ?_
        refine Lw.val (Ex.assign rfl) rfl ?_
        refine Lw.nil ?_
        refine Pw.thenN (Cw.out ?_)
        refine Cw.tail 34 mixed (by kernel_rfl) ?_
        refine Qw.val (fun w1 hq => Ex.fieldAddr (q := 0) Try.underlying25 rfl (sz_23 _) rfl) rfl ?_
        refine Qw.val (fun w1 hq => Ex.ldB (ag_23 _) rfl (Blk.bs (by assumption) hq) rfl) rfl ?_
        refine Qw.val (fun w1 hq => Ex.move rfl) rfl ?_
        refine Qw.val (fun w1 hq => Ex.move rfl) rfl ?_
        refine Qw.val (fun w1 hq => Ex.move rfl) rfl ?_
        refine Qw.val (fun w1 hq => Ex.mulI rfl rfl (by omega)) rfl ?_
        refine Qw.val (fun w1 hq => Ex.addI rfl rfl (by omega)) rfl ?_
        refine Qw.val (fun w1 hq => Ex.mulI rfl rfl (by omega)) rfl ?_
        refine Qw.val (fun w1 hq => Ex.move rfl) rfl ?_
        refine Qw.val (fun w1 hq => Ex.move rfl) rfl ?_
        refine Qw.val (fun w1 hq => Ex.quoI rfl rfl (by omega) (by omega)) rfl ?_
        refine Qw.val (fun w1 hq => Ex.move rfl) rfl ?_
        refine Qw.val (fun w1 hq => (Ex.remI rfl rfl (Int.ediv_nonneg (by omega) (by omega)) (by omega)).as (congrArg (Value.int .i64) (show _ = spy t.s i from rfl))) rfl ?_
        refine Qw.val (fun w1 hq => Ex.addI rfl rfl (by omega)) rfl ?_
        refine Qw.val (fun w1 hq => Ex.move rfl) rfl ?_
        refine Qw.val (fun w1 hq => Ex.addI rfl rfl (by omega)) rfl ?_
        refine Qw.val (fun w1 hq => Ex.move rfl) rfl ?_
        refine Qw.val (fun w1 hq => Ex.move rfl) rfl ?_
        refine Qw.val (fun w1 hq => Ex.mulI rfl rfl (by omega)) rfl ?_
        refine Qw.val (fun w1 hq => Ex.addI rfl rfl (by omega)) rfl ?_
        refine Qw.val (fun w1 hq => Ex.mulI rfl rfl (by omega)) rfl ?_
        refine Qw.val (fun w1 hq => Ex.move rfl) rfl ?_
        refine Qw.val (fun w1 hq => Ex.move rfl) rfl ?_
        refine Qw.val (fun w1 hq => (Ex.remI rfl rfl (by omega) (by omega)).as (congrArg (Value.int .i64) (show _ = spx t.s i from rfl))) rfl ?_
        refine Qw.val (fun w1 hq => Ex.addI rfl rfl (by omega)) rfl ?_
        refine Qw.val (fun w1 hq => Ex.move rfl) rfl ?_
        refine Qw.val (fun w1 hq => Ex.addI rfl rfl (by omega)) rfl ?_
        refine Qw.val (fun w1 hq => Ex.fieldAddr (q := 1) Try.underlying42 rfl (sz_25 _) rfl) rfl ?_
        refine Qw.val (fun w1 hq => Ex.fieldAddr (q := 0) Try.underlying25 rfl (sz_23 _) rfl) rfl ?_
        refine Qw.val (fun w1 hq => Ex.ldB (ag_23 _) rfl (Blk.bs (by assumption) hq) rfl) rfl ?_
        refine Qw.val (fun w1 hq => Ex.move rfl) rfl ?_
        refine Qw.val (fun w1 hq => Ex.idxT st_23 rfl rfl (Sl.bs (by assumption) hq) _ rfl (by omega)) rfl ?_
        refine Qw.val (fun w1 hq => Ex.ldT (ag_21 _) rfl (Sl.bs (by assumption) hq) (by omega)) rfl ?_
        refine Qw.val (fun w1 hq => Ex.idxT st_23 rfl rfl (Sl.bs y_v hq) K hK hKl) rfl ?_
        refine Qw.done (fun wt hq => ?_)
        refine Lw.unit ((M.bs hq).st (sz_21 _) rfl rfl hKl) ?_
        rintro w12 ⟨M2, hg2, -⟩
        have hw2 := (M.bs hq).below (hw.trans (hq.mono (Nat.le_trans m7' hw.size))) m7' hg2
        rw [pad_set pd.1 v1 v2 d1.1 d2.1 hk] at M2
        refine Lw.nil ?_
        refine Pw.blkN ?_
        refine Pw.thenN (Cw.out ?_)
        refine Cw.region ?_
        refine Lw.val (Ex.move rfl) rfl ?_
        refine Lw.val (Ex.addI rfl rfl (by omega)) rfl ?_
        refine Lw.val (Ex.assign rfl) rfl ?_
        refine Lw.nil ?_
        exact Pw.thenN (Pw.next (i + 1) ⟨rfl, rfl, rfl, rfl, rfl, rfl, rfl, rfl, rfl, rfl, trivial⟩ (⟨hi', hw2, M2⟩) (by omega))
      intro h
      have hi' : i = t.l.length := by simp at h; omega
      subst hi'
      obtain ⟨m, hmm⟩ : ∃ m : T4, m = T4.mk v.x v.y sv ((List.range Mn).map (padF t.l (t.s.getD 1 default) (t.s.getD 2 default) sv p t.l.length)) := ⟨_, rfl⟩
      have h_m : m.at w11 := by rw [hmm]; exact mine_at M
      have b_m : Blk w11 A_v 25 [m.x, m.y] := by rw [hmm]; exact M.box
      obtain ⟨r1, r2, r3⟩ := whole_wide (v := m) e0 (by rw [hmm]; exact hsv) (by rw [hmm]; exact okv) (by rw [hmm, hMn])
      clear M hmm b_v2 y_v h_t22
      have h_f := at_stay p_f h_f (Nat.le_refl _) hw
      have h_x := at_stay p_x h_x (Nat.le_refl _) hw
      have b_x := b_x.bl hw y_x
      have b_z := b_z2
      clear b_z2
      have hN := Below.refl w11.heap.size w11
      refine Cw.exit ?_
      refine Pw.thenE ?_
      refine Pw.thenE ?_
      refine Pw.blkHit ?_
      refine Pw.thenN (Cw.out ?_)
      refine Cw.seq ?_
      refine Cw.region ?_
      refine Lw.val (Ex.ldA (ag_25 _) (sz_25 _) rfl rfl (by assumption)) rfl ?_
      refine Lw.val (Ex.fieldAddr (q := 1) Try.underlying42 rfl (sz_25 _) rfl) rfl ?_
      refine Lw.val (Ex.ldAt (ds := [f.x, f.y]) (ag_25 _) (sz_25 _) rfl rfl (by assumption) rfl) rfl ?_
      refine Lw.val (Ex.fieldAddr (q := 0) Try.underlying42 rfl (sz_3 _) rfl) rfl ?_
      refine Lw.val (Ex.ldB (ag_3 _) rfl (by assumption) rfl) rfl ?_
      refine Lw.callF rfl rfl (wof_c m f st 0 _ h_m h_f) ?_
      rintro r w ⟨hn, y, rfl, h_y, -, z_y⟩
      obtain ⟨s_y, l_y, -⟩ := z_y r1
      rw [r1]
      replace hN := hN.bs hn
      replace h_f := h_f.bs hn
      replace h_x := h_x.bs hn
      replace b_x := b_x.bs hn
      replace b_z := b_z.bs hn
      replace b_m := b_m.bs hn
      replace h_m := h_m.bs hn
      clear hn z_y
      refine Lw.val (Ex.move rfl) rfl ?_
      refine Lw.val (Ex.extract (i := 0) rfl rfl) rfl ?_
      refine Lw.val (Ex.extract (i := 1) rfl rfl) rfl ?_
      refine Lw.boxed (cs := [y.x, y.y]) it_25 rfl rfl rfl rfl (fun _ => rfl) (h_y.one) ?_
      rintro A_y w eA_y b_y hn -
      replace hN := hN.bs hn
      replace h_f := h_f.bs hn
      replace h_x := h_x.bs hn
      replace b_x := b_x.bs hn
      replace b_z := b_z.bs hn
      replace b_m := b_m.bs hn
      replace h_m := h_m.bs hn
      replace h_y := h_y.bs hn
      clear hn
      refine Lw.val (Ex.assign rfl) rfl ?_
      refine Lw.nil ?_
      refine Pw.thenN (Cw.out ?_)
      refine Cw.seq ?_
      refine Cw.region ?_
      refine Lw.val (Ex.ldA (ag_25 _) (sz_25 _) rfl rfl (by assumption)) rfl ?_
      refine Lw.val (Ex.ldA (ag_25 _) (sz_25 _) rfl rfl (by assumption)) rfl ?_
      refine Lw.val (Ex.move rfl) rfl ?_
      refine Lw.val (Ex.move rfl) rfl ?_
      refine Lw.callF rfl rfl (same8_c x y 0 0 _ h_x h_y) ?_
      rintro _ w ⟨rfl, hn⟩
      replace hN := hN.bs hn
      replace h_f := h_f.bs hn
      replace h_x := h_x.bs hn
      replace b_x := b_x.bs hn
      replace b_z := b_z.bs hn
      replace b_m := b_m.bs hn
      replace h_m := h_m.bs hn
      replace h_y := h_y.bs hn
      replace b_y := b_y.bs hn
      clear hn
      refine Lw.val (Ex.not rfl) rfl ?_
      refine Lw.nil ?_
      refine Pw.thenN (Cw.out ?_)
      refine Cw.condB rfl false (by rw [decide_eq_true (s_x.trans (s_y.trans r2).symm), decide_eq_true (l_x.trans (l_y.trans r3).symm)]; rfl) ?_
      refine Cw.skip ?_
      exact Pw.mid ⟨rfl, rfl, rfl, trivial⟩ (hw.trans (hN.mono (Nat.le_trans m7' hw.size)))
    intro g
    refine Cw.skip ?_
    exact Pw.mid ⟨rfl, rfl, rfl, trivial⟩ (Below.refl _ _)
  intro w9 hn
  have h_t := at_stay p_t h_t (Nat.le_refl _) hn
  have h_f := at_stay p_f h_f (Nat.le_refl _) hn
  have h_x := at_stay p_x h_x (Nat.le_refl _) hn
  have b_x := b_x.bl hn y_x
  have b_z := b_z.bl hn y_z
  have hB := hB.trans (hn.mono y_B)
  clear h_t1 h_t2 h_f1 h_f2 h_x2 hn hn7 hn8 hw8 zhn8 b_v z_v h_v
  have h_f1 := h_f.1
  have h_f2 := h_f.2
  refine Cw.out ?_
  obtain ⟨N, hNN⟩ : ∃ N, N = wofN f := ⟨_, rfl⟩
  have okn := V.n1
  have fl := V.fl
  have oo := V.o
  have cc := V.c
  rw [← hNN] at okn fl
  have quo : (f.l.length : Int) / f.s.getD 0 default = (N : Int) := by rw [fl]; exact Int.mul_ediv_cancel_left _ (by omega)
  obtain ⟨O, hO⟩ : ∃ O : Nat, (O : Int) = f.s.getD 0 default := ⟨_, Int.toNat_of_nonneg (by omega)⟩
  obtain ⟨X, hX⟩ : ∃ X, X = yx t f st p := ⟨_, rfl⟩
  have hall := whole_all e0 hO
  rw [← hX] at hall
  have lall : O * X ≤ 4096 := by
    have := congrArg List.length hall
    rw [List.length_map, List.length_range, wofL_len] at this
    have := Shapes.size_le (wshS t.s f.s st p)
    omega
  refine Cw.seq ?_
  refine Cw.quiet mixed (by kernel_rfl) ?_
  refine Qw.val (fun w1 hq => Ex.fieldAddr (q := 1) Try.underlying42 rfl (sz_25 _) rfl) rfl ?_
  refine Qw.val (fun w1 hq => Ex.fieldAddr (q := 0) Try.underlying25 rfl (sz_23 _) rfl) rfl ?_
  refine Qw.val (fun w1 hq => Ex.ldB (ag_23 _) rfl (Blk.bs (by assumption) hq) rfl) rfl ?_
  refine Qw.val (fun w1 hq => Ex.lenS st_23 rfl (Sl.bs (by assumption) hq)) rfl ?_
  refine Qw.val (fun w1 hq => Ex.fieldAddr (q := 1) Try.underlying42 rfl (sz_25 _) rfl) rfl ?_
  refine Qw.val (fun w1 hq => Ex.fieldAddr (q := 0) Try.underlying25 rfl (sz_22 _) rfl) rfl ?_
  refine Qw.val (fun w1 hq => Ex.ldB (ag_22 _) rfl (Blk.bs (by assumption) hq) rfl) rfl ?_
  refine Qw.val (fun w1 hq => Ex.idxT st_22 rfl rfl (Sl.bs (by assumption) hq) 0 rfl (by omega)) rfl ?_
  refine Qw.val (fun w1 hq => Ex.ldT (ag_3 _) rfl (Sl.bs (by assumption) hq) (by omega)) rfl ?_
  refine Qw.val (fun w1 hq => (Ex.quoI rfl rfl (by omega) (by omega)).as (congrArg (Value.int .i64) quo)) rfl ?_
  refine Qw.val (fun w1 hq => Ex.assign rfl) rfl ?_
  refine Qw.nil (fun w10 hq => ?_)
  refine Pw.thenN (Cw.out ?_)
  refine Cw.seq ?_
  replace hB := hB.bs hq
  replace h_t := h_t.bs hq
  replace h_f := h_f.bs hq
  replace h_x := h_x.bs hq
  replace b_x := b_x.bs hq
  replace b_z := b_z.bs hq
  replace h_f1 := h_f1.bs hq
  replace h_f2 := h_f2.bs hq
  clear hq
  refine Cw.region ?_
  refine Lw.val (Ex.assign rfl) rfl ?_
  refine Lw.nil ?_
  refine Pw.thenN (Cw.out ?_)
  refine Cw.seq ?_
  refine Cw.seq ?_
  refine Cw.region ?_
  refine Lw.val (Ex.assign rfl) rfl ?_
  refine Lw.nil ?_
  refine Pw.thenN (Cw.out ?_)
  refine Cw.block ?_
  obtain ⟨B, hBB⟩ : ∃ B, B = w10.heap.size := ⟨_, rfl⟩
  refine Cw.loop (S := (Nat × Value)) (fun z => [(1, .pointer (some ⟨A_z, 0, none⟩)), (3, .pointer (some ⟨A_x, 0, none⟩)), (5, .int .i64 (t.s.getD 0 default)), (15, .int .i64 (N : Int)), (16, z.2), (17, .int .i64 (z.1 : Int))]) (fun z w' => z.1 ≤ O ∧ w'.ownsRow B 21 1 z.2 (z.1 * X) (((List.range (z.1 * X)).map (wofF t f st p)).map i32) ∧ Below B w10 w') (fun z => O - z.1) ((0, .slice none 0 0)) ⟨rfl, rfl, rfl, rfl, rfl, rfl, trivial⟩ ?_ ?_
  · exact ⟨Nat.zero_le _, by rw [Nat.zero_mul]; exact World.ownsRow_nil _ _ _ _, Below.refl _ _⟩
  rintro ⟨o, sv⟩ w2 ⟨ho, hs, hw⟩
  dsimp only at ho hs ⊢
  have hw' : Below w10.heap.size w10 w2 := hBB ▸ hw
  replace hB := hB.bs hw'
  replace h_t := h_t.bs hw'
  replace h_f := h_f.bs hw'
  replace h_x := h_x.bs hw'
  replace b_x := b_x.bs hw'
  replace b_z := b_z.bs hw'
  replace h_f1 := h_f1.bs hw'
  replace h_f2 := h_f2.bs hw'
  refine Cw.seq ?_
  refine Cw.seq ?_
  refine Cw.region ?_
  refine Lw.val (Ex.move rfl) rfl ?_
  refine Lw.val (Ex.fieldAddr (q := 1) Try.underlying42 rfl (sz_25 _) rfl) rfl ?_
  refine Lw.val (Ex.fieldAddr (q := 0) Try.underlying25 rfl (sz_22 _) rfl) rfl ?_
  refine Lw.val (Ex.ldB (ag_22 _) rfl (by assumption) rfl) rfl ?_
  refine Lw.val (Ex.idxT st_22 rfl rfl (by assumption) 0 rfl (by omega)) rfl ?_
  refine Lw.val (Ex.ldT (ag_3 _) rfl (by assumption) (by omega)) rfl ?_
  refine Lw.val (Ex.lss rfl rfl) rfl ?_
  refine Lw.nil ?_
  refine Pw.thenN (Cw.out ?_)
  refine Cw.cond rfl ?_ ?_
  · intro h
    have ho' : o < O := by have := of_decide_eq_true h; omega
    have on : ((o * N : Nat) : Int) = (o : Int) * (N : Int) := Int.natCast_mul _ _
    have q1 : ((o : Int) + 1) * (N : Int) ≤ f.s.getD 0 default * (N : Int) := Int.mul_le_mul_of_nonneg_right (by omega) (by omega)
    rw [Int.add_mul, Int.one_mul] at q1
    have qj : o * N + N ≤ f.l.length := by omega
    have h_g2 := SlT.cut h_f2 (i := o * N) (j := o * N + N) (by omega) qj
    have g_one := h_g2.one
    have g_one' := h_g2.one'
    have oX : o * X + X ≤ 4096 := by
      have := Nat.mul_le_mul_right X (show o + 1 ≤ O by omega)
      rw [Nat.succ_mul] at this
      omega
    refine Cw.skip ?_
    refine Pw.thenN (Cw.out ?_)
    refine Cw.seq ?_
    refine Cw.block ?_
    refine Cw.seq ?_
    rename World => w1
    refine Cw.midS (St := Nat × Value) (fun s => [(1, .pointer (some ⟨A_z, 0, none⟩)), (3, .pointer (some ⟨A_x, 0, none⟩)), (5, .int .i64 (t.s.getD 0 default)), (15, .int .i64 (N : Int)), (16, sv), (17, .int .i64 (o : Int)), (18, .pointer (some ⟨s.1, 0, none⟩))]) (fun s w' => Below w1.heap.size w1 w' ∧ Blk w' s.1 25 [s.2, cut f.y 1 (o * N) (o * N + N)] ∧ SlT (Value.int .i64) w' s.2 [1, t.s.getD 0 default, f.s.getD 2 default, f.s.getD 3 default]) ?_ ?_
    · refine Cw.any mixed (fun w hcw _ => ?_)
      refine Aw.cls (fun w' => Below w1.heap.size w1 w') (fun hC => ?_) (hcw)
      refine AwC.take (i := 0) NoP.midS rfl (by kernel_rfl) (by kernel_rfl) (by kernel_rfl) (fun w1 hc => Ex.move rfl) rfl ?_
      refine AwC.take (i := 1) NoP.midS rfl (by kernel_rfl) (by kernel_rfl) (by kernel_rfl) (fun w1 hc => Ex.fieldAddr (q := 1) Try.underlying42 rfl (sz_25 _) rfl) rfl ?_
      refine AwC.take (i := 2) NoP.midS rfl (by kernel_rfl) (by kernel_rfl) (by kernel_rfl) (fun w1 hc => Ex.fieldAddr (q := 0) Try.underlying25 rfl (sz_22 _) rfl) rfl ?_
      refine AwC.take (i := 3) NoP.midS rfl (by kernel_rfl) (by kernel_rfl) (by kernel_rfl) (fun w1 hc => Ex.ldB (ag_22 _) rfl (Blk.bs (by assumption) hc) rfl) rfl ?_
      refine AwC.take (i := 4) NoP.midS rfl (by kernel_rfl) (by kernel_rfl) (by kernel_rfl) (fun w1 hc => Ex.idxT st_22 rfl rfl (Sl.bs (by assumption) hc) 2 rfl (by omega)) rfl ?_
      refine AwC.take (i := 5) NoP.midS rfl (by kernel_rfl) (by kernel_rfl) (by kernel_rfl) (fun w1 hc => Ex.ldT (ag_3 _) rfl (Sl.bs (by assumption) hc) (by omega)) rfl ?_
      refine AwC.take (i := 6) NoP.midS rfl (by kernel_rfl) (by kernel_rfl) (by kernel_rfl) (fun w1 hc => Ex.fieldAddr (q := 1) Try.underlying42 rfl (sz_25 _) rfl) rfl ?_
      refine AwC.take (i := 7) NoP.midS rfl (by kernel_rfl) (by kernel_rfl) (by kernel_rfl) (fun w1 hc => Ex.fieldAddr (q := 0) Try.underlying25 rfl (sz_22 _) rfl) rfl ?_
      refine AwC.take (i := 8) NoP.midS rfl (by kernel_rfl) (by kernel_rfl) (by kernel_rfl) (fun w1 hc => Ex.ldB (ag_22 _) rfl (Blk.bs (by assumption) hc) rfl) rfl ?_
      refine AwC.take (i := 9) NoP.midS rfl (by kernel_rfl) (by kernel_rfl) (by kernel_rfl) (fun w1 hc => Ex.idxT st_22 rfl rfl (Sl.bs (by assumption) hc) 3 rfl (by omega)) rfl ?_
      refine AwC.take (i := 10) NoP.midS rfl (by kernel_rfl) (by kernel_rfl) (by kernel_rfl) (fun w1 hc => Ex.ldT (ag_3 _) rfl (Sl.bs (by assumption) hc) (by omega)) rfl ?_
      refine AwC.take (i := 12) NoP.midS rfl (by kernel_rfl) (by kernel_rfl) (by kernel_rfl) (fun w1 hc => Ex.fieldAddr (q := 1) Try.underlying42 rfl (sz_25 _) rfl) rfl ?_
      refine AwC.take (i := 13) NoP.midS rfl (by kernel_rfl) (by kernel_rfl) (by kernel_rfl) (fun w1 hc => Ex.fieldAddr (q := 0) Try.underlying25 rfl (sz_23 _) rfl) rfl ?_
      refine AwC.take (i := 14) NoP.midS rfl (by kernel_rfl) (by kernel_rfl) (by kernel_rfl) (fun w1 hc => Ex.ldB (ag_23 _) rfl (Blk.bs (by assumption) hc) rfl) rfl ?_
      refine AwC.take (i := 15) NoP.midS rfl (by kernel_rfl) (by kernel_rfl) (by kernel_rfl) (fun w1 hc => Ex.move rfl) rfl ?_
      refine AwC.take (i := 16) NoP.midS rfl (by kernel_rfl) (by kernel_rfl) (by kernel_rfl) (fun w1 hc => Ex.move rfl) rfl ?_
      refine AwC.take (i := 17) NoP.midS rfl (by kernel_rfl) (by kernel_rfl) (by kernel_rfl) (fun w1 hc => (Ex.mulI rfl rfl (by omega)).as (congrArg (Value.int .i64) on.symm)) rfl ?_
      refine AwC.take (i := 18) NoP.midS rfl (by kernel_rfl) (by kernel_rfl) (by kernel_rfl) (fun w1 hc => Ex.move rfl) rfl ?_
      refine AwC.take (i := 19) NoP.midS rfl (by kernel_rfl) (by kernel_rfl) (by kernel_rfl) (fun w1 hc => Ex.move rfl) rfl ?_
      refine AwC.take (i := 20) NoP.midS rfl (by kernel_rfl) (by kernel_rfl) (by kernel_rfl) (fun w1 hc => (Ex.mulI rfl rfl (by omega)).as (congrArg (Value.int .i64) on.symm)) rfl ?_
      refine AwC.take (i := 21) NoP.midS rfl (by kernel_rfl) (by kernel_rfl) (by kernel_rfl) (fun w1 hc => Ex.move rfl) rfl ?_
      refine AwC.take (i := 22) NoP.midS rfl (by kernel_rfl) (by kernel_rfl) (by kernel_rfl) (fun w1 hc => (Ex.addI rfl rfl (by omega)).as (congrArg (Value.int .i64) (show ((o * N : Nat) : Int) + (N : Int) = ((o * N + N : Nat) : Int) by omega))) rfl ?_
      refine AwC.take (i := 23) NoP.midS rfl (by kernel_rfl) (by kernel_rfl) (by kernel_rfl) (fun w1 hc => Ex.cutLH (i := o * N) (j := o * N + N) st_23 rfl rfl rfl (Sl.bs h_f2 hc) (by omega) qj) rfl ?_
      refine AwC.two (by assumption) (i := 11) (j := 25) (by kernel_rfl) rfl rfl ?_ ?_
      refine Lw.valW (Xw.lit (vs := ([1, t.s.getD 0 default, f.s.getD 2 default, f.s.getD 3 default] : List Int).map (Value.int .i64)) st_22 it_3 rfl rfl rfl rfl rfl) rfl ?_
      rintro u w ⟨ho, -, hn, -⟩
      replace hcw := hcw.bs hn
      clear hn
      refine AwC.back ?_
      refine AwC.take (i := 24) NoP.midS rfl (by kernel_rfl) (by kernel_rfl) (by kernel_rfl) (fun w1 hc => Ex.build (vs := [(0, u), (1, cut f.y 1 (o * N) (o * N + N))]) (cs := [u, cut f.y 1 (o * N) (o * N + N)]) rfl (bt_ten _ _ (own_sl ho).one g_one)) rfl ?_
      refine AwC.only (by assumption) (i := 25) (by kernel_rfl) rfl ?_
      refine Lw.newA it_25 rfl ?_
      rintro A_r w eA_r b_r hn -
      have g_r : w1.heap.size ≤ A_r := by have := hcw.size; omega
      replace hcw := hcw.bs hn
      replace ho := ho.bs hn
      clear hn
      refine AwC.back ?_
      refine AwC.only (by assumption) (i := 26) (by kernel_rfl) rfl ?_
      have hxy : [u, cut f.y 1 (o * N) (o * N + N)].all (·.oneCell') = true := by simp [(own_sl ho).one', g_one']
      refine Lw.unit (Xu.stA (cs := [u, cut f.y 1 (o * N) (o * N + N)]) rfl rfl rfl rfl hxy b_r rfl) ?_
      rintro w2 ⟨b_r2, hg, -⟩
      have hcw := hcw.grown hg hcw.size (by rintro _ ⟨⟩; omega)
      have ho := own_apart ho b_r (by decide) hg
      refine AwC.back ?_
      refine AwC.done (by assumption) (by kernel_rfl) ?_
      exact Pw.midS ((A_r, u)) ⟨rfl, rfl, rfl, rfl, rfl, rfl, rfl, trivial⟩ (⟨hcw, b_r2, own_slT ho⟩)
      refine Lw.newA it_25 rfl ?_
      rintro A_r w eA_r b_r hn -
      have g_r : w1.heap.size ≤ A_r := by have := hcw.size; omega
      replace hcw := hcw.bs hn
      clear hn
      refine AwC.back ?_
      refine AwC.only (by assumption) (i := 11) (by kernel_rfl) rfl ?_
      refine Lw.valW (Xw.lit (vs := ([1, t.s.getD 0 default, f.s.getD 2 default, f.s.getD 3 default] : List Int).map (Value.int .i64)) st_22 it_3 rfl rfl rfl rfl rfl) rfl ?_
      rintro u w ⟨ho, -, hn, -⟩
      replace hcw := hcw.bs hn
      replace b_r := b_r.bs hn
      clear hn
      refine AwC.back ?_
      refine AwC.take (i := 24) NoP.midS rfl (by kernel_rfl) (by kernel_rfl) (by kernel_rfl) (fun w1 hc => Ex.build (vs := [(0, u), (1, cut f.y 1 (o * N) (o * N + N))]) (cs := [u, cut f.y 1 (o * N) (o * N + N)]) rfl (bt_ten _ _ (own_sl ho).one g_one)) rfl ?_
      refine AwC.only (by assumption) (i := 26) (by kernel_rfl) rfl ?_
      have hxy : [u, cut f.y 1 (o * N) (o * N + N)].all (·.oneCell') = true := by simp [(own_sl ho).one', g_one']
      refine Lw.unit (Xu.stA (cs := [u, cut f.y 1 (o * N) (o * N + N)]) rfl rfl rfl rfl hxy b_r rfl) ?_
      rintro w2 ⟨b_r2, hg, -⟩
      have hcw := hcw.grown hg hcw.size (by rintro _ ⟨⟩; omega)
      have ho := own_apart ho b_r (by decide) hg
      refine AwC.back ?_
      refine AwC.done (by assumption) (by kernel_rfl) ?_
      exact Pw.midS ((A_r, u)) ⟨rfl, rfl, rfl, rfl, rfl, rfl, rfl, trivial⟩ (⟨hcw, b_r2, own_slT ho⟩)
    rintro ⟨A_g, u⟩ w ⟨hn, b_g, t_u⟩
    dsimp only at b_g t_u ⊢
    refine Cw.out ?_
    obtain ⟨g, hg⟩ : ∃ g : T4, g = T4.mk u (cut f.y 1 (o * N) (o * N + N)) [1, t.s.getD 0 default, f.s.getD 2 default, f.s.getD 3 default] ((f.l.drop (o * N)).take (o * N + N - o * N)) := ⟨_, rfl⟩
    have h_g : g.at w := by rw [hg]; exact ⟨t_u, h_g2.bs hn⟩
    have b_g : Blk w A_g 25 [g.x, g.y] := by rw [hg]; exact b_g
    obtain ⟨r1, r2⟩ := whole_piece (g := g) e0 (o := o) (by omega) (by rw [hg]) (by rw [hg, ← hNN]; rw [show o * N + N - o * N = N by omega])
    clear h_g2 t_u hg
    have hs := own_bs hs hn
    have hwn := hw.trans (hn.mono (by have := hw.size; omega))
    clear hw hw'
    replace hB := hB.bs hn
    replace h_t := h_t.bs hn
    replace h_f := h_f.bs hn
    replace h_x := h_x.bs hn
    replace b_x := b_x.bs hn
    replace b_z := b_z.bs hn
    replace h_f1 := h_f1.bs hn
    replace h_f2 := h_f2.bs hn
    clear hn
    have hM := Below.refl w.heap.size w
    refine Cw.seq ?_
    refine Cw.region ?_
    refine Lw.val (Ex.fieldAddr (q := 1) Try.underlying42 rfl (sz_25 _) rfl) rfl ?_
    refine Lw.val (Ex.ldAt (ds := [t.x, t.y]) (ag_25 _) (sz_25 _) rfl rfl (by assumption) rfl) rfl ?_
    refine Lw.val (Ex.ldA (ag_25 _) (sz_25 _) rfl rfl (by assumption)) rfl ?_
    refine Lw.val (Ex.fieldAddr (q := 0) Try.underlying42 rfl (sz_3 _) rfl) rfl ?_
    refine Lw.val (Ex.ldB (ag_3 _) rfl (by assumption) rfl) rfl ?_
    refine Lw.val (Ex.fieldAddr (q := 0) Try.underlying42 rfl (sz_3 _) rfl) rfl ?_
    refine Lw.val (Ex.ldB (ag_3 _) rfl (by assumption) rfl) rfl ?_
    refine Lw.callF rfl rfl (wof_c t g st p _ h_t h_g) ?_
    rintro r w ⟨hn, y, rfl, h_y, -, z_y⟩
    obtain ⟨-, l_y, -⟩ := z_y r1
    rw [r1]
    rw [r2, ← hX] at l_y
    replace hB := hB.bs hn
    replace h_t := h_t.bs hn
    replace h_f := h_f.bs hn
    replace h_x := h_x.bs hn
    replace b_x := b_x.bs hn
    replace b_z := b_z.bs hn
    replace h_f1 := h_f1.bs hn
    replace h_f2 := h_f2.bs hn
    replace b_g := b_g.bs hn
    replace h_g := h_g.bs hn
    replace hs := hs.bs hn
    replace hM := hM.bs hn
    clear hn z_y
    refine Lw.val (Ex.move rfl) rfl ?_
    refine Lw.val (Ex.extract (i := 0) rfl rfl) rfl ?_
    refine Lw.val (Ex.extract (i := 1) rfl rfl) rfl ?_
    refine Lw.boxed (cs := [y.x, y.y]) it_25 rfl rfl rfl rfl (fun _ => rfl) (h_y.one) ?_
    rintro A_y w eA_y b_y hn -
    replace hB := hB.bs hn
    replace h_t := h_t.bs hn
    replace h_f := h_f.bs hn
    replace h_x := h_x.bs hn
    replace b_x := b_x.bs hn
    replace b_z := b_z.bs hn
    replace h_f1 := h_f1.bs hn
    replace h_f2 := h_f2.bs hn
    replace b_g := b_g.bs hn
    replace h_g := h_g.bs hn
    replace hs := hs.bs hn
    replace hM := hM.bs hn
    replace h_y := h_y.bs hn
    clear hn
    refine Lw.val (Ex.assign rfl) rfl ?_
    refine Lw.nil ?_
    refine Pw.thenN (Cw.out ?_)
    refine Cw.seq ?_
    refine Cw.seq ?_
    refine Cw.region ?_
    refine Lw.val (Ex.move rfl) rfl ?_
    refine Lw.val (Ex.neq rfl rfl) rfl ?_
    refine Lw.nil ?_
    refine Pw.thenN (Cw.out ?_)
    have h_y2 := h_y.2
    have ln_y : y.l.length = X := by rw [l_y]; simp
    refine Cw.condB rfl false (rfl) ?_
    refine Cw.skip ?_
    refine Pw.thenN (Cw.out ?_)
    refine Cw.region ?_
    refine Lw.val (Ex.move rfl) rfl ?_
    refine Lw.val (Ex.fieldAddr (q := 0) Try.underlying25 rfl (sz_23 _) rfl) rfl ?_
    refine Lw.val (Ex.ldB (ag_23 _) rfl (by assumption) rfl) rfl ?_
    have zB2 : B ≤ w.heap.size := by have := hM.size; have := hwn.size; omega
    refine Lw.valW (Xw.append (base := B) st_23 it_21 rfl (by decide) rfl rfl hs h_y2 (one_map (fun _ => rfl) _) (by omega) (by omega) zB2) rfl ?_
    rintro sv2 w5 ⟨hs5, hb5, -⟩
    have e5 : (List.range (o * X)).map (wofF t f st p) ++ y.l = (List.range ((o + 1) * X)).map (wofF t f st p) := by rw [l_y]; exact whole_step _ _
    rw [← List.map_append, e5, ln_y, ← Nat.succ_mul] at hs5
    refine Lw.val (Ex.assign rfl) rfl ?_
    refine Lw.nil ?_
    refine Pw.blkN ?_
    refine Pw.thenN (Cw.out ?_)
    refine Cw.region ?_
    refine Lw.val (Ex.move rfl) rfl ?_
    refine Lw.val (Ex.addI rfl rfl (by omega)) rfl ?_
    refine Lw.val (Ex.assign rfl) rfl ?_
    refine Lw.nil ?_
    exact Pw.thenN (Pw.next ((o + 1, sv2)) ⟨rfl, rfl, rfl, rfl, rfl, rfl, trivial⟩ (⟨ho', hs5, (hwn.trans (hM.mono (by have := hwn.size; omega))).trans hb5⟩) (by simp only; omega))
  intro h
  have ho' : o = O := by have := of_decide_eq_false h; omega
  subst ho'
  rw [hall] at hs
  have t_s : SlT i32 w2 sv (wofL t f st p) := by
    have hl : (wofL t f st p).length = o * X := by rw [← hall]; simp
    rw [← hl] at hs
    exact own_slT hs
  have h_x2 := h_x.2
  refine Cw.exit ?_
  refine Pw.thenE ?_
  refine Pw.thenE ?_
  refine Pw.blkHit ?_
  refine Pw.thenN (Cw.out ?_)
  refine Cw.seq ?_
  refine Cw.region ?_
  refine Lw.val (Ex.move rfl) rfl ?_
  refine Lw.val (Ex.fieldAddr (q := 0) Try.underlying25 rfl (sz_23 _) rfl) rfl ?_
  refine Lw.val (Ex.ldB (ag_23 _) rfl (by assumption) rfl) rfl ?_
  refine Lw.callF rfl rfl (sameNumbers_c sv x.y _ x.l _ t_s h_x2) ?_
  rintro _ w ⟨rfl, hn⟩
  replace hB := hB.bs hn
  replace h_t := h_t.bs hn
  replace h_f := h_f.bs hn
  replace h_x := h_x.bs hn
  replace b_x := b_x.bs hn
  replace b_z := b_z.bs hn
  replace h_f1 := h_f1.bs hn
  replace h_f2 := h_f2.bs hn
  clear hn
  refine Lw.val (Ex.assign rfl) rfl ?_
  refine Lw.nil ?_
  refine Pw.thenN (Cw.out ?_)
  refine Cw.ret ?_
  refine Pw.ret1 rfl rfl ?_
  exact ⟨congrArg Value.bool (decide_eq_true l_x.symm), hB⟩

set_option maxRecDepth 100000 in
set_option maxHeartbeats 2000000 in
theorem windowsWhole_lifted (os : Os) (started : os.Started) (H : Type) (enc : TypeId × Value → H) :
    ReturnsInHanded {} Try.checked os 6 .any (Rows.windowsWholeSpec.pre6 enc Try.prog Try.f6 Rows.windowsWholeRow.domain false) (Rows.windowsWholeSpec.post enc Try.prog Try.f6 false true false false) := by
  refine returnsInHanded_of_change_sized (C := Try.checked) own started (by kernel_rfl) Try.func6
    (ChangeSpec.witness6 (enc := enc) (C := Try.checked) false ⟨#[], #[.agg #[.slice none 0 0, .slice none 0 0, .slice none 0 0, .slice none 0 0, .int .i64 0, .int .i64 0, .int .i64 0]], []⟩ 8 (by kernel_rfl) (by kernel_rfl) (by kernel_rfl) (by kernel_rfl)) ?_
  intro W base args ds gs before hval0 hW hcnd hsz0 _
  have hval : ∀ (j : Nat) t v, Try.f6.params[j]? = some t → args[j]? = some v → Value.okWide Try.prog W .any base t v := hval0
  have hW' := hW
  obtain ⟨p, q, hA0, hV, rfl, hfz, hnd⟩ := hW
  have hA : DataW.TrodAll enc Try.prog W 0 (fun _ => true) true Try.f6.params.toList args.toList ds p := hA0
  have hsz : (DataW.weightsEach Try.prog (Try.f6.params.toList ++ Rows.windowsWholeSpec.plain.varTypes Try.prog) (ds ++ gs)).all (· ≤ reachBytes) = true := hsz0
  rw [Try.params6] at hA hval hsz
  obtain ⟨v0, vs0, d0, ds0, p0, q0, hargs, rfl, rfl, h0, r0⟩ := trodAll_cons hA
  obtain ⟨rfl, rfl, rfl⟩ := trodAll_nil r0
  obtain rfl : args = #[v0] := by cases args; simp_all
  obtain ⟨rfl, rfl⟩ := trodVars_none hV
  have k0 := h0
  have lt0 : ∀ x ∈ p0, x.block < W.heap.size := by obtain ⟨m, hm⟩ := k0; exact DataW.trod_lt m _ _ _ hm
  have i0 := in_of (j := 0) (t := 42) hsz rfl rfl h0
  have o0 := hval 0 42 v0 rfl rfl
  clear hA0 hval0 hsz0 hsz
  obtain ⟨z, rfl, u1, u2, f1, f2⟩ := arg_sld o0 i0
  refine (law_calls (windowsWhole_w z z.T z.W rfl rfl W u1 u2 f1 f2)).mono fun e W' ⟨he, bel⟩ => ?_
  subst he
  exact ⟨_, rfl, _, _, _, [], _, [], hW', trodAll_mk1 (shut_bool un_4 _), (trodAll_cons_mk (Below.trod laidOut (by kernel_rfl) (of_decide_eq_true (by kernel_rfl)) k0 bel lt0) trodAll_mk0), rfl, bel.frame _, fun h => by cases h⟩

/-- The statement. -/
theorem windowsWhole_proved : Rows.WindowsWholeSaid :=
  OpenClaim.holds_of_wide 6 Try.f6 rfl rfl rfl rfl rfl rfl rfl ⟨rfl, rfl, rfl, rfl, rfl⟩ rfl rfl rfl rfl rfl (by kernel_rfl) Try.func6 (by kernel_rfl)
    (of_decide_eq_true (by kernel_rfl)) (by unfold Func.isWrapper; first | (rw [if_pos (by decide +kernel)]; kernel_rfl) | (rw [if_neg (by decide +kernel)]; exact ⟨rfl, rfl⟩))
    (fun os started H enc _ => windowsWhole_lifted os started H enc)
#print axioms windowsWhole_proved
end Go.Proofs.Ytgjpjpdmkeifeaa
