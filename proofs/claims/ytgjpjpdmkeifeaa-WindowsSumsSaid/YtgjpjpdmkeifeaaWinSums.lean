/- Windows go with sums, of pictures, and of windows: for any two pictures of one shape, any two windows of one shape, any step, any pad; no condition. -/
import Derived.Test.YtgjpjpdmkeifeaaWinMore
import Derived.Test.YtgjpjpdmkeifeaaMathsLaw
namespace Go.Proofs.Ytgjpjpdmkeifeaa
open Go Go.Dd Go.RowKit Go.ChangeShapes Go.WideShapes Go.ChangeAt

theorem e2_zero {s t : List Int} {l m : List (BitVec 32)} (h : e2 s l t m = 0) : tok s l = true ∧ tok t m = true ∧ t = s := by
  unfold e2 at h
  split at h
  · rename_i h1
    simp only [Bool.and_eq_true] at h1
    split at h
    · rename_i h2; exact ⟨h1.1, h1.2, h2⟩
    · cases h
  · cases h
theorem e2_ok {s t : List Int} {l m : List (BitVec 32)} (h1 : tok s l = true) (h2 : tok t m = true) (h3 : t = s) : e2 s l t m = 0 := by
  unfold e2; simp only [h1, h2, Bool.and_self, if_true, if_pos h3]
theorem z2_getD {f : BitVec 32 → BitVec 32 → BitVec 32} {s : List Int} {l m : List (BitVec 32)} (hl : l.length = (Shapes.size s).toNat) (hm : m.length = (Shapes.size s).toNat) (h0 : f default default = default) (i : Nat) : (z2 f s l m).getD i default = f (l.getD i default) (m.getD i default) := by
  rcases Nat.lt_or_ge i (Shapes.size s).toNat with h | h
  · simp [z2, h]
  · have e0 : ∀ k : List (BitVec 32), k.length = (Shapes.size s).toNat → k.getD i default = default := fun k hk => by
      rw [List.getD_eq_getElem?_getD, List.getElem?_eq_none (by omega)]; rfl
    rw [e0 l hl, e0 m hm, h0]
    exact e0 _ (by simp [z2])
theorem z2_len (f : BitVec 32 → BitVec 32 → BitVec 32) (s : List Int) (l m : List (BitVec 32)) : (z2 f s l m).length = (Shapes.size s).toNat := by simp [z2]
theorem wof_addl {a b p f : T4} {step pad : Int} (h1 : b.s = a.s) (h2 : p.s = a.s) (h3 : p.l = z2 (· + ·) a.s a.l b.l) (ha : tok a.s a.l = true) (hb : tok b.s b.l = true) :
    z2 (· + ·) (wshS a.s f.s step pad) (wofL a f step pad) (wofL b f step pad) = wofL p f step pad := by
  have hg : ∀ i, p.l.getD i default = a.l.getD i default + b.l.getD i default := fun i => by
    rw [h3]; exact z2_getD (tok_ok ha).2 (by rw [(tok_ok hb).2, h1]) rfl i
  unfold z2
  rw [show wofL p f step pad = (List.range (Shapes.size (wshS a.s f.s step pad)).toNat).map (wofF p f step pad) by unfold wofL; rw [h2]]
  refine List.map_congr_left fun i hi => ?_
  rw [List.mem_range] at hi
  have e1 : (wofL a f step pad).getD i default = wofF a f step pad i := by simp [wofL, hi]
  have e2 : (wofL b f step pad).getD i default = wofF b f step pad i := by unfold wofL; rw [h1]; simp [hi]
  rw [e1, e2]
  unfold wofF
  rw [h1, h2]
  exact (winS_addl hg _ _ _ _ _ _ _ _ _).symm
theorem wof_addr {t a b p : T4} {step pad : Int} (h1 : b.s = a.s) (h2 : p.s = a.s) (h3 : p.l = z2 (· + ·) a.s a.l b.l) (ha : tok a.s a.l = true) (hb : tok b.s b.l = true) :
    z2 (· + ·) (wshS t.s a.s step pad) (wofL t a step pad) (wofL t b step pad) = wofL t p step pad := by
  have hg : ∀ i, p.l.getD i default = a.l.getD i default + b.l.getD i default := fun i => by
    rw [h3]; exact z2_getD (tok_ok ha).2 (by rw [(tok_ok hb).2, h1]) rfl i
  unfold z2
  rw [show wofL t p step pad = (List.range (Shapes.size (wshS t.s a.s step pad)).toNat).map (wofF t p step pad) by unfold wofL; rw [h2]]
  refine List.map_congr_left fun i hi => ?_
  rw [List.mem_range] at hi
  have e1 : (wofL t a step pad).getD i default = wofF t a step pad i := by simp [wofL, hi]
  have e2 : (wofL t b step pad).getD i default = wofF t b step pad i := by unfold wofL; rw [h1]; simp [hi]
  rw [e1, e2]
  unfold wofF wofN
  rw [h1, h2]
  exact (winS_addr hg _ _ _ _ _ _ _ _ _).symm
theorem windowsSums_w (z y : Sld) (W : World) (h_zt : z.T.at W) (h_zw : z.W.at W) (h_yt : y.T.at W) (h_yw : y.W.at W) (f1 : few z.T) (f2 : few z.W) (f3 : few y.T) (f4 : few y.W) :
    Fnc Try.prog 7 [z.v, y.v] W (fun r w' => r = .bool true ∧ Below W.heap.size W w') := by
  have hB := Below.refl W.heap.size W
  refine Fnc.enter (n := 194) Try.func7 (by kernel_rfl) rfl rfl rfl ?_
  refine Cw.seq ?_
  refine Cw.region ?_
  refine Lw.boxV (cs := z.c) rfl rfl rfl ?_
  rintro A_z w eA_z b_z hn -
  replace hB := hB.bs hn
  replace h_zt := h_zt.bs hn
  replace h_zw := h_zw.bs hn
  replace h_yt := h_yt.bs hn
  replace h_yw := h_yw.bs hn
  clear hn
  refine Lw.boxV (cs := y.c) rfl rfl rfl ?_
  rintro A_y w eA_y b_y hn -
  replace hB := hB.bs hn
  replace h_zt := h_zt.bs hn
  replace h_zw := h_zw.bs hn
  replace h_yt := h_yt.bs hn
  replace h_yw := h_yw.bs hn
  replace b_z := b_z.bs hn
  clear hn
  refine Lw.val (Ex.assign rfl) rfl ?_
  refine Lw.nil ?_
  refine Pw.thenN (Cw.out ?_)
  refine Cw.seq ?_
  refine Cw.seq ?_
  refine Cw.region ?_
  refine Lw.callF rfl rfl (alive_c _) ?_
  rintro _ w ⟨rfl, hn⟩
  replace hB := hB.bs hn
  replace h_zt := h_zt.bs hn
  replace h_zw := h_zw.bs hn
  replace h_yt := h_yt.bs hn
  replace h_yw := h_yw.bs hn
  replace b_z := b_z.bs hn
  replace b_y := b_y.bs hn
  clear hn
  refine Lw.val (Ex.not rfl) rfl ?_
  refine Lw.val (Ex.move rfl) rfl ?_
  refine Lw.know 21 (v' := .bool false) rfl (congrArg Value.bool (rfl)) ?_
  refine Lw.take (dj := 21) rfl rfl ?_
  refine Lw.val (Ex.ldA (ag_42 _) (sz_42 _) rfl rfl (by assumption)) rfl ?_
  refine Lw.take (dj := 21) rfl rfl ?_
  refine Lw.callF rfl rfl (great_c z _ h_zt h_zw f1 f2) ?_
  rintro _ w ⟨rfl, hn⟩
  replace hB := hB.bs hn
  replace h_zt := h_zt.bs hn
  replace h_zw := h_zw.bs hn
  replace h_yt := h_yt.bs hn
  replace h_yw := h_yw.bs hn
  replace b_z := b_z.bs hn
  replace b_y := b_y.bs hn
  clear hn
  refine Lw.val (Ex.pickF rfl rfl) rfl ?_
  refine Lw.val (Ex.move rfl) rfl ?_
  refine Lw.part 25 rfl ?_ ?_
  · intro _
    refine Lw.pass (dj := 25) rfl rfl rfl rfl ?_
    refine Lw.pass (dj := 25) rfl rfl rfl rfl ?_
    refine Lw.val (Ex.pickT rfl rfl) rfl ?_
    refine Lw.val (Ex.move rfl) rfl ?_
    refine Lw.pass (dj := 29) rfl rfl rfl rfl ?_
    refine Lw.pass (dj := 29) rfl rfl rfl rfl ?_
    refine Lw.pass (dj := 29) rfl rfl rfl rfl ?_
    refine Lw.pass (dj := 29) rfl rfl rfl rfl ?_
    refine Lw.pass (dj := 29) rfl rfl rfl rfl ?_
    refine Lw.pass (dj := 29) rfl rfl rfl rfl ?_
    refine Lw.pass (dj := 29) rfl rfl rfl rfl ?_
    refine Lw.pass (dj := 29) rfl rfl rfl rfl ?_
    refine Lw.val (Ex.pickT rfl rfl) rfl ?_
    refine Lw.val (Ex.move rfl) rfl ?_
    refine Lw.pass (dj := 39) rfl rfl rfl rfl ?_
    refine Lw.pass (dj := 39) rfl rfl rfl rfl ?_
    refine Lw.pass (dj := 39) rfl rfl rfl rfl ?_
    refine Lw.pass (dj := 39) rfl rfl rfl rfl ?_
    refine Lw.pass (dj := 39) rfl rfl rfl rfl ?_
    refine Lw.pass (dj := 39) rfl rfl rfl rfl ?_
    refine Lw.pass (dj := 39) rfl rfl rfl rfl ?_
    refine Lw.pass (dj := 39) rfl rfl rfl rfl ?_
    refine Lw.val (Ex.pickT rfl rfl) rfl ?_
    refine Lw.nil ?_
    refine Pw.thenN (Cw.out ?_)
    refine Cw.condT rfl ?_
    refine Cw.seq ?_
    refine Cw.region ?_
    refine Lw.callF rfl rfl (alive_c _) ?_
    rintro _ w ⟨rfl, hn⟩
    replace hB := hB.bs hn
    replace h_zt := h_zt.bs hn
    replace h_zw := h_zw.bs hn
    replace h_yt := h_yt.bs hn
    replace h_yw := h_yw.bs hn
    replace b_z := b_z.bs hn
    replace b_y := b_y.bs hn
    clear hn
    refine Lw.val (Ex.assign rfl) rfl ?_
    refine Lw.nil ?_
    refine Pw.thenN (Cw.out ?_)
    refine Cw.ret ?_
    refine Pw.thenR ?_
    refine Pw.ret1 rfl rfl ?_
    exact ⟨rfl, hB⟩
  intro g1
  refine Lw.take (dj := 25) rfl rfl ?_
  refine Lw.val (Ex.ldA (ag_42 _) (sz_42 _) rfl rfl (by assumption)) rfl ?_
  refine Lw.take (dj := 25) rfl rfl ?_
  refine Lw.callF rfl rfl (great_c y _ h_yt h_yw f3 f4) ?_
  rintro _ w ⟨rfl, hn⟩
  replace hB := hB.bs hn
  replace h_zt := h_zt.bs hn
  replace h_zw := h_zw.bs hn
  replace h_yt := h_yt.bs hn
  replace h_yw := h_yw.bs hn
  replace b_z := b_z.bs hn
  replace b_y := b_y.bs hn
  clear hn
  refine Lw.val (Ex.pickF rfl rfl) rfl ?_
  refine Lw.val (Ex.move rfl) rfl ?_
  refine Lw.part 29 rfl ?_ ?_
  · intro _
    refine Lw.pass (dj := 29) rfl rfl rfl rfl ?_
    refine Lw.pass (dj := 29) rfl rfl rfl rfl ?_
    refine Lw.pass (dj := 29) rfl rfl rfl rfl ?_
    refine Lw.pass (dj := 29) rfl rfl rfl rfl ?_
    refine Lw.pass (dj := 29) rfl rfl rfl rfl ?_
    refine Lw.pass (dj := 29) rfl rfl rfl rfl ?_
    refine Lw.pass (dj := 29) rfl rfl rfl rfl ?_
    refine Lw.pass (dj := 29) rfl rfl rfl rfl ?_
    refine Lw.val (Ex.pickT rfl rfl) rfl ?_
    refine Lw.val (Ex.move rfl) rfl ?_
    refine Lw.pass (dj := 39) rfl rfl rfl rfl ?_
    refine Lw.pass (dj := 39) rfl rfl rfl rfl ?_
    refine Lw.pass (dj := 39) rfl rfl rfl rfl ?_
    refine Lw.pass (dj := 39) rfl rfl rfl rfl ?_
    refine Lw.pass (dj := 39) rfl rfl rfl rfl ?_
    refine Lw.pass (dj := 39) rfl rfl rfl rfl ?_
    refine Lw.pass (dj := 39) rfl rfl rfl rfl ?_
    refine Lw.pass (dj := 39) rfl rfl rfl rfl ?_
    refine Lw.val (Ex.pickT rfl rfl) rfl ?_
    refine Lw.nil ?_
    refine Pw.thenN (Cw.out ?_)
    refine Cw.condT rfl ?_
    refine Cw.seq ?_
    refine Cw.region ?_
    refine Lw.callF rfl rfl (alive_c _) ?_
    rintro _ w ⟨rfl, hn⟩
    replace hB := hB.bs hn
    replace h_zt := h_zt.bs hn
    replace h_zw := h_zw.bs hn
    replace h_yt := h_yt.bs hn
    replace h_yw := h_yw.bs hn
    replace b_z := b_z.bs hn
    replace b_y := b_y.bs hn
    clear hn
    refine Lw.val (Ex.assign rfl) rfl ?_
    refine Lw.nil ?_
    refine Pw.thenN (Cw.out ?_)
    refine Cw.ret ?_
    refine Pw.thenR ?_
    refine Pw.ret1 rfl rfl ?_
    exact ⟨rfl, hB⟩
  intro g2
  refine Lw.take (dj := 29) rfl rfl ?_
  refine Lw.val (Ex.fieldAddr (q := 1) Try.underlying42 rfl (sz_25 _) rfl) rfl ?_
  refine Lw.take (dj := 29) rfl rfl ?_
  refine Lw.val (Ex.fieldAddr (q := 0) Try.underlying25 rfl (sz_22 _) rfl) rfl ?_
  refine Lw.take (dj := 29) rfl rfl ?_
  refine Lw.val (Ex.ldB (ag_22 _) rfl (by assumption) rfl) rfl ?_
  refine Lw.take (dj := 29) rfl rfl ?_
  refine Lw.val (Ex.fieldAddr (q := 1) Try.underlying42 rfl (sz_25 _) rfl) rfl ?_
  refine Lw.take (dj := 29) rfl rfl ?_
  refine Lw.val (Ex.fieldAddr (q := 0) Try.underlying25 rfl (sz_22 _) rfl) rfl ?_
  refine Lw.take (dj := 29) rfl rfl ?_
  refine Lw.val (Ex.ldB (ag_22 _) rfl (by assumption) rfl) rfl ?_
  refine Lw.take (dj := 29) rfl rfl ?_
  refine Lw.callF rfl rfl (sameInts_c z.T.x y.T.x z.T.s y.T.s _ h_zt.1 h_yt.1) ?_
  rintro _ w ⟨rfl, hn⟩
  replace hB := hB.bs hn
  replace h_zt := h_zt.bs hn
  replace h_zw := h_zw.bs hn
  replace h_yt := h_yt.bs hn
  replace h_yw := h_yw.bs hn
  replace b_z := b_z.bs hn
  replace b_y := b_y.bs hn
  clear hn
  refine Lw.take (dj := 29) rfl rfl ?_
  refine Lw.val (Ex.not rfl) rfl ?_
  refine Lw.val (Ex.pickF rfl rfl) rfl ?_
  refine Lw.val (Ex.move rfl) rfl ?_
  refine Lw.part 39 rfl ?_ ?_
  · intro _
    refine Lw.pass (dj := 39) rfl rfl rfl rfl ?_
    refine Lw.pass (dj := 39) rfl rfl rfl rfl ?_
    refine Lw.pass (dj := 39) rfl rfl rfl rfl ?_
    refine Lw.pass (dj := 39) rfl rfl rfl rfl ?_
    refine Lw.pass (dj := 39) rfl rfl rfl rfl ?_
    refine Lw.pass (dj := 39) rfl rfl rfl rfl ?_
    refine Lw.pass (dj := 39) rfl rfl rfl rfl ?_
    refine Lw.pass (dj := 39) rfl rfl rfl rfl ?_
    refine Lw.val (Ex.pickT rfl rfl) rfl ?_
    refine Lw.nil ?_
    refine Pw.thenN (Cw.out ?_)
    refine Cw.condT rfl ?_
    refine Cw.seq ?_
    refine Cw.region ?_
    refine Lw.callF rfl rfl (alive_c _) ?_
    rintro _ w ⟨rfl, hn⟩
    replace hB := hB.bs hn
    replace h_zt := h_zt.bs hn
    replace h_zw := h_zw.bs hn
    replace h_yt := h_yt.bs hn
    replace h_yw := h_yw.bs hn
    replace b_z := b_z.bs hn
    replace b_y := b_y.bs hn
    clear hn
    refine Lw.val (Ex.assign rfl) rfl ?_
    refine Lw.nil ?_
    refine Pw.thenN (Cw.out ?_)
    refine Cw.ret ?_
    refine Pw.thenR ?_
    refine Pw.ret1 rfl rfl ?_
    exact ⟨rfl, hB⟩
  intro g3
  refine Lw.take (dj := 39) rfl rfl ?_
  refine Lw.val (Ex.fieldAddr (q := 1) Try.underlying42 rfl (sz_25 _) rfl) rfl ?_
  refine Lw.take (dj := 39) rfl rfl ?_
  refine Lw.val (Ex.fieldAddr (q := 0) Try.underlying25 rfl (sz_22 _) rfl) rfl ?_
  refine Lw.take (dj := 39) rfl rfl ?_
  refine Lw.val (Ex.ldB (ag_22 _) rfl (by assumption) rfl) rfl ?_
  refine Lw.take (dj := 39) rfl rfl ?_
  refine Lw.val (Ex.fieldAddr (q := 1) Try.underlying42 rfl (sz_25 _) rfl) rfl ?_
  refine Lw.take (dj := 39) rfl rfl ?_
  refine Lw.val (Ex.fieldAddr (q := 0) Try.underlying25 rfl (sz_22 _) rfl) rfl ?_
  refine Lw.take (dj := 39) rfl rfl ?_
  refine Lw.val (Ex.ldB (ag_22 _) rfl (by assumption) rfl) rfl ?_
  refine Lw.take (dj := 39) rfl rfl ?_
  refine Lw.callF rfl rfl (sameInts_c z.W.x y.W.x z.W.s y.W.s _ h_zw.1 h_yw.1) ?_
  rintro _ w ⟨rfl, hn⟩
  replace hB := hB.bs hn
  replace h_zt := h_zt.bs hn
  replace h_zw := h_zw.bs hn
  replace h_yt := h_yt.bs hn
  replace h_yw := h_yw.bs hn
  replace b_z := b_z.bs hn
  replace b_y := b_y.bs hn
  clear hn
  refine Lw.take (dj := 39) rfl rfl ?_
  refine Lw.val (Ex.not rfl) rfl ?_
  refine Lw.val (Ex.pickF rfl rfl) rfl ?_
  refine Lw.nil ?_
  refine Pw.thenN (Cw.out ?_)
  refine Cw.cond rfl ?_ ?_
  · intro _
    refine Cw.seq ?_
    refine Cw.region ?_
    refine Lw.callF rfl rfl (alive_c _) ?_
    rintro _ w ⟨rfl, hn⟩
    replace hB := hB.bs hn
    replace h_zt := h_zt.bs hn
    replace h_zw := h_zw.bs hn
    replace h_yt := h_yt.bs hn
    replace h_yw := h_yw.bs hn
    replace b_z := b_z.bs hn
    replace b_y := b_y.bs hn
    clear hn
    refine Lw.val (Ex.assign rfl) rfl ?_
    refine Lw.nil ?_
    refine Pw.thenN (Cw.out ?_)
    refine Cw.ret ?_
    refine Pw.thenR ?_
    refine Pw.ret1 rfl rfl ?_
    exact ⟨rfl, hB⟩
  intro g4
  have s1 : y.T.s = z.T.s := by symm; simpa using g3
  have s2 : y.W.s = z.W.s := by symm; simpa using g4
  clear g1 g2 g3 g4
  refine Cw.skip ?_
  refine Pw.thenN (Cw.out ?_)
  refine Cw.seq ?_
  refine Cw.region ?_
  refine Lw.val (Ex.fieldAddr (q := 1) Try.underlying42 rfl (sz_25 _) rfl) rfl ?_
  refine Lw.val (Ex.ldAt (ds := [z.T.x, z.T.y]) (ag_25 _) (sz_25 _) rfl rfl (by assumption) rfl) rfl ?_
  refine Lw.val (Ex.fieldAddr (q := 1) Try.underlying42 rfl (sz_25 _) rfl) rfl ?_
  refine Lw.val (Ex.ldAt (ds := [y.T.x, y.T.y]) (ag_25 _) (sz_25 _) rfl rfl (by assumption) rfl) rfl ?_
  refine Lw.callF rfl rfl (add_p z.T y.T _ h_zt h_yt) ?_
  rintro r w ⟨hn, p, rfl, h_p, -, z_p⟩
  replace hB := hB.bs hn
  replace h_zt := h_zt.bs hn
  replace h_zw := h_zw.bs hn
  replace h_yt := h_yt.bs hn
  replace h_yw := h_yw.bs hn
  replace b_z := b_z.bs hn
  replace b_y := b_y.bs hn
  clear hn
  refine Lw.val (Ex.move rfl) rfl ?_
  refine Lw.val (Ex.extract (i := 0) rfl rfl) rfl ?_
  refine Lw.val (Ex.extract (i := 1) rfl rfl) rfl ?_
  refine Lw.boxed (cs := [p.x, p.y]) it_25 rfl rfl rfl rfl (fun _ => rfl) (h_p.one) ?_
  rintro A_p w eA_p b_p hn -
  replace hB := hB.bs hn
  replace h_zt := h_zt.bs hn
  replace h_zw := h_zw.bs hn
  replace h_yt := h_yt.bs hn
  replace h_yw := h_yw.bs hn
  replace b_z := b_z.bs hn
  replace b_y := b_y.bs hn
  replace h_p := h_p.bs hn
  clear hn
  refine Lw.val (Ex.assign rfl) rfl ?_
  refine Lw.nil ?_
  refine Pw.thenN (Cw.out ?_)
  refine Cw.seq ?_
  refine Cw.region ?_
  refine Lw.val (Ex.fieldAddr (q := 1) Try.underlying42 rfl (sz_25 _) rfl) rfl ?_
  refine Lw.val (Ex.ldAt (ds := [z.W.x, z.W.y]) (ag_25 _) (sz_25 _) rfl rfl (by assumption) rfl) rfl ?_
  refine Lw.val (Ex.fieldAddr (q := 1) Try.underlying42 rfl (sz_25 _) rfl) rfl ?_
  refine Lw.val (Ex.ldAt (ds := [y.W.x, y.W.y]) (ag_25 _) (sz_25 _) rfl rfl (by assumption) rfl) rfl ?_
  obtain ⟨E1, hE1⟩ : ∃ E, E = e2 z.T.s z.T.l y.T.s y.T.l := ⟨_, rfl⟩
  rw [← hE1] at z_p ⊢
  refine Lw.callF rfl rfl (add_p z.W y.W _ h_zw h_yw) ?_
  rintro r w ⟨hn, q, rfl, h_q, -, z_q⟩
  replace hB := hB.bs hn
  replace h_zt := h_zt.bs hn
  replace h_zw := h_zw.bs hn
  replace h_yt := h_yt.bs hn
  replace h_yw := h_yw.bs hn
  replace b_z := b_z.bs hn
  replace b_y := b_y.bs hn
  replace h_p := h_p.bs hn
  replace b_p := b_p.bs hn
  clear hn
  refine Lw.val (Ex.move rfl) rfl ?_
  refine Lw.val (Ex.extract (i := 0) rfl rfl) rfl ?_
  refine Lw.val (Ex.extract (i := 1) rfl rfl) rfl ?_
  refine Lw.boxed (cs := [q.x, q.y]) it_25 rfl rfl rfl rfl (fun _ => rfl) (h_q.one) ?_
  rintro A_q w eA_q b_q hn -
  replace hB := hB.bs hn
  replace h_zt := h_zt.bs hn
  replace h_zw := h_zw.bs hn
  replace h_yt := h_yt.bs hn
  replace h_yw := h_yw.bs hn
  replace b_z := b_z.bs hn
  replace b_y := b_y.bs hn
  replace h_p := h_p.bs hn
  replace b_p := b_p.bs hn
  replace h_q := h_q.bs hn
  clear hn
  refine Lw.val (Ex.assign rfl) rfl ?_
  refine Lw.nil ?_
  refine Pw.thenN (Cw.out ?_)
  refine Cw.seq ?_
  refine Cw.region ?_
  refine Lw.val (Ex.fieldAddr (q := 1) Try.underlying42 rfl (sz_25 _) rfl) rfl ?_
  refine Lw.val (Ex.ldAt (ds := [z.T.x, z.T.y]) (ag_25 _) (sz_25 _) rfl rfl (by assumption) rfl) rfl ?_
  refine Lw.val (Ex.fieldAddr (q := 1) Try.underlying42 rfl (sz_25 _) rfl) rfl ?_
  refine Lw.val (Ex.ldAt (ds := [z.W.x, z.W.y]) (ag_25 _) (sz_25 _) rfl rfl (by assumption) rfl) rfl ?_
  refine Lw.val (Ex.fieldAddr (q := 0) Try.underlying42 rfl (sz_3 _) rfl) rfl ?_
  refine Lw.val (Ex.ldB (ag_3 _) rfl (by assumption) rfl) rfl ?_
  refine Lw.val (Ex.fieldAddr (q := 0) Try.underlying42 rfl (sz_3 _) rfl) rfl ?_
  refine Lw.val (Ex.ldB (ag_3 _) rfl (by assumption) rfl) rfl ?_
  obtain ⟨E2, hE2⟩ : ∃ E, E = e2 z.W.s z.W.l y.W.s y.W.l := ⟨_, rfl⟩
  rw [← hE2] at z_q ⊢
  refine Lw.callF rfl rfl (wof_c z.T z.W z.step z.pad _ h_zt h_zw) ?_
  rintro r w ⟨hn, a, rfl, h_a, -, z_a⟩
  replace hB := hB.bs hn
  replace h_zt := h_zt.bs hn
  replace h_zw := h_zw.bs hn
  replace h_yt := h_yt.bs hn
  replace h_yw := h_yw.bs hn
  replace b_z := b_z.bs hn
  replace b_y := b_y.bs hn
  replace h_p := h_p.bs hn
  replace b_p := b_p.bs hn
  replace h_q := h_q.bs hn
  replace b_q := b_q.bs hn
  clear hn
  refine Lw.val (Ex.move rfl) rfl ?_
  refine Lw.val (Ex.extract (i := 0) rfl rfl) rfl ?_
  refine Lw.val (Ex.extract (i := 1) rfl rfl) rfl ?_
  refine Lw.boxed (cs := [a.x, a.y]) it_25 rfl rfl rfl rfl (fun _ => rfl) (h_a.one) ?_
  rintro A_a w eA_a b_a hn -
  replace hB := hB.bs hn
  replace h_zt := h_zt.bs hn
  replace h_zw := h_zw.bs hn
  replace h_yt := h_yt.bs hn
  replace h_yw := h_yw.bs hn
  replace b_z := b_z.bs hn
  replace b_y := b_y.bs hn
  replace h_p := h_p.bs hn
  replace b_p := b_p.bs hn
  replace h_q := h_q.bs hn
  replace b_q := b_q.bs hn
  replace h_a := h_a.bs hn
  clear hn
  refine Lw.val (Ex.assign rfl) rfl ?_
  refine Lw.nil ?_
  refine Pw.thenN (Cw.out ?_)
  refine Cw.seq ?_
  refine Cw.region ?_
  refine Lw.val (Ex.fieldAddr (q := 1) Try.underlying42 rfl (sz_25 _) rfl) rfl ?_
  refine Lw.val (Ex.ldAt (ds := [y.T.x, y.T.y]) (ag_25 _) (sz_25 _) rfl rfl (by assumption) rfl) rfl ?_
  refine Lw.val (Ex.fieldAddr (q := 1) Try.underlying42 rfl (sz_25 _) rfl) rfl ?_
  refine Lw.val (Ex.ldAt (ds := [z.W.x, z.W.y]) (ag_25 _) (sz_25 _) rfl rfl (by assumption) rfl) rfl ?_
  refine Lw.val (Ex.fieldAddr (q := 0) Try.underlying42 rfl (sz_3 _) rfl) rfl ?_
  refine Lw.val (Ex.ldB (ag_3 _) rfl (by assumption) rfl) rfl ?_
  refine Lw.val (Ex.fieldAddr (q := 0) Try.underlying42 rfl (sz_3 _) rfl) rfl ?_
  refine Lw.val (Ex.ldB (ag_3 _) rfl (by assumption) rfl) rfl ?_
  obtain ⟨E3, hE3⟩ : ∃ E, E = wofE z.T z.W z.step z.pad := ⟨_, rfl⟩
  rw [← hE3] at z_a ⊢
  refine Lw.callF rfl rfl (wof_c y.T z.W z.step z.pad _ h_yt h_zw) ?_
  rintro r w ⟨hn, b, rfl, h_b, -, z_b⟩
  replace hB := hB.bs hn
  replace h_zt := h_zt.bs hn
  replace h_zw := h_zw.bs hn
  replace h_yt := h_yt.bs hn
  replace h_yw := h_yw.bs hn
  replace b_z := b_z.bs hn
  replace b_y := b_y.bs hn
  replace h_p := h_p.bs hn
  replace b_p := b_p.bs hn
  replace h_q := h_q.bs hn
  replace b_q := b_q.bs hn
  replace h_a := h_a.bs hn
  replace b_a := b_a.bs hn
  clear hn
  refine Lw.val (Ex.move rfl) rfl ?_
  refine Lw.val (Ex.extract (i := 0) rfl rfl) rfl ?_
  refine Lw.val (Ex.extract (i := 1) rfl rfl) rfl ?_
  refine Lw.boxed (cs := [b.x, b.y]) it_25 rfl rfl rfl rfl (fun _ => rfl) (h_b.one) ?_
  rintro A_b w eA_b b_b hn -
  replace hB := hB.bs hn
  replace h_zt := h_zt.bs hn
  replace h_zw := h_zw.bs hn
  replace h_yt := h_yt.bs hn
  replace h_yw := h_yw.bs hn
  replace b_z := b_z.bs hn
  replace b_y := b_y.bs hn
  replace h_p := h_p.bs hn
  replace b_p := b_p.bs hn
  replace h_q := h_q.bs hn
  replace b_q := b_q.bs hn
  replace h_a := h_a.bs hn
  replace b_a := b_a.bs hn
  replace h_b := h_b.bs hn
  clear hn
  refine Lw.val (Ex.assign rfl) rfl ?_
  refine Lw.nil ?_
  refine Pw.thenN (Cw.out ?_)
  refine Cw.seq ?_
  refine Cw.region ?_
  refine Lw.val (Ex.fieldAddr (q := 1) Try.underlying42 rfl (sz_25 _) rfl) rfl ?_
  refine Lw.val (Ex.ldAt (ds := [z.T.x, z.T.y]) (ag_25 _) (sz_25 _) rfl rfl (by assumption) rfl) rfl ?_
  refine Lw.val (Ex.fieldAddr (q := 1) Try.underlying42 rfl (sz_25 _) rfl) rfl ?_
  refine Lw.val (Ex.ldAt (ds := [y.W.x, y.W.y]) (ag_25 _) (sz_25 _) rfl rfl (by assumption) rfl) rfl ?_
  refine Lw.val (Ex.fieldAddr (q := 0) Try.underlying42 rfl (sz_3 _) rfl) rfl ?_
  refine Lw.val (Ex.ldB (ag_3 _) rfl (by assumption) rfl) rfl ?_
  refine Lw.val (Ex.fieldAddr (q := 0) Try.underlying42 rfl (sz_3 _) rfl) rfl ?_
  refine Lw.val (Ex.ldB (ag_3 _) rfl (by assumption) rfl) rfl ?_
  obtain ⟨E4, hE4⟩ : ∃ E, E = wofE y.T z.W z.step z.pad := ⟨_, rfl⟩
  rw [← hE4] at z_b ⊢
  refine Lw.callF rfl rfl (wof_c z.T y.W z.step z.pad _ h_zt h_yw) ?_
  rintro r w ⟨hn, c, rfl, h_c, -, z_c⟩
  replace hB := hB.bs hn
  replace h_zt := h_zt.bs hn
  replace h_zw := h_zw.bs hn
  replace h_yt := h_yt.bs hn
  replace h_yw := h_yw.bs hn
  replace b_z := b_z.bs hn
  replace b_y := b_y.bs hn
  replace h_p := h_p.bs hn
  replace b_p := b_p.bs hn
  replace h_q := h_q.bs hn
  replace b_q := b_q.bs hn
  replace h_a := h_a.bs hn
  replace b_a := b_a.bs hn
  replace h_b := h_b.bs hn
  replace b_b := b_b.bs hn
  clear hn
  refine Lw.val (Ex.move rfl) rfl ?_
  refine Lw.val (Ex.extract (i := 0) rfl rfl) rfl ?_
  refine Lw.val (Ex.extract (i := 1) rfl rfl) rfl ?_
  refine Lw.boxed (cs := [c.x, c.y]) it_25 rfl rfl rfl rfl (fun _ => rfl) (h_c.one) ?_
  rintro A_c w eA_c b_c hn -
  replace hB := hB.bs hn
  replace h_zt := h_zt.bs hn
  replace h_zw := h_zw.bs hn
  replace h_yt := h_yt.bs hn
  replace h_yw := h_yw.bs hn
  replace b_z := b_z.bs hn
  replace b_y := b_y.bs hn
  replace h_p := h_p.bs hn
  replace b_p := b_p.bs hn
  replace h_q := h_q.bs hn
  replace b_q := b_q.bs hn
  replace h_a := h_a.bs hn
  replace b_a := b_a.bs hn
  replace h_b := h_b.bs hn
  replace b_b := b_b.bs hn
  replace h_c := h_c.bs hn
  clear hn
  refine Lw.val (Ex.assign rfl) rfl ?_
  refine Lw.nil ?_
  refine Pw.thenN (Cw.out ?_)
  refine Cw.seq ?_
  refine Cw.seq ?_
  refine Cw.region ?_
  refine Lw.val (Ex.move rfl) rfl ?_
  refine Lw.val (Ex.neq rfl rfl) rfl ?_
  refine Lw.val (Ex.move rfl) rfl ?_
  obtain ⟨E5, hE5⟩ : ∃ E, E = wofE z.T y.W z.step z.pad := ⟨_, rfl⟩
  rw [← hE5] at z_c ⊢
  refine Lw.part 104 rfl ?_ ?_
  · intro g
    refine Lw.pass (dj := 104) rfl rfl rfl rfl ?_
    refine Lw.pass (dj := 104) rfl rfl rfl rfl ?_
    refine Lw.val (Ex.pickT rfl rfl) rfl ?_
    refine Lw.val (Ex.move rfl) rfl ?_
    refine Lw.pass (dj := 108) rfl rfl rfl rfl ?_
    refine Lw.pass (dj := 108) rfl rfl rfl rfl ?_
    refine Lw.val (Ex.pickT rfl rfl) rfl ?_
    refine Lw.val (Ex.move rfl) rfl ?_
    refine Lw.pass (dj := 112) rfl rfl rfl rfl ?_
    refine Lw.pass (dj := 112) rfl rfl rfl rfl ?_
    refine Lw.val (Ex.pickT rfl rfl) rfl ?_
    refine Lw.val (Ex.move rfl) rfl ?_
    refine Lw.pass (dj := 116) rfl rfl rfl rfl ?_
    refine Lw.pass (dj := 116) rfl rfl rfl rfl ?_
    refine Lw.val (Ex.pickT rfl rfl) rfl ?_
    refine Lw.nil ?_
    refine Pw.thenN (Cw.out ?_)
    refine Cw.condT rfl ?_
    refine Cw.seq ?_
    refine Cw.region ?_
    refine Lw.val (Ex.move rfl) rfl ?_
    refine Lw.val (Ex.neq rfl rfl) rfl ?_
    refine Lw.val (Ex.move rfl) rfl ?_
    refine Lw.know 122 (v' := .bool true) rfl (congrArg Value.bool (g)) ?_
    refine Lw.pass (dj := 122) rfl rfl rfl rfl ?_
    refine Lw.pass (dj := 122) rfl rfl rfl rfl ?_
    refine Lw.val (Ex.pickT rfl rfl) rfl ?_
    refine Lw.val (Ex.move rfl) rfl ?_
    refine Lw.pass (dj := 126) rfl rfl rfl rfl ?_
    refine Lw.pass (dj := 126) rfl rfl rfl rfl ?_
    refine Lw.pass (dj := 126) rfl rfl rfl rfl ?_
    refine Lw.passN (dj := 129) rfl rfl rfl ?_
    refine Lw.passN (dj := 129) rfl rfl rfl ?_
    refine Lw.passN (dj := 129) rfl rfl rfl ?_
    refine Lw.pass (dj := 126) rfl rfl rfl rfl ?_
    refine Lw.pass (dj := 126) rfl rfl rfl rfl ?_
    refine Lw.passN (dj := 134) rfl rfl rfl ?_
    refine Lw.passN (dj := 134) rfl rfl rfl ?_
    refine Lw.passN (dj := 134) rfl rfl rfl ?_
    refine Lw.pass (dj := 126) rfl rfl rfl rfl ?_
    refine Lw.val (Ex.pickT rfl rfl) rfl ?_
    refine Lw.val (Ex.assign rfl) rfl ?_
    refine Lw.nil ?_
    refine Pw.thenN (Cw.out ?_)
    refine Cw.ret ?_
    refine Pw.thenR ?_
    refine Pw.ret1 rfl rfl ?_
    exact ⟨rfl, hB⟩
  intro g1
  have z1 : E1 = 0 := by simpa using g1
  refine Lw.take (dj := 104) rfl rfl ?_
  refine Lw.val (Ex.move rfl) rfl ?_
  refine Lw.take (dj := 104) rfl rfl ?_
  refine Lw.val (Ex.neq rfl rfl) rfl ?_
  refine Lw.val (Ex.pickF rfl rfl) rfl ?_
  refine Lw.val (Ex.move rfl) rfl ?_
  refine Lw.part 108 rfl ?_ ?_
  · intro g
    refine Lw.pass (dj := 108) rfl rfl rfl rfl ?_
    refine Lw.pass (dj := 108) rfl rfl rfl rfl ?_
    refine Lw.val (Ex.pickT rfl rfl) rfl ?_
    refine Lw.val (Ex.move rfl) rfl ?_
    refine Lw.pass (dj := 112) rfl rfl rfl rfl ?_
    refine Lw.pass (dj := 112) rfl rfl rfl rfl ?_
    refine Lw.val (Ex.pickT rfl rfl) rfl ?_
    refine Lw.val (Ex.move rfl) rfl ?_
    refine Lw.pass (dj := 116) rfl rfl rfl rfl ?_
    refine Lw.pass (dj := 116) rfl rfl rfl rfl ?_
    refine Lw.val (Ex.pickT rfl rfl) rfl ?_
    refine Lw.nil ?_
    refine Pw.thenN (Cw.out ?_)
    refine Cw.condT rfl ?_
    refine Cw.seq ?_
    refine Cw.region ?_
    refine Lw.val (Ex.move rfl) rfl ?_
    refine Lw.val (Ex.neq rfl rfl) rfl ?_
    refine Lw.val (Ex.move rfl) rfl ?_
    refine Lw.know 122 (v' := .bool false) rfl (congrArg Value.bool (g1)) ?_
    refine Lw.take (dj := 122) rfl rfl ?_
    refine Lw.val (Ex.move rfl) rfl ?_
    refine Lw.take (dj := 122) rfl rfl ?_
    refine Lw.val (Ex.neq rfl rfl) rfl ?_
    refine Lw.val (Ex.pickF rfl rfl) rfl ?_
    refine Lw.val (Ex.move rfl) rfl ?_
    refine Lw.know 126 (v' := .bool true) rfl (congrArg Value.bool (g)) ?_
    refine Lw.pass (dj := 126) rfl rfl rfl rfl ?_
    refine Lw.pass (dj := 126) rfl rfl rfl rfl ?_
    refine Lw.pass (dj := 126) rfl rfl rfl rfl ?_
    refine Lw.passN (dj := 129) rfl rfl rfl ?_
    refine Lw.passN (dj := 129) rfl rfl rfl ?_
    refine Lw.passN (dj := 129) rfl rfl rfl ?_
    refine Lw.pass (dj := 126) rfl rfl rfl rfl ?_
    refine Lw.pass (dj := 126) rfl rfl rfl rfl ?_
    refine Lw.passN (dj := 134) rfl rfl rfl ?_
    refine Lw.passN (dj := 134) rfl rfl rfl ?_
    refine Lw.passN (dj := 134) rfl rfl rfl ?_
    refine Lw.pass (dj := 126) rfl rfl rfl rfl ?_
    refine Lw.val (Ex.pickT rfl rfl) rfl ?_
    refine Lw.val (Ex.assign rfl) rfl ?_
    refine Lw.nil ?_
    refine Pw.thenN (Cw.out ?_)
    refine Cw.ret ?_
    refine Pw.thenR ?_
    refine Pw.ret1 rfl rfl ?_
    exact ⟨rfl, hB⟩
  intro g2
  have z2' : E2 = 0 := by simpa using g2
  obtain ⟨k1, k2, -⟩ := e2_zero (hE1 ▸ z1)
  obtain ⟨k3, k4, -⟩ := e2_zero (hE2 ▸ z2')
  have q4 : E4 = E3 := by rw [hE3, hE4, wofE_tok k1 k3, wofE_tok k2 k3, s1]
  have q5 : E5 = E3 := by rw [hE3, hE5, wofE_tok k1 k3, wofE_tok k1 k4, s2]
  refine Lw.take (dj := 108) rfl rfl ?_
  refine Lw.val (Ex.move rfl) rfl ?_
  refine Lw.take (dj := 108) rfl rfl ?_
  refine Lw.val (Ex.neq rfl rfl) rfl ?_
  refine Lw.val (Ex.pickF rfl rfl) rfl ?_
  refine Lw.val (Ex.move rfl) rfl ?_
  refine Lw.part 112 rfl ?_ ?_
  · intro g
    refine Lw.pass (dj := 112) rfl rfl rfl rfl ?_
    refine Lw.pass (dj := 112) rfl rfl rfl rfl ?_
    refine Lw.val (Ex.pickT rfl rfl) rfl ?_
    refine Lw.val (Ex.move rfl) rfl ?_
    refine Lw.pass (dj := 116) rfl rfl rfl rfl ?_
    refine Lw.pass (dj := 116) rfl rfl rfl rfl ?_
    refine Lw.val (Ex.pickT rfl rfl) rfl ?_
    refine Lw.nil ?_
    refine Pw.thenN (Cw.out ?_)
    refine Cw.condT rfl ?_
    refine Cw.seq ?_
    refine Cw.region ?_
    refine Lw.val (Ex.move rfl) rfl ?_
    refine Lw.val (Ex.neq rfl rfl) rfl ?_
    refine Lw.val (Ex.move rfl) rfl ?_
    refine Lw.know 122 (v' := .bool false) rfl (congrArg Value.bool (g1)) ?_
    refine Lw.take (dj := 122) rfl rfl ?_
    refine Lw.val (Ex.move rfl) rfl ?_
    refine Lw.take (dj := 122) rfl rfl ?_
    refine Lw.val (Ex.neq rfl rfl) rfl ?_
    refine Lw.val (Ex.pickF rfl rfl) rfl ?_
    refine Lw.val (Ex.move rfl) rfl ?_
    refine Lw.know 126 (v' := .bool false) rfl (congrArg Value.bool (g2)) ?_
    refine Lw.take (dj := 126) rfl rfl ?_
    refine Lw.val (Ex.move rfl) rfl ?_
    refine Lw.take (dj := 126) rfl rfl ?_
    refine Lw.val (Ex.neq rfl rfl) rfl ?_
    refine Lw.take (dj := 126) rfl rfl ?_
    refine Lw.val (Ex.move rfl) rfl ?_
    refine Lw.know 129 (v' := .bool true) rfl (congrArg Value.bool (g)) ?_
    refine Lw.take (dj := 129) rfl rfl ?_
    refine Lw.val (Ex.move rfl) rfl ?_
    refine Lw.take (dj := 129) rfl rfl ?_
    refine Lw.val (Ex.move rfl) rfl ?_
    refine Lw.take (dj := 129) rfl rfl ?_
    refine Lw.val (Ex.eql rfl rfl) rfl ?_
    refine Lw.take (dj := 126) rfl rfl ?_
    refine Lw.val (Ex.pickT rfl rfl) rfl ?_
    refine Lw.take (dj := 126) rfl rfl ?_
    refine Lw.val (Ex.move rfl) rfl ?_
    refine Lw.know 134 (v' := .bool true) rfl (congrArg Value.bool ((decide_eq_true q4.symm))) ?_
    refine Lw.take (dj := 134) rfl rfl ?_
    refine Lw.val (Ex.move rfl) rfl ?_
    refine Lw.take (dj := 134) rfl rfl ?_
    refine Lw.val (Ex.move rfl) rfl ?_
    refine Lw.take (dj := 134) rfl rfl ?_
    refine Lw.val (Ex.eql rfl rfl) rfl ?_
    refine Lw.take (dj := 126) rfl rfl ?_
    refine Lw.val (Ex.pickT rfl rfl) rfl ?_
    refine Lw.val (Ex.pickF rfl rfl) rfl ?_
    refine Lw.val (Ex.assign rfl) rfl ?_
    refine Lw.nil ?_
    refine Pw.thenN (Cw.out ?_)
    refine Cw.ret ?_
    refine Pw.thenR ?_
    refine Pw.ret1 rfl rfl ?_
    exact ⟨congrArg Value.bool (decide_eq_true (q4.trans q5.symm)), hB⟩
  intro g3
  have z3 : E3 = 0 := by simpa using g3
  have z4 : E4 = 0 := q4.trans z3
  have z5 : E5 = 0 := q5.trans z3
  refine Lw.take (dj := 112) rfl rfl ?_
  refine Lw.val (Ex.move rfl) rfl ?_
  refine Lw.take (dj := 112) rfl rfl ?_
  refine Lw.val (Ex.neq rfl rfl) rfl ?_
  refine Lw.val (Ex.pickF rfl rfl) rfl ?_
  refine Lw.val (Ex.move rfl) rfl ?_
  refine Lw.know 116 (v' := .bool false) rfl (congrArg Value.bool ((by rw [z4]; rfl))) ?_
  refine Lw.take (dj := 116) rfl rfl ?_
  refine Lw.val (Ex.move rfl) rfl ?_
  refine Lw.take (dj := 116) rfl rfl ?_
  refine Lw.val (Ex.neq rfl rfl) rfl ?_
  refine Lw.val (Ex.pickF rfl rfl) rfl ?_
  refine Lw.nil ?_
  refine Pw.thenN (Cw.out ?_)
  refine Cw.condB rfl false (by rw [z5]; rfl) ?_
  refine Cw.skip ?_
  refine Pw.thenN (Cw.out ?_)
  refine Cw.seq ?_
  refine Cw.region ?_
  refine Lw.val (Ex.ldA (ag_25 _) (sz_25 _) rfl rfl (by assumption)) rfl ?_
  refine Lw.val (Ex.ldA (ag_25 _) (sz_25 _) rfl rfl (by assumption)) rfl ?_
  obtain ⟨s_p, l_p, -⟩ := z_p z1
  obtain ⟨s_q, l_q, -⟩ := z_q z2'
  obtain ⟨s_a, l_a, -⟩ := z_a z3
  obtain ⟨s_b, l_b, -⟩ := z_b z4
  obtain ⟨s_c, l_c, -⟩ := z_c z5
  clear z_p z_q z_a z_b z_c g1 g2 g3
  have w3 : wofE z.T z.W z.step z.pad = 0 := by rw [← hE3]; exact z3
  have w4 : wofE y.T z.W z.step z.pad = 0 := by rw [← hE4]; exact z4
  have w5 : wofE z.T y.W z.step z.pad = 0 := by rw [← hE5]; exact z5
  have o_a : tok a.s a.l = true := by rw [s_a, l_a]; exact tok_wof w3
  have o_b : tok b.s b.l = true := by rw [s_b, l_b]; exact tok_wof w4
  have o_c : tok c.s c.l = true := by rw [s_c, l_c]; exact tok_wof w5
  have t_b : b.s = a.s := by rw [s_b, s_a, s1]
  have t_c : c.s = a.s := by rw [s_c, s_a, s2]
  have e_u : e2 a.s a.l b.s b.l = 0 := e2_ok o_a o_b t_b
  have e_v : e2 a.s a.l c.s c.l = 0 := e2_ok o_a o_c t_c
  have o_p : tok p.s p.l = true := by rw [s_p, l_p]; exact tok_mk (tok_ok k1).1 (z2_len _ _ _ _)
  have o_q : tok q.s q.l = true := by rw [s_q, l_q]; exact tok_mk (tok_ok k3).1 (z2_len _ _ _ _)
  have e_x : wofE p z.W z.step z.pad = 0 := by rw [wofE_tok o_p k3, s_p, ← wofE_tok k1 k3]; exact w3
  have e_y : wofE z.T q z.step z.pad = 0 := by rw [wofE_tok k1 o_q, s_q, ← wofE_tok k1 k3]; exact w3
  refine Lw.callF rfl rfl (add_p a b _ h_a h_b) ?_
  rintro r w ⟨hn, u, rfl, h_u, -, z_u⟩
  replace hB := hB.bs hn
  replace h_zt := h_zt.bs hn
  replace h_zw := h_zw.bs hn
  replace h_yt := h_yt.bs hn
  replace h_yw := h_yw.bs hn
  replace b_z := b_z.bs hn
  replace b_y := b_y.bs hn
  replace h_p := h_p.bs hn
  replace b_p := b_p.bs hn
  replace h_q := h_q.bs hn
  replace b_q := b_q.bs hn
  replace h_a := h_a.bs hn
  replace b_a := b_a.bs hn
  replace h_b := h_b.bs hn
  replace b_b := b_b.bs hn
  replace h_c := h_c.bs hn
  replace b_c := b_c.bs hn
  clear hn
  refine Lw.val (Ex.move rfl) rfl ?_
  refine Lw.val (Ex.extract (i := 0) rfl rfl) rfl ?_
  refine Lw.val (Ex.extract (i := 1) rfl rfl) rfl ?_
  refine Lw.boxed (cs := [u.x, u.y]) it_25 rfl rfl rfl rfl (fun _ => rfl) (h_u.one) ?_
  rintro A_u w eA_u b_u hn -
  replace hB := hB.bs hn
  replace h_zt := h_zt.bs hn
  replace h_zw := h_zw.bs hn
  replace h_yt := h_yt.bs hn
  replace h_yw := h_yw.bs hn
  replace b_z := b_z.bs hn
  replace b_y := b_y.bs hn
  replace h_p := h_p.bs hn
  replace b_p := b_p.bs hn
  replace h_q := h_q.bs hn
  replace b_q := b_q.bs hn
  replace h_a := h_a.bs hn
  replace b_a := b_a.bs hn
  replace h_b := h_b.bs hn
  replace b_b := b_b.bs hn
  replace h_c := h_c.bs hn
  replace b_c := b_c.bs hn
  replace h_u := h_u.bs hn
  clear hn
  refine Lw.val (Ex.assign rfl) rfl ?_
  refine Lw.nil ?_
  refine Pw.thenN (Cw.out ?_)
  refine Cw.seq ?_
  refine Cw.region ?_
  refine Lw.val (Ex.ldA (ag_25 _) (sz_25 _) rfl rfl (by assumption)) rfl ?_
  refine Lw.val (Ex.ldA (ag_25 _) (sz_25 _) rfl rfl (by assumption)) rfl ?_
  refine Lw.callF rfl rfl (add_p a c _ h_a h_c) ?_
  rintro r w ⟨hn, v, rfl, h_v, -, z_v⟩
  replace hB := hB.bs hn
  replace h_zt := h_zt.bs hn
  replace h_zw := h_zw.bs hn
  replace h_yt := h_yt.bs hn
  replace h_yw := h_yw.bs hn
  replace b_z := b_z.bs hn
  replace b_y := b_y.bs hn
  replace h_p := h_p.bs hn
  replace b_p := b_p.bs hn
  replace h_q := h_q.bs hn
  replace b_q := b_q.bs hn
  replace h_a := h_a.bs hn
  replace b_a := b_a.bs hn
  replace h_b := h_b.bs hn
  replace b_b := b_b.bs hn
  replace h_c := h_c.bs hn
  replace b_c := b_c.bs hn
  replace h_u := h_u.bs hn
  replace b_u := b_u.bs hn
  clear hn
  refine Lw.val (Ex.move rfl) rfl ?_
  refine Lw.val (Ex.extract (i := 0) rfl rfl) rfl ?_
  refine Lw.val (Ex.extract (i := 1) rfl rfl) rfl ?_
  refine Lw.boxed (cs := [v.x, v.y]) it_25 rfl rfl rfl rfl (fun _ => rfl) (h_v.one) ?_
  rintro A_v w eA_v b_v hn -
  replace hB := hB.bs hn
  replace h_zt := h_zt.bs hn
  replace h_zw := h_zw.bs hn
  replace h_yt := h_yt.bs hn
  replace h_yw := h_yw.bs hn
  replace b_z := b_z.bs hn
  replace b_y := b_y.bs hn
  replace h_p := h_p.bs hn
  replace b_p := b_p.bs hn
  replace h_q := h_q.bs hn
  replace b_q := b_q.bs hn
  replace h_a := h_a.bs hn
  replace b_a := b_a.bs hn
  replace h_b := h_b.bs hn
  replace b_b := b_b.bs hn
  replace h_c := h_c.bs hn
  replace b_c := b_c.bs hn
  replace h_u := h_u.bs hn
  replace b_u := b_u.bs hn
  replace h_v := h_v.bs hn
  clear hn
  refine Lw.val (Ex.assign rfl) rfl ?_
  refine Lw.nil ?_
  refine Pw.thenN (Cw.out ?_)
  refine Cw.seq ?_
  refine Cw.region ?_
  refine Lw.val (Ex.ldA (ag_25 _) (sz_25 _) rfl rfl (by assumption)) rfl ?_
  refine Lw.val (Ex.fieldAddr (q := 1) Try.underlying42 rfl (sz_25 _) rfl) rfl ?_
  refine Lw.val (Ex.ldAt (ds := [z.W.x, z.W.y]) (ag_25 _) (sz_25 _) rfl rfl (by assumption) rfl) rfl ?_
  refine Lw.val (Ex.fieldAddr (q := 0) Try.underlying42 rfl (sz_3 _) rfl) rfl ?_
  refine Lw.val (Ex.ldB (ag_3 _) rfl (by assumption) rfl) rfl ?_
  refine Lw.val (Ex.fieldAddr (q := 0) Try.underlying42 rfl (sz_3 _) rfl) rfl ?_
  refine Lw.val (Ex.ldB (ag_3 _) rfl (by assumption) rfl) rfl ?_
  refine Lw.callF rfl rfl (wof_c p z.W z.step z.pad _ h_p h_zw) ?_
  rintro r w ⟨hn, m, rfl, h_m, -, z_m⟩
  replace hB := hB.bs hn
  replace h_zt := h_zt.bs hn
  replace h_zw := h_zw.bs hn
  replace h_yt := h_yt.bs hn
  replace h_yw := h_yw.bs hn
  replace b_z := b_z.bs hn
  replace b_y := b_y.bs hn
  replace h_p := h_p.bs hn
  replace b_p := b_p.bs hn
  replace h_q := h_q.bs hn
  replace b_q := b_q.bs hn
  replace h_a := h_a.bs hn
  replace b_a := b_a.bs hn
  replace h_b := h_b.bs hn
  replace b_b := b_b.bs hn
  replace h_c := h_c.bs hn
  replace b_c := b_c.bs hn
  replace h_u := h_u.bs hn
  replace b_u := b_u.bs hn
  replace h_v := h_v.bs hn
  replace b_v := b_v.bs hn
  clear hn
  refine Lw.val (Ex.move rfl) rfl ?_
  refine Lw.val (Ex.extract (i := 0) rfl rfl) rfl ?_
  refine Lw.val (Ex.extract (i := 1) rfl rfl) rfl ?_
  refine Lw.boxed (cs := [m.x, m.y]) it_25 rfl rfl rfl rfl (fun _ => rfl) (h_m.one) ?_
  rintro A_m w eA_m b_m hn -
  replace hB := hB.bs hn
  replace h_zt := h_zt.bs hn
  replace h_zw := h_zw.bs hn
  replace h_yt := h_yt.bs hn
  replace h_yw := h_yw.bs hn
  replace b_z := b_z.bs hn
  replace b_y := b_y.bs hn
  replace h_p := h_p.bs hn
  replace b_p := b_p.bs hn
  replace h_q := h_q.bs hn
  replace b_q := b_q.bs hn
  replace h_a := h_a.bs hn
  replace b_a := b_a.bs hn
  replace h_b := h_b.bs hn
  replace b_b := b_b.bs hn
  replace h_c := h_c.bs hn
  replace b_c := b_c.bs hn
  replace h_u := h_u.bs hn
  replace b_u := b_u.bs hn
  replace h_v := h_v.bs hn
  replace b_v := b_v.bs hn
  replace h_m := h_m.bs hn
  clear hn
  refine Lw.val (Ex.assign rfl) rfl ?_
  refine Lw.nil ?_
  refine Pw.thenN (Cw.out ?_)
  refine Cw.seq ?_
  refine Cw.region ?_
  refine Lw.val (Ex.fieldAddr (q := 1) Try.underlying42 rfl (sz_25 _) rfl) rfl ?_
  refine Lw.val (Ex.ldAt (ds := [z.T.x, z.T.y]) (ag_25 _) (sz_25 _) rfl rfl (by assumption) rfl) rfl ?_
  refine Lw.val (Ex.ldA (ag_25 _) (sz_25 _) rfl rfl (by assumption)) rfl ?_
  refine Lw.val (Ex.fieldAddr (q := 0) Try.underlying42 rfl (sz_3 _) rfl) rfl ?_
  refine Lw.val (Ex.ldB (ag_3 _) rfl (by assumption) rfl) rfl ?_
  refine Lw.val (Ex.fieldAddr (q := 0) Try.underlying42 rfl (sz_3 _) rfl) rfl ?_
  refine Lw.val (Ex.ldB (ag_3 _) rfl (by assumption) rfl) rfl ?_
  refine Lw.callF rfl rfl (wof_c z.T q z.step z.pad _ h_zt h_q) ?_
  rintro r w ⟨hn, n, rfl, h_n, -, z_n⟩
  replace hB := hB.bs hn
  replace h_zt := h_zt.bs hn
  replace h_zw := h_zw.bs hn
  replace h_yt := h_yt.bs hn
  replace h_yw := h_yw.bs hn
  replace b_z := b_z.bs hn
  replace b_y := b_y.bs hn
  replace h_p := h_p.bs hn
  replace b_p := b_p.bs hn
  replace h_q := h_q.bs hn
  replace b_q := b_q.bs hn
  replace h_a := h_a.bs hn
  replace b_a := b_a.bs hn
  replace h_b := h_b.bs hn
  replace b_b := b_b.bs hn
  replace h_c := h_c.bs hn
  replace b_c := b_c.bs hn
  replace h_u := h_u.bs hn
  replace b_u := b_u.bs hn
  replace h_v := h_v.bs hn
  replace b_v := b_v.bs hn
  replace h_m := h_m.bs hn
  replace b_m := b_m.bs hn
  clear hn
  refine Lw.val (Ex.move rfl) rfl ?_
  refine Lw.val (Ex.extract (i := 0) rfl rfl) rfl ?_
  refine Lw.val (Ex.extract (i := 1) rfl rfl) rfl ?_
  refine Lw.boxed (cs := [n.x, n.y]) it_25 rfl rfl rfl rfl (fun _ => rfl) (h_n.one) ?_
  rintro A_n w eA_n b_n hn -
  replace hB := hB.bs hn
  replace h_zt := h_zt.bs hn
  replace h_zw := h_zw.bs hn
  replace h_yt := h_yt.bs hn
  replace h_yw := h_yw.bs hn
  replace b_z := b_z.bs hn
  replace b_y := b_y.bs hn
  replace h_p := h_p.bs hn
  replace b_p := b_p.bs hn
  replace h_q := h_q.bs hn
  replace b_q := b_q.bs hn
  replace h_a := h_a.bs hn
  replace b_a := b_a.bs hn
  replace h_b := h_b.bs hn
  replace b_b := b_b.bs hn
  replace h_c := h_c.bs hn
  replace b_c := b_c.bs hn
  replace h_u := h_u.bs hn
  replace b_u := b_u.bs hn
  replace h_v := h_v.bs hn
  replace b_v := b_v.bs hn
  replace h_m := h_m.bs hn
  replace b_m := b_m.bs hn
  replace h_n := h_n.bs hn
  clear hn
  refine Lw.val (Ex.assign rfl) rfl ?_
  refine Lw.nil ?_
  refine Pw.thenN (Cw.out ?_)
  refine Cw.seq ?_
  refine Cw.region ?_
  refine Lw.val (Ex.ldA (ag_25 _) (sz_25 _) rfl rfl (by assumption)) rfl ?_
  refine Lw.val (Ex.ldA (ag_25 _) (sz_25 _) rfl rfl (by assumption)) rfl ?_
  refine Lw.val (Ex.move rfl) rfl ?_
  refine Lw.val (Ex.move rfl) rfl ?_
  obtain ⟨s_u, l_u, -⟩ := z_u e_u
  obtain ⟨s_v, l_v, -⟩ := z_v e_v
  obtain ⟨s_m, l_m, -⟩ := z_m e_x
  obtain ⟨s_n, l_n, -⟩ := z_n e_y
  rw [e_u, e_v, e_x, e_y]
  refine Lw.callF rfl rfl (same8_c u m 0 0 _ h_u h_m) ?_
  rintro _ w ⟨rfl, hn⟩
  replace hB := hB.bs hn
  replace h_zt := h_zt.bs hn
  replace h_zw := h_zw.bs hn
  replace h_yt := h_yt.bs hn
  replace h_yw := h_yw.bs hn
  replace b_z := b_z.bs hn
  replace b_y := b_y.bs hn
  replace h_p := h_p.bs hn
  replace b_p := b_p.bs hn
  replace h_q := h_q.bs hn
  replace b_q := b_q.bs hn
  replace h_a := h_a.bs hn
  replace b_a := b_a.bs hn
  replace h_b := h_b.bs hn
  replace b_b := b_b.bs hn
  replace h_c := h_c.bs hn
  replace b_c := b_c.bs hn
  replace h_u := h_u.bs hn
  replace b_u := b_u.bs hn
  replace h_v := h_v.bs hn
  replace b_v := b_v.bs hn
  replace h_m := h_m.bs hn
  replace b_m := b_m.bs hn
  replace h_n := h_n.bs hn
  replace b_n := b_n.bs hn
  clear hn
  refine Lw.val (Ex.move rfl) rfl ?_
  have r1 : u.s = m.s := by rw [s_u, s_m, s_a, s_p]
  have r2 : u.l = m.l := by
    rw [l_u, l_m, l_a, l_b, s_a]
    exact wof_addl s1 s_p l_p k1 k2
  have r3 : v.s = n.s := by rw [s_v, s_n, s_a, s_q]
  have r4 : v.l = n.l := by
    rw [l_v, l_n, l_a, l_c, s_a]
    exact wof_addr s2 s_q l_q k3 k4
  refine Lw.know 179 (v' := .bool true) rfl (congrArg Value.bool (by rw [decide_eq_true r1, decide_eq_true r2]; rfl)) ?_
  refine Lw.take (dj := 179) rfl rfl ?_
  refine Lw.val (Ex.ldA (ag_25 _) (sz_25 _) rfl rfl (by assumption)) rfl ?_
  refine Lw.take (dj := 179) rfl rfl ?_
  refine Lw.val (Ex.ldA (ag_25 _) (sz_25 _) rfl rfl (by assumption)) rfl ?_
  refine Lw.take (dj := 179) rfl rfl ?_
  refine Lw.val (Ex.move rfl) rfl ?_
  refine Lw.take (dj := 179) rfl rfl ?_
  refine Lw.val (Ex.move rfl) rfl ?_
  refine Lw.take (dj := 179) rfl rfl ?_
  refine Lw.callF rfl rfl (same8_c v n 0 0 _ h_v h_n) ?_
  rintro _ w ⟨rfl, hn⟩
  replace hB := hB.bs hn
  replace h_zt := h_zt.bs hn
  replace h_zw := h_zw.bs hn
  replace h_yt := h_yt.bs hn
  replace h_yw := h_yw.bs hn
  replace b_z := b_z.bs hn
  replace b_y := b_y.bs hn
  replace h_p := h_p.bs hn
  replace b_p := b_p.bs hn
  replace h_q := h_q.bs hn
  replace b_q := b_q.bs hn
  replace h_a := h_a.bs hn
  replace b_a := b_a.bs hn
  replace h_b := h_b.bs hn
  replace b_b := b_b.bs hn
  replace h_c := h_c.bs hn
  replace b_c := b_c.bs hn
  replace h_u := h_u.bs hn
  replace b_u := b_u.bs hn
  replace h_v := h_v.bs hn
  replace b_v := b_v.bs hn
  replace h_m := h_m.bs hn
  replace b_m := b_m.bs hn
  replace h_n := h_n.bs hn
  replace b_n := b_n.bs hn
  clear hn
  refine Lw.val (Ex.pickT rfl rfl) rfl ?_
  refine Lw.val (Ex.move rfl) rfl ?_
  refine Lw.know 186 (v' := .bool true) rfl (congrArg Value.bool (by rw [decide_eq_true r3, decide_eq_true r4]; rfl)) ?_
  refine Lw.take (dj := 186) rfl rfl ?_
  refine Lw.val (Ex.move rfl) rfl ?_
  refine Lw.take (dj := 186) rfl rfl ?_
  refine Lw.val (Ex.eql rfl rfl) rfl ?_
  refine Lw.val (Ex.pickT rfl rfl) rfl ?_
  refine Lw.val (Ex.move rfl) rfl ?_
  refine Lw.know 190 (v' := .bool true) rfl (congrArg Value.bool (rfl)) ?_
  refine Lw.take (dj := 190) rfl rfl ?_
  refine Lw.val (Ex.move rfl) rfl ?_
  refine Lw.take (dj := 190) rfl rfl ?_
  refine Lw.val (Ex.eql rfl rfl) rfl ?_
  refine Lw.val (Ex.pickT rfl rfl) rfl ?_
  refine Lw.val (Ex.assign rfl) rfl ?_
  refine Lw.nil ?_
  refine Pw.thenN (Cw.out ?_)
  refine Cw.ret ?_
  refine Pw.ret1 rfl rfl ?_
  exact ⟨rfl, hB⟩

set_option maxRecDepth 100000 in
set_option maxHeartbeats 2000000 in
theorem windowsSums_lifted (os : Os) (started : os.Started) (H : Type) (enc : TypeId × Value → H) :
    ReturnsInHanded {} Try.checked os 7 .any (Rows.windowsSumsSpec.pre6 enc Try.prog Try.f7 Rows.windowsSumsRow.domain false) (Rows.windowsSumsSpec.post enc Try.prog Try.f7 false true false false) := by
  refine returnsInHanded_of_change_sized (C := Try.checked) own started (by kernel_rfl) Try.func7
    (ChangeSpec.witness6 (enc := enc) (C := Try.checked) false ⟨#[], #[.agg #[.slice none 0 0, .slice none 0 0, .slice none 0 0, .slice none 0 0, .int .i64 0, .int .i64 0, .int .i64 0], .agg #[.slice none 0 0, .slice none 0 0, .slice none 0 0, .slice none 0 0, .int .i64 0, .int .i64 0, .int .i64 0]], []⟩ 8 (by kernel_rfl) (by kernel_rfl) (by kernel_rfl) (by kernel_rfl)) ?_
  intro W base args ds gs before hval0 hW hcnd hsz0 _
  have hval : ∀ (j : Nat) t v, Try.f7.params[j]? = some t → args[j]? = some v → Value.okWide Try.prog W .any base t v := hval0
  have hW' := hW
  obtain ⟨p, q, hA0, hV, rfl, hfz, hnd⟩ := hW
  have hA : DataW.TrodAll enc Try.prog W 0 (fun _ => true) true Try.f7.params.toList args.toList ds p := hA0
  have hsz : (DataW.weightsEach Try.prog (Try.f7.params.toList ++ Rows.windowsSumsSpec.plain.varTypes Try.prog) (ds ++ gs)).all (· ≤ reachBytes) = true := hsz0
  rw [Try.params7] at hA hval hsz
  obtain ⟨v0, vs0, d0, ds0, p0, q0, hargs, rfl, rfl, h0, r0⟩ := trodAll_cons hA
  obtain ⟨v1, vs1, d1, ds1, p1, q1, rfl, rfl, rfl, h1, r1⟩ := trodAll_cons r0
  obtain ⟨rfl, rfl, rfl⟩ := trodAll_nil r1
  obtain rfl : args = #[v0, v1] := by cases args; simp_all
  obtain ⟨rfl, rfl⟩ := trodVars_none hV
  have k0 := h0
  have lt0 : ∀ x ∈ p0, x.block < W.heap.size := by obtain ⟨m, hm⟩ := k0; exact DataW.trod_lt m _ _ _ hm
  have i0 := in_of (j := 0) (t := 42) hsz rfl rfl h0
  have o0 := hval 0 42 v0 rfl rfl
  have k1 := h1
  have lt1 : ∀ x ∈ p1, x.block < W.heap.size := by obtain ⟨m, hm⟩ := k1; exact DataW.trod_lt m _ _ _ hm
  have i1 := in_of (j := 1) (t := 42) hsz rfl rfl h1
  have o1 := hval 1 42 v1 rfl rfl
  clear hA0 hval0 hsz0 hsz
  obtain ⟨z, rfl, u1, u2, f1, f2⟩ := arg_sld o0 i0
  obtain ⟨y, rfl, u3, u4, f3, f4⟩ := arg_sld o1 i1
  refine (law_calls (windowsSums_w z y W u1 u2 u3 u4 f1 f2 f3 f4)).mono fun e W' ⟨he, bel⟩ => ?_
  subst he
  exact ⟨_, rfl, _, _, _, [], _, [], hW', trodAll_mk1 (shut_bool un_4 _), (trodAll_cons_mk (Below.trod laidOut (by kernel_rfl) (of_decide_eq_true (by kernel_rfl)) k0 bel lt0) (trodAll_cons_mk (Below.trod laidOut (by kernel_rfl) (of_decide_eq_true (by kernel_rfl)) k1 bel lt1) trodAll_mk0)), rfl, bel.frame _, fun h => by cases h⟩

/-- The statement. -/
theorem windowsSums_proved : Rows.WindowsSumsSaid :=
  OpenClaim.holds_of_wide 7 Try.f7 rfl rfl rfl rfl rfl rfl rfl ⟨rfl, rfl, rfl, rfl, rfl⟩ rfl rfl rfl rfl rfl (by kernel_rfl) Try.func7 (by kernel_rfl)
    (of_decide_eq_true (by kernel_rfl)) (by unfold Func.isWrapper; first | (rw [if_pos (by decide +kernel)]; kernel_rfl) | (rw [if_neg (by decide +kernel)]; exact ⟨rfl, rfl⟩))
    (fun os started H enc _ => windowsSums_lifted os started H enc)
#print axioms windowsSums_proved
end Go.Proofs.Ytgjpjpdmkeifeaa
