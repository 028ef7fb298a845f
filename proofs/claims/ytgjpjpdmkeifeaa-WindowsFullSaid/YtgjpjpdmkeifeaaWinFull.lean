/- Windows as great as the picture come to one number each: the sum of all products; by steps of 1 there are as many places as rows and columns that are left: for any picture, any windows, any pad; no condition. -/
import Derived.Test.YtgjpjpdmkeifeaaWinMore
import Derived.Test.YtgjpjpdmkeifeaaInt
namespace Go.Proofs.Ytgjpjpdmkeifeaa
open Go Go.Dd Go.RowKit Go.ChangeShapes Go.WideShapes Go.ChangeAt

theorem slid_step1 {r k : Int} (h : 1 ≤ slid r k 1) : slid r k 1 = r - k + 1 := by
  unfold slid at h ⊢
  split at h
  · omega
  · rename_i g; rw [if_neg g, Int.ediv_one]
theorem slid_self {r w : Int} : slid r r w = 1 := by unfold slid; rw [if_neg (by omega), Int.sub_self, Int.zero_ediv]; rfl
theorem wsh_zero {t s : List Int} {step pad : Int} (h : wshE t s step pad = 0) : (0 ≤ pad ∧ pad ≤ 8) ∧ t.length = 3 ∧ s.length = 4 ∧ Shapes.ok t = true ∧ Shapes.ok s = true ∧ Shapes.ok (wshS t s step pad) = true := by
  have hA : wshA t s step pad = false := by cases h2 : wshA t s step pad <;> simp [wshE, h2] at h ⊢
  have hB : (wshB t s && Shapes.ok (wshS t s step pad)) = true := by
    rw [wshE, hA] at h
    cases h2 : (wshB t s && Shapes.ok (wshS t s step pad))
    · rw [h2] at h; cases h
    · rfl
  simp only [Bool.and_eq_true, wshB, decide_eq_true_eq] at hB
  simp only [wshA, Bool.or_eq_false_iff, decide_eq_false_iff_not, Bool.not_eq_false'] at hA
  exact ⟨by omega, hB.1.1.1, hB.1.1.2, hA.1.1.1.1.1, hA.1.1.1.1.2, hB.2⟩
section
variable {t f : T4}
theorem full_ok (ht : tok t.s t.l = true) (h3 : t.s.length = 3) (hf : f.s = 1 :: t.s) (hl : f.l.length = t.l.length) :
    wofE t f 3 0 = 0 ∧ wshS t.s f.s 3 0 = [1, 1, 1] ∧ wofL t f 3 0 = [sm t.l.length fun j => f.l.getD j default * t.l.getD j default] := by
  obtain ⟨o1, o3⟩ := tok_ok ht
  have T := (Shapes.ok_iff t.s).1 o1
  have g0 := good_at T.2.1 (k := 0) (by omega)
  have g1 := good_at T.2.1 (k := 1) (by omega)
  have g2 := good_at T.2.1 (k := 2) (by omega)
  have oS : Shapes.ok f.s = true := by
    rw [hf, Shapes.ok_iff]
    refine ⟨by simp; omega, Shapes.good_cons.2 ⟨by omega, T.2.1⟩, ?_⟩
    have := T.2.2
    simp only [Shapes.prod]; omega
  have zf : Shapes.size f.s = Shapes.size t.s := by
    rw [Shapes.size_ok oS, Shapes.size_ok o1, hf]; simp [Shapes.prod]
  have szt := Shapes.size_le t.s
  have kf : tok f.s f.l = true := by
    simp only [tok, oS, Bool.true_and, decide_eq_true_eq]; rw [zf]; omega
  have eS : wshS t.s f.s 3 0 = [1, 1, 1] := by
    have e0 : f.s.getD 0 default = 1 := by rw [hf]; rfl
    have e2 : f.s.getD 2 default = t.s.getD 1 default := by rw [hf]; rfl
    have e3 : f.s.getD 3 default = t.s.getD 2 default := by rw [hf]; rfl
    unfold wshS
    rw [e0, e2, e3, show t.s.getD 1 default + 2 * 0 = t.s.getD 1 default by omega, show t.s.getD 2 default + 2 * 0 = t.s.getD 2 default by omega, slid_self, slid_self]
  have eN : wofN f = t.l.length := by unfold wofN; rw [hf, List.drop_succ_cons, List.drop_zero]; exact o3.symm
  refine ⟨?_, eS, ?_⟩
  · rw [wofE_tok ht kf]
    have hA : wshA t.s f.s 3 0 = false := by simp only [wshA, o1, oS, Bool.not_true, Bool.false_or]; rfl
    have hB : wshB t.s f.s = true := by
      simp only [wshB, h3, hf, List.length_cons]; simp
    unfold wshE
    rw [hA, hB, eS]; rfl
  · unfold wofL
    rw [eS]
    show [wofF t f 3 0 0] = _
    unfold wofF
    rw [eN, eS, show f.s.drop 1 = t.s by rw [hf]; rfl]
    rw [winS_full rfl rfl rfl g1.1 g2.1]
end
def xorL (t w : List (BitVec 32)) : List (BitVec 32) := (List.range t.length).map fun i => t.getD i default ^^^ w.getD (i % w.length) default
theorem xorL_len (t w : List (BitVec 32)) : (xorL t w).length = t.length := by simp [xorL]
theorem xorL_at {t w : List (BitVec 32)} {i : Nat} (h : i < t.length) : (xorL t w).getD i default = t.getD i default ^^^ w.getD (i % w.length) default := by simp [xorL, h]
theorem grown_none {w w' : World} (g : w.grownBy w' none) : Below w.heap.size w w' := ⟨g.os, g.tape, g.output, g.size, fun k hk => g.block k hk (by simp)⟩
theorem own_own {w : World} {b1 b2 : Nat} {e1 e2 : TypeId} {s1 s2 n1 n2 : Nat} {x y : Value} {xs ys : List Value} (h : w.ownsRow b1 e1 s1 x n1 xs) (k : w.ownsRow b2 e2 s2 y n2 ys) (hne : e1 ≠ e2) : ∀ b, y.ownBlock = some b → x.ownBlock ≠ some b := by
  intro b e1' e2'
  rcases h.2 with ⟨rfl, _⟩ | ⟨g, cap, cur, rfl, _, hg, _⟩
  · cases e2'
  · rcases k.2 with ⟨rfl, _⟩ | ⟨g', cap', cur', rfl, _, hg', _⟩
    · cases e1'
    · simp only [Value.ownBlock, Option.some.injEq] at e1' e2'
      subst e1' e2'
      rw [hg] at hg'
      have := Option.some.inj hg'
      injection this with _ h2 _
      exact hne h2
theorem windowsFull_w (z : Sld) (W : World) (h_t : z.T.at W) (h_f : z.W.at W) (f1 : few z.T) (f2 : few z.W) :
    Fnc Try.prog 5 [z.v] W (fun r w' => r = .bool true ∧ Below W.heap.size W w') := by
  have hB := Below.refl W.heap.size W
  refine Fnc.enter (n := 190) Try.func5 (by kernel_rfl) rfl rfl rfl ?_
  refine Cw.seq ?_
  refine Cw.region ?_
  refine Lw.boxV (cs := z.c) rfl rfl rfl ?_
  rintro A_z w eA_z b_z hn -
  replace hB := hB.bs hn
  replace h_t := h_t.bs hn
  replace h_f := h_f.bs hn
  clear hn
  refine Lw.val (Ex.assign rfl) rfl ?_
  refine Lw.nil ?_
  refine Pw.thenN (Cw.out ?_)
  refine Cw.seq ?_
  refine Cw.seq ?_
  refine Cw.region ?_
  refine Lw.callF rfl rfl (alive_c _) ?_
  rintro _ w ⟨rfl, hn⟩
  replace hB := hB.bs hn
  replace h_t := h_t.bs hn
  replace h_f := h_f.bs hn
  replace b_z := b_z.bs hn
  clear hn
  refine Lw.val (Ex.not rfl) rfl ?_
  refine Lw.val (Ex.move rfl) rfl ?_
  refine Lw.know 14 (v' := .bool false) rfl (congrArg Value.bool (rfl)) ?_
  refine Lw.take (dj := 14) rfl rfl ?_
  refine Lw.val (Ex.ldA (ag_42 _) (sz_42 _) rfl rfl (by assumption)) rfl ?_
  refine Lw.take (dj := 14) rfl rfl ?_
  refine Lw.callF rfl rfl (great_c z _ h_t h_f f1 f2) ?_
  rintro _ w ⟨rfl, hn⟩
  replace hB := hB.bs hn
  replace h_t := h_t.bs hn
  replace h_f := h_f.bs hn
  replace b_z := b_z.bs hn
  clear hn
  refine Lw.val (Ex.pickF rfl rfl) rfl ?_
  refine Lw.val (Ex.move rfl) rfl ?_
  refine Lw.part 18 rfl ?_ ?_
  · intro _
    refine Lw.pass (dj := 18) rfl rfl rfl rfl ?_
    refine Lw.pass (dj := 18) rfl rfl rfl rfl ?_
    refine Lw.pass (dj := 18) rfl rfl rfl rfl ?_
    refine Lw.pass (dj := 18) rfl rfl rfl rfl ?_
    refine Lw.val (Ex.pickT rfl rfl) rfl ?_
    refine Lw.val (Ex.move rfl) rfl ?_
    refine Lw.pass (dj := 24) rfl rfl rfl rfl ?_
    refine Lw.pass (dj := 24) rfl rfl rfl rfl ?_
    refine Lw.pass (dj := 24) rfl rfl rfl rfl ?_
    refine Lw.pass (dj := 24) rfl rfl rfl rfl ?_
    refine Lw.val (Ex.pickT rfl rfl) rfl ?_
    refine Lw.val (Ex.move rfl) rfl ?_
    refine Lw.pass (dj := 30) rfl rfl rfl rfl ?_
    refine Lw.pass (dj := 30) rfl rfl rfl rfl ?_
    refine Lw.pass (dj := 30) rfl rfl rfl rfl ?_
    refine Lw.pass (dj := 30) rfl rfl rfl rfl ?_
    refine Lw.pass (dj := 30) rfl rfl rfl rfl ?_
    refine Lw.val (Ex.pickT rfl rfl) rfl ?_
    refine Lw.val (Ex.move rfl) rfl ?_
    refine Lw.pass (dj := 37) rfl rfl rfl rfl ?_
    refine Lw.pass (dj := 37) rfl rfl rfl rfl ?_
    refine Lw.pass (dj := 37) rfl rfl rfl rfl ?_
    refine Lw.pass (dj := 37) rfl rfl rfl rfl ?_
    refine Lw.pass (dj := 37) rfl rfl rfl rfl ?_
    refine Lw.val (Ex.pickT rfl rfl) rfl ?_
    refine Lw.nil ?_
    refine Pw.thenN (Cw.out ?_)
    refine Cw.condT rfl ?_
    refine Cw.seq ?_
    refine Cw.region ?_
    refine Lw.callF rfl rfl (alive_c _) ?_
    rintro _ w ⟨rfl, hn⟩
    replace hB := hB.bs hn
    replace h_t := h_t.bs hn
    replace h_f := h_f.bs hn
    replace b_z := b_z.bs hn
    clear hn
    refine Lw.val (Ex.assign rfl) rfl ?_
    refine Lw.nil ?_
    refine Pw.thenN (Cw.out ?_)
    refine Cw.ret ?_
    refine Pw.thenR ?_
    refine Pw.ret1 rfl rfl ?_
    exact ⟨rfl, hB⟩
  intro g1
  obtain ⟨lt1, lt2, lf1, lf2⟩ := gr_no g1 f1 f2
  refine Lw.take (dj := 18) rfl rfl ?_
  refine Lw.val (Ex.fieldAddr (q := 1) Try.underlying42 rfl (sz_25 _) rfl) rfl ?_
  refine Lw.take (dj := 18) rfl rfl ?_
  refine Lw.val (Ex.ldAt (ds := [z.T.x, z.T.y]) (ag_25 _) (sz_25 _) rfl rfl (by assumption) rfl) rfl ?_
  refine Lw.take (dj := 18) rfl rfl ?_
  refine Lw.callF rfl rfl (tcheck_c z.T.x z.T.y z.T.s z.T.l _ h_t.1 h_t.2) ?_
  rintro _ w ⟨rfl, hn⟩
  replace hB := hB.bs hn
  replace h_t := h_t.bs hn
  replace h_f := h_f.bs hn
  replace b_z := b_z.bs hn
  clear hn
  refine Lw.take (dj := 18) rfl rfl ?_
  refine Lw.val (Ex.not rfl) rfl ?_
  refine Lw.val (Ex.pickF rfl rfl) rfl ?_
  refine Lw.val (Ex.move rfl) rfl ?_
  refine Lw.part 24 rfl ?_ ?_
  · intro _
    refine Lw.pass (dj := 24) rfl rfl rfl rfl ?_
    refine Lw.pass (dj := 24) rfl rfl rfl rfl ?_
    refine Lw.pass (dj := 24) rfl rfl rfl rfl ?_
    refine Lw.pass (dj := 24) rfl rfl rfl rfl ?_
    refine Lw.val (Ex.pickT rfl rfl) rfl ?_
    refine Lw.val (Ex.move rfl) rfl ?_
    refine Lw.pass (dj := 30) rfl rfl rfl rfl ?_
    refine Lw.pass (dj := 30) rfl rfl rfl rfl ?_
    refine Lw.pass (dj := 30) rfl rfl rfl rfl ?_
    refine Lw.pass (dj := 30) rfl rfl rfl rfl ?_
    refine Lw.pass (dj := 30) rfl rfl rfl rfl ?_
    refine Lw.val (Ex.pickT rfl rfl) rfl ?_
    refine Lw.val (Ex.move rfl) rfl ?_
    refine Lw.pass (dj := 37) rfl rfl rfl rfl ?_
    refine Lw.pass (dj := 37) rfl rfl rfl rfl ?_
    refine Lw.pass (dj := 37) rfl rfl rfl rfl ?_
    refine Lw.pass (dj := 37) rfl rfl rfl rfl ?_
    refine Lw.pass (dj := 37) rfl rfl rfl rfl ?_
    refine Lw.val (Ex.pickT rfl rfl) rfl ?_
    refine Lw.nil ?_
    refine Pw.thenN (Cw.out ?_)
    refine Cw.condT rfl ?_
    refine Cw.seq ?_
    refine Cw.region ?_
    refine Lw.callF rfl rfl (alive_c _) ?_
    rintro _ w ⟨rfl, hn⟩
    replace hB := hB.bs hn
    replace h_t := h_t.bs hn
    replace h_f := h_f.bs hn
    replace b_z := b_z.bs hn
    clear hn
    refine Lw.val (Ex.assign rfl) rfl ?_
    refine Lw.nil ?_
    refine Pw.thenN (Cw.out ?_)
    refine Cw.ret ?_
    refine Pw.thenR ?_
    refine Pw.ret1 rfl rfl ?_
    exact ⟨rfl, hB⟩
  intro g2
  have k_t : tok z.T.s z.T.l = true := by simpa using g2
  refine Lw.take (dj := 24) rfl rfl ?_
  refine Lw.val (Ex.fieldAddr (q := 1) Try.underlying42 rfl (sz_25 _) rfl) rfl ?_
  refine Lw.take (dj := 24) rfl rfl ?_
  refine Lw.val (Ex.ldAt (ds := [z.W.x, z.W.y]) (ag_25 _) (sz_25 _) rfl rfl (by assumption) rfl) rfl ?_
  refine Lw.take (dj := 24) rfl rfl ?_
  refine Lw.callF rfl rfl (tcheck_c z.W.x z.W.y z.W.s z.W.l _ h_f.1 h_f.2) ?_
  rintro _ w ⟨rfl, hn⟩
  replace hB := hB.bs hn
  replace h_t := h_t.bs hn
  replace h_f := h_f.bs hn
  replace b_z := b_z.bs hn
  clear hn
  refine Lw.take (dj := 24) rfl rfl ?_
  refine Lw.val (Ex.not rfl) rfl ?_
  refine Lw.val (Ex.pickF rfl rfl) rfl ?_
  refine Lw.val (Ex.move rfl) rfl ?_
  refine Lw.part 30 rfl ?_ ?_
  · intro _
    refine Lw.pass (dj := 30) rfl rfl rfl rfl ?_
    refine Lw.pass (dj := 30) rfl rfl rfl rfl ?_
    refine Lw.pass (dj := 30) rfl rfl rfl rfl ?_
    refine Lw.pass (dj := 30) rfl rfl rfl rfl ?_
    refine Lw.pass (dj := 30) rfl rfl rfl rfl ?_
    refine Lw.val (Ex.pickT rfl rfl) rfl ?_
    refine Lw.val (Ex.move rfl) rfl ?_
    refine Lw.pass (dj := 37) rfl rfl rfl rfl ?_
    refine Lw.pass (dj := 37) rfl rfl rfl rfl ?_
    refine Lw.pass (dj := 37) rfl rfl rfl rfl ?_
    refine Lw.pass (dj := 37) rfl rfl rfl rfl ?_
    refine Lw.pass (dj := 37) rfl rfl rfl rfl ?_
    refine Lw.val (Ex.pickT rfl rfl) rfl ?_
    refine Lw.nil ?_
    refine Pw.thenN (Cw.out ?_)
    refine Cw.condT rfl ?_
    refine Cw.seq ?_
    refine Cw.region ?_
    refine Lw.callF rfl rfl (alive_c _) ?_
    rintro _ w ⟨rfl, hn⟩
    replace hB := hB.bs hn
    replace h_t := h_t.bs hn
    replace h_f := h_f.bs hn
    replace b_z := b_z.bs hn
    clear hn
    refine Lw.val (Ex.assign rfl) rfl ?_
    refine Lw.nil ?_
    refine Pw.thenN (Cw.out ?_)
    refine Cw.ret ?_
    refine Pw.thenR ?_
    refine Pw.ret1 rfl rfl ?_
    exact ⟨rfl, hB⟩
  intro g3
  have k_f : tok z.W.s z.W.l = true := by simpa using g3
  have h_t1 := h_t.1
  have h_f1 := h_f.1
  refine Lw.take (dj := 30) rfl rfl ?_
  refine Lw.val (Ex.fieldAddr (q := 1) Try.underlying42 rfl (sz_25 _) rfl) rfl ?_
  refine Lw.take (dj := 30) rfl rfl ?_
  refine Lw.val (Ex.fieldAddr (q := 0) Try.underlying25 rfl (sz_22 _) rfl) rfl ?_
  refine Lw.take (dj := 30) rfl rfl ?_
  refine Lw.val (Ex.ldB (ag_22 _) rfl (by assumption) rfl) rfl ?_
  refine Lw.take (dj := 30) rfl rfl ?_
  refine Lw.val (Ex.lenS st_22 rfl (by assumption)) rfl ?_
  refine Lw.take (dj := 30) rfl rfl ?_
  refine Lw.val (Ex.neq rfl rfl) rfl ?_
  refine Lw.val (Ex.pickF rfl rfl) rfl ?_
  refine Lw.val (Ex.move rfl) rfl ?_
  refine Lw.part 37 rfl ?_ ?_
  · intro _
    refine Lw.pass (dj := 37) rfl rfl rfl rfl ?_
    refine Lw.pass (dj := 37) rfl rfl rfl rfl ?_
    refine Lw.pass (dj := 37) rfl rfl rfl rfl ?_
    refine Lw.pass (dj := 37) rfl rfl rfl rfl ?_
    refine Lw.pass (dj := 37) rfl rfl rfl rfl ?_
    refine Lw.val (Ex.pickT rfl rfl) rfl ?_
    refine Lw.nil ?_
    refine Pw.thenN (Cw.out ?_)
    refine Cw.condT rfl ?_
    refine Cw.seq ?_
    refine Cw.region ?_
    refine Lw.callF rfl rfl (alive_c _) ?_
    rintro _ w ⟨rfl, hn⟩
    replace hB := hB.bs hn
    replace h_t := h_t.bs hn
    replace h_f := h_f.bs hn
    replace b_z := b_z.bs hn
    replace h_t1 := h_t1.bs hn
    replace h_f1 := h_f1.bs hn
    clear hn
    refine Lw.val (Ex.assign rfl) rfl ?_
    refine Lw.nil ?_
    refine Pw.thenN (Cw.out ?_)
    refine Cw.ret ?_
    refine Pw.thenR ?_
    refine Pw.ret1 rfl rfl ?_
    exact ⟨rfl, hB⟩
  intro g4
  have h3 : z.T.s.length = 3 := by have := g4; simp at this; omega
  refine Lw.take (dj := 37) rfl rfl ?_
  refine Lw.val (Ex.fieldAddr (q := 1) Try.underlying42 rfl (sz_25 _) rfl) rfl ?_
  refine Lw.take (dj := 37) rfl rfl ?_
  refine Lw.val (Ex.fieldAddr (q := 0) Try.underlying25 rfl (sz_22 _) rfl) rfl ?_
  refine Lw.take (dj := 37) rfl rfl ?_
  refine Lw.val (Ex.ldB (ag_22 _) rfl (by assumption) rfl) rfl ?_
  refine Lw.take (dj := 37) rfl rfl ?_
  refine Lw.val (Ex.lenS st_22 rfl (by assumption)) rfl ?_
  refine Lw.take (dj := 37) rfl rfl ?_
  refine Lw.val (Ex.neq rfl rfl) rfl ?_
  refine Lw.val (Ex.pickF rfl rfl) rfl ?_
  refine Lw.nil ?_
  refine Pw.thenN (Cw.out ?_)
  refine Cw.cond rfl ?_ ?_
  · intro _
    refine Cw.seq ?_
    refine Cw.region ?_
    refine Lw.callF rfl rfl (alive_c _) ?_
    rintro _ w ⟨rfl, hn⟩
    replace hB := hB.bs hn
    replace h_t := h_t.bs hn
    replace h_f := h_f.bs hn
    replace b_z := b_z.bs hn
    replace h_t1 := h_t1.bs hn
    replace h_f1 := h_f1.bs hn
    clear hn
    refine Lw.val (Ex.assign rfl) rfl ?_
    refine Lw.nil ?_
    refine Pw.thenN (Cw.out ?_)
    refine Cw.ret ?_
    refine Pw.thenR ?_
    refine Pw.ret1 rfl rfl ?_
    exact ⟨rfl, hB⟩
  intro g5
  have h4 : z.W.s.length = 4 := by have := g5; simp at this; omega
  clear g1 g2 g3 g4 g5
  refine Cw.skip ?_
  refine Pw.thenN (Cw.out ?_)
  refine Cw.seq ?_
  refine Cw.region ?_
  refine Lw.val (Ex.fieldAddr (q := 1) Try.underlying42 rfl (sz_25 _) rfl) rfl ?_
  refine Lw.val (Ex.fieldAddr (q := 0) Try.underlying25 rfl (sz_22 _) rfl) rfl ?_
  refine Lw.val (Ex.ldB (ag_22 _) rfl (by assumption) rfl) rfl ?_
  refine Lw.val (Ex.fieldAddr (q := 1) Try.underlying42 rfl (sz_25 _) rfl) rfl ?_
  refine Lw.val (Ex.fieldAddr (q := 0) Try.underlying25 rfl (sz_22 _) rfl) rfl ?_
  refine Lw.val (Ex.ldB (ag_22 _) rfl (by assumption) rfl) rfl ?_
  refine Lw.val (Ex.fieldAddr (q := 0) Try.underlying42 rfl (sz_3 _) rfl) rfl ?_
  refine Lw.val (Ex.ldB (ag_3 _) rfl (by assumption) rfl) rfl ?_
  refine Lw.callF rfl rfl (wshape_c z.T.s z.W.s 1 z.pad _ _ _ h_t.1 h_f.1) ?_
  rintro _ w ⟨hn, x, m, rfl, hx, -, hyes⟩
  have t_x := own_slT hx
  clear hx
  replace hB := hB.bs hn
  replace h_t := h_t.bs hn
  replace h_f := h_f.bs hn
  replace b_z := b_z.bs hn
  replace h_t1 := h_t1.bs hn
  replace h_f1 := h_f1.bs hn
  clear hn
  refine Lw.val (Ex.move rfl) rfl ?_
  refine Lw.val (Ex.extract (i := 0) rfl rfl) rfl ?_
  refine Lw.val (Ex.extract (i := 1) rfl rfl) rfl ?_
  refine Lw.val (Ex.assign rfl) rfl ?_
  refine Lw.val (Ex.assign rfl) rfl ?_
  refine Lw.nil ?_
  refine Pw.thenN (Cw.out ?_)
  refine Cw.seq ?_
  refine Cw.seq ?_
  obtain ⟨E, hE⟩ : ∃ E, E = wshE z.T.s z.W.s 1 z.pad := ⟨_, rfl⟩
  rw [← hE] at hyes ⊢
  have t0 := good_at ((Shapes.ok_iff _).1 (tok_ok k_t).1).2.1 (k := 1) (by omega)
  have t1 := good_at ((Shapes.ok_iff _).1 (tok_ok k_t).1).2.1 (k := 2) (by omega)
  have f0 := good_at ((Shapes.ok_iff _).1 (tok_ok k_f).1).2.1 (k := 2) (by omega)
  have f3 := good_at ((Shapes.ok_iff _).1 (tok_ok k_f).1).2.1 (k := 3) (by omega)
  refine Cw.mid (F := [(1, .pointer (some ⟨A_z, 0, none⟩)), (113, .bool false)]) (I := fun w' => Below w.heap.size w w') ?_ ?_
  · refine Cw.quiet mixed (by kernel_rfl) ?_
    refine Qw.val (fun w1 hq => Ex.move rfl) rfl ?_
    refine Qw.val (fun w1 hq => Ex.eql rfl rfl) rfl ?_
    refine Qw.val (fun w1 hq => Ex.move rfl) rfl ?_
    refine Qw.part 59 rfl ?_ ?_
    · intro g
      have e0 : E = 0 := by simpa using g
      have em := hyes e0
      obtain ⟨hp, -, -, -, -, okS⟩ := wsh_zero (hE.symm.trans e0)
      subst em
      have gS := ((Shapes.ok_iff _).1 okS).2.1
      have q1 := good_at gS (k := 1) (by show 1 < 3; decide)
      have q2 := good_at gS (k := 2) (by show 2 < 3; decide)
      have e1 : slid (z.T.s.getD 1 default + 2 * z.pad) (z.W.s.getD 2 default) 1 = z.T.s.getD 1 default + 2 * z.pad - z.W.s.getD 2 default + 1 := slid_step1 q1.1
      have e2 : slid (z.T.s.getD 2 default + 2 * z.pad) (z.W.s.getD 3 default) 1 = z.T.s.getD 2 default + 2 * z.pad - z.W.s.getD 3 default + 1 := slid_step1 q2.1
      have l3 : (wshS z.T.s z.W.s 1 z.pad).length = 3 := rfl
      refine Qw.take (dj := 59) rfl rfl ?_
      refine Qw.val (fun w1 hq => Ex.move rfl) rfl ?_
      refine Qw.take (dj := 59) rfl rfl ?_
      refine Qw.val (fun w1 hq => Ex.idxT st_22 rfl rfl (Sl.bs (by assumption) hq) 0 rfl (by omega)) rfl ?_
      refine Qw.take (dj := 59) rfl rfl ?_
      refine Qw.val (fun w1 hq => Ex.ldT (ag_3 _) rfl (Sl.bs (by assumption) hq) (by omega)) rfl ?_
      refine Qw.take (dj := 59) rfl rfl ?_
      refine Qw.val (fun w1 hq => Ex.fieldAddr (q := 1) Try.underlying42 rfl (sz_25 _) rfl) rfl ?_
      refine Qw.take (dj := 59) rfl rfl ?_
      refine Qw.val (fun w1 hq => Ex.fieldAddr (q := 0) Try.underlying25 rfl (sz_22 _) rfl) rfl ?_
      refine Qw.take (dj := 59) rfl rfl ?_
      refine Qw.val (fun w1 hq => Ex.ldB (ag_22 _) rfl (Blk.bs (by assumption) hq) rfl) rfl ?_
      refine Qw.take (dj := 59) rfl rfl ?_
      refine Qw.val (fun w1 hq => Ex.idxT st_22 rfl rfl (Sl.bs (by assumption) hq) 0 rfl (by omega)) rfl ?_
      refine Qw.take (dj := 59) rfl rfl ?_
      refine Qw.val (fun w1 hq => Ex.ldT (ag_3 _) rfl (Sl.bs (by assumption) hq) (by omega)) rfl ?_
      refine Qw.take (dj := 59) rfl rfl ?_
      refine Qw.val (fun w1 hq => Ex.neq rfl rfl) rfl ?_
      refine Qw.take (dj := 59) rfl rfl ?_
      refine Qw.val (fun w1 hq => Ex.move rfl) rfl ?_
      refine Qw.know 69 (v' := .bool false) rfl (congrArg Value.bool ((by simp; rfl))) ?_
      refine Qw.take (dj := 69) rfl rfl ?_
      refine Qw.val (fun w1 hq => Ex.move rfl) rfl ?_
      refine Qw.take (dj := 69) rfl rfl ?_
      refine Qw.val (fun w1 hq => Ex.idxT st_22 rfl rfl (Sl.bs (by assumption) hq) 1 rfl (by omega)) rfl ?_
      refine Qw.take (dj := 69) rfl rfl ?_
      refine Qw.val (fun w1 hq => Ex.ldT (ag_3 _) rfl (Sl.bs (by assumption) hq) (by omega)) rfl ?_
      refine Qw.take (dj := 69) rfl rfl ?_
      refine Qw.val (fun w1 hq => Ex.fieldAddr (q := 1) Try.underlying42 rfl (sz_25 _) rfl) rfl ?_
      refine Qw.take (dj := 69) rfl rfl ?_
      refine Qw.val (fun w1 hq => Ex.fieldAddr (q := 0) Try.underlying25 rfl (sz_22 _) rfl) rfl ?_
      refine Qw.take (dj := 69) rfl rfl ?_
      refine Qw.val (fun w1 hq => Ex.ldB (ag_22 _) rfl (Blk.bs (by assumption) hq) rfl) rfl ?_
      refine Qw.take (dj := 69) rfl rfl ?_
      refine Qw.val (fun w1 hq => Ex.idxT st_22 rfl rfl (Sl.bs (by assumption) hq) 1 rfl (by omega)) rfl ?_
      refine Qw.take (dj := 69) rfl rfl ?_
      refine Qw.val (fun w1 hq => Ex.ldT (ag_3 _) rfl (Sl.bs (by assumption) hq) (by omega)) rfl ?_
      refine Qw.take (dj := 69) rfl rfl ?_
      refine Qw.val (fun w1 hq => Ex.fieldAddr (q := 0) Try.underlying42 rfl (sz_3 _) rfl) rfl ?_
      refine Qw.take (dj := 69) rfl rfl ?_
      refine Qw.val (fun w1 hq => Ex.ldB (ag_3 _) rfl (Blk.bs (by assumption) hq) rfl) rfl ?_
      refine Qw.take (dj := 69) rfl rfl ?_
      refine Qw.val (fun w1 hq => Ex.mulI rfl rfl (by omega)) rfl ?_
      refine Qw.take (dj := 69) rfl rfl ?_
      refine Qw.val (fun w1 hq => Ex.addI rfl rfl (by omega)) rfl ?_
      refine Qw.take (dj := 69) rfl rfl ?_
      refine Qw.val (fun w1 hq => Ex.fieldAddr (q := 1) Try.underlying42 rfl (sz_25 _) rfl) rfl ?_
      refine Qw.take (dj := 69) rfl rfl ?_
      refine Qw.val (fun w1 hq => Ex.fieldAddr (q := 0) Try.underlying25 rfl (sz_22 _) rfl) rfl ?_
      refine Qw.take (dj := 69) rfl rfl ?_
      refine Qw.val (fun w1 hq => Ex.ldB (ag_22 _) rfl (Blk.bs (by assumption) hq) rfl) rfl ?_
      refine Qw.take (dj := 69) rfl rfl ?_
      refine Qw.val (fun w1 hq => Ex.idxT st_22 rfl rfl (Sl.bs (by assumption) hq) 2 rfl (by omega)) rfl ?_
      refine Qw.take (dj := 69) rfl rfl ?_
      refine Qw.val (fun w1 hq => Ex.ldT (ag_3 _) rfl (Sl.bs (by assumption) hq) (by omega)) rfl ?_
      refine Qw.take (dj := 69) rfl rfl ?_
      refine Qw.val (fun w1 hq => Ex.subI rfl rfl (by omega)) rfl ?_
      refine Qw.take (dj := 69) rfl rfl ?_
      refine Qw.val (fun w1 hq => Ex.addI rfl rfl (by omega)) rfl ?_
      refine Qw.take (dj := 69) rfl rfl ?_
      refine Qw.val (fun w1 hq => Ex.neq rfl rfl) rfl ?_
      refine Qw.take (dj := 59) rfl rfl ?_
      refine Qw.val (fun w1 hq => Ex.pickF rfl rfl) rfl ?_
      refine Qw.take (dj := 59) rfl rfl ?_
      refine Qw.val (fun w1 hq => Ex.move rfl) rfl ?_
      refine Qw.know 91 (v' := .bool false) rfl (congrArg Value.bool ((congrArg (fun b => !b) (decide_eq_true e1)))) ?_
      refine Qw.take (dj := 91) rfl rfl ?_
      refine Qw.val (fun w1 hq => Ex.move rfl) rfl ?_
      refine Qw.take (dj := 91) rfl rfl ?_
      refine Qw.val (fun w1 hq => Ex.idxT st_22 rfl rfl (Sl.bs (by assumption) hq) 2 rfl (by omega)) rfl ?_
      refine Qw.take (dj := 91) rfl rfl ?_
      refine Qw.val (fun w1 hq => Ex.ldT (ag_3 _) rfl (Sl.bs (by assumption) hq) (by omega)) rfl ?_
      refine Qw.take (dj := 91) rfl rfl ?_
      refine Qw.val (fun w1 hq => Ex.fieldAddr (q := 1) Try.underlying42 rfl (sz_25 _) rfl) rfl ?_
      refine Qw.take (dj := 91) rfl rfl ?_
      refine Qw.val (fun w1 hq => Ex.fieldAddr (q := 0) Try.underlying25 rfl (sz_22 _) rfl) rfl ?_
      refine Qw.take (dj := 91) rfl rfl ?_
      refine Qw.val (fun w1 hq => Ex.ldB (ag_22 _) rfl (Blk.bs (by assumption) hq) rfl) rfl ?_
      refine Qw.take (dj := 91) rfl rfl ?_
      refine Qw.val (fun w1 hq => Ex.idxT st_22 rfl rfl (Sl.bs (by assumption) hq) 2 rfl (by omega)) rfl ?_
      refine Qw.take (dj := 91) rfl rfl ?_
      refine Qw.val (fun w1 hq => Ex.ldT (ag_3 _) rfl (Sl.bs (by assumption) hq) (by omega)) rfl ?_
      refine Qw.take (dj := 91) rfl rfl ?_
      refine Qw.val (fun w1 hq => Ex.fieldAddr (q := 0) Try.underlying42 rfl (sz_3 _) rfl) rfl ?_
      refine Qw.take (dj := 91) rfl rfl ?_
      refine Qw.val (fun w1 hq => Ex.ldB (ag_3 _) rfl (Blk.bs (by assumption) hq) rfl) rfl ?_
      refine Qw.take (dj := 91) rfl rfl ?_
      refine Qw.val (fun w1 hq => Ex.mulI rfl rfl (by omega)) rfl ?_
      refine Qw.take (dj := 91) rfl rfl ?_
      refine Qw.val (fun w1 hq => Ex.addI rfl rfl (by omega)) rfl ?_
      refine Qw.take (dj := 91) rfl rfl ?_
      refine Qw.val (fun w1 hq => Ex.fieldAddr (q := 1) Try.underlying42 rfl (sz_25 _) rfl) rfl ?_
      refine Qw.take (dj := 91) rfl rfl ?_
      refine Qw.val (fun w1 hq => Ex.fieldAddr (q := 0) Try.underlying25 rfl (sz_22 _) rfl) rfl ?_
      refine Qw.take (dj := 91) rfl rfl ?_
      refine Qw.val (fun w1 hq => Ex.ldB (ag_22 _) rfl (Blk.bs (by assumption) hq) rfl) rfl ?_
      refine Qw.take (dj := 91) rfl rfl ?_
      refine Qw.val (fun w1 hq => Ex.idxT st_22 rfl rfl (Sl.bs (by assumption) hq) 3 rfl (by omega)) rfl ?_
      refine Qw.take (dj := 91) rfl rfl ?_
      refine Qw.val (fun w1 hq => Ex.ldT (ag_3 _) rfl (Sl.bs (by assumption) hq) (by omega)) rfl ?_
      refine Qw.take (dj := 91) rfl rfl ?_
      refine Qw.val (fun w1 hq => Ex.subI rfl rfl (by omega)) rfl ?_
      refine Qw.take (dj := 91) rfl rfl ?_
      refine Qw.val (fun w1 hq => Ex.addI rfl rfl (by omega)) rfl ?_
      refine Qw.take (dj := 91) rfl rfl ?_
      refine Qw.val (fun w1 hq => Ex.neq rfl rfl) rfl ?_
      refine Qw.take (dj := 59) rfl rfl ?_
      refine Qw.val (fun w1 hq => Ex.pickF rfl rfl) rfl ?_
      refine Qw.val (fun w1 hq => Ex.pickT rfl rfl) rfl ?_
      refine Qw.nil (fun w2 hq => ?_)
      exact Pw.mid ⟨rfl, congrArg (fun b => some (Value.bool b)) (congrArg (fun b => !b) (decide_eq_true e2)), trivial⟩ (hq)
    intro g
    refine Qw.pass (dj := 59) rfl rfl rfl rfl ?_
    refine Qw.pass (dj := 59) rfl rfl rfl rfl ?_
    refine Qw.pass (dj := 59) rfl rfl rfl rfl ?_
    refine Qw.pass (dj := 59) rfl rfl rfl rfl ?_
    refine Qw.pass (dj := 59) rfl rfl rfl rfl ?_
    refine Qw.pass (dj := 59) rfl rfl rfl rfl ?_
    refine Qw.pass (dj := 59) rfl rfl rfl rfl ?_
    refine Qw.pass (dj := 59) rfl rfl rfl rfl ?_
    refine Qw.pass (dj := 59) rfl rfl rfl rfl ?_
    refine Qw.pass (dj := 59) rfl rfl rfl rfl ?_
    refine Qw.passN (dj := 69) rfl rfl rfl ?_
    refine Qw.passN (dj := 69) rfl rfl rfl ?_
    refine Qw.passN (dj := 69) rfl rfl rfl ?_
    refine Qw.passN (dj := 69) rfl rfl rfl ?_
    refine Qw.passN (dj := 69) rfl rfl rfl ?_
    refine Qw.passN (dj := 69) rfl rfl rfl ?_
    refine Qw.passN (dj := 69) rfl rfl rfl ?_
    refine Qw.passN (dj := 69) rfl rfl rfl ?_
    refine Qw.passN (dj := 69) rfl rfl rfl ?_
    refine Qw.passN (dj := 69) rfl rfl rfl ?_
    refine Qw.passN (dj := 69) rfl rfl rfl ?_
    refine Qw.passN (dj := 69) rfl rfl rfl ?_
    refine Qw.passN (dj := 69) rfl rfl rfl ?_
    refine Qw.passN (dj := 69) rfl rfl rfl ?_
    refine Qw.passN (dj := 69) rfl rfl rfl ?_
    refine Qw.passN (dj := 69) rfl rfl rfl ?_
    refine Qw.passN (dj := 69) rfl rfl rfl ?_
    refine Qw.passN (dj := 69) rfl rfl rfl ?_
    refine Qw.passN (dj := 69) rfl rfl rfl ?_
    refine Qw.passN (dj := 69) rfl rfl rfl ?_
    refine Qw.pass (dj := 59) rfl rfl rfl rfl ?_
    refine Qw.pass (dj := 59) rfl rfl rfl rfl ?_
    refine Qw.passN (dj := 91) rfl rfl rfl ?_
    refine Qw.passN (dj := 91) rfl rfl rfl ?_
    refine Qw.passN (dj := 91) rfl rfl rfl ?_
    refine Qw.passN (dj := 91) rfl rfl rfl ?_
    refine Qw.passN (dj := 91) rfl rfl rfl ?_
    refine Qw.passN (dj := 91) rfl rfl rfl ?_
    refine Qw.passN (dj := 91) rfl rfl rfl ?_
    refine Qw.passN (dj := 91) rfl rfl rfl ?_
    refine Qw.passN (dj := 91) rfl rfl rfl ?_
    refine Qw.passN (dj := 91) rfl rfl rfl ?_
    refine Qw.passN (dj := 91) rfl rfl rfl ?_
    refine Qw.passN (dj := 91) rfl rfl rfl ?_
    refine Qw.passN (dj := 91) rfl rfl rfl ?_
    refine Qw.passN (dj := 91) rfl rfl rfl ?_
    refine Qw.passN (dj := 91) rfl rfl rfl ?_
    refine Qw.passN (dj := 91) rfl rfl rfl ?_
    refine Qw.passN (dj := 91) rfl rfl rfl ?_
    refine Qw.passN (dj := 91) rfl rfl rfl ?_
    refine Qw.passN (dj := 91) rfl rfl rfl ?_
    refine Qw.passN (dj := 91) rfl rfl rfl ?_
    refine Qw.pass (dj := 59) rfl rfl rfl rfl ?_
    refine Qw.val (fun w1 hq => Ex.pickF rfl rfl) rfl ?_
    refine Qw.nil (fun w2 hq => ?_)
    exact Pw.mid ⟨rfl, rfl, trivial⟩ (hq)
  intro w1 hn
  replace hB := hB.bs hn
  replace h_t := h_t.bs hn
  replace h_f := h_f.bs hn
  replace b_z := b_z.bs hn
  replace h_t1 := h_t1.bs hn
  replace h_f1 := h_f1.bs hn
  clear hn
  refine Cw.out ?_
  clear hyes t_x hE
  have h_t2 := h_t.2
  have h_f2 := h_f.2
  refine Cw.condB rfl false (rfl) ?_
  refine Cw.skip ?_
  refine Pw.thenN (Cw.out ?_)
  refine Cw.seq ?_
  refine Cw.region ?_
  refine Lw.val (Ex.fieldAddr (q := 1) Try.underlying42 rfl (sz_25 _) rfl) rfl ?_
  refine Lw.val (Ex.fieldAddr (q := 0) Try.underlying25 rfl (sz_23 _) rfl) rfl ?_
  refine Lw.val (Ex.ldB (ag_23 _) rfl (by assumption) rfl) rfl ?_
  refine Lw.val (Ex.lenS st_23 rfl (by assumption)) rfl ?_
  refine Lw.val (Ex.assign rfl) rfl ?_
  refine Lw.nil ?_
  refine Pw.thenN (Cw.out ?_)
  refine Cw.seq ?_
  obtain ⟨B, hBB⟩ : ∃ B, B = w1.heap.size := ⟨_, rfl⟩
  have y_z := blk_lt b_z
  have p_t := h_t2
  have p_f := h_f2
  have p_t1 := h_t.1
  refine Cw.midS (St := Value × Value × Nat × Nat) (fun s => [(1, .pointer (some ⟨A_z, 0, none⟩)), (5, .int .i64 (z.T.l.length : Int)), (6, .pointer (some ⟨s.2.2.1, 0, none⟩))]) (fun s w' => Below w1.heap.size w1 w' ∧ MineT w' B s.2.2.2 s.2.2.1 s.1 s.2.1 (1 :: z.T.s) z.T.l ∧ s.2.2.2 ≤ w'.heap.size) ?_ ?_
  · clear h_t2 h_f2
    refine Cw.any mixed (fun w hcw _ => ?_)
    refine Aw.cls (fun w' => Below w1.heap.size w1 w') (fun hC => ?_) (hcw)
    refine AwC.take (i := 1) NoP.midS rfl (by kernel_rfl) (by kernel_rfl) (by kernel_rfl) (fun w1 hc => Ex.fieldAddr (q := 1) Try.underlying42 rfl (sz_25 _) rfl) rfl ?_
    refine AwC.take (i := 2) NoP.midS rfl (by kernel_rfl) (by kernel_rfl) (by kernel_rfl) (fun w1 hc => Ex.fieldAddr (q := 0) Try.underlying25 rfl (sz_22 _) rfl) rfl ?_
    refine AwC.take (i := 3) NoP.midS rfl (by kernel_rfl) (by kernel_rfl) (by kernel_rfl) (fun w1 hc => Ex.ldB (ag_22 _) rfl (Blk.bs (by assumption) hc) rfl) rfl ?_
    refine AwC.take (i := 5) NoP.midS rfl (by kernel_rfl) (by kernel_rfl) (by kernel_rfl) (fun w1 hc => Ex.fieldAddr (q := 1) Try.underlying42 rfl (sz_25 _) rfl) rfl ?_
    refine AwC.take (i := 6) NoP.midS rfl (by kernel_rfl) (by kernel_rfl) (by kernel_rfl) (fun w1 hc => Ex.fieldAddr (q := 0) Try.underlying25 rfl (sz_23 _) rfl) rfl ?_
    refine AwC.take (i := 7) NoP.midS rfl (by kernel_rfl) (by kernel_rfl) (by kernel_rfl) (fun w1 hc => Ex.ldB (ag_23 _) rfl (Blk.bs (by assumption) hc) rfl) rfl ?_
    refine AwC.two (by assumption) (i := 0) (j := 10) (by kernel_rfl) rfl rfl ?_ ?_
    refine Lw.valW (Xw.lit (vs := [(1 : Int)].map (Value.int .i64)) st_22 it_3 rfl rfl rfl rfl rfl) rfl ?_
    rintro u0 w ⟨ho0, -, hn, -⟩
    have ho0 := own_mono (B' := B) ho0 (Nat.le_trans (Nat.le_of_eq hBB) hcw.size)
    replace hcw := hcw.bs hn
    clear hn
    refine AwC.back ?_
    refine AwC.two (by assumption) (i := 4) (j := 10) (by kernel_rfl) rfl rfl ?_ ?_
    have zc := hcw.size
    refine Lw.valW (Xw.append (base := B) st_22 it_3 rfl (by decide) rfl rfl ho0 (h_t.bs hcw).1 (one_map (fun _ => rfl) _) (by omega) (by omega) (by omega)) rfl ?_
    rintro x w ⟨hx, -, hg⟩
    try replace b_r := b_r.by hg (blk_own_ne ho0 b_r (by decide))
    have hcw := hcw.grown hg hcw.size (fun b e => by have := own_block ho0 b e; omega)
    have hx : w.ownsRow B 3 1 x (1 :: z.T.s).length ((1 :: z.T.s).map (Value.int .i64)) := by rw [show (1 :: z.T.s).length = [(1 : Int)].length + z.T.s.length by simp; omega]; exact hx
    clear hg zc
    refine AwC.back ?_
    refine AwC.two (by assumption) (i := 8) (j := 10) (by kernel_rfl) rfl rfl ?_ ?_
    have zc := hcw.size
    refine Lw.valW (Xw.append (base := B) st_23 it_21 rfl (by decide) rfl rfl (World.ownsRow_nil _ _ _ _) (h_t.bs hcw).2 (one_map (fun _ => rfl) _) (by omega) (by omega) (by omega)) rfl ?_
    rintro y w ⟨hy, -, hg⟩
    have hn := grown_none hg
    have hy : w.ownsRow B 21 1 y z.T.l.length (z.T.l.map i32) := by rw [Nat.zero_add, List.nil_append] at hy; exact hy
    clear hg zc
    replace hcw := hcw.bs hn
    replace hx := hx.bs hn
    clear hn
    refine AwC.back ?_
    refine AwC.take (i := 9) NoP.midS rfl (by kernel_rfl) (by kernel_rfl) (by kernel_rfl) (fun w1 hc => Ex.build (vs := [(0, x), (1, y)]) (cs := [x, y]) rfl (bt_ten _ _ (own_sl hx).one (own_sl hy).one)) rfl ?_
    refine AwC.only (by assumption) (i := 10) (by kernel_rfl) rfl ?_
    refine Lw.newA it_25 rfl ?_
    rintro A_r w eA_r b_r hn -
    have g_r : B ≤ A_r := by have := hcw.size; omega
    replace hcw := hcw.bs hn
    replace hx := hx.bs hn
    replace hy := hy.bs hn
    clear hn
    refine AwC.back ?_
    refine AwC.only (by assumption) (i := 11) (by kernel_rfl) rfl ?_
    have hxy : [x, y].all (·.oneCell') = true := by simp [(own_sl hx).one', (own_sl hy).one']
    refine Lw.unit (Xu.stA (cs := [x, y]) rfl rfl rfl rfl hxy b_r rfl) ?_
    rintro w2 ⟨b_r2, hg, -⟩
    have nx := krow_ne (.inl hx) b_r (by decide)
    have ny := krow_ne (.inl hy) b_r (by decide)
    have nxy := own_own hx hy (by decide)
    have hx := own_apart hx b_r (by decide) hg
    have hy := own_apart hy b_r (by decide) hg
    have hcw := hcw.grown hg hcw.size (by rintro _ ⟨⟩; omega)
    have lr := blk_lt b_r2
    refine AwC.back ?_
    refine AwC.done (by assumption) (by kernel_rfl) ?_
    exact Pw.midS ((x, y, A_r, w2.heap.size)) ⟨rfl, rfl, rfl, trivial⟩ (⟨hcw, ⟨b_r2, .inl hx, ⟨hy, own_block hy⟩, ⟨g_r, lr⟩, fun b e => ⟨(own_block hx b e).1, (own_block hx b e).2, fun e2 => nx (by rw [← (show b = A_r from e2)]; exact e)⟩, ny, nxy⟩, Nat.le_refl _⟩)
    refine Lw.newA it_25 rfl ?_
    rintro A_r w eA_r b_r hn -
    have g_r : B ≤ A_r := by have := hcw.size; omega
    replace hcw := hcw.bs hn
    replace hx := hx.bs hn
    clear hn
    refine AwC.back ?_
    refine AwC.only (by assumption) (i := 8) (by kernel_rfl) rfl ?_
    have zc := hcw.size
    refine Lw.valW (Xw.append (base := B) st_23 it_21 rfl (by decide) rfl rfl (World.ownsRow_nil _ _ _ _) (h_t.bs hcw).2 (one_map (fun _ => rfl) _) (by omega) (by omega) (by omega)) rfl ?_
    rintro y w ⟨hy, -, hg⟩
    have hn := grown_none hg
    have hy : w.ownsRow B 21 1 y z.T.l.length (z.T.l.map i32) := by rw [Nat.zero_add, List.nil_append] at hy; exact hy
    clear hg zc
    replace hcw := hcw.bs hn
    replace hx := hx.bs hn
    replace b_r := b_r.bs hn
    clear hn
    refine AwC.back ?_
    refine AwC.take (i := 9) NoP.midS rfl (by kernel_rfl) (by kernel_rfl) (by kernel_rfl) (fun w1 hc => Ex.build (vs := [(0, x), (1, y)]) (cs := [x, y]) rfl (bt_ten _ _ (own_sl hx).one (own_sl hy).one)) rfl ?_
    refine AwC.only (by assumption) (i := 11) (by kernel_rfl) rfl ?_
    have hxy : [x, y].all (·.oneCell') = true := by simp [(own_sl hx).one', (own_sl hy).one']
    refine Lw.unit (Xu.stA (cs := [x, y]) rfl rfl rfl rfl hxy b_r rfl) ?_
    rintro w2 ⟨b_r2, hg, -⟩
    have nx := krow_ne (.inl hx) b_r (by decide)
    have ny := krow_ne (.inl hy) b_r (by decide)
    have nxy := own_own hx hy (by decide)
    have hx := own_apart hx b_r (by decide) hg
    have hy := own_apart hy b_r (by decide) hg
    have hcw := hcw.grown hg hcw.size (by rintro _ ⟨⟩; omega)
    have lr := blk_lt b_r2
    refine AwC.back ?_
    refine AwC.done (by assumption) (by kernel_rfl) ?_
    exact Pw.midS ((x, y, A_r, w2.heap.size)) ⟨rfl, rfl, rfl, trivial⟩ (⟨hcw, ⟨b_r2, .inl hx, ⟨hy, own_block hy⟩, ⟨g_r, lr⟩, fun b e => ⟨(own_block hx b e).1, (own_block hx b e).2, fun e2 => nx (by rw [← (show b = A_r from e2)]; exact e)⟩, ny, nxy⟩, Nat.le_refl _⟩)
    refine Lw.newA it_25 rfl ?_
    rintro A_r w eA_r b_r hn -
    have g_r : B ≤ A_r := by have := hcw.size; omega
    replace hcw := hcw.bs hn
    replace ho0 := ho0.bs hn
    clear hn
    refine AwC.back ?_
    refine AwC.only (by assumption) (i := 4) (by kernel_rfl) rfl ?_
    have zc := hcw.size
    refine Lw.valW (Xw.append (base := B) st_22 it_3 rfl (by decide) rfl rfl ho0 (h_t.bs hcw).1 (one_map (fun _ => rfl) _) (by omega) (by omega) (by omega)) rfl ?_
    rintro x w ⟨hx, -, hg⟩
    try replace b_r := b_r.by hg (blk_own_ne ho0 b_r (by decide))
    have hcw := hcw.grown hg hcw.size (fun b e => by have := own_block ho0 b e; omega)
    have hx : w.ownsRow B 3 1 x (1 :: z.T.s).length ((1 :: z.T.s).map (Value.int .i64)) := by rw [show (1 :: z.T.s).length = [(1 : Int)].length + z.T.s.length by simp; omega]; exact hx
    clear hg zc
    refine AwC.back ?_
    refine AwC.only (by assumption) (i := 8) (by kernel_rfl) rfl ?_
    have zc := hcw.size
    refine Lw.valW (Xw.append (base := B) st_23 it_21 rfl (by decide) rfl rfl (World.ownsRow_nil _ _ _ _) (h_t.bs hcw).2 (one_map (fun _ => rfl) _) (by omega) (by omega) (by omega)) rfl ?_
    rintro y w ⟨hy, -, hg⟩
    have hn := grown_none hg
    have hy : w.ownsRow B 21 1 y z.T.l.length (z.T.l.map i32) := by rw [Nat.zero_add, List.nil_append] at hy; exact hy
    clear hg zc
    replace hcw := hcw.bs hn
    replace b_r := b_r.bs hn
    replace hx := hx.bs hn
    clear hn
    refine AwC.back ?_
    refine AwC.take (i := 9) NoP.midS rfl (by kernel_rfl) (by kernel_rfl) (by kernel_rfl) (fun w1 hc => Ex.build (vs := [(0, x), (1, y)]) (cs := [x, y]) rfl (bt_ten _ _ (own_sl hx).one (own_sl hy).one)) rfl ?_
    refine AwC.only (by assumption) (i := 11) (by kernel_rfl) rfl ?_
    have hxy : [x, y].all (·.oneCell') = true := by simp [(own_sl hx).one', (own_sl hy).one']
    refine Lw.unit (Xu.stA (cs := [x, y]) rfl rfl rfl rfl hxy b_r rfl) ?_
    rintro w2 ⟨b_r2, hg, -⟩
    have nx := krow_ne (.inl hx) b_r (by decide)
    have ny := krow_ne (.inl hy) b_r (by decide)
    have nxy := own_own hx hy (by decide)
    have hx := own_apart hx b_r (by decide) hg
    have hy := own_apart hy b_r (by decide) hg
    have hcw := hcw.grown hg hcw.size (by rintro _ ⟨⟩; omega)
    have lr := blk_lt b_r2
    refine AwC.back ?_
    refine AwC.done (by assumption) (by kernel_rfl) ?_
    exact Pw.midS ((x, y, A_r, w2.heap.size)) ⟨rfl, rfl, rfl, trivial⟩ (⟨hcw, ⟨b_r2, .inl hx, ⟨hy, own_block hy⟩, ⟨g_r, lr⟩, fun b e => ⟨(own_block hx b e).1, (own_block hx b e).2, fun e2 => nx (by rw [← (show b = A_r from e2)]; exact e)⟩, ny, nxy⟩, Nat.le_refl _⟩)
    refine Lw.newA it_25 rfl ?_
    rintro A_r w eA_r b_r hn -
    have g_r : B ≤ A_r := by have := hcw.size; omega
    replace hcw := hcw.bs hn
    clear hn
    refine AwC.back ?_
    refine AwC.only (by assumption) (i := 0) (by kernel_rfl) rfl ?_
    refine Lw.valW (Xw.lit (vs := [(1 : Int)].map (Value.int .i64)) st_22 it_3 rfl rfl rfl rfl rfl) rfl ?_
    rintro u0 w ⟨ho0, -, hn, -⟩
    have ho0 := own_mono (B' := B) ho0 (Nat.le_trans (Nat.le_of_eq hBB) hcw.size)
    replace hcw := hcw.bs hn
    replace b_r := b_r.bs hn
    clear hn
    refine AwC.back ?_
    refine AwC.only (by assumption) (i := 4) (by kernel_rfl) rfl ?_
    have zc := hcw.size
    refine Lw.valW (Xw.append (base := B) st_22 it_3 rfl (by decide) rfl rfl ho0 (h_t.bs hcw).1 (one_map (fun _ => rfl) _) (by omega) (by omega) (by omega)) rfl ?_
    rintro x w ⟨hx, -, hg⟩
    try replace b_r := b_r.by hg (blk_own_ne ho0 b_r (by decide))
    have hcw := hcw.grown hg hcw.size (fun b e => by have := own_block ho0 b e; omega)
    have hx : w.ownsRow B 3 1 x (1 :: z.T.s).length ((1 :: z.T.s).map (Value.int .i64)) := by rw [show (1 :: z.T.s).length = [(1 : Int)].length + z.T.s.length by simp; omega]; exact hx
    clear hg zc
    refine AwC.back ?_
    refine AwC.only (by assumption) (i := 8) (by kernel_rfl) rfl ?_
    have zc := hcw.size
    refine Lw.valW (Xw.append (base := B) st_23 it_21 rfl (by decide) rfl rfl (World.ownsRow_nil _ _ _ _) (h_t.bs hcw).2 (one_map (fun _ => rfl) _) (by omega) (by omega) (by omega)) rfl ?_
    rintro y w ⟨hy, -, hg⟩
    have hn := grown_none hg
    have hy : w.ownsRow B 21 1 y z.T.l.length (z.T.l.map i32) := by rw [Nat.zero_add, List.nil_append] at hy; exact hy
    clear hg zc
    replace hcw := hcw.bs hn
    replace b_r := b_r.bs hn
    replace hx := hx.bs hn
    clear hn
    refine AwC.back ?_
    refine AwC.take (i := 9) NoP.midS rfl (by kernel_rfl) (by kernel_rfl) (by kernel_rfl) (fun w1 hc => Ex.build (vs := [(0, x), (1, y)]) (cs := [x, y]) rfl (bt_ten _ _ (own_sl hx).one (own_sl hy).one)) rfl ?_
    refine AwC.only (by assumption) (i := 11) (by kernel_rfl) rfl ?_
    have hxy : [x, y].all (·.oneCell') = true := by simp [(own_sl hx).one', (own_sl hy).one']
    refine Lw.unit (Xu.stA (cs := [x, y]) rfl rfl rfl rfl hxy b_r rfl) ?_
    rintro w2 ⟨b_r2, hg, -⟩
    have nx := krow_ne (.inl hx) b_r (by decide)
    have ny := krow_ne (.inl hy) b_r (by decide)
    have nxy := own_own hx hy (by decide)
    have hx := own_apart hx b_r (by decide) hg
    have hy := own_apart hy b_r (by decide) hg
    have hcw := hcw.grown hg hcw.size (by rintro _ ⟨⟩; omega)
    have lr := blk_lt b_r2
    refine AwC.back ?_
    refine AwC.done (by assumption) (by kernel_rfl) ?_
    exact Pw.midS ((x, y, A_r, w2.heap.size)) ⟨rfl, rfl, rfl, trivial⟩ (⟨hcw, ⟨b_r2, .inl hx, ⟨hy, own_block hy⟩, ⟨g_r, lr⟩, fun b e => ⟨(own_block hx b e).1, (own_block hx b e).2, fun e2 => nx (by rw [← (show b = A_r from e2)]; exact e)⟩, ny, nxy⟩, Nat.le_refl _⟩)
  rintro ⟨mx, my, A_m, hi⟩ w ⟨hn, M, zhi⟩
  dsimp only at M zhi ⊢
  refine Cw.out ?_
  replace hB := hB.bs hn
  replace h_t := h_t.bs hn
  replace h_f := h_f.bs hn
  replace b_z := b_z.bs hn
  replace h_t1 := h_t1.bs hn
  replace h_f1 := h_f1.bs hn
  replace h_t2 := h_t2.bs hn
  replace h_f2 := h_f2.bs hn
  have zn := hn.size
  clear hn
  obtain ⟨xl, hxl⟩ : ∃ l, l = xorL z.T.l z.W.l := ⟨_, rfl⟩
  have n1 : xl.length = z.T.l.length := by rw [hxl, xorL_len]
  have wl1 : 1 ≤ z.W.l.length := by
    obtain ⟨o1, o3⟩ := tok_ok k_f
    have := Shapes.prod_pos ((Shapes.ok_iff _).1 o1).2.1
    rw [← Shapes.size_ok o1] at this
    omega
  refine Cw.seq ?_
  refine Cw.seq ?_
  refine Cw.region ?_
  refine Lw.val (Ex.assign rfl) rfl ?_
  refine Lw.nil ?_
  refine Pw.thenN (Cw.out ?_)
  refine Cw.block ?_
  refine Cw.loop (S := Nat) (fun i => [(1, .pointer (some ⟨A_z, 0, none⟩)), (5, .int .i64 (z.T.l.length : Int)), (6, .pointer (some ⟨A_m, 0, none⟩)), (7, .int .i64 (i : Int))]) (fun i w' => i ≤ z.T.l.length ∧ Below B w w' ∧ MineT w' B hi A_m mx my (1 :: z.T.s) (xl.take i ++ z.T.l.drop i)) (fun i => z.T.l.length - i) (0) ⟨rfl, rfl, rfl, rfl, trivial⟩ ?_ ?_
  · exact ⟨by omega, Below.refl _ _, by rw [td_zero]; exact M⟩
  clear M
  have zB := below_size hB
  have q_z : A_z < B := hBB ▸ y_z
  have q_t : ∀ b, z.T.y.ownBlock = some b → z.T.l.map i32 ≠ [] → b < B := fun b e hne => hBB ▸ Sl.blk p_t hne b e
  have q_f : ∀ b, z.W.y.ownBlock = some b → z.W.l.map i32 ≠ [] → b < B := fun b e hne => hBB ▸ Sl.blk p_f hne b e
  rintro i w11 ⟨hi, hw, M⟩
  have b_z := b_z.bl hw q_z
  have h_t2 : SlT i32 w11 z.T.y z.T.l := Sl.stay h_t2 fun k e hne => hw.block k (q_t k e hne)
  have h_f2 : SlT i32 w11 z.W.y z.W.l := Sl.stay h_f2 fun k e hne => hw.block k (q_f k e hne)
  have b_m := M.box
  have y_m := M.sly
  have e1 := td_len (i := i) n1
  refine Cw.seq ?_
  refine Cw.seq ?_
  refine Cw.region ?_
  refine Lw.val (Ex.move rfl) rfl ?_
  refine Lw.val (Ex.move rfl) rfl ?_
  refine Lw.val (Ex.lss rfl rfl) rfl ?_
  refine Lw.nil ?_
  refine Pw.thenN (Cw.out ?_)
  refine Cw.cond rfl ?_ ?_
  · intro h
    have hi' : i < z.T.l.length := by simp at h; omega
    obtain ⟨k, hk⟩ : ∃ k, k = i % z.W.l.length := ⟨_, rfl⟩
    have hkl : k < z.W.l.length := by rw [hk]; exact Nat.mod_lt _ wl1
    refine Cw.skip ?_
    refine Pw.thenN (Cw.out ?_)
    refine Cw.seq ?_
    refine Cw.block ?_
    refine Cw.tail 21 mixed (by kernel_rfl) ?_
    refine Qw.val (fun w1 hq => Ex.fieldAddr (q := 0) Try.underlying25 rfl (sz_23 _) rfl) rfl ?_
    refine Qw.val (fun w1 hq => Ex.ldB (ag_23 _) rfl (Blk.bs (by assumption) hq) rfl) rfl ?_
    refine Qw.val (fun w1 hq => Ex.move rfl) rfl ?_
    refine Qw.val (fun w1 hq => Ex.fieldAddr (q := 0) Try.underlying25 rfl (sz_23 _) rfl) rfl ?_
    refine Qw.val (fun w1 hq => Ex.ldB (ag_23 _) rfl (Blk.bs (by assumption) hq) rfl) rfl ?_
    refine Qw.val (fun w1 hq => Ex.move rfl) rfl ?_
    refine Qw.val (fun w1 hq => Ex.idxT st_23 rfl rfl (Sl.bs (by assumption) hq) _ rfl (by omega)) rfl ?_
    refine Qw.val (fun w1 hq => Ex.ldT (ag_21 _) rfl (Sl.bs (by assumption) hq) (by omega)) rfl ?_
    refine Qw.val (fun w1 hq => Ex.fieldAddr (q := 1) Try.underlying42 rfl (sz_25 _) rfl) rfl ?_
    refine Qw.val (fun w1 hq => Ex.fieldAddr (q := 0) Try.underlying25 rfl (sz_23 _) rfl) rfl ?_
    refine Qw.val (fun w1 hq => Ex.ldB (ag_23 _) rfl (Blk.bs (by assumption) hq) rfl) rfl ?_
    refine Qw.val (fun w1 hq => Ex.move rfl) rfl ?_
    refine Qw.val (fun w1 hq => Ex.fieldAddr (q := 1) Try.underlying42 rfl (sz_25 _) rfl) rfl ?_
    refine Qw.val (fun w1 hq => Ex.fieldAddr (q := 0) Try.underlying25 rfl (sz_23 _) rfl) rfl ?_
    refine Qw.val (fun w1 hq => Ex.ldB (ag_23 _) rfl (Blk.bs (by assumption) hq) rfl) rfl ?_
    refine Qw.val (fun w1 hq => Ex.lenS st_23 rfl (Sl.bs (by assumption) hq)) rfl ?_
    refine Qw.val (fun w1 hq => (Ex.remI rfl rfl (by omega) (by omega)).as (congrArg (Value.int .i64) (show (i : Int) % (z.W.l.length : Int) = (k : Int) by rw [hk]; rfl))) rfl ?_
    refine Qw.val (fun w1 hq => Ex.idxT st_23 rfl rfl (Sl.bs (by assumption) hq) _ rfl (by omega)) rfl ?_
    refine Qw.val (fun w1 hq => Ex.ldT (ag_21 _) rfl (Sl.bs (by assumption) hq) (by omega)) rfl ?_
    refine Qw.val (fun w1 hq => Ex.xori32 rfl rfl) rfl ?_
    refine Qw.val (fun w1 hq => Ex.idxT st_23 rfl rfl (Sl.bs (by assumption) hq) _ rfl (by omega)) rfl ?_
    refine Qw.done (fun wt hq => ?_)
    refine Lw.unit ((M.bs hq).st (sz_21 _) rfl rfl (by omega)) ?_
    rintro w12 ⟨M2, hg2, -⟩
    have zw := hw.size
    have hw2 := (hw.trans (hq.mono (by omega))).grown hg2 (by have := hq.size; omega) (fun b e => ((M.bs hq).lst.blk b e).1)
    rw [td_get n1 hi', show z.T.l.getD i default ^^^ z.W.l.getD k default = xl.getD i default by rw [hxl, xorL_at hi', hk], td_set n1 hi'] at M2
    refine Lw.nil ?_
    refine Pw.blkN ?_
    refine Pw.thenN (Cw.out ?_)
    refine Cw.region ?_
    refine Lw.val (Ex.move rfl) rfl ?_
    refine Lw.val (Ex.addI rfl rfl (by omega)) rfl ?_
    refine Lw.val (Ex.assign rfl) rfl ?_
    refine Lw.nil ?_
    exact Pw.thenN (Pw.next (i + 1) ⟨rfl, rfl, rfl, rfl, trivial⟩ (⟨hi', hw2, M2⟩) (by omega))
  intro h
  have hi' : i = z.T.l.length := by simp at h; omega
  subst hi'
  rw [td_all n1] at M
  obtain ⟨o, hoo⟩ : ∃ o : T4, o = T4.mk mx my (1 :: z.T.s) xl := ⟨_, rfl⟩
  have h_o : o.at w11 := by rw [hoo]; exact mine_at M
  have b_o : Blk w11 A_m 25 [o.x, o.y] := by rw [hoo]; exact M.box
  have s_o : o.s = 1 :: z.T.s := by rw [hoo]
  have l_o : o.l = xl := by rw [hoo]
  clear M hoo y_m b_m
  have hB := hB.trans (hw.mono (by omega))
  have h_t : z.T.at w11 := ⟨Sl.stay h_t.1 fun k e hne => hw.block k (hBB ▸ Sl.blk p_t1 hne k e), h_t2⟩
  clear h_t1 h_f1 h_f h_f2 hw
  obtain ⟨o1, o2, o3⟩ := full_ok k_t h3 s_o (by rw [l_o, n1])
  refine Cw.exit ?_
  refine Pw.thenE ?_
  refine Pw.thenE ?_
  refine Pw.blkHit ?_
  refine Pw.thenN (Cw.out ?_)
  refine Cw.seq ?_
  refine Cw.region ?_
  refine Lw.val (Ex.fieldAddr (q := 1) Try.underlying42 rfl (sz_25 _) rfl) rfl ?_
  refine Lw.val (Ex.ldAt (ds := [z.T.x, z.T.y]) (ag_25 _) (sz_25 _) rfl rfl (by assumption) rfl) rfl ?_
  refine Lw.val (Ex.ldA (ag_25 _) (sz_25 _) rfl rfl (by assumption)) rfl ?_
  refine Lw.callF rfl rfl (wof_c z.T o 3 0 _ h_t h_o) ?_
  rintro r w ⟨hn, x, rfl, h_x, -, hz⟩
  obtain ⟨s_x, l_x, -⟩ := hz o1
  rw [o1]
  rw [o2] at s_x
  rw [o3] at l_x
  replace hB := hB.bs hn
  replace h_t := h_t.bs hn
  replace b_z := b_z.bs hn
  replace h_t2 := h_t2.bs hn
  replace b_o := b_o.bs hn
  replace h_o := h_o.bs hn
  clear hn hz
  refine Lw.val (Ex.move rfl) rfl ?_
  refine Lw.val (Ex.extract (i := 0) rfl rfl) rfl ?_
  refine Lw.val (Ex.extract (i := 1) rfl rfl) rfl ?_
  refine Lw.boxed (cs := [x.x, x.y]) it_25 rfl rfl rfl rfl (fun _ => rfl) (h_x.one) ?_
  rintro A_x w eA_x b_x hn -
  replace hB := hB.bs hn
  replace h_t := h_t.bs hn
  replace b_z := b_z.bs hn
  replace h_t2 := h_t2.bs hn
  replace b_o := b_o.bs hn
  replace h_o := h_o.bs hn
  replace h_x := h_x.bs hn
  clear hn
  refine Lw.val (Ex.assign rfl) rfl ?_
  refine Lw.nil ?_
  refine Pw.thenN (Cw.out ?_)
  refine Cw.seq ?_
  refine Cw.region ?_
  refine Lw.val (Ex.assign (show _ = some (i32 (0#32)) from rfl)) rfl ?_
  refine Lw.nil ?_
  refine Pw.thenN (Cw.out ?_)
  refine Cw.seq ?_
  refine Cw.seq ?_
  refine Cw.region ?_
  refine Lw.val (Ex.assign rfl) rfl ?_
  refine Lw.nil ?_
  refine Pw.thenN (Cw.out ?_)
  refine Cw.block ?_
  have h_o2 := h_o.2
  have h_x2 := h_x.2
  have ln_o : o.l.length = z.T.l.length := by rw [l_o, n1]
  refine Cw.loop (S := Nat) (fun i => [(1, .pointer (some ⟨A_z, 0, none⟩)), (5, .int .i64 (z.T.l.length : Int)), (6, .pointer (some ⟨A_m, 0, none⟩)), (8, .pointer (some ⟨A_x, 0, none⟩)), (9, .int .i64 0), (10, i32 (sm i fun j => o.l.getD j default * z.T.l.getD j default)), (11, .int .i64 (i : Int))]) (fun i w' => i ≤ z.T.l.length ∧ Below w.heap.size w w') (fun i => z.T.l.length - i) (0) ⟨rfl, rfl, rfl, rfl, rfl, rfl, rfl, trivial⟩ ?_ ?_
  · exact ⟨by omega, Below.refl _ _⟩
  rintro i w2 ⟨hi, hw⟩
  have b_z := b_z.bs hw
  have b_o := b_o.bs hw
  have h_t2 := h_t2.bs hw
  have h_o2 := h_o2.bs hw
  refine Cw.seq ?_
  refine Cw.seq ?_
  refine Cw.region ?_
  refine Lw.val (Ex.move rfl) rfl ?_
  refine Lw.val (Ex.move rfl) rfl ?_
  refine Lw.val (Ex.lss rfl rfl) rfl ?_
  refine Lw.nil ?_
  refine Pw.thenN (Cw.out ?_)
  refine Cw.cond rfl ?_ ?_
  · intro h
    have hi' : i < z.T.l.length := by simp at h; omega
    refine Cw.skip ?_
    refine Pw.thenN (Cw.out ?_)
    refine Cw.seq ?_
    refine Cw.block ?_
    refine Cw.quiet mixed (by kernel_rfl) ?_
    refine Qw.val (fun w1 hq => Ex.move rfl) rfl ?_
    refine Qw.val (fun w1 hq => Ex.fieldAddr (q := 0) Try.underlying25 rfl (sz_23 _) rfl) rfl ?_
    refine Qw.val (fun w1 hq => Ex.ldB (ag_23 _) rfl (Blk.bs (by assumption) hq) rfl) rfl ?_
    refine Qw.val (fun w1 hq => Ex.move rfl) rfl ?_
    refine Qw.val (fun w1 hq => Ex.idxT st_23 rfl rfl (Sl.bs (by assumption) hq) _ rfl (by omega)) rfl ?_
    refine Qw.val (fun w1 hq => Ex.ldT (ag_21 _) rfl (Sl.bs (by assumption) hq) (by omega)) rfl ?_
    refine Qw.val (fun w1 hq => Ex.fieldAddr (q := 1) Try.underlying42 rfl (sz_25 _) rfl) rfl ?_
    refine Qw.val (fun w1 hq => Ex.fieldAddr (q := 0) Try.underlying25 rfl (sz_23 _) rfl) rfl ?_
    refine Qw.val (fun w1 hq => Ex.ldB (ag_23 _) rfl (Blk.bs (by assumption) hq) rfl) rfl ?_
    refine Qw.val (fun w1 hq => Ex.move rfl) rfl ?_
    refine Qw.val (fun w1 hq => Ex.idxT st_23 rfl rfl (Sl.bs (by assumption) hq) _ rfl (by omega)) rfl ?_
    refine Qw.val (fun w1 hq => Ex.ldT (ag_21 _) rfl (Sl.bs (by assumption) hq) (by omega)) rfl ?_
    refine Qw.val (fun w1 hq => Ex.muli32 rfl rfl) rfl ?_
    refine Qw.val (fun w1 hq => Ex.addi32 rfl rfl) rfl ?_
    refine Qw.val (fun w1 hq => Ex.assign rfl) rfl ?_
    refine Qw.nil (fun w3 hq => ?_)
    refine Pw.blkN ?_
    refine Pw.thenN (Cw.out ?_)
    refine Cw.region ?_
    refine Lw.val (Ex.move rfl) rfl ?_
    refine Lw.val (Ex.addI rfl rfl (by omega)) rfl ?_
    refine Lw.val (Ex.assign rfl) rfl ?_
    refine Lw.nil ?_
    exact Pw.thenN (Pw.next (i + 1) ⟨rfl, rfl, rfl, rfl, rfl, rfl, rfl, trivial⟩ (⟨hi', bt hw hq⟩) (by omega))
  intro h
  have hi' : i = z.T.l.length := by simp at h; omega
  subst hi'
  clear b_z b_o h_t2 h_o2
  replace hB := hB.bs hw
  replace h_x := h_x.bs hw
  replace b_x := b_x.bs hw
  clear hw
  refine Cw.exit ?_
  refine Pw.thenE ?_
  refine Pw.thenE ?_
  refine Pw.blkHit ?_
  refine Pw.thenN (Cw.out ?_)
  refine Cw.seq ?_
  refine Cw.any mixed (fun w1 hd _ => ?_)
  replace hB := hB.bs hd
  replace h_x := h_x.bs hd
  replace b_x := b_x.bs hd
  clear hd
  refine Aw.take (i := 0) (NoP.thn NoP.ret) rfl (by kernel_rfl) (by kernel_rfl) (by kernel_rfl) (fun _ => Ex.move rfl) rfl ?_
  refine Aw.take (i := 1) (NoP.thn NoP.ret) rfl (by kernel_rfl) (by kernel_rfl) (by kernel_rfl) (fun _ => Ex.eql rfl rfl) rfl ?_
  refine Aw.take (i := 2) (NoP.thn NoP.ret) rfl (by kernel_rfl) (by kernel_rfl) (by kernel_rfl) (fun _ => Ex.move rfl) rfl ?_
  refine Aw.know 182 (v' := .bool true) rfl (congrArg Value.bool (rfl)) ?_
  refine Aw.takeG (i := 5) (dj := 182) (NoP.thn NoP.ret) rfl rfl rfl (by kernel_rfl) (by kernel_rfl) (by kernel_rfl) (fun _ => Ex.move rfl) rfl ?_
  refine Aw.seg (St := Unit) (g := 2) [3, 4, 6, 7, 8] 9 (fun s => [(182, .bool true), (188, .bool true)]) (fun s w' => Below w1.heap.size w1 w') (by kernel_rfl) rfl ?_ ?_
  · refine Aw.cls (fun w' => Below w1.heap.size w1 w') (fun hC => ?_) (Below.refl _ _)
    refine AwC.takeG (i := 3) (dj := 182) (NoP.thn (NoP.thn NoP.ret)) rfl rfl rfl (by kernel_rfl) (by kernel_rfl) (by kernel_rfl) (fun w1 hc => Ex.ldA (ag_25 _) (sz_25 _) rfl rfl (Blk.bs (by assumption) hc)) rfl ?_
    refine AwC.two (by first | assumption | exact Below.refl _ _) (i := 4) (j := 6) (by kernel_rfl) rfl rfl ?_ ?_
    · refine Lw.take (dj := 182) rfl rfl ?_
      refine Lw.valW (Xw.lit (vs := ([1, 1, 1] : List Int).map (Value.int .i64)) st_22 it_3 rfl (by kernel_rfl) rfl rfl rfl) rfl ?_
      rintro y1 w2 ⟨hoy1, -, hn2, -⟩
      refine AwC.back ?_
      refine AwC.only (by first | assumption | exact Below.refl _ _) (i := 6) (by kernel_rfl) rfl ?_
      refine Lw.take (dj := 182) rfl rfl ?_
      refine Lw.valW (Xw.lit (vs := ([sm z.T.l.length fun j => o.l.getD j default * z.T.l.getD j default] : List (BitVec 32)).map i32) st_23 it_21 rfl rfl rfl rfl rfl) rfl ?_
      rintro z1 w3 ⟨hoz1, -, hn3, -⟩
      have hn23 := bt hn2 hn3
      refine AwC.back ?_
      refine AwC.only (by first | assumption | exact Below.refl _ _) (i := 7) (by kernel_rfl) rfl ?_
      refine Lw.take (dj := 182) rfl rfl ?_
      refine Lw.callF rfl rfl (of8_c y1 z1 [1, 1, 1] [sm z.T.l.length fun j => o.l.getD j default * z.T.l.getD j default] w3 ((own_slT hoy1).bs hn3) (own_slT hoz1)) ?_
      rintro _ w4 ⟨q, rfl, s_q, l_q, h_q, hn⟩
      have hn4 := bt hn23 hn
      refine AwC.back ?_
      refine AwC.only (by first | assumption | exact Below.refl _ _) (i := 8) (by kernel_rfl) rfl ?_
      refine Lw.take (dj := 182) rfl rfl ?_
      refine Lw.callF rfl rfl (same_c _ _ _ _ _ _ _ _ _ (h_x.bs hn4).1 (h_x.bs hn4).2 h_q.1 h_q.2) ?_
      rintro _ w5 ⟨rfl, hn⟩
      have hn5 := bt hn4 hn
      refine AwC.back ?_
      refine AwC.done (by first | assumption | exact Below.refl _ _) (by kernel_rfl) ?_
      exact Pw.thenN (Pw.seg (()) ⟨rfl, congrArg (fun b => some (Value.bool b)) (by rw [s_x, s_q, l_x, l_q]; simp), trivial⟩ (hn5))
    · refine Lw.take (dj := 182) rfl rfl ?_
      refine Lw.valW (Xw.lit (vs := ([sm z.T.l.length fun j => o.l.getD j default * z.T.l.getD j default] : List (BitVec 32)).map i32) st_23 it_21 rfl rfl rfl rfl rfl) rfl ?_
      rintro z1 w2 ⟨hoz1, -, hn2, -⟩
      refine AwC.back ?_
      refine AwC.only (by first | assumption | exact Below.refl _ _) (i := 4) (by kernel_rfl) rfl ?_
      refine Lw.take (dj := 182) rfl rfl ?_
      refine Lw.valW (Xw.lit (vs := ([1, 1, 1] : List Int).map (Value.int .i64)) st_22 it_3 rfl (by kernel_rfl) rfl rfl rfl) rfl ?_
      rintro y1 w3 ⟨hoy1, -, hn3, -⟩
      have hn23 := bt hn2 hn3
      refine AwC.back ?_
      refine AwC.only (by first | assumption | exact Below.refl _ _) (i := 7) (by kernel_rfl) rfl ?_
      refine Lw.take (dj := 182) rfl rfl ?_
      refine Lw.callF rfl rfl (of8_c y1 z1 [1, 1, 1] [sm z.T.l.length fun j => o.l.getD j default * z.T.l.getD j default] w3 (own_slT hoy1) ((own_slT hoz1).bs hn3)) ?_
      rintro _ w4 ⟨q, rfl, s_q, l_q, h_q, hn⟩
      have hn4 := bt hn23 hn
      refine AwC.back ?_
      refine AwC.only (by first | assumption | exact Below.refl _ _) (i := 8) (by kernel_rfl) rfl ?_
      refine Lw.take (dj := 182) rfl rfl ?_
      refine Lw.callF rfl rfl (same_c _ _ _ _ _ _ _ _ _ (h_x.bs hn4).1 (h_x.bs hn4).2 h_q.1 h_q.2) ?_
      rintro _ w5 ⟨rfl, hn⟩
      have hn5 := bt hn4 hn
      refine AwC.back ?_
      refine AwC.done (by first | assumption | exact Below.refl _ _) (by kernel_rfl) ?_
      exact Pw.thenN (Pw.seg (()) ⟨rfl, congrArg (fun b => some (Value.bool b)) (by rw [s_x, s_q, l_x, l_q]; simp), trivial⟩ (hn5))
  rintro _ w hn
  replace hB := hB.bs hn
  replace h_x := h_x.bs hn
  replace b_x := b_x.bs hn
  clear hn
  refine Aw.take (i := 9) (NoP.thn NoP.ret) rfl (by kernel_rfl) (by kernel_rfl) (by kernel_rfl) (fun _ => Ex.pickT rfl rfl) rfl ?_
  refine Aw.take (i := 10) (NoP.thn NoP.ret) rfl (by kernel_rfl) (by kernel_rfl) (by kernel_rfl) (fun _ => Ex.assign rfl) rfl ?_
  refine Aw.done (by kernel_rfl) ?_
  refine Pw.thenN (Cw.out ?_)
  refine Cw.ret ?_
  refine Pw.ret1 rfl rfl ?_
  exact ⟨rfl, hB⟩

set_option maxRecDepth 100000 in
set_option maxHeartbeats 2000000 in
theorem windowsFull_lifted (os : Os) (started : os.Started) (H : Type) (enc : TypeId × Value → H) :
    ReturnsInHanded {} Try.checked os 5 .any (Rows.windowsFullSpec.pre6 enc Try.prog Try.f5 Rows.windowsFullRow.domain false) (Rows.windowsFullSpec.post enc Try.prog Try.f5 false true false false) := by
  refine returnsInHanded_of_change_sized (C := Try.checked) own started (by kernel_rfl) Try.func5
    (ChangeSpec.witness6 (enc := enc) (C := Try.checked) false ⟨#[], #[.agg #[.slice none 0 0, .slice none 0 0, .slice none 0 0, .slice none 0 0, .int .i64 0, .int .i64 0, .int .i64 0]], []⟩ 8 (by kernel_rfl) (by kernel_rfl) (by kernel_rfl) (by kernel_rfl)) ?_
  intro W base args ds gs before hval0 hW hcnd hsz0 _
  have hval : ∀ (j : Nat) t v, Try.f5.params[j]? = some t → args[j]? = some v → Value.okWide Try.prog W .any base t v := hval0
  have hW' := hW
  obtain ⟨p, q, hA0, hV, rfl, hfz, hnd⟩ := hW
  have hA : DataW.TrodAll enc Try.prog W 0 (fun _ => true) true Try.f5.params.toList args.toList ds p := hA0
  have hsz : (DataW.weightsEach Try.prog (Try.f5.params.toList ++ Rows.windowsFullSpec.plain.varTypes Try.prog) (ds ++ gs)).all (· ≤ reachBytes) = true := hsz0
  rw [Try.params5] at hA hval hsz
  obtain ⟨v0, vs0, d0, ds0, p0, q0, hargs, rfl, rfl, h0, r0⟩ := trodAll_cons hA
  obtain ⟨rfl, rfl, rfl⟩ := trodAll_nil r0
  obtain rfl : args = #[v0] := by cases args; simp_all
  obtain ⟨rfl, rfl⟩ := trodVars_none hV
  have k0 := h0
  have lt0 : ∀ x ∈ p0, x.block < W.heap.size := by obtain ⟨m, hm⟩ := k0; exact DataW.trod_lt m _ _ _ hm
  have i0 := in_of (j := 0) (t := 42) hsz rfl rfl h0
  have o0 := hval 0 42 v0 rfl rfl
  clear hA0 hval0 hsz0 hsz
  obtain ⟨z, rfl, u1, u2, f1, f2⟩ := arg_sld o0 i0
  refine (law_calls (windowsFull_w z W u1 u2 f1 f2)).mono fun e W' ⟨he, bel⟩ => ?_
  subst he
  exact ⟨_, rfl, _, _, _, [], _, [], hW', trodAll_mk1 (shut_bool un_4 _), (trodAll_cons_mk (Below.trod laidOut (by kernel_rfl) (of_decide_eq_true (by kernel_rfl)) k0 bel lt0) trodAll_mk0), rfl, bel.frame _, fun h => by cases h⟩

/-- The statement. -/
theorem windowsFull_proved : Rows.WindowsFullSaid :=
  OpenClaim.holds_of_wide 5 Try.f5 rfl rfl rfl rfl rfl rfl rfl ⟨rfl, rfl, rfl, rfl, rfl⟩ rfl rfl rfl rfl rfl (by kernel_rfl) Try.func5 (by kernel_rfl)
    (of_decide_eq_true (by kernel_rfl)) (by unfold Func.isWrapper; first | (rw [if_pos (by decide +kernel)]; kernel_rfl) | (rw [if_neg (by decide +kernel)]; exact ⟨rfl, rfl⟩))
    (fun os started H enc _ => windowsFull_lifted os started H enc)
#print axioms windowsFull_proved
end Go.Proofs.Ytgjpjpdmkeifeaa
