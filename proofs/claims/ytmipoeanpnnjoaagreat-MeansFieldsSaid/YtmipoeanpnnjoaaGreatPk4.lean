/- Texts of this proof, one behind the other: WinOf. -/
import Derived.Test.YtmipoeanpnnjoaaGreatPk3
import Derived.Test.YtmipoeanpnnjoaaGreatPk1

/-! Contract: windows that slide over a picture. -/
namespace Go.Proofs.YtmipoeanpnnjoaaGreat
open Go Go.Dd Go.RowKit
set_option maxRecDepth 100000

def wofE (t w : T4) (step pad : Int) : Int := if tok t.s t.l && tok w.s w.l then wshE t.s w.s step pad else 1
def wofN (w : T4) : Nat := (Shapes.size (w.s.drop 1)).toNat
def wofF (t w : T4) (step pad : Int) (i : Nat) : BitVec 32 := winS t.l w.l t.s (wshS t.s w.s step pad) (w.s.drop 1) (wofN w) step pad i (wofN w)
def wofL (t w : T4) (step pad : Int) : List (BitVec 32) := (List.range (Shapes.size (wshS t.s w.s step pad)).toNat).map (wofF t w step pad)
theorem itr_none {A A' : World} (h : Itr none A A') : Below A.heap.size A A' := by
  obtain ⟨r, g, hr⟩ := h
  have : r = none := by rcases hr with h | h <;> exact h
  subst this
  exact ⟨g.os, g.tape, g.output, g.size, fun k hk => g.block k hk (by simp)⟩
theorem blk_own_ne {w : World} {base A : Nat} {e T : TypeId} {sz n : Nat} {v : Value} {xs cs : List Value} (h : w.ownsRow base e sz v n xs) (k : Blk w A T cs) (hne : e ≠ T) : some A ≠ v.ownBlock := fun e2 => by
  rcases h.2 with ⟨rfl, _⟩ | ⟨g', cap, cur, rfl, _, hg, _⟩
  · cases e2
  · simp only [Value.ownBlock, Option.some.injEq] at e2
    subst e2
    unfold Blk at k
    rw [k] at hg
    have := Option.some.inj hg
    injection this with _ h2 _
    exact hne h2.symm
/-- An answer: a tensor of one's own, or none at all. -/
def AnsW (W w : World) (r : Value) (e : Int) (s : List Int) (l : List (BitVec 32)) : Prop :=
  ∃ x y, r = .tuple #[.agg #[x, y], .int .i64 e] ∧ (e ≠ 0 → x = .slice none 0 0 ∧ y = .slice none 0 0) ∧ (e = 0 → Made1 W w x y s l)
theorem ansW_no {W w : World} {e : Int} {s : List Int} {l : List (BitVec 32)} (h : e ≠ 0) : AnsW W w (.tuple #[.agg #[.slice none 0 0, .slice none 0 0], .int .i64 e]) e s l := ⟨_, _, rfl, fun _ => ⟨rfl, rfl⟩, fun h0 => absurd h0 h⟩
theorem AnsW.gets {W w : World} {r : Value} {e : Int} {s : List Int} {l : List (BitVec 32)} (h : AnsW W w r e s l) : Gets W w r e s l := by
  obtain ⟨x, y, rfl, q1, q2⟩ := h
  by_cases he : e = 0
  · exact ⟨⟨x, y, s, l⟩, rfl, (q2 he).at, fun h => absurd he h, fun _ => ⟨rfl, rfl, q2 he⟩⟩
  · obtain ⟨rfl, rfl⟩ := q1 he
    exact ⟨⟨_, _, [], []⟩, rfl, nilT w, fun _ => ⟨rfl, rfl⟩, fun h => absurd h he⟩
theorem blk_ne {w : World} {a b : Nat} {T U : TypeId} {cs ds : List Value} (h : Blk w a T cs) (k : Blk w b U ds) (hne : T ≠ U) : a ≠ b := fun e => by
  subst e
  unfold Blk at h k
  rw [h] at k
  have := Option.some.inj k
  injection this with _ h2 _
  exact hne h2
theorem own_apart {w w' : World} {base A : Nat} {e T : TypeId} {sz n : Nat} {v : Value} {xs cs : List Value} (h : w.ownsRow base e sz v n xs) (k : Blk w A T cs) (hne : e ≠ T) (g : w.grownBy w' (some A)) : w'.ownsRow base e sz v n xs :=
  own_heap h fun b hb => g.block b (own_block h b hb).2 fun e2 => by
    cases e2
    rcases h.2 with ⟨rfl, _⟩ | ⟨g', cap, cur, rfl, _, hg, _⟩
    · cases hb
    · simp only [Value.ownBlock, Option.some.injEq] at hb
      subst hb
      unfold Blk at k
      rw [k] at hg
      have := Option.some.inj hg
      injection this with _ h2 _
      exact hne h2.symm
/-- What goes with a picture and windows that slide over it. -/
structure WinOK (t f : T4) (step pad : Int) (S : List Int) (N : Nat) : Prop where
  lt : t.s.length = 3
  lf : f.s.length = 4
  lS : S.length = 3
  st : 1 ≤ step ∧ step ≤ 8
  pd : 0 ≤ pad ∧ pad ≤ 8
  ok : Shapes.ok S = true
  okf : Shapes.ok (f.s.drop 1) = true
  c : t.s.getD 0 default = f.s.getD 1 default
  o : S.getD 0 default = f.s.getD 0 default
  gt : Shapes.good t.s
  gf : Shapes.good f.s
  gS : Shapes.good S
  n : (N : Int) = f.s.getD 1 default * (f.s.getD 2 default * f.s.getD 3 default)
  n1 : 1 ≤ N ∧ N ≤ 4096
  fl : (f.l.length : Int) = f.s.getD 0 default * (N : Int)
  tl : (t.l.length : Int) = t.s.getD 0 default * (t.s.getD 1 default * t.s.getD 2 default)
theorem list3 {s : List Int} (h : s.length = 3) : s = [s.getD 0 default, s.getD 1 default, s.getD 2 default] := by
  match s, h with
  | [a, b, c], _ => rfl
theorem list4 {s : List Int} (h : s.length = 4) : s = [s.getD 0 default, s.getD 1 default, s.getD 2 default, s.getD 3 default] := by
  match s, h with
  | [a, b, c, d], _ => rfl
theorem prod3 {s : List Int} (h : s.length = 3) : Shapes.prod s = s.getD 0 default * (s.getD 1 default * s.getD 2 default) := by
  rw [list3 h]; simp [Shapes.prod]
theorem win_ok {t f : T4} {step pad : Int} (ht : tok t.s t.l = true) (hf : tok f.s f.l = true) (e : wshE t.s f.s step pad = 0) : WinOK t f step pad (wshS t.s f.s step pad) (wofN f) := by
  obtain ⟨t1, t2⟩ := tok_ok ht
  obtain ⟨f1, f2⟩ := tok_ok hf
  have T := (Shapes.ok_iff t.s).1 t1
  have F := (Shapes.ok_iff f.s).1 f1
  have hA : wshA t.s f.s step pad = false := by cases h : wshA t.s f.s step pad <;> simp [wshE, h] at e ⊢
  have hBk : (wshB t.s f.s && Shapes.ok (wshS t.s f.s step pad)) = true := by
    rw [wshE, hA] at e
    cases h : (wshB t.s f.s && Shapes.ok (wshS t.s f.s step pad))
    · rw [h] at e; cases e
    · rfl
  simp only [Bool.and_eq_true] at hBk
  obtain ⟨hb, hk⟩ := hBk
  simp only [wshB, Bool.and_eq_true, decide_eq_true_eq] at hb
  obtain ⟨⟨lt, lf⟩, hc⟩ := hb
  simp only [wshA, Bool.or_eq_false_iff, decide_eq_false_iff_not] at hA
  obtain ⟨⟨⟨⟨-, a1⟩, a2⟩, a3⟩, a4⟩ := hA
  have g1 := good_at F.2.1 (k := 1) (by omega)
  have ef := list4 lf
  have gd : Shapes.good (f.s.drop 1) := Shapes.good_drop F.2.1 1
  have ld : (f.s.drop 1).length = 3 := by rw [List.length_drop]; omega
  have pd := prod3 ld
  have d0 : (f.s.drop 1).getD 0 default = f.s.getD 1 default := by simp
  have d1 : (f.s.drop 1).getD 1 default = f.s.getD 2 default := by simp
  have d2 : (f.s.drop 1).getD 2 default = f.s.getD 3 default := by simp
  rw [d0, d1, d2] at pd
  have pf : Shapes.prod f.s = f.s.getD 0 default * Shapes.prod (f.s.drop 1) := by
    have := Shapes.prod_drop (s := f.s) (k := 0) (by omega)
    simpa using this
  have p1 := Shapes.prod_pos gd
  have g0 := good_at F.2.1 (k := 0) (by omega)
  have p2 : Shapes.prod (f.s.drop 1) ≤ 4096 := by
    have h1 : 1 * Shapes.prod (f.s.drop 1) ≤ f.s.getD 0 default * Shapes.prod (f.s.drop 1) := Int.mul_le_mul_of_nonneg_right g0.1 (by omega)
    omega
  have okd : Shapes.ok (f.s.drop 1) = true := (Shapes.ok_iff _).2 ⟨by omega, gd, p2⟩
  have hN : (wofN f : Int) = Shapes.prod (f.s.drop 1) := by
    unfold wofN
    rw [Shapes.size_ok okd, Int.toNat_of_nonneg (by omega)]
  refine ⟨lt, lf, rfl, by omega, by omega, hk, okd, hc, rfl, T.2.1, F.2.1, ((Shapes.ok_iff _).1 hk).2.1, by rw [hN, pd], by omega, ?_, ?_⟩
  · have := Shapes.size_ok f1
    rw [hN, ← pf]; have := Shapes.size_le f.s; omega
  · have := Shapes.size_ok t1
    rw [← prod3 lt]; have := Shapes.size_le t.s; omega
set_option maxHeartbeats 2000000 in
theorem wof0_c (t f : T4) (step pad : Int) (W : World) (h_t : t.at W) (h_f : f.at W) :
    Fnc Tryz.prog 89 [t.v, f.v, .int .i64 step, .int .i64 pad] W (fun r w' => Below W.heap.size W w' ∧ AnsW W w' r (wofE t f step pad) (wshS t.s f.s step pad) (wofL t f step pad)) := by
  have hB := Below.refl W.heap.size W
  have h_t0 := h_t
  have h_f0 := h_f
  refine Fnc.enterG (n := 106) Tryz.func89 (by kernel_rfl) rfl rfl rfl ?_
  refine Cg.seq ?_
  refine Cg.region (by kernel_rfl) ?_
  refine Lw.boxV (cs := [t.x, t.y]) rfl rfl rfl ?_
  rintro A_t w eA_t b_t hn -
  replace hB := hB.bs hn
  replace h_t := h_t.bs hn
  replace h_f := h_f.bs hn
  clear hn
  have z_t := blk_lt b_t
  refine Lw.boxV (cs := [f.x, f.y]) rfl rfl rfl ?_
  rintro A_f w eA_f b_f hn -
  replace hB := hB.bs hn
  replace h_t := h_t.bs hn
  replace h_f := h_f.bs hn
  replace b_t := b_t.bs hn
  clear hn
  refine Lw.boxV (cs := [.int .i64 step]) rfl rfl rfl ?_
  rintro A_s w eA_s b_s hn -
  replace hB := hB.bs hn
  replace h_t := h_t.bs hn
  replace h_f := h_f.bs hn
  replace b_t := b_t.bs hn
  replace b_f := b_f.bs hn
  clear hn
  refine Lw.boxV (cs := [.int .i64 pad]) rfl rfl rfl ?_
  rintro A_p w eA_p b_p hn -
  replace hB := hB.bs hn
  replace h_t := h_t.bs hn
  replace h_f := h_f.bs hn
  replace b_t := b_t.bs hn
  replace b_f := b_f.bs hn
  replace b_s := b_s.bs hn
  clear hn
  have z0 := below_size hB
  refine Lw.newA it_29 rfl ?_
  rintro A_r w eA_r b_r hn -
  replace hB := hB.bs hn
  replace h_t := h_t.bs hn
  replace h_f := h_f.bs hn
  replace b_t := b_t.bs hn
  replace b_f := b_f.bs hn
  replace b_s := b_s.bs hn
  replace b_p := b_p.bs hn
  clear hn
  refine Lw.val (Ex.assign rfl) rfl ?_
  refine Lw.nil (Pg.low ?_)
  refine Pg.thenN (Cg.out ?_)
  refine Cg.seq ?_
  refine Cg.seq ?_
  refine Cg.region (by kernel_rfl) ?_
  refine Lw.val (Ex.ldA (ag_29 _) (sz_29 _) rfl rfl (by assumption)) rfl ?_
  have z_r := blk_lt b_r
  refine Lw.callF rfl rfl (tcheck_c t.x t.y t.s t.l _ h_t.1 h_t.2) ?_
  rintro _ w ⟨rfl, hn⟩
  replace hB := hB.bs hn
  replace h_t := h_t.bs hn
  replace h_f := h_f.bs hn
  replace b_t := b_t.bs hn
  replace b_f := b_f.bs hn
  replace b_s := b_s.bs hn
  replace b_p := b_p.bs hn
  replace b_r := b_r.bs hn
  clear hn
  refine Lw.val (Ex.not rfl) rfl ?_
  refine Lw.val (Ex.move rfl) rfl ?_
  refine Lw.part 22 rfl ?_ ?_
  · intro g
    refine Lw.pass (dj := 22) rfl rfl rfl rfl ?_
    refine Lw.pass (dj := 22) rfl rfl rfl rfl ?_
    refine Lw.pass (dj := 22) rfl rfl rfl rfl ?_
    refine Lw.val (Ex.pickT rfl rfl) rfl ?_
    refine Lw.nil (Pg.low ?_)
    refine Pg.thenN (Cg.out ?_)
    refine Cg.condT rfl ?_
    refine Cg.seq ?_
    refine Cg.region (by kernel_rfl) ?_
    refine Lw.val (Ex.build (vs := []) (cs := [.slice none 0 0, .slice none 0 0]) rfl (by kernel_rfl)) rfl ?_
    refine Lw.unit (Xu.stA (cs := [.slice none 0 0, .slice none 0 0]) rfl rfl rfl rfl rfl b_r rfl) ?_
    rintro w3 ⟨b_r, hg, -⟩
    have hB := hB.grown hg (below_size hB) (by rintro _ ⟨⟩; omega)
    refine Lw.val (Ex.assign rfl) rfl ?_
    refine Lw.nil (Pg.low ?_)
    refine Pg.thenN (Cg.out ?_)
    refine Cg.ret ?_
    refine Pg.thenR ?_
    refine Pg.close0 ?_
    refine Pw.retCT rfl rfl rfl (by assumption) (Tryz.underlying29) rfl rfl rfl ?_
    rw [show wofE t f step pad = 1 by simp_all [wofE]]
    exact ⟨hB, ansW_no (by decide)⟩
  intro g1
  have k_t : tok t.s t.l = true := by simpa using g1
  refine Lw.take (dj := 22) rfl rfl ?_
  refine Lw.val (Ex.ldA (ag_29 _) (sz_29 _) rfl rfl (by assumption)) rfl ?_
  refine Lw.take (dj := 22) rfl rfl ?_
  refine Lw.callF rfl rfl (tcheck_c f.x f.y f.s f.l _ h_f.1 h_f.2) ?_
  rintro _ w ⟨rfl, hn⟩
  replace hB := hB.bs hn
  replace h_t := h_t.bs hn
  replace h_f := h_f.bs hn
  replace b_t := b_t.bs hn
  replace b_f := b_f.bs hn
  replace b_s := b_s.bs hn
  replace b_p := b_p.bs hn
  replace b_r := b_r.bs hn
  clear hn
  refine Lw.take (dj := 22) rfl rfl ?_
  refine Lw.val (Ex.not rfl) rfl ?_
  refine Lw.val (Ex.pickF rfl rfl) rfl ?_
  refine Lw.nil (Pg.low ?_)
  refine Pg.thenN (Cg.out ?_)
  refine Cg.cond rfl ?_ ?_
  · intro g
    refine Cg.seq ?_
    refine Cg.region (by kernel_rfl) ?_
    refine Lw.val (Ex.build (vs := []) (cs := [.slice none 0 0, .slice none 0 0]) rfl (by kernel_rfl)) rfl ?_
    refine Lw.unit (Xu.stA (cs := [.slice none 0 0, .slice none 0 0]) rfl rfl rfl rfl rfl b_r rfl) ?_
    rintro w3 ⟨b_r, hg, -⟩
    have hB := hB.grown hg (below_size hB) (by rintro _ ⟨⟩; omega)
    refine Lw.val (Ex.assign rfl) rfl ?_
    refine Lw.nil (Pg.low ?_)
    refine Pg.thenN (Cg.out ?_)
    refine Cg.ret ?_
    refine Pg.thenR ?_
    refine Pg.close0 ?_
    refine Pw.retCT rfl rfl rfl (by assumption) (Tryz.underlying29) rfl rfl rfl ?_
    rw [show wofE t f step pad = 1 by simp_all [wofE]]
    exact ⟨hB, ansW_no (by decide)⟩
  intro g2
  have k_f : tok f.s f.l = true := by simpa using g2
  have hE : wofE t f step pad = wshE t.s f.s step pad := by rw [wofE, k_t, k_f]; rfl
  clear g1 g2
  rw [hE]
  have h_t1 := h_t.1
  have h_f1 := h_f.1
  refine Cg.skip ?_
  refine Pg.thenN (Cg.out ?_)
  refine Cg.seq ?_
  refine Cg.region (by kernel_rfl) ?_
  refine Lw.val (Ex.fieldAddr (q := 0) Tryz.underlying29 rfl (sz_26 _) rfl) rfl ?_
  refine Lw.val (Ex.ldB (ag_26 _) rfl (by assumption) rfl) rfl ?_
  refine Lw.val (Ex.fieldAddr (q := 0) Tryz.underlying29 rfl (sz_26 _) rfl) rfl ?_
  refine Lw.val (Ex.ldB (ag_26 _) rfl (by assumption) rfl) rfl ?_
  refine Lw.val (Ex.ldB (ag_3 _) rfl (by assumption) rfl) rfl ?_
  refine Lw.val (Ex.ldB (ag_3 _) rfl (by assumption) rfl) rfl ?_
  have zr0 := blk_lt b_r
  have zrB := below_size hB
  refine Lw.callF rfl rfl (wshape_c t.s f.s step pad t.x f.x _ h_t.1 h_f.1) ?_
  rintro _ w1 ⟨hn, x, m, rfl, hx, hno, hyes⟩
  replace hB := hB.bs hn
  replace h_t := h_t.bs hn
  replace h_f := h_f.bs hn
  replace b_t := b_t.bs hn
  replace b_f := b_f.bs hn
  replace b_s := b_s.bs hn
  replace b_p := b_p.bs hn
  replace b_r := b_r.bs hn
  clear hn
  refine Lw.val (Ex.move rfl) rfl ?_
  refine Lw.val (Ex.extract (i := 0) rfl rfl) rfl ?_
  refine Lw.val (Ex.extract (i := 1) rfl rfl) rfl ?_
  refine Lw.val (Ex.assign rfl) rfl ?_
  refine Lw.val (Ex.assign rfl) rfl ?_
  refine Lw.nil (Pg.low ?_)
  refine Pg.thenN (Cg.out ?_)
  refine Cg.seq ?_
  refine Cg.seq ?_
  refine Cg.region (by kernel_rfl) ?_
  refine Lw.val (Ex.move rfl) rfl ?_
  refine Lw.val (Ex.neq rfl rfl) rfl ?_
  refine Lw.nil (Pg.low ?_)
  refine Pg.thenN (Cg.out ?_)
  refine Cg.cond rfl ?_ ?_
  · intro g
    have g : wshE t.s f.s step pad ≠ 0 := by simpa using g
    refine Cg.seq ?_
    refine Cg.region (by kernel_rfl) ?_
    refine Lw.val (Ex.build (vs := []) (cs := [.slice none 0 0, .slice none 0 0]) rfl (by kernel_rfl)) rfl ?_
    refine Lw.val (Ex.move rfl) rfl ?_
    refine Lw.unit (Xu.stA (cs := [.slice none 0 0, .slice none 0 0]) rfl rfl rfl rfl rfl b_r rfl) ?_
    rintro w3 ⟨b_r, hg, -⟩
    have hB := hB.grown hg (below_size hB) (by rintro _ ⟨⟩; omega)
    refine Lw.val (Ex.assign rfl) rfl ?_
    refine Lw.nil (Pg.low ?_)
    refine Pg.thenN (Cg.out ?_)
    refine Cg.ret ?_
    refine Pg.thenR ?_
    refine Pg.close0 ?_
    refine Pw.retCT rfl rfl rfl (by assumption) (Tryz.underlying29) rfl rfl rfl ?_
    exact ⟨hB, ansW_no g⟩
  intro g
  have e0 : wshE t.s f.s step pad = 0 := by simpa using g
  clear g
  rw [e0]
  have hm := hyes e0
  have ok := win_ok k_t k_f e0
  clear hno hyes e0 hE
  obtain ⟨S, hS⟩ : ∃ S, S = wshS t.s f.s step pad := ⟨_, rfl⟩
  obtain ⟨N, hN⟩ : ∃ N, N = wofN f := ⟨_, rfl⟩
  rw [hm, ← hS] at hx
  rw [← hS]
  rw [← hS, ← hN] at ok
  clear hm
  have szS := Shapes.size_le S
  obtain ⟨M, hM⟩ : ∃ M, M = (Shapes.size S).toNat := ⟨_, rfl⟩
  have l3 := ok.lt
  have l4 := ok.lf
  have l5 := ok.lS
  refine Cg.skip ?_
  refine Pg.thenN (Cg.out ?_)
  refine Cg.seq ?_
  have zW := below_size hB
  obtain ⟨B1, hB1⟩ : ∃ B1, B1 = w1.heap.size := ⟨_, rfl⟩
  have hxl := own_block hx
  have q_t : A_t < B1 := hB1 ▸ blk_lt b_t
  have q_f : A_f < B1 := hB1 ▸ blk_lt b_f
  have q_s : A_s < B1 := hB1 ▸ blk_lt b_s
  have q_p : A_p < B1 := hB1 ▸ blk_lt b_p
  have q_r : A_r < B1 := hB1 ▸ blk_lt b_r
  refine Cg.midS (St := Value × Nat × Nat) (fun z => [(4, .pointer (some ⟨A_t, 0, none⟩)), (5, .pointer (some ⟨A_f, 0, none⟩)), (6, .pointer (some ⟨A_s, 0, none⟩)), (7, .pointer (some ⟨A_p, 0, none⟩)), (8, .pointer (some ⟨A_r, 0, none⟩)), (10, x), (12, .pointer (some ⟨z.2.1, 0, none⟩)), (13, .pointer (some ⟨z.2.2, 0, none⟩))]) (fun z w' => Below w1.heap.size w1 w' ∧ w'.ownsRow B1 21 1 z.1 0 [] ∧ B1 ≤ z.2.1 ∧ Blk w' z.2.1 27 [z.1] ∧ B1 ≤ z.2.2 ∧ Blk w' z.2.2 131 [.func (.func 110) #[picV t] #[]]) ?_ ?_
  · refine Cg.any mixed (by kernel_rfl) (fun w hcw _ => ?_)
    refine Aw.cls (fun w' => Below w1.heap.size w1 w') (fun hC => ?_) (hcw)
    refine AwC.take (i := 0) (NoP.lift NoP.midG) rfl (by kernel_rfl) (by kernel_rfl) (by kernel_rfl) (fun w1 hc => Ex.move rfl) rfl ?_
    refine AwC.take (i := 3) (NoP.lift NoP.midG) rfl (by kernel_rfl) (by kernel_rfl) (by kernel_rfl) (fun w1 hc => Ex.ldA (ag_29 _) (sz_29 _) rfl rfl (Blk.bs (by assumption) hc)) rfl ?_
    refine AwC.three (by assumption) (i0 := 1) (i1 := 6) (i2 := 7) (by kernel_rfl) rfl rfl rfl ?_ ?_ ?_
    refine Lw.callF rfl rfl (size_c x S _ ((own_slT hx).bs hcw)) ?_
    rintro _ w ⟨rfl, hn⟩
    replace hcw := hcw.bs hn
    clear hn
    refine Lw.know 43 (v' := .int .i64 (M : Int)) rfl (congrArg (Value.int .i64) (by omega)) ?_
    refine AwC.back ?_
    refine AwC.four (by assumption) (i0 := 2) (i1 := 4) (i2 := 6) (i3 := 7) (by kernel_rfl) rfl rfl rfl rfl ?_ ?_ ?_ ?_
    refine Lw.valW (Xw.make (l := 0) (c := M) st_27 it_21 rfl rfl rfl (Nat.zero_le _) (by omega) (by omega)) rfl ?_
    rintro ov w ⟨ho, -, hn, -⟩
    have ho := own_mono (B' := B1) ho (Nat.le_trans (Nat.le_of_eq hB1) hcw.size)
    replace hcw := hcw.bs hn
    clear hn
    refine AwC.back ?_
    refine AwC.three (by assumption) (i0 := 4) (i1 := 6) (i2 := 7) (by kernel_rfl) rfl rfl rfl ?_ ?_ ?_
    refine Lw.callF rfl rfl (pof_c t _ (h_t.bs hcw) (by omega)) ?_
    rintro _ w ⟨rfl, hn⟩
    replace hcw := hcw.bs hn
    replace ho := ho.bs hn
    clear hn
    refine AwC.back ?_
    refine AwC.take (i := 5) (NoP.lift NoP.midG) rfl (by kernel_rfl) (by kernel_rfl) (by kernel_rfl) (fun w1 hc => Ex.mkFn (vs := [picV t]) (us := []) rfl rfl) rfl ?_
    refine AwC.two (by assumption) (i := 6) (j := 7) (by kernel_rfl) rfl rfl ?_ ?_
    have zc := hcw.size
    refine Lw.newA it_27 rfl ?_
    rintro A_o w eA_o b_o hn -
    have l_o : B1 ≤ A_o := by omega
    clear zc
    replace hcw := hcw.bs hn
    replace ho := ho.bs hn
    clear hn
    refine AwC.back ?_
    refine AwC.only (by assumption) (i := 7) (by kernel_rfl) rfl ?_
    have zc := hcw.size
    refine Lw.newA it_131 rfl ?_
    rintro A_g w eA_g b_g hn -
    have l_g : B1 ≤ A_g := by omega
    clear zc
    replace hcw := hcw.bs hn
    replace ho := ho.bs hn
    replace b_o := b_o.bs hn
    clear hn
    refine AwC.back ?_
    refine AwC.only (by assumption) (i := 8) (by kernel_rfl) rfl ?_
    refine Lw.unit (Xu.stB (u := ov) (sz_27 _) rfl rfl (own_sl ho).one' b_o Nat.zero_lt_one) ?_
    rintro w2 ⟨b_o2, hg, -⟩
    have ho := own_apart ho b_o (by decide) hg
    try replace b_g := b_g.by hg (fun e => blk_ne b_g b_o (by decide) (Option.some.inj e))
    have hcw := hcw.grown hg hcw.size (by rintro _ ⟨⟩; omega)
    have b_o : Blk w2 A_o 27 [ov] := b_o2
    clear b_o2 hg
    refine AwC.back ?_
    refine AwC.only (by assumption) (i := 9) (by kernel_rfl) rfl ?_
    refine Lw.unit (Xu.stB (u := .func (.func 110) #[picV t] #[]) (sz_131 _) rfl rfl rfl b_g Nat.zero_lt_one) ?_
    rintro w2 ⟨b_g2, hg, -⟩
    have ho := own_apart ho b_g (by decide) hg
    have b_o := b_o.by hg (fun e => blk_ne b_o b_g (by decide) (Option.some.inj e))
    have hcw := hcw.grown hg hcw.size (by rintro _ ⟨⟩; omega)
    have b_g : Blk w2 A_g 131 [.func (.func 110) #[picV t] #[]] := b_g2
    clear b_g2 hg
    refine AwC.back ?_
    refine AwC.done (by assumption) (by kernel_rfl) (Pg.low ?_)
    exact Pg.midS ((ov, A_o, A_g)) ⟨rfl, rfl, rfl, rfl, rfl, rfl, rfl, rfl, trivial⟩ (⟨hcw, ho, l_o, b_o, l_g, b_g⟩)
    have zc := hcw.size
    refine Lw.newA it_131 rfl ?_
    rintro A_g w eA_g b_g hn -
    have l_g : B1 ≤ A_g := by omega
    clear zc
    replace hcw := hcw.bs hn
    replace ho := ho.bs hn
    clear hn
    refine AwC.back ?_
    refine AwC.only (by assumption) (i := 6) (by kernel_rfl) rfl ?_
    have zc := hcw.size
    refine Lw.newA it_27 rfl ?_
    rintro A_o w eA_o b_o hn -
    have l_o : B1 ≤ A_o := by omega
    clear zc
    replace hcw := hcw.bs hn
    replace ho := ho.bs hn
    replace b_g := b_g.bs hn
    clear hn
    refine AwC.back ?_
    refine AwC.only (by assumption) (i := 8) (by kernel_rfl) rfl ?_
    refine Lw.unit (Xu.stB (u := ov) (sz_27 _) rfl rfl (own_sl ho).one' b_o Nat.zero_lt_one) ?_
    rintro w2 ⟨b_o2, hg, -⟩
    have ho := own_apart ho b_o (by decide) hg
    try replace b_g := b_g.by hg (fun e => blk_ne b_g b_o (by decide) (Option.some.inj e))
    have hcw := hcw.grown hg hcw.size (by rintro _ ⟨⟩; omega)
    have b_o : Blk w2 A_o 27 [ov] := b_o2
    clear b_o2 hg
    refine AwC.back ?_
    refine AwC.only (by assumption) (i := 9) (by kernel_rfl) rfl ?_
    refine Lw.unit (Xu.stB (u := .func (.func 110) #[picV t] #[]) (sz_131 _) rfl rfl rfl b_g Nat.zero_lt_one) ?_
    rintro w2 ⟨b_g2, hg, -⟩
    have ho := own_apart ho b_g (by decide) hg
    have b_o := b_o.by hg (fun e => blk_ne b_o b_g (by decide) (Option.some.inj e))
    have hcw := hcw.grown hg hcw.size (by rintro _ ⟨⟩; omega)
    have b_g : Blk w2 A_g 131 [.func (.func 110) #[picV t] #[]] := b_g2
    clear b_g2 hg
    refine AwC.back ?_
    refine AwC.done (by assumption) (by kernel_rfl) (Pg.low ?_)
    exact Pg.midS ((ov, A_o, A_g)) ⟨rfl, rfl, rfl, rfl, rfl, rfl, rfl, rfl, trivial⟩ (⟨hcw, ho, l_o, b_o, l_g, b_g⟩)
    have zc := hcw.size
    refine Lw.newA it_27 rfl ?_
    rintro A_o w eA_o b_o hn -
    have l_o : B1 ≤ A_o := by omega
    clear zc
    replace hcw := hcw.bs hn
    replace ho := ho.bs hn
    clear hn
    refine AwC.back ?_
    refine AwC.two (by assumption) (i := 4) (j := 7) (by kernel_rfl) rfl rfl ?_ ?_
    refine Lw.callF rfl rfl (pof_c t _ (h_t.bs hcw) (by omega)) ?_
    rintro _ w ⟨rfl, hn⟩
    replace hcw := hcw.bs hn
    replace ho := ho.bs hn
    replace b_o := b_o.bs hn
    clear hn
    refine AwC.back ?_
    refine AwC.take (i := 5) (NoP.lift NoP.midG) rfl (by kernel_rfl) (by kernel_rfl) (by kernel_rfl) (fun w1 hc => Ex.mkFn (vs := [picV t]) (us := []) rfl rfl) rfl ?_
    refine AwC.only (by assumption) (i := 7) (by kernel_rfl) rfl ?_
    have zc := hcw.size
    refine Lw.newA it_131 rfl ?_
    rintro A_g w eA_g b_g hn -
    have l_g : B1 ≤ A_g := by omega
    clear zc
    replace hcw := hcw.bs hn
    replace ho := ho.bs hn
    replace b_o := b_o.bs hn
    clear hn
    refine AwC.back ?_
    refine AwC.only (by assumption) (i := 8) (by kernel_rfl) rfl ?_
    refine Lw.unit (Xu.stB (u := ov) (sz_27 _) rfl rfl (own_sl ho).one' b_o Nat.zero_lt_one) ?_
    rintro w2 ⟨b_o2, hg, -⟩
    have ho := own_apart ho b_o (by decide) hg
    try replace b_g := b_g.by hg (fun e => blk_ne b_g b_o (by decide) (Option.some.inj e))
    have hcw := hcw.grown hg hcw.size (by rintro _ ⟨⟩; omega)
    have b_o : Blk w2 A_o 27 [ov] := b_o2
    clear b_o2 hg
    refine AwC.back ?_
    refine AwC.only (by assumption) (i := 9) (by kernel_rfl) rfl ?_
    refine Lw.unit (Xu.stB (u := .func (.func 110) #[picV t] #[]) (sz_131 _) rfl rfl rfl b_g Nat.zero_lt_one) ?_
    rintro w2 ⟨b_g2, hg, -⟩
    have ho := own_apart ho b_g (by decide) hg
    have b_o := b_o.by hg (fun e => blk_ne b_o b_g (by decide) (Option.some.inj e))
    have hcw := hcw.grown hg hcw.size (by rintro _ ⟨⟩; omega)
    have b_g : Blk w2 A_g 131 [.func (.func 110) #[picV t] #[]] := b_g2
    clear b_g2 hg
    refine AwC.back ?_
    refine AwC.done (by assumption) (by kernel_rfl) (Pg.low ?_)
    exact Pg.midS ((ov, A_o, A_g)) ⟨rfl, rfl, rfl, rfl, rfl, rfl, rfl, rfl, trivial⟩ (⟨hcw, ho, l_o, b_o, l_g, b_g⟩)
    have zc := hcw.size
    refine Lw.newA it_131 rfl ?_
    rintro A_g w eA_g b_g hn -
    have l_g : B1 ≤ A_g := by omega
    clear zc
    replace hcw := hcw.bs hn
    replace ho := ho.bs hn
    replace b_o := b_o.bs hn
    clear hn
    refine AwC.back ?_
    refine AwC.only (by assumption) (i := 4) (by kernel_rfl) rfl ?_
    refine Lw.callF rfl rfl (pof_c t _ (h_t.bs hcw) (by omega)) ?_
    rintro _ w ⟨rfl, hn⟩
    replace hcw := hcw.bs hn
    replace ho := ho.bs hn
    replace b_o := b_o.bs hn
    replace b_g := b_g.bs hn
    clear hn
    refine AwC.back ?_
    refine AwC.take (i := 5) (NoP.lift NoP.midG) rfl (by kernel_rfl) (by kernel_rfl) (by kernel_rfl) (fun w1 hc => Ex.mkFn (vs := [picV t]) (us := []) rfl rfl) rfl ?_
    refine AwC.only (by assumption) (i := 8) (by kernel_rfl) rfl ?_
    refine Lw.unit (Xu.stB (u := ov) (sz_27 _) rfl rfl (own_sl ho).one' b_o Nat.zero_lt_one) ?_
    rintro w2 ⟨b_o2, hg, -⟩
    have ho := own_apart ho b_o (by decide) hg
    try replace b_g := b_g.by hg (fun e => blk_ne b_g b_o (by decide) (Option.some.inj e))
    have hcw := hcw.grown hg hcw.size (by rintro _ ⟨⟩; omega)
    have b_o : Blk w2 A_o 27 [ov] := b_o2
    clear b_o2 hg
    refine AwC.back ?_
    refine AwC.only (by assumption) (i := 9) (by kernel_rfl) rfl ?_
    refine Lw.unit (Xu.stB (u := .func (.func 110) #[picV t] #[]) (sz_131 _) rfl rfl rfl b_g Nat.zero_lt_one) ?_
    rintro w2 ⟨b_g2, hg, -⟩
    have ho := own_apart ho b_g (by decide) hg
    have b_o := b_o.by hg (fun e => blk_ne b_o b_g (by decide) (Option.some.inj e))
    have hcw := hcw.grown hg hcw.size (by rintro _ ⟨⟩; omega)
    have b_g : Blk w2 A_g 131 [.func (.func 110) #[picV t] #[]] := b_g2
    clear b_g2 hg
    refine AwC.back ?_
    refine AwC.done (by assumption) (by kernel_rfl) (Pg.low ?_)
    exact Pg.midS ((ov, A_o, A_g)) ⟨rfl, rfl, rfl, rfl, rfl, rfl, rfl, rfl, trivial⟩ (⟨hcw, ho, l_o, b_o, l_g, b_g⟩)
    have zc := hcw.size
    refine Lw.newA it_131 rfl ?_
    rintro A_g w eA_g b_g hn -
    have l_g : B1 ≤ A_g := by omega
    clear zc
    replace hcw := hcw.bs hn
    replace ho := ho.bs hn
    clear hn
    refine AwC.back ?_
    refine AwC.two (by assumption) (i := 4) (j := 6) (by kernel_rfl) rfl rfl ?_ ?_
    refine Lw.callF rfl rfl (pof_c t _ (h_t.bs hcw) (by omega)) ?_
    rintro _ w ⟨rfl, hn⟩
    replace hcw := hcw.bs hn
    replace ho := ho.bs hn
    replace b_g := b_g.bs hn
    clear hn
    refine AwC.back ?_
    refine AwC.take (i := 5) (NoP.lift NoP.midG) rfl (by kernel_rfl) (by kernel_rfl) (by kernel_rfl) (fun w1 hc => Ex.mkFn (vs := [picV t]) (us := []) rfl rfl) rfl ?_
    refine AwC.only (by assumption) (i := 6) (by kernel_rfl) rfl ?_
    have zc := hcw.size
    refine Lw.newA it_27 rfl ?_
    rintro A_o w eA_o b_o hn -
    have l_o : B1 ≤ A_o := by omega
    clear zc
    replace hcw := hcw.bs hn
    replace ho := ho.bs hn
    replace b_g := b_g.bs hn
    clear hn
    refine AwC.back ?_
    refine AwC.only (by assumption) (i := 8) (by kernel_rfl) rfl ?_
    refine Lw.unit (Xu.stB (u := ov) (sz_27 _) rfl rfl (own_sl ho).one' b_o Nat.zero_lt_one) ?_
    rintro w2 ⟨b_o2, hg, -⟩
    have ho := own_apart ho b_o (by decide) hg
    try replace b_g := b_g.by hg (fun e => blk_ne b_g b_o (by decide) (Option.some.inj e))
    have hcw := hcw.grown hg hcw.size (by rintro _ ⟨⟩; omega)
    have b_o : Blk w2 A_o 27 [ov] := b_o2
    clear b_o2 hg
    refine AwC.back ?_
    refine AwC.only (by assumption) (i := 9) (by kernel_rfl) rfl ?_
    refine Lw.unit (Xu.stB (u := .func (.func 110) #[picV t] #[]) (sz_131 _) rfl rfl rfl b_g Nat.zero_lt_one) ?_
    rintro w2 ⟨b_g2, hg, -⟩
    have ho := own_apart ho b_g (by decide) hg
    have b_o := b_o.by hg (fun e => blk_ne b_o b_g (by decide) (Option.some.inj e))
    have hcw := hcw.grown hg hcw.size (by rintro _ ⟨⟩; omega)
    have b_g : Blk w2 A_g 131 [.func (.func 110) #[picV t] #[]] := b_g2
    clear b_g2 hg
    refine AwC.back ?_
    refine AwC.done (by assumption) (by kernel_rfl) (Pg.low ?_)
    exact Pg.midS ((ov, A_o, A_g)) ⟨rfl, rfl, rfl, rfl, rfl, rfl, rfl, rfl, trivial⟩ (⟨hcw, ho, l_o, b_o, l_g, b_g⟩)
    have zc := hcw.size
    refine Lw.newA it_27 rfl ?_
    rintro A_o w eA_o b_o hn -
    have l_o : B1 ≤ A_o := by omega
    clear zc
    replace hcw := hcw.bs hn
    replace ho := ho.bs hn
    replace b_g := b_g.bs hn
    clear hn
    refine AwC.back ?_
    refine AwC.only (by assumption) (i := 4) (by kernel_rfl) rfl ?_
    refine Lw.callF rfl rfl (pof_c t _ (h_t.bs hcw) (by omega)) ?_
    rintro _ w ⟨rfl, hn⟩
    replace hcw := hcw.bs hn
    replace ho := ho.bs hn
    replace b_g := b_g.bs hn
    replace b_o := b_o.bs hn
    clear hn
    refine AwC.back ?_
    refine AwC.take (i := 5) (NoP.lift NoP.midG) rfl (by kernel_rfl) (by kernel_rfl) (by kernel_rfl) (fun w1 hc => Ex.mkFn (vs := [picV t]) (us := []) rfl rfl) rfl ?_
    refine AwC.only (by assumption) (i := 8) (by kernel_rfl) rfl ?_
    refine Lw.unit (Xu.stB (u := ov) (sz_27 _) rfl rfl (own_sl ho).one' b_o Nat.zero_lt_one) ?_
    rintro w2 ⟨b_o2, hg, -⟩
    have ho := own_apart ho b_o (by decide) hg
    try replace b_g := b_g.by hg (fun e => blk_ne b_g b_o (by decide) (Option.some.inj e))
    have hcw := hcw.grown hg hcw.size (by rintro _ ⟨⟩; omega)
    have b_o : Blk w2 A_o 27 [ov] := b_o2
    clear b_o2 hg
    refine AwC.back ?_
    refine AwC.only (by assumption) (i := 9) (by kernel_rfl) rfl ?_
    refine Lw.unit (Xu.stB (u := .func (.func 110) #[picV t] #[]) (sz_131 _) rfl rfl rfl b_g Nat.zero_lt_one) ?_
    rintro w2 ⟨b_g2, hg, -⟩
    have ho := own_apart ho b_g (by decide) hg
    have b_o := b_o.by hg (fun e => blk_ne b_o b_g (by decide) (Option.some.inj e))
    have hcw := hcw.grown hg hcw.size (by rintro _ ⟨⟩; omega)
    have b_g : Blk w2 A_g 131 [.func (.func 110) #[picV t] #[]] := b_g2
    clear b_g2 hg
    refine AwC.back ?_
    refine AwC.done (by assumption) (by kernel_rfl) (Pg.low ?_)
    exact Pg.midS ((ov, A_o, A_g)) ⟨rfl, rfl, rfl, rfl, rfl, rfl, rfl, rfl, trivial⟩ (⟨hcw, ho, l_o, b_o, l_g, b_g⟩)
    refine Lw.callF rfl rfl (pof_c t _ (h_t.bs hcw) (by omega)) ?_
    rintro _ w ⟨rfl, hn⟩
    replace hcw := hcw.bs hn
    clear hn
    refine AwC.back ?_
    refine AwC.take (i := 5) (NoP.lift NoP.midG) rfl (by kernel_rfl) (by kernel_rfl) (by kernel_rfl) (fun w1 hc => Ex.mkFn (vs := [picV t]) (us := []) rfl rfl) rfl ?_
    refine AwC.three (by assumption) (i0 := 2) (i1 := 6) (i2 := 7) (by kernel_rfl) rfl rfl rfl ?_ ?_ ?_
    refine Lw.valW (Xw.make (l := 0) (c := M) st_27 it_21 rfl rfl rfl (Nat.zero_le _) (by omega) (by omega)) rfl ?_
    rintro ov w ⟨ho, -, hn, -⟩
    have ho := own_mono (B' := B1) ho (Nat.le_trans (Nat.le_of_eq hB1) hcw.size)
    replace hcw := hcw.bs hn
    clear hn
    refine AwC.back ?_
    refine AwC.two (by assumption) (i := 6) (j := 7) (by kernel_rfl) rfl rfl ?_ ?_
    have zc := hcw.size
    refine Lw.newA it_27 rfl ?_
    rintro A_o w eA_o b_o hn -
    have l_o : B1 ≤ A_o := by omega
    clear zc
    replace hcw := hcw.bs hn
    replace ho := ho.bs hn
    clear hn
    refine AwC.back ?_
    refine AwC.only (by assumption) (i := 7) (by kernel_rfl) rfl ?_
    have zc := hcw.size
    refine Lw.newA it_131 rfl ?_
    rintro A_g w eA_g b_g hn -
    have l_g : B1 ≤ A_g := by omega
    clear zc
    replace hcw := hcw.bs hn
    replace ho := ho.bs hn
    replace b_o := b_o.bs hn
    clear hn
    refine AwC.back ?_
    refine AwC.only (by assumption) (i := 8) (by kernel_rfl) rfl ?_
    refine Lw.unit (Xu.stB (u := ov) (sz_27 _) rfl rfl (own_sl ho).one' b_o Nat.zero_lt_one) ?_
    rintro w2 ⟨b_o2, hg, -⟩
    have ho := own_apart ho b_o (by decide) hg
    try replace b_g := b_g.by hg (fun e => blk_ne b_g b_o (by decide) (Option.some.inj e))
    have hcw := hcw.grown hg hcw.size (by rintro _ ⟨⟩; omega)
    have b_o : Blk w2 A_o 27 [ov] := b_o2
    clear b_o2 hg
    refine AwC.back ?_
    refine AwC.only (by assumption) (i := 9) (by kernel_rfl) rfl ?_
    refine Lw.unit (Xu.stB (u := .func (.func 110) #[picV t] #[]) (sz_131 _) rfl rfl rfl b_g Nat.zero_lt_one) ?_
    rintro w2 ⟨b_g2, hg, -⟩
    have ho := own_apart ho b_g (by decide) hg
    have b_o := b_o.by hg (fun e => blk_ne b_o b_g (by decide) (Option.some.inj e))
    have hcw := hcw.grown hg hcw.size (by rintro _ ⟨⟩; omega)
    have b_g : Blk w2 A_g 131 [.func (.func 110) #[picV t] #[]] := b_g2
    clear b_g2 hg
    refine AwC.back ?_
    refine AwC.done (by assumption) (by kernel_rfl) (Pg.low ?_)
    exact Pg.midS ((ov, A_o, A_g)) ⟨rfl, rfl, rfl, rfl, rfl, rfl, rfl, rfl, trivial⟩ (⟨hcw, ho, l_o, b_o, l_g, b_g⟩)
    have zc := hcw.size
    refine Lw.newA it_131 rfl ?_
    rintro A_g w eA_g b_g hn -
    have l_g : B1 ≤ A_g := by omega
    clear zc
    replace hcw := hcw.bs hn
    replace ho := ho.bs hn
    clear hn
    refine AwC.back ?_
    refine AwC.only (by assumption) (i := 6) (by kernel_rfl) rfl ?_
    have zc := hcw.size
    refine Lw.newA it_27 rfl ?_
    rintro A_o w eA_o b_o hn -
    have l_o : B1 ≤ A_o := by omega
    clear zc
    replace hcw := hcw.bs hn
    replace ho := ho.bs hn
    replace b_g := b_g.bs hn
    clear hn
    refine AwC.back ?_
    refine AwC.only (by assumption) (i := 8) (by kernel_rfl) rfl ?_
    refine Lw.unit (Xu.stB (u := ov) (sz_27 _) rfl rfl (own_sl ho).one' b_o Nat.zero_lt_one) ?_
    rintro w2 ⟨b_o2, hg, -⟩
    have ho := own_apart ho b_o (by decide) hg
    try replace b_g := b_g.by hg (fun e => blk_ne b_g b_o (by decide) (Option.some.inj e))
    have hcw := hcw.grown hg hcw.size (by rintro _ ⟨⟩; omega)
    have b_o : Blk w2 A_o 27 [ov] := b_o2
    clear b_o2 hg
    refine AwC.back ?_
    refine AwC.only (by assumption) (i := 9) (by kernel_rfl) rfl ?_
    refine Lw.unit (Xu.stB (u := .func (.func 110) #[picV t] #[]) (sz_131 _) rfl rfl rfl b_g Nat.zero_lt_one) ?_
    rintro w2 ⟨b_g2, hg, -⟩
    have ho := own_apart ho b_g (by decide) hg
    have b_o := b_o.by hg (fun e => blk_ne b_o b_g (by decide) (Option.some.inj e))
    have hcw := hcw.grown hg hcw.size (by rintro _ ⟨⟩; omega)
    have b_g : Blk w2 A_g 131 [.func (.func 110) #[picV t] #[]] := b_g2
    clear b_g2 hg
    refine AwC.back ?_
    refine AwC.done (by assumption) (by kernel_rfl) (Pg.low ?_)
    exact Pg.midS ((ov, A_o, A_g)) ⟨rfl, rfl, rfl, rfl, rfl, rfl, rfl, rfl, trivial⟩ (⟨hcw, ho, l_o, b_o, l_g, b_g⟩)
    have zc := hcw.size
    refine Lw.newA it_27 rfl ?_
    rintro A_o w eA_o b_o hn -
    have l_o : B1 ≤ A_o := by omega
    clear zc
    replace hcw := hcw.bs hn
    clear hn
    refine AwC.back ?_
    refine AwC.two (by assumption) (i := 2) (j := 7) (by kernel_rfl) rfl rfl ?_ ?_
    refine Lw.valW (Xw.make (l := 0) (c := M) st_27 it_21 rfl rfl rfl (Nat.zero_le _) (by omega) (by omega)) rfl ?_
    rintro ov w ⟨ho, -, hn, -⟩
    have ho := own_mono (B' := B1) ho (Nat.le_trans (Nat.le_of_eq hB1) hcw.size)
    replace hcw := hcw.bs hn
    replace b_o := b_o.bs hn
    clear hn
    refine AwC.back ?_
    refine AwC.only (by assumption) (i := 7) (by kernel_rfl) rfl ?_
    have zc := hcw.size
    refine Lw.newA it_131 rfl ?_
    rintro A_g w eA_g b_g hn -
    have l_g : B1 ≤ A_g := by omega
    clear zc
    replace hcw := hcw.bs hn
    replace b_o := b_o.bs hn
    replace ho := ho.bs hn
    clear hn
    refine AwC.back ?_
    refine AwC.only (by assumption) (i := 8) (by kernel_rfl) rfl ?_
    refine Lw.unit (Xu.stB (u := ov) (sz_27 _) rfl rfl (own_sl ho).one' b_o Nat.zero_lt_one) ?_
    rintro w2 ⟨b_o2, hg, -⟩
    have ho := own_apart ho b_o (by decide) hg
    try replace b_g := b_g.by hg (fun e => blk_ne b_g b_o (by decide) (Option.some.inj e))
    have hcw := hcw.grown hg hcw.size (by rintro _ ⟨⟩; omega)
    have b_o : Blk w2 A_o 27 [ov] := b_o2
    clear b_o2 hg
    refine AwC.back ?_
    refine AwC.only (by assumption) (i := 9) (by kernel_rfl) rfl ?_
    refine Lw.unit (Xu.stB (u := .func (.func 110) #[picV t] #[]) (sz_131 _) rfl rfl rfl b_g Nat.zero_lt_one) ?_
    rintro w2 ⟨b_g2, hg, -⟩
    have ho := own_apart ho b_g (by decide) hg
    have b_o := b_o.by hg (fun e => blk_ne b_o b_g (by decide) (Option.some.inj e))
    have hcw := hcw.grown hg hcw.size (by rintro _ ⟨⟩; omega)
    have b_g : Blk w2 A_g 131 [.func (.func 110) #[picV t] #[]] := b_g2
    clear b_g2 hg
    refine AwC.back ?_
    refine AwC.done (by assumption) (by kernel_rfl) (Pg.low ?_)
    exact Pg.midS ((ov, A_o, A_g)) ⟨rfl, rfl, rfl, rfl, rfl, rfl, rfl, rfl, trivial⟩ (⟨hcw, ho, l_o, b_o, l_g, b_g⟩)
    have zc := hcw.size
    refine Lw.newA it_131 rfl ?_
    rintro A_g w eA_g b_g hn -
    have l_g : B1 ≤ A_g := by omega
    clear zc
    replace hcw := hcw.bs hn
    replace b_o := b_o.bs hn
    clear hn
    refine AwC.back ?_
    refine AwC.only (by assumption) (i := 2) (by kernel_rfl) rfl ?_
    refine Lw.valW (Xw.make (l := 0) (c := M) st_27 it_21 rfl rfl rfl (Nat.zero_le _) (by omega) (by omega)) rfl ?_
    rintro ov w ⟨ho, -, hn, -⟩
    have ho := own_mono (B' := B1) ho (Nat.le_trans (Nat.le_of_eq hB1) hcw.size)
    replace hcw := hcw.bs hn
    replace b_o := b_o.bs hn
    replace b_g := b_g.bs hn
    clear hn
    refine AwC.back ?_
    refine AwC.only (by assumption) (i := 8) (by kernel_rfl) rfl ?_
    refine Lw.unit (Xu.stB (u := ov) (sz_27 _) rfl rfl (own_sl ho).one' b_o Nat.zero_lt_one) ?_
    rintro w2 ⟨b_o2, hg, -⟩
    have ho := own_apart ho b_o (by decide) hg
    try replace b_g := b_g.by hg (fun e => blk_ne b_g b_o (by decide) (Option.some.inj e))
    have hcw := hcw.grown hg hcw.size (by rintro _ ⟨⟩; omega)
    have b_o : Blk w2 A_o 27 [ov] := b_o2
    clear b_o2 hg
    refine AwC.back ?_
    refine AwC.only (by assumption) (i := 9) (by kernel_rfl) rfl ?_
    refine Lw.unit (Xu.stB (u := .func (.func 110) #[picV t] #[]) (sz_131 _) rfl rfl rfl b_g Nat.zero_lt_one) ?_
    rintro w2 ⟨b_g2, hg, -⟩
    have ho := own_apart ho b_g (by decide) hg
    have b_o := b_o.by hg (fun e => blk_ne b_o b_g (by decide) (Option.some.inj e))
    have hcw := hcw.grown hg hcw.size (by rintro _ ⟨⟩; omega)
    have b_g : Blk w2 A_g 131 [.func (.func 110) #[picV t] #[]] := b_g2
    clear b_g2 hg
    refine AwC.back ?_
    refine AwC.done (by assumption) (by kernel_rfl) (Pg.low ?_)
    exact Pg.midS ((ov, A_o, A_g)) ⟨rfl, rfl, rfl, rfl, rfl, rfl, rfl, rfl, trivial⟩ (⟨hcw, ho, l_o, b_o, l_g, b_g⟩)
    have zc := hcw.size
    refine Lw.newA it_131 rfl ?_
    rintro A_g w eA_g b_g hn -
    have l_g : B1 ≤ A_g := by omega
    clear zc
    replace hcw := hcw.bs hn
    clear hn
    refine AwC.back ?_
    refine AwC.two (by assumption) (i := 2) (j := 6) (by kernel_rfl) rfl rfl ?_ ?_
    refine Lw.valW (Xw.make (l := 0) (c := M) st_27 it_21 rfl rfl rfl (Nat.zero_le _) (by omega) (by omega)) rfl ?_
    rintro ov w ⟨ho, -, hn, -⟩
    have ho := own_mono (B' := B1) ho (Nat.le_trans (Nat.le_of_eq hB1) hcw.size)
    replace hcw := hcw.bs hn
    replace b_g := b_g.bs hn
    clear hn
    refine AwC.back ?_
    refine AwC.only (by assumption) (i := 6) (by kernel_rfl) rfl ?_
    have zc := hcw.size
    refine Lw.newA it_27 rfl ?_
    rintro A_o w eA_o b_o hn -
    have l_o : B1 ≤ A_o := by omega
    clear zc
    replace hcw := hcw.bs hn
    replace b_g := b_g.bs hn
    replace ho := ho.bs hn
    clear hn
    refine AwC.back ?_
    refine AwC.only (by assumption) (i := 8) (by kernel_rfl) rfl ?_
    refine Lw.unit (Xu.stB (u := ov) (sz_27 _) rfl rfl (own_sl ho).one' b_o Nat.zero_lt_one) ?_
    rintro w2 ⟨b_o2, hg, -⟩
    have ho := own_apart ho b_o (by decide) hg
    try replace b_g := b_g.by hg (fun e => blk_ne b_g b_o (by decide) (Option.some.inj e))
    have hcw := hcw.grown hg hcw.size (by rintro _ ⟨⟩; omega)
    have b_o : Blk w2 A_o 27 [ov] := b_o2
    clear b_o2 hg
    refine AwC.back ?_
    refine AwC.only (by assumption) (i := 9) (by kernel_rfl) rfl ?_
    refine Lw.unit (Xu.stB (u := .func (.func 110) #[picV t] #[]) (sz_131 _) rfl rfl rfl b_g Nat.zero_lt_one) ?_
    rintro w2 ⟨b_g2, hg, -⟩
    have ho := own_apart ho b_g (by decide) hg
    have b_o := b_o.by hg (fun e => blk_ne b_o b_g (by decide) (Option.some.inj e))
    have hcw := hcw.grown hg hcw.size (by rintro _ ⟨⟩; omega)
    have b_g : Blk w2 A_g 131 [.func (.func 110) #[picV t] #[]] := b_g2
    clear b_g2 hg
    refine AwC.back ?_
    refine AwC.done (by assumption) (by kernel_rfl) (Pg.low ?_)
    exact Pg.midS ((ov, A_o, A_g)) ⟨rfl, rfl, rfl, rfl, rfl, rfl, rfl, rfl, trivial⟩ (⟨hcw, ho, l_o, b_o, l_g, b_g⟩)
    have zc := hcw.size
    refine Lw.newA it_27 rfl ?_
    rintro A_o w eA_o b_o hn -
    have l_o : B1 ≤ A_o := by omega
    clear zc
    replace hcw := hcw.bs hn
    replace b_g := b_g.bs hn
    clear hn
    refine AwC.back ?_
    refine AwC.only (by assumption) (i := 2) (by kernel_rfl) rfl ?_
    refine Lw.valW (Xw.make (l := 0) (c := M) st_27 it_21 rfl rfl rfl (Nat.zero_le _) (by omega) (by omega)) rfl ?_
    rintro ov w ⟨ho, -, hn, -⟩
    have ho := own_mono (B' := B1) ho (Nat.le_trans (Nat.le_of_eq hB1) hcw.size)
    replace hcw := hcw.bs hn
    replace b_g := b_g.bs hn
    replace b_o := b_o.bs hn
    clear hn
    refine AwC.back ?_
    refine AwC.only (by assumption) (i := 8) (by kernel_rfl) rfl ?_
    refine Lw.unit (Xu.stB (u := ov) (sz_27 _) rfl rfl (own_sl ho).one' b_o Nat.zero_lt_one) ?_
    rintro w2 ⟨b_o2, hg, -⟩
    have ho := own_apart ho b_o (by decide) hg
    try replace b_g := b_g.by hg (fun e => blk_ne b_g b_o (by decide) (Option.some.inj e))
    have hcw := hcw.grown hg hcw.size (by rintro _ ⟨⟩; omega)
    have b_o : Blk w2 A_o 27 [ov] := b_o2
    clear b_o2 hg
    refine AwC.back ?_
    refine AwC.only (by assumption) (i := 9) (by kernel_rfl) rfl ?_
    refine Lw.unit (Xu.stB (u := .func (.func 110) #[picV t] #[]) (sz_131 _) rfl rfl rfl b_g Nat.zero_lt_one) ?_
    rintro w2 ⟨b_g2, hg, -⟩
    have ho := own_apart ho b_g (by decide) hg
    have b_o := b_o.by hg (fun e => blk_ne b_o b_g (by decide) (Option.some.inj e))
    have hcw := hcw.grown hg hcw.size (by rintro _ ⟨⟩; omega)
    have b_g : Blk w2 A_g 131 [.func (.func 110) #[picV t] #[]] := b_g2
    clear b_g2 hg
    refine AwC.back ?_
    refine AwC.done (by assumption) (by kernel_rfl) (Pg.low ?_)
    exact Pg.midS ((ov, A_o, A_g)) ⟨rfl, rfl, rfl, rfl, rfl, rfl, rfl, rfl, trivial⟩ (⟨hcw, ho, l_o, b_o, l_g, b_g⟩)
    have zc := hcw.size
    refine Lw.newA it_27 rfl ?_
    rintro A_o w eA_o b_o hn -
    have l_o : B1 ≤ A_o := by omega
    clear zc
    replace hcw := hcw.bs hn
    clear hn
    refine AwC.back ?_
    refine AwC.three (by assumption) (i0 := 2) (i1 := 4) (i2 := 7) (by kernel_rfl) rfl rfl rfl ?_ ?_ ?_
    refine Lw.valW (Xw.make (l := 0) (c := M) st_27 it_21 rfl rfl rfl (Nat.zero_le _) (by omega) (by omega)) rfl ?_
    rintro ov w ⟨ho, -, hn, -⟩
    have ho := own_mono (B' := B1) ho (Nat.le_trans (Nat.le_of_eq hB1) hcw.size)
    replace hcw := hcw.bs hn
    replace b_o := b_o.bs hn
    clear hn
    refine AwC.back ?_
    refine AwC.two (by assumption) (i := 4) (j := 7) (by kernel_rfl) rfl rfl ?_ ?_
    refine Lw.callF rfl rfl (pof_c t _ (h_t.bs hcw) (by omega)) ?_
    rintro _ w ⟨rfl, hn⟩
    replace hcw := hcw.bs hn
    replace b_o := b_o.bs hn
    replace ho := ho.bs hn
    clear hn
    refine AwC.back ?_
    refine AwC.take (i := 5) (NoP.lift NoP.midG) rfl (by kernel_rfl) (by kernel_rfl) (by kernel_rfl) (fun w1 hc => Ex.mkFn (vs := [picV t]) (us := []) rfl rfl) rfl ?_
    refine AwC.only (by assumption) (i := 7) (by kernel_rfl) rfl ?_
    have zc := hcw.size
    refine Lw.newA it_131 rfl ?_
    rintro A_g w eA_g b_g hn -
    have l_g : B1 ≤ A_g := by omega
    clear zc
    replace hcw := hcw.bs hn
    replace b_o := b_o.bs hn
    replace ho := ho.bs hn
    clear hn
    refine AwC.back ?_
    refine AwC.only (by assumption) (i := 8) (by kernel_rfl) rfl ?_
    refine Lw.unit (Xu.stB (u := ov) (sz_27 _) rfl rfl (own_sl ho).one' b_o Nat.zero_lt_one) ?_
    rintro w2 ⟨b_o2, hg, -⟩
    have ho := own_apart ho b_o (by decide) hg
    try replace b_g := b_g.by hg (fun e => blk_ne b_g b_o (by decide) (Option.some.inj e))
    have hcw := hcw.grown hg hcw.size (by rintro _ ⟨⟩; omega)
    have b_o : Blk w2 A_o 27 [ov] := b_o2
    clear b_o2 hg
    refine AwC.back ?_
    refine AwC.only (by assumption) (i := 9) (by kernel_rfl) rfl ?_
    refine Lw.unit (Xu.stB (u := .func (.func 110) #[picV t] #[]) (sz_131 _) rfl rfl rfl b_g Nat.zero_lt_one) ?_
    rintro w2 ⟨b_g2, hg, -⟩
    have ho := own_apart ho b_g (by decide) hg
    have b_o := b_o.by hg (fun e => blk_ne b_o b_g (by decide) (Option.some.inj e))
    have hcw := hcw.grown hg hcw.size (by rintro _ ⟨⟩; omega)
    have b_g : Blk w2 A_g 131 [.func (.func 110) #[picV t] #[]] := b_g2
    clear b_g2 hg
    refine AwC.back ?_
    refine AwC.done (by assumption) (by kernel_rfl) (Pg.low ?_)
    exact Pg.midS ((ov, A_o, A_g)) ⟨rfl, rfl, rfl, rfl, rfl, rfl, rfl, rfl, trivial⟩ (⟨hcw, ho, l_o, b_o, l_g, b_g⟩)
    have zc := hcw.size
    refine Lw.newA it_131 rfl ?_
    rintro A_g w eA_g b_g hn -
    have l_g : B1 ≤ A_g := by omega
    clear zc
    replace hcw := hcw.bs hn
    replace b_o := b_o.bs hn
    replace ho := ho.bs hn
    clear hn
    refine AwC.back ?_
    refine AwC.only (by assumption) (i := 4) (by kernel_rfl) rfl ?_
    refine Lw.callF rfl rfl (pof_c t _ (h_t.bs hcw) (by omega)) ?_
    rintro _ w ⟨rfl, hn⟩
    replace hcw := hcw.bs hn
    replace b_o := b_o.bs hn
    replace ho := ho.bs hn
    replace b_g := b_g.bs hn
    clear hn
    refine AwC.back ?_
    refine AwC.take (i := 5) (NoP.lift NoP.midG) rfl (by kernel_rfl) (by kernel_rfl) (by kernel_rfl) (fun w1 hc => Ex.mkFn (vs := [picV t]) (us := []) rfl rfl) rfl ?_
    refine AwC.only (by assumption) (i := 8) (by kernel_rfl) rfl ?_
    refine Lw.unit (Xu.stB (u := ov) (sz_27 _) rfl rfl (own_sl ho).one' b_o Nat.zero_lt_one) ?_
    rintro w2 ⟨b_o2, hg, -⟩
    have ho := own_apart ho b_o (by decide) hg
    try replace b_g := b_g.by hg (fun e => blk_ne b_g b_o (by decide) (Option.some.inj e))
    have hcw := hcw.grown hg hcw.size (by rintro _ ⟨⟩; omega)
    have b_o : Blk w2 A_o 27 [ov] := b_o2
    clear b_o2 hg
    refine AwC.back ?_
    refine AwC.only (by assumption) (i := 9) (by kernel_rfl) rfl ?_
    refine Lw.unit (Xu.stB (u := .func (.func 110) #[picV t] #[]) (sz_131 _) rfl rfl rfl b_g Nat.zero_lt_one) ?_
    rintro w2 ⟨b_g2, hg, -⟩
    have ho := own_apart ho b_g (by decide) hg
    have b_o := b_o.by hg (fun e => blk_ne b_o b_g (by decide) (Option.some.inj e))
    have hcw := hcw.grown hg hcw.size (by rintro _ ⟨⟩; omega)
    have b_g : Blk w2 A_g 131 [.func (.func 110) #[picV t] #[]] := b_g2
    clear b_g2 hg
    refine AwC.back ?_
    refine AwC.done (by assumption) (by kernel_rfl) (Pg.low ?_)
    exact Pg.midS ((ov, A_o, A_g)) ⟨rfl, rfl, rfl, rfl, rfl, rfl, rfl, rfl, trivial⟩ (⟨hcw, ho, l_o, b_o, l_g, b_g⟩)
    refine Lw.callF rfl rfl (pof_c t _ (h_t.bs hcw) (by omega)) ?_
    rintro _ w ⟨rfl, hn⟩
    replace hcw := hcw.bs hn
    replace b_o := b_o.bs hn
    clear hn
    refine AwC.back ?_
    refine AwC.take (i := 5) (NoP.lift NoP.midG) rfl (by kernel_rfl) (by kernel_rfl) (by kernel_rfl) (fun w1 hc => Ex.mkFn (vs := [picV t]) (us := []) rfl rfl) rfl ?_
    refine AwC.two (by assumption) (i := 2) (j := 7) (by kernel_rfl) rfl rfl ?_ ?_
    refine Lw.valW (Xw.make (l := 0) (c := M) st_27 it_21 rfl rfl rfl (Nat.zero_le _) (by omega) (by omega)) rfl ?_
    rintro ov w ⟨ho, -, hn, -⟩
    have ho := own_mono (B' := B1) ho (Nat.le_trans (Nat.le_of_eq hB1) hcw.size)
    replace hcw := hcw.bs hn
    replace b_o := b_o.bs hn
    clear hn
    refine AwC.back ?_
    refine AwC.only (by assumption) (i := 7) (by kernel_rfl) rfl ?_
    have zc := hcw.size
    refine Lw.newA it_131 rfl ?_
    rintro A_g w eA_g b_g hn -
    have l_g : B1 ≤ A_g := by omega
    clear zc
    replace hcw := hcw.bs hn
    replace b_o := b_o.bs hn
    replace ho := ho.bs hn
    clear hn
    refine AwC.back ?_
    refine AwC.only (by assumption) (i := 8) (by kernel_rfl) rfl ?_
    refine Lw.unit (Xu.stB (u := ov) (sz_27 _) rfl rfl (own_sl ho).one' b_o Nat.zero_lt_one) ?_
    rintro w2 ⟨b_o2, hg, -⟩
    have ho := own_apart ho b_o (by decide) hg
    try replace b_g := b_g.by hg (fun e => blk_ne b_g b_o (by decide) (Option.some.inj e))
    have hcw := hcw.grown hg hcw.size (by rintro _ ⟨⟩; omega)
    have b_o : Blk w2 A_o 27 [ov] := b_o2
    clear b_o2 hg
    refine AwC.back ?_
    refine AwC.only (by assumption) (i := 9) (by kernel_rfl) rfl ?_
    refine Lw.unit (Xu.stB (u := .func (.func 110) #[picV t] #[]) (sz_131 _) rfl rfl rfl b_g Nat.zero_lt_one) ?_
    rintro w2 ⟨b_g2, hg, -⟩
    have ho := own_apart ho b_g (by decide) hg
    have b_o := b_o.by hg (fun e => blk_ne b_o b_g (by decide) (Option.some.inj e))
    have hcw := hcw.grown hg hcw.size (by rintro _ ⟨⟩; omega)
    have b_g : Blk w2 A_g 131 [.func (.func 110) #[picV t] #[]] := b_g2
    clear b_g2 hg
    refine AwC.back ?_
    refine AwC.done (by assumption) (by kernel_rfl) (Pg.low ?_)
    exact Pg.midS ((ov, A_o, A_g)) ⟨rfl, rfl, rfl, rfl, rfl, rfl, rfl, rfl, trivial⟩ (⟨hcw, ho, l_o, b_o, l_g, b_g⟩)
    have zc := hcw.size
    refine Lw.newA it_131 rfl ?_
    rintro A_g w eA_g b_g hn -
    have l_g : B1 ≤ A_g := by omega
    clear zc
    replace hcw := hcw.bs hn
    replace b_o := b_o.bs hn
    clear hn
    refine AwC.back ?_
    refine AwC.only (by assumption) (i := 2) (by kernel_rfl) rfl ?_
    refine Lw.valW (Xw.make (l := 0) (c := M) st_27 it_21 rfl rfl rfl (Nat.zero_le _) (by omega) (by omega)) rfl ?_
    rintro ov w ⟨ho, -, hn, -⟩
    have ho := own_mono (B' := B1) ho (Nat.le_trans (Nat.le_of_eq hB1) hcw.size)
    replace hcw := hcw.bs hn
    replace b_o := b_o.bs hn
    replace b_g := b_g.bs hn
    clear hn
    refine AwC.back ?_
    refine AwC.only (by assumption) (i := 8) (by kernel_rfl) rfl ?_
    refine Lw.unit (Xu.stB (u := ov) (sz_27 _) rfl rfl (own_sl ho).one' b_o Nat.zero_lt_one) ?_
    rintro w2 ⟨b_o2, hg, -⟩
    have ho := own_apart ho b_o (by decide) hg
    try replace b_g := b_g.by hg (fun e => blk_ne b_g b_o (by decide) (Option.some.inj e))
    have hcw := hcw.grown hg hcw.size (by rintro _ ⟨⟩; omega)
    have b_o : Blk w2 A_o 27 [ov] := b_o2
    clear b_o2 hg
    refine AwC.back ?_
    refine AwC.only (by assumption) (i := 9) (by kernel_rfl) rfl ?_
    refine Lw.unit (Xu.stB (u := .func (.func 110) #[picV t] #[]) (sz_131 _) rfl rfl rfl b_g Nat.zero_lt_one) ?_
    rintro w2 ⟨b_g2, hg, -⟩
    have ho := own_apart ho b_g (by decide) hg
    have b_o := b_o.by hg (fun e => blk_ne b_o b_g (by decide) (Option.some.inj e))
    have hcw := hcw.grown hg hcw.size (by rintro _ ⟨⟩; omega)
    have b_g : Blk w2 A_g 131 [.func (.func 110) #[picV t] #[]] := b_g2
    clear b_g2 hg
    refine AwC.back ?_
    refine AwC.done (by assumption) (by kernel_rfl) (Pg.low ?_)
    exact Pg.midS ((ov, A_o, A_g)) ⟨rfl, rfl, rfl, rfl, rfl, rfl, rfl, rfl, trivial⟩ (⟨hcw, ho, l_o, b_o, l_g, b_g⟩)
    have zc := hcw.size
    refine Lw.newA it_131 rfl ?_
    rintro A_g w eA_g b_g hn -
    have l_g : B1 ≤ A_g := by omega
    clear zc
    replace hcw := hcw.bs hn
    replace b_o := b_o.bs hn
    clear hn
    refine AwC.back ?_
    refine AwC.two (by assumption) (i := 2) (j := 4) (by kernel_rfl) rfl rfl ?_ ?_
    refine Lw.valW (Xw.make (l := 0) (c := M) st_27 it_21 rfl rfl rfl (Nat.zero_le _) (by omega) (by omega)) rfl ?_
    rintro ov w ⟨ho, -, hn, -⟩
    have ho := own_mono (B' := B1) ho (Nat.le_trans (Nat.le_of_eq hB1) hcw.size)
    replace hcw := hcw.bs hn
    replace b_o := b_o.bs hn
    replace b_g := b_g.bs hn
    clear hn
    refine AwC.back ?_
    refine AwC.only (by assumption) (i := 4) (by kernel_rfl) rfl ?_
    refine Lw.callF rfl rfl (pof_c t _ (h_t.bs hcw) (by omega)) ?_
    rintro _ w ⟨rfl, hn⟩
    replace hcw := hcw.bs hn
    replace b_o := b_o.bs hn
    replace b_g := b_g.bs hn
    replace ho := ho.bs hn
    clear hn
    refine AwC.back ?_
    refine AwC.take (i := 5) (NoP.lift NoP.midG) rfl (by kernel_rfl) (by kernel_rfl) (by kernel_rfl) (fun w1 hc => Ex.mkFn (vs := [picV t]) (us := []) rfl rfl) rfl ?_
    refine AwC.only (by assumption) (i := 8) (by kernel_rfl) rfl ?_
    refine Lw.unit (Xu.stB (u := ov) (sz_27 _) rfl rfl (own_sl ho).one' b_o Nat.zero_lt_one) ?_
    rintro w2 ⟨b_o2, hg, -⟩
    have ho := own_apart ho b_o (by decide) hg
    try replace b_g := b_g.by hg (fun e => blk_ne b_g b_o (by decide) (Option.some.inj e))
    have hcw := hcw.grown hg hcw.size (by rintro _ ⟨⟩; omega)
    have b_o : Blk w2 A_o 27 [ov] := b_o2
    clear b_o2 hg
    refine AwC.back ?_
    refine AwC.only (by assumption) (i := 9) (by kernel_rfl) rfl ?_
    refine Lw.unit (Xu.stB (u := .func (.func 110) #[picV t] #[]) (sz_131 _) rfl rfl rfl b_g Nat.zero_lt_one) ?_
    rintro w2 ⟨b_g2, hg, -⟩
    have ho := own_apart ho b_g (by decide) hg
    have b_o := b_o.by hg (fun e => blk_ne b_o b_g (by decide) (Option.some.inj e))
    have hcw := hcw.grown hg hcw.size (by rintro _ ⟨⟩; omega)
    have b_g : Blk w2 A_g 131 [.func (.func 110) #[picV t] #[]] := b_g2
    clear b_g2 hg
    refine AwC.back ?_
    refine AwC.done (by assumption) (by kernel_rfl) (Pg.low ?_)
    exact Pg.midS ((ov, A_o, A_g)) ⟨rfl, rfl, rfl, rfl, rfl, rfl, rfl, rfl, trivial⟩ (⟨hcw, ho, l_o, b_o, l_g, b_g⟩)
    refine Lw.callF rfl rfl (pof_c t _ (h_t.bs hcw) (by omega)) ?_
    rintro _ w ⟨rfl, hn⟩
    replace hcw := hcw.bs hn
    replace b_o := b_o.bs hn
    replace b_g := b_g.bs hn
    clear hn
    refine AwC.back ?_
    refine AwC.take (i := 5) (NoP.lift NoP.midG) rfl (by kernel_rfl) (by kernel_rfl) (by kernel_rfl) (fun w1 hc => Ex.mkFn (vs := [picV t]) (us := []) rfl rfl) rfl ?_
    refine AwC.only (by assumption) (i := 2) (by kernel_rfl) rfl ?_
    refine Lw.valW (Xw.make (l := 0) (c := M) st_27 it_21 rfl rfl rfl (Nat.zero_le _) (by omega) (by omega)) rfl ?_
    rintro ov w ⟨ho, -, hn, -⟩
    have ho := own_mono (B' := B1) ho (Nat.le_trans (Nat.le_of_eq hB1) hcw.size)
    replace hcw := hcw.bs hn
    replace b_o := b_o.bs hn
    replace b_g := b_g.bs hn
    clear hn
    refine AwC.back ?_
    refine AwC.only (by assumption) (i := 8) (by kernel_rfl) rfl ?_
    refine Lw.unit (Xu.stB (u := ov) (sz_27 _) rfl rfl (own_sl ho).one' b_o Nat.zero_lt_one) ?_
    rintro w2 ⟨b_o2, hg, -⟩
    have ho := own_apart ho b_o (by decide) hg
    try replace b_g := b_g.by hg (fun e => blk_ne b_g b_o (by decide) (Option.some.inj e))
    have hcw := hcw.grown hg hcw.size (by rintro _ ⟨⟩; omega)
    have b_o : Blk w2 A_o 27 [ov] := b_o2
    clear b_o2 hg
    refine AwC.back ?_
    refine AwC.only (by assumption) (i := 9) (by kernel_rfl) rfl ?_
    refine Lw.unit (Xu.stB (u := .func (.func 110) #[picV t] #[]) (sz_131 _) rfl rfl rfl b_g Nat.zero_lt_one) ?_
    rintro w2 ⟨b_g2, hg, -⟩
    have ho := own_apart ho b_g (by decide) hg
    have b_o := b_o.by hg (fun e => blk_ne b_o b_g (by decide) (Option.some.inj e))
    have hcw := hcw.grown hg hcw.size (by rintro _ ⟨⟩; omega)
    have b_g : Blk w2 A_g 131 [.func (.func 110) #[picV t] #[]] := b_g2
    clear b_g2 hg
    refine AwC.back ?_
    refine AwC.done (by assumption) (by kernel_rfl) (Pg.low ?_)
    exact Pg.midS ((ov, A_o, A_g)) ⟨rfl, rfl, rfl, rfl, rfl, rfl, rfl, rfl, trivial⟩ (⟨hcw, ho, l_o, b_o, l_g, b_g⟩)
    have zc := hcw.size
    refine Lw.newA it_131 rfl ?_
    rintro A_g w eA_g b_g hn -
    have l_g : B1 ≤ A_g := by omega
    clear zc
    replace hcw := hcw.bs hn
    clear hn
    refine AwC.back ?_
    refine AwC.three (by assumption) (i0 := 2) (i1 := 4) (i2 := 6) (by kernel_rfl) rfl rfl rfl ?_ ?_ ?_
    refine Lw.valW (Xw.make (l := 0) (c := M) st_27 it_21 rfl rfl rfl (Nat.zero_le _) (by omega) (by omega)) rfl ?_
    rintro ov w ⟨ho, -, hn, -⟩
    have ho := own_mono (B' := B1) ho (Nat.le_trans (Nat.le_of_eq hB1) hcw.size)
    replace hcw := hcw.bs hn
    replace b_g := b_g.bs hn
    clear hn
    refine AwC.back ?_
    refine AwC.two (by assumption) (i := 4) (j := 6) (by kernel_rfl) rfl rfl ?_ ?_
    refine Lw.callF rfl rfl (pof_c t _ (h_t.bs hcw) (by omega)) ?_
    rintro _ w ⟨rfl, hn⟩
    replace hcw := hcw.bs hn
    replace b_g := b_g.bs hn
    replace ho := ho.bs hn
    clear hn
    refine AwC.back ?_
    refine AwC.take (i := 5) (NoP.lift NoP.midG) rfl (by kernel_rfl) (by kernel_rfl) (by kernel_rfl) (fun w1 hc => Ex.mkFn (vs := [picV t]) (us := []) rfl rfl) rfl ?_
    refine AwC.only (by assumption) (i := 6) (by kernel_rfl) rfl ?_
    have zc := hcw.size
    refine Lw.newA it_27 rfl ?_
    rintro A_o w eA_o b_o hn -
    have l_o : B1 ≤ A_o := by omega
    clear zc
    replace hcw := hcw.bs hn
    replace b_g := b_g.bs hn
    replace ho := ho.bs hn
    clear hn
    refine AwC.back ?_
    refine AwC.only (by assumption) (i := 8) (by kernel_rfl) rfl ?_
    refine Lw.unit (Xu.stB (u := ov) (sz_27 _) rfl rfl (own_sl ho).one' b_o Nat.zero_lt_one) ?_
    rintro w2 ⟨b_o2, hg, -⟩
    have ho := own_apart ho b_o (by decide) hg
    try replace b_g := b_g.by hg (fun e => blk_ne b_g b_o (by decide) (Option.some.inj e))
    have hcw := hcw.grown hg hcw.size (by rintro _ ⟨⟩; omega)
    have b_o : Blk w2 A_o 27 [ov] := b_o2
    clear b_o2 hg
    refine AwC.back ?_
    refine AwC.only (by assumption) (i := 9) (by kernel_rfl) rfl ?_
    refine Lw.unit (Xu.stB (u := .func (.func 110) #[picV t] #[]) (sz_131 _) rfl rfl rfl b_g Nat.zero_lt_one) ?_
    rintro w2 ⟨b_g2, hg, -⟩
    have ho := own_apart ho b_g (by decide) hg
    have b_o := b_o.by hg (fun e => blk_ne b_o b_g (by decide) (Option.some.inj e))
    have hcw := hcw.grown hg hcw.size (by rintro _ ⟨⟩; omega)
    have b_g : Blk w2 A_g 131 [.func (.func 110) #[picV t] #[]] := b_g2
    clear b_g2 hg
    refine AwC.back ?_
    refine AwC.done (by assumption) (by kernel_rfl) (Pg.low ?_)
    exact Pg.midS ((ov, A_o, A_g)) ⟨rfl, rfl, rfl, rfl, rfl, rfl, rfl, rfl, trivial⟩ (⟨hcw, ho, l_o, b_o, l_g, b_g⟩)
    have zc := hcw.size
    refine Lw.newA it_27 rfl ?_
    rintro A_o w eA_o b_o hn -
    have l_o : B1 ≤ A_o := by omega
    clear zc
    replace hcw := hcw.bs hn
    replace b_g := b_g.bs hn
    replace ho := ho.bs hn
    clear hn
    refine AwC.back ?_
    refine AwC.only (by assumption) (i := 4) (by kernel_rfl) rfl ?_
    refine Lw.callF rfl rfl (pof_c t _ (h_t.bs hcw) (by omega)) ?_
    rintro _ w ⟨rfl, hn⟩
    replace hcw := hcw.bs hn
    replace b_g := b_g.bs hn
    replace ho := ho.bs hn
    replace b_o := b_o.bs hn
    clear hn
    refine AwC.back ?_
    refine AwC.take (i := 5) (NoP.lift NoP.midG) rfl (by kernel_rfl) (by kernel_rfl) (by kernel_rfl) (fun w1 hc => Ex.mkFn (vs := [picV t]) (us := []) rfl rfl) rfl ?_
    refine AwC.only (by assumption) (i := 8) (by kernel_rfl) rfl ?_
    refine Lw.unit (Xu.stB (u := ov) (sz_27 _) rfl rfl (own_sl ho).one' b_o Nat.zero_lt_one) ?_
    rintro w2 ⟨b_o2, hg, -⟩
    have ho := own_apart ho b_o (by decide) hg
    try replace b_g := b_g.by hg (fun e => blk_ne b_g b_o (by decide) (Option.some.inj e))
    have hcw := hcw.grown hg hcw.size (by rintro _ ⟨⟩; omega)
    have b_o : Blk w2 A_o 27 [ov] := b_o2
    clear b_o2 hg
    refine AwC.back ?_
    refine AwC.only (by assumption) (i := 9) (by kernel_rfl) rfl ?_
    refine Lw.unit (Xu.stB (u := .func (.func 110) #[picV t] #[]) (sz_131 _) rfl rfl rfl b_g Nat.zero_lt_one) ?_
    rintro w2 ⟨b_g2, hg, -⟩
    have ho := own_apart ho b_g (by decide) hg
    have b_o := b_o.by hg (fun e => blk_ne b_o b_g (by decide) (Option.some.inj e))
    have hcw := hcw.grown hg hcw.size (by rintro _ ⟨⟩; omega)
    have b_g : Blk w2 A_g 131 [.func (.func 110) #[picV t] #[]] := b_g2
    clear b_g2 hg
    refine AwC.back ?_
    refine AwC.done (by assumption) (by kernel_rfl) (Pg.low ?_)
    exact Pg.midS ((ov, A_o, A_g)) ⟨rfl, rfl, rfl, rfl, rfl, rfl, rfl, rfl, trivial⟩ (⟨hcw, ho, l_o, b_o, l_g, b_g⟩)
    refine Lw.callF rfl rfl (pof_c t _ (h_t.bs hcw) (by omega)) ?_
    rintro _ w ⟨rfl, hn⟩
    replace hcw := hcw.bs hn
    replace b_g := b_g.bs hn
    clear hn
    refine AwC.back ?_
    refine AwC.take (i := 5) (NoP.lift NoP.midG) rfl (by kernel_rfl) (by kernel_rfl) (by kernel_rfl) (fun w1 hc => Ex.mkFn (vs := [picV t]) (us := []) rfl rfl) rfl ?_
    refine AwC.two (by assumption) (i := 2) (j := 6) (by kernel_rfl) rfl rfl ?_ ?_
    refine Lw.valW (Xw.make (l := 0) (c := M) st_27 it_21 rfl rfl rfl (Nat.zero_le _) (by omega) (by omega)) rfl ?_
    rintro ov w ⟨ho, -, hn, -⟩
    have ho := own_mono (B' := B1) ho (Nat.le_trans (Nat.le_of_eq hB1) hcw.size)
    replace hcw := hcw.bs hn
    replace b_g := b_g.bs hn
    clear hn
    refine AwC.back ?_
    refine AwC.only (by assumption) (i := 6) (by kernel_rfl) rfl ?_
    have zc := hcw.size
    refine Lw.newA it_27 rfl ?_
    rintro A_o w eA_o b_o hn -
    have l_o : B1 ≤ A_o := by omega
    clear zc
    replace hcw := hcw.bs hn
    replace b_g := b_g.bs hn
    replace ho := ho.bs hn
    clear hn
    refine AwC.back ?_
    refine AwC.only (by assumption) (i := 8) (by kernel_rfl) rfl ?_
    refine Lw.unit (Xu.stB (u := ov) (sz_27 _) rfl rfl (own_sl ho).one' b_o Nat.zero_lt_one) ?_
    rintro w2 ⟨b_o2, hg, -⟩
    have ho := own_apart ho b_o (by decide) hg
    try replace b_g := b_g.by hg (fun e => blk_ne b_g b_o (by decide) (Option.some.inj e))
    have hcw := hcw.grown hg hcw.size (by rintro _ ⟨⟩; omega)
    have b_o : Blk w2 A_o 27 [ov] := b_o2
    clear b_o2 hg
    refine AwC.back ?_
    refine AwC.only (by assumption) (i := 9) (by kernel_rfl) rfl ?_
    refine Lw.unit (Xu.stB (u := .func (.func 110) #[picV t] #[]) (sz_131 _) rfl rfl rfl b_g Nat.zero_lt_one) ?_
    rintro w2 ⟨b_g2, hg, -⟩
    have ho := own_apart ho b_g (by decide) hg
    have b_o := b_o.by hg (fun e => blk_ne b_o b_g (by decide) (Option.some.inj e))
    have hcw := hcw.grown hg hcw.size (by rintro _ ⟨⟩; omega)
    have b_g : Blk w2 A_g 131 [.func (.func 110) #[picV t] #[]] := b_g2
    clear b_g2 hg
    refine AwC.back ?_
    refine AwC.done (by assumption) (by kernel_rfl) (Pg.low ?_)
    exact Pg.midS ((ov, A_o, A_g)) ⟨rfl, rfl, rfl, rfl, rfl, rfl, rfl, rfl, trivial⟩ (⟨hcw, ho, l_o, b_o, l_g, b_g⟩)
    have zc := hcw.size
    refine Lw.newA it_27 rfl ?_
    rintro A_o w eA_o b_o hn -
    have l_o : B1 ≤ A_o := by omega
    clear zc
    replace hcw := hcw.bs hn
    replace b_g := b_g.bs hn
    clear hn
    refine AwC.back ?_
    refine AwC.only (by assumption) (i := 2) (by kernel_rfl) rfl ?_
    refine Lw.valW (Xw.make (l := 0) (c := M) st_27 it_21 rfl rfl rfl (Nat.zero_le _) (by omega) (by omega)) rfl ?_
    rintro ov w ⟨ho, -, hn, -⟩
    have ho := own_mono (B' := B1) ho (Nat.le_trans (Nat.le_of_eq hB1) hcw.size)
    replace hcw := hcw.bs hn
    replace b_g := b_g.bs hn
    replace b_o := b_o.bs hn
    clear hn
    refine AwC.back ?_
    refine AwC.only (by assumption) (i := 8) (by kernel_rfl) rfl ?_
    refine Lw.unit (Xu.stB (u := ov) (sz_27 _) rfl rfl (own_sl ho).one' b_o Nat.zero_lt_one) ?_
    rintro w2 ⟨b_o2, hg, -⟩
    have ho := own_apart ho b_o (by decide) hg
    try replace b_g := b_g.by hg (fun e => blk_ne b_g b_o (by decide) (Option.some.inj e))
    have hcw := hcw.grown hg hcw.size (by rintro _ ⟨⟩; omega)
    have b_o : Blk w2 A_o 27 [ov] := b_o2
    clear b_o2 hg
    refine AwC.back ?_
    refine AwC.only (by assumption) (i := 9) (by kernel_rfl) rfl ?_
    refine Lw.unit (Xu.stB (u := .func (.func 110) #[picV t] #[]) (sz_131 _) rfl rfl rfl b_g Nat.zero_lt_one) ?_
    rintro w2 ⟨b_g2, hg, -⟩
    have ho := own_apart ho b_g (by decide) hg
    have b_o := b_o.by hg (fun e => blk_ne b_o b_g (by decide) (Option.some.inj e))
    have hcw := hcw.grown hg hcw.size (by rintro _ ⟨⟩; omega)
    have b_g : Blk w2 A_g 131 [.func (.func 110) #[picV t] #[]] := b_g2
    clear b_g2 hg
    refine AwC.back ?_
    refine AwC.done (by assumption) (by kernel_rfl) (Pg.low ?_)
    exact Pg.midS ((ov, A_o, A_g)) ⟨rfl, rfl, rfl, rfl, rfl, rfl, rfl, rfl, trivial⟩ (⟨hcw, ho, l_o, b_o, l_g, b_g⟩)
    have zc := hcw.size
    refine Lw.newA it_27 rfl ?_
    rintro A_o w eA_o b_o hn -
    have l_o : B1 ≤ A_o := by omega
    clear zc
    replace hcw := hcw.bs hn
    replace b_g := b_g.bs hn
    clear hn
    refine AwC.back ?_
    refine AwC.two (by assumption) (i := 2) (j := 4) (by kernel_rfl) rfl rfl ?_ ?_
    refine Lw.valW (Xw.make (l := 0) (c := M) st_27 it_21 rfl rfl rfl (Nat.zero_le _) (by omega) (by omega)) rfl ?_
    rintro ov w ⟨ho, -, hn, -⟩
    have ho := own_mono (B' := B1) ho (Nat.le_trans (Nat.le_of_eq hB1) hcw.size)
    replace hcw := hcw.bs hn
    replace b_g := b_g.bs hn
    replace b_o := b_o.bs hn
    clear hn
    refine AwC.back ?_
    refine AwC.only (by assumption) (i := 4) (by kernel_rfl) rfl ?_
    refine Lw.callF rfl rfl (pof_c t _ (h_t.bs hcw) (by omega)) ?_
    rintro _ w ⟨rfl, hn⟩
    replace hcw := hcw.bs hn
    replace b_g := b_g.bs hn
    replace b_o := b_o.bs hn
    replace ho := ho.bs hn
    clear hn
    refine AwC.back ?_
    refine AwC.take (i := 5) (NoP.lift NoP.midG) rfl (by kernel_rfl) (by kernel_rfl) (by kernel_rfl) (fun w1 hc => Ex.mkFn (vs := [picV t]) (us := []) rfl rfl) rfl ?_
    refine AwC.only (by assumption) (i := 8) (by kernel_rfl) rfl ?_
    refine Lw.unit (Xu.stB (u := ov) (sz_27 _) rfl rfl (own_sl ho).one' b_o Nat.zero_lt_one) ?_
    rintro w2 ⟨b_o2, hg, -⟩
    have ho := own_apart ho b_o (by decide) hg
    try replace b_g := b_g.by hg (fun e => blk_ne b_g b_o (by decide) (Option.some.inj e))
    have hcw := hcw.grown hg hcw.size (by rintro _ ⟨⟩; omega)
    have b_o : Blk w2 A_o 27 [ov] := b_o2
    clear b_o2 hg
    refine AwC.back ?_
    refine AwC.only (by assumption) (i := 9) (by kernel_rfl) rfl ?_
    refine Lw.unit (Xu.stB (u := .func (.func 110) #[picV t] #[]) (sz_131 _) rfl rfl rfl b_g Nat.zero_lt_one) ?_
    rintro w2 ⟨b_g2, hg, -⟩
    have ho := own_apart ho b_g (by decide) hg
    have b_o := b_o.by hg (fun e => blk_ne b_o b_g (by decide) (Option.some.inj e))
    have hcw := hcw.grown hg hcw.size (by rintro _ ⟨⟩; omega)
    have b_g : Blk w2 A_g 131 [.func (.func 110) #[picV t] #[]] := b_g2
    clear b_g2 hg
    refine AwC.back ?_
    refine AwC.done (by assumption) (by kernel_rfl) (Pg.low ?_)
    exact Pg.midS ((ov, A_o, A_g)) ⟨rfl, rfl, rfl, rfl, rfl, rfl, rfl, rfl, trivial⟩ (⟨hcw, ho, l_o, b_o, l_g, b_g⟩)
    refine Lw.callF rfl rfl (pof_c t _ (h_t.bs hcw) (by omega)) ?_
    rintro _ w ⟨rfl, hn⟩
    replace hcw := hcw.bs hn
    replace b_g := b_g.bs hn
    replace b_o := b_o.bs hn
    clear hn
    refine AwC.back ?_
    refine AwC.take (i := 5) (NoP.lift NoP.midG) rfl (by kernel_rfl) (by kernel_rfl) (by kernel_rfl) (fun w1 hc => Ex.mkFn (vs := [picV t]) (us := []) rfl rfl) rfl ?_
    refine AwC.only (by assumption) (i := 2) (by kernel_rfl) rfl ?_
    refine Lw.valW (Xw.make (l := 0) (c := M) st_27 it_21 rfl rfl rfl (Nat.zero_le _) (by omega) (by omega)) rfl ?_
    rintro ov w ⟨ho, -, hn, -⟩
    have ho := own_mono (B' := B1) ho (Nat.le_trans (Nat.le_of_eq hB1) hcw.size)
    replace hcw := hcw.bs hn
    replace b_g := b_g.bs hn
    replace b_o := b_o.bs hn
    clear hn
    refine AwC.back ?_
    refine AwC.only (by assumption) (i := 8) (by kernel_rfl) rfl ?_
    refine Lw.unit (Xu.stB (u := ov) (sz_27 _) rfl rfl (own_sl ho).one' b_o Nat.zero_lt_one) ?_
    rintro w2 ⟨b_o2, hg, -⟩
    have ho := own_apart ho b_o (by decide) hg
    try replace b_g := b_g.by hg (fun e => blk_ne b_g b_o (by decide) (Option.some.inj e))
    have hcw := hcw.grown hg hcw.size (by rintro _ ⟨⟩; omega)
    have b_o : Blk w2 A_o 27 [ov] := b_o2
    clear b_o2 hg
    refine AwC.back ?_
    refine AwC.only (by assumption) (i := 9) (by kernel_rfl) rfl ?_
    refine Lw.unit (Xu.stB (u := .func (.func 110) #[picV t] #[]) (sz_131 _) rfl rfl rfl b_g Nat.zero_lt_one) ?_
    rintro w2 ⟨b_g2, hg, -⟩
    have ho := own_apart ho b_g (by decide) hg
    have b_o := b_o.by hg (fun e => blk_ne b_o b_g (by decide) (Option.some.inj e))
    have hcw := hcw.grown hg hcw.size (by rintro _ ⟨⟩; omega)
    have b_g : Blk w2 A_g 131 [.func (.func 110) #[picV t] #[]] := b_g2
    clear b_g2 hg
    refine AwC.back ?_
    refine AwC.done (by assumption) (by kernel_rfl) (Pg.low ?_)
    exact Pg.midS ((ov, A_o, A_g)) ⟨rfl, rfl, rfl, rfl, rfl, rfl, rfl, rfl, trivial⟩ (⟨hcw, ho, l_o, b_o, l_g, b_g⟩)
    have zc := hcw.size
    refine Lw.newA it_27 rfl ?_
    rintro A_o w eA_o b_o hn -
    have l_o : B1 ≤ A_o := by omega
    clear zc
    replace hcw := hcw.bs hn
    clear hn
    refine AwC.back ?_
    refine AwC.two (by assumption) (i := 1) (j := 7) (by kernel_rfl) rfl rfl ?_ ?_
    refine Lw.callF rfl rfl (size_c x S _ ((own_slT hx).bs hcw)) ?_
    rintro _ w ⟨rfl, hn⟩
    replace hcw := hcw.bs hn
    replace b_o := b_o.bs hn
    clear hn
    refine Lw.know 43 (v' := .int .i64 (M : Int)) rfl (congrArg (Value.int .i64) (by omega)) ?_
    refine AwC.back ?_
    refine AwC.three (by assumption) (i0 := 2) (i1 := 4) (i2 := 7) (by kernel_rfl) rfl rfl rfl ?_ ?_ ?_
    refine Lw.valW (Xw.make (l := 0) (c := M) st_27 it_21 rfl rfl rfl (Nat.zero_le _) (by omega) (by omega)) rfl ?_
    rintro ov w ⟨ho, -, hn, -⟩
    have ho := own_mono (B' := B1) ho (Nat.le_trans (Nat.le_of_eq hB1) hcw.size)
    replace hcw := hcw.bs hn
    replace b_o := b_o.bs hn
    clear hn
    refine AwC.back ?_
    refine AwC.two (by assumption) (i := 4) (j := 7) (by kernel_rfl) rfl rfl ?_ ?_
    refine Lw.callF rfl rfl (pof_c t _ (h_t.bs hcw) (by omega)) ?_
    rintro _ w ⟨rfl, hn⟩
    replace hcw := hcw.bs hn
    replace b_o := b_o.bs hn
    replace ho := ho.bs hn
    clear hn
    refine AwC.back ?_
    refine AwC.take (i := 5) (NoP.lift NoP.midG) rfl (by kernel_rfl) (by kernel_rfl) (by kernel_rfl) (fun w1 hc => Ex.mkFn (vs := [picV t]) (us := []) rfl rfl) rfl ?_
    refine AwC.only (by assumption) (i := 7) (by kernel_rfl) rfl ?_
    have zc := hcw.size
    refine Lw.newA it_131 rfl ?_
    rintro A_g w eA_g b_g hn -
    have l_g : B1 ≤ A_g := by omega
    clear zc
    replace hcw := hcw.bs hn
    replace b_o := b_o.bs hn
    replace ho := ho.bs hn
    clear hn
    refine AwC.back ?_
    refine AwC.only (by assumption) (i := 8) (by kernel_rfl) rfl ?_
    refine Lw.unit (Xu.stB (u := ov) (sz_27 _) rfl rfl (own_sl ho).one' b_o Nat.zero_lt_one) ?_
    rintro w2 ⟨b_o2, hg, -⟩
    have ho := own_apart ho b_o (by decide) hg
    try replace b_g := b_g.by hg (fun e => blk_ne b_g b_o (by decide) (Option.some.inj e))
    have hcw := hcw.grown hg hcw.size (by rintro _ ⟨⟩; omega)
    have b_o : Blk w2 A_o 27 [ov] := b_o2
    clear b_o2 hg
    refine AwC.back ?_
    refine AwC.only (by assumption) (i := 9) (by kernel_rfl) rfl ?_
    refine Lw.unit (Xu.stB (u := .func (.func 110) #[picV t] #[]) (sz_131 _) rfl rfl rfl b_g Nat.zero_lt_one) ?_
    rintro w2 ⟨b_g2, hg, -⟩
    have ho := own_apart ho b_g (by decide) hg
    have b_o := b_o.by hg (fun e => blk_ne b_o b_g (by decide) (Option.some.inj e))
    have hcw := hcw.grown hg hcw.size (by rintro _ ⟨⟩; omega)
    have b_g : Blk w2 A_g 131 [.func (.func 110) #[picV t] #[]] := b_g2
    clear b_g2 hg
    refine AwC.back ?_
    refine AwC.done (by assumption) (by kernel_rfl) (Pg.low ?_)
    exact Pg.midS ((ov, A_o, A_g)) ⟨rfl, rfl, rfl, rfl, rfl, rfl, rfl, rfl, trivial⟩ (⟨hcw, ho, l_o, b_o, l_g, b_g⟩)
    have zc := hcw.size
    refine Lw.newA it_131 rfl ?_
    rintro A_g w eA_g b_g hn -
    have l_g : B1 ≤ A_g := by omega
    clear zc
    replace hcw := hcw.bs hn
    replace b_o := b_o.bs hn
    replace ho := ho.bs hn
    clear hn
    refine AwC.back ?_
    refine AwC.only (by assumption) (i := 4) (by kernel_rfl) rfl ?_
    refine Lw.callF rfl rfl (pof_c t _ (h_t.bs hcw) (by omega)) ?_
    rintro _ w ⟨rfl, hn⟩
    replace hcw := hcw.bs hn
    replace b_o := b_o.bs hn
    replace ho := ho.bs hn
    replace b_g := b_g.bs hn
    clear hn
    refine AwC.back ?_
    refine AwC.take (i := 5) (NoP.lift NoP.midG) rfl (by kernel_rfl) (by kernel_rfl) (by kernel_rfl) (fun w1 hc => Ex.mkFn (vs := [picV t]) (us := []) rfl rfl) rfl ?_
    refine AwC.only (by assumption) (i := 8) (by kernel_rfl) rfl ?_
    refine Lw.unit (Xu.stB (u := ov) (sz_27 _) rfl rfl (own_sl ho).one' b_o Nat.zero_lt_one) ?_
    rintro w2 ⟨b_o2, hg, -⟩
    have ho := own_apart ho b_o (by decide) hg
    try replace b_g := b_g.by hg (fun e => blk_ne b_g b_o (by decide) (Option.some.inj e))
    have hcw := hcw.grown hg hcw.size (by rintro _ ⟨⟩; omega)
    have b_o : Blk w2 A_o 27 [ov] := b_o2
    clear b_o2 hg
    refine AwC.back ?_
    refine AwC.only (by assumption) (i := 9) (by kernel_rfl) rfl ?_
    refine Lw.unit (Xu.stB (u := .func (.func 110) #[picV t] #[]) (sz_131 _) rfl rfl rfl b_g Nat.zero_lt_one) ?_
    rintro w2 ⟨b_g2, hg, -⟩
    have ho := own_apart ho b_g (by decide) hg
    have b_o := b_o.by hg (fun e => blk_ne b_o b_g (by decide) (Option.some.inj e))
    have hcw := hcw.grown hg hcw.size (by rintro _ ⟨⟩; omega)
    have b_g : Blk w2 A_g 131 [.func (.func 110) #[picV t] #[]] := b_g2
    clear b_g2 hg
    refine AwC.back ?_
    refine AwC.done (by assumption) (by kernel_rfl) (Pg.low ?_)
    exact Pg.midS ((ov, A_o, A_g)) ⟨rfl, rfl, rfl, rfl, rfl, rfl, rfl, rfl, trivial⟩ (⟨hcw, ho, l_o, b_o, l_g, b_g⟩)
    refine Lw.callF rfl rfl (pof_c t _ (h_t.bs hcw) (by omega)) ?_
    rintro _ w ⟨rfl, hn⟩
    replace hcw := hcw.bs hn
    replace b_o := b_o.bs hn
    clear hn
    refine AwC.back ?_
    refine AwC.take (i := 5) (NoP.lift NoP.midG) rfl (by kernel_rfl) (by kernel_rfl) (by kernel_rfl) (fun w1 hc => Ex.mkFn (vs := [picV t]) (us := []) rfl rfl) rfl ?_
    refine AwC.two (by assumption) (i := 2) (j := 7) (by kernel_rfl) rfl rfl ?_ ?_
    refine Lw.valW (Xw.make (l := 0) (c := M) st_27 it_21 rfl rfl rfl (Nat.zero_le _) (by omega) (by omega)) rfl ?_
    rintro ov w ⟨ho, -, hn, -⟩
    have ho := own_mono (B' := B1) ho (Nat.le_trans (Nat.le_of_eq hB1) hcw.size)
    replace hcw := hcw.bs hn
    replace b_o := b_o.bs hn
    clear hn
    refine AwC.back ?_
    refine AwC.only (by assumption) (i := 7) (by kernel_rfl) rfl ?_
    have zc := hcw.size
    refine Lw.newA it_131 rfl ?_
    rintro A_g w eA_g b_g hn -
    have l_g : B1 ≤ A_g := by omega
    clear zc
    replace hcw := hcw.bs hn
    replace b_o := b_o.bs hn
    replace ho := ho.bs hn
    clear hn
    refine AwC.back ?_
    refine AwC.only (by assumption) (i := 8) (by kernel_rfl) rfl ?_
    refine Lw.unit (Xu.stB (u := ov) (sz_27 _) rfl rfl (own_sl ho).one' b_o Nat.zero_lt_one) ?_
    rintro w2 ⟨b_o2, hg, -⟩
    have ho := own_apart ho b_o (by decide) hg
    try replace b_g := b_g.by hg (fun e => blk_ne b_g b_o (by decide) (Option.some.inj e))
    have hcw := hcw.grown hg hcw.size (by rintro _ ⟨⟩; omega)
    have b_o : Blk w2 A_o 27 [ov] := b_o2
    clear b_o2 hg
    refine AwC.back ?_
    refine AwC.only (by assumption) (i := 9) (by kernel_rfl) rfl ?_
    refine Lw.unit (Xu.stB (u := .func (.func 110) #[picV t] #[]) (sz_131 _) rfl rfl rfl b_g Nat.zero_lt_one) ?_
    rintro w2 ⟨b_g2, hg, -⟩
    have ho := own_apart ho b_g (by decide) hg
    have b_o := b_o.by hg (fun e => blk_ne b_o b_g (by decide) (Option.some.inj e))
    have hcw := hcw.grown hg hcw.size (by rintro _ ⟨⟩; omega)
    have b_g : Blk w2 A_g 131 [.func (.func 110) #[picV t] #[]] := b_g2
    clear b_g2 hg
    refine AwC.back ?_
    refine AwC.done (by assumption) (by kernel_rfl) (Pg.low ?_)
    exact Pg.midS ((ov, A_o, A_g)) ⟨rfl, rfl, rfl, rfl, rfl, rfl, rfl, rfl, trivial⟩ (⟨hcw, ho, l_o, b_o, l_g, b_g⟩)
    have zc := hcw.size
    refine Lw.newA it_131 rfl ?_
    rintro A_g w eA_g b_g hn -
    have l_g : B1 ≤ A_g := by omega
    clear zc
    replace hcw := hcw.bs hn
    replace b_o := b_o.bs hn
    clear hn
    refine AwC.back ?_
    refine AwC.only (by assumption) (i := 2) (by kernel_rfl) rfl ?_
    refine Lw.valW (Xw.make (l := 0) (c := M) st_27 it_21 rfl rfl rfl (Nat.zero_le _) (by omega) (by omega)) rfl ?_
    rintro ov w ⟨ho, -, hn, -⟩
    have ho := own_mono (B' := B1) ho (Nat.le_trans (Nat.le_of_eq hB1) hcw.size)
    replace hcw := hcw.bs hn
    replace b_o := b_o.bs hn
    replace b_g := b_g.bs hn
    clear hn
    refine AwC.back ?_
    refine AwC.only (by assumption) (i := 8) (by kernel_rfl) rfl ?_
    refine Lw.unit (Xu.stB (u := ov) (sz_27 _) rfl rfl (own_sl ho).one' b_o Nat.zero_lt_one) ?_
    rintro w2 ⟨b_o2, hg, -⟩
    have ho := own_apart ho b_o (by decide) hg
    try replace b_g := b_g.by hg (fun e => blk_ne b_g b_o (by decide) (Option.some.inj e))
    have hcw := hcw.grown hg hcw.size (by rintro _ ⟨⟩; omega)
    have b_o : Blk w2 A_o 27 [ov] := b_o2
    clear b_o2 hg
    refine AwC.back ?_
    refine AwC.only (by assumption) (i := 9) (by kernel_rfl) rfl ?_
    refine Lw.unit (Xu.stB (u := .func (.func 110) #[picV t] #[]) (sz_131 _) rfl rfl rfl b_g Nat.zero_lt_one) ?_
    rintro w2 ⟨b_g2, hg, -⟩
    have ho := own_apart ho b_g (by decide) hg
    have b_o := b_o.by hg (fun e => blk_ne b_o b_g (by decide) (Option.some.inj e))
    have hcw := hcw.grown hg hcw.size (by rintro _ ⟨⟩; omega)
    have b_g : Blk w2 A_g 131 [.func (.func 110) #[picV t] #[]] := b_g2
    clear b_g2 hg
    refine AwC.back ?_
    refine AwC.done (by assumption) (by kernel_rfl) (Pg.low ?_)
    exact Pg.midS ((ov, A_o, A_g)) ⟨rfl, rfl, rfl, rfl, rfl, rfl, rfl, rfl, trivial⟩ (⟨hcw, ho, l_o, b_o, l_g, b_g⟩)
    have zc := hcw.size
    refine Lw.newA it_131 rfl ?_
    rintro A_g w eA_g b_g hn -
    have l_g : B1 ≤ A_g := by omega
    clear zc
    replace hcw := hcw.bs hn
    replace b_o := b_o.bs hn
    clear hn
    refine AwC.back ?_
    refine AwC.two (by assumption) (i := 2) (j := 4) (by kernel_rfl) rfl rfl ?_ ?_
    refine Lw.valW (Xw.make (l := 0) (c := M) st_27 it_21 rfl rfl rfl (Nat.zero_le _) (by omega) (by omega)) rfl ?_
    rintro ov w ⟨ho, -, hn, -⟩
    have ho := own_mono (B' := B1) ho (Nat.le_trans (Nat.le_of_eq hB1) hcw.size)
    replace hcw := hcw.bs hn
    replace b_o := b_o.bs hn
    replace b_g := b_g.bs hn
    clear hn
    refine AwC.back ?_
    refine AwC.only (by assumption) (i := 4) (by kernel_rfl) rfl ?_
    refine Lw.callF rfl rfl (pof_c t _ (h_t.bs hcw) (by omega)) ?_
    rintro _ w ⟨rfl, hn⟩
    replace hcw := hcw.bs hn
    replace b_o := b_o.bs hn
    replace b_g := b_g.bs hn
    replace ho := ho.bs hn
    clear hn
    refine AwC.back ?_
    refine AwC.take (i := 5) (NoP.lift NoP.midG) rfl (by kernel_rfl) (by kernel_rfl) (by kernel_rfl) (fun w1 hc => Ex.mkFn (vs := [picV t]) (us := []) rfl rfl) rfl ?_
    refine AwC.only (by assumption) (i := 8) (by kernel_rfl) rfl ?_
    refine Lw.unit (Xu.stB (u := ov) (sz_27 _) rfl rfl (own_sl ho).one' b_o Nat.zero_lt_one) ?_
    rintro w2 ⟨b_o2, hg, -⟩
    have ho := own_apart ho b_o (by decide) hg
    try replace b_g := b_g.by hg (fun e => blk_ne b_g b_o (by decide) (Option.some.inj e))
    have hcw := hcw.grown hg hcw.size (by rintro _ ⟨⟩; omega)
    have b_o : Blk w2 A_o 27 [ov] := b_o2
    clear b_o2 hg
    refine AwC.back ?_
    refine AwC.only (by assumption) (i := 9) (by kernel_rfl) rfl ?_
    refine Lw.unit (Xu.stB (u := .func (.func 110) #[picV t] #[]) (sz_131 _) rfl rfl rfl b_g Nat.zero_lt_one) ?_
    rintro w2 ⟨b_g2, hg, -⟩
    have ho := own_apart ho b_g (by decide) hg
    have b_o := b_o.by hg (fun e => blk_ne b_o b_g (by decide) (Option.some.inj e))
    have hcw := hcw.grown hg hcw.size (by rintro _ ⟨⟩; omega)
    have b_g : Blk w2 A_g 131 [.func (.func 110) #[picV t] #[]] := b_g2
    clear b_g2 hg
    refine AwC.back ?_
    refine AwC.done (by assumption) (by kernel_rfl) (Pg.low ?_)
    exact Pg.midS ((ov, A_o, A_g)) ⟨rfl, rfl, rfl, rfl, rfl, rfl, rfl, rfl, trivial⟩ (⟨hcw, ho, l_o, b_o, l_g, b_g⟩)
    refine Lw.callF rfl rfl (pof_c t _ (h_t.bs hcw) (by omega)) ?_
    rintro _ w ⟨rfl, hn⟩
    replace hcw := hcw.bs hn
    replace b_o := b_o.bs hn
    replace b_g := b_g.bs hn
    clear hn
    refine AwC.back ?_
    refine AwC.take (i := 5) (NoP.lift NoP.midG) rfl (by kernel_rfl) (by kernel_rfl) (by kernel_rfl) (fun w1 hc => Ex.mkFn (vs := [picV t]) (us := []) rfl rfl) rfl ?_
    refine AwC.only (by assumption) (i := 2) (by kernel_rfl) rfl ?_
    refine Lw.valW (Xw.make (l := 0) (c := M) st_27 it_21 rfl rfl rfl (Nat.zero_le _) (by omega) (by omega)) rfl ?_
    rintro ov w ⟨ho, -, hn, -⟩
    have ho := own_mono (B' := B1) ho (Nat.le_trans (Nat.le_of_eq hB1) hcw.size)
    replace hcw := hcw.bs hn
    replace b_o := b_o.bs hn
    replace b_g := b_g.bs hn
    clear hn
    refine AwC.back ?_
    refine AwC.only (by assumption) (i := 8) (by kernel_rfl) rfl ?_
    refine Lw.unit (Xu.stB (u := ov) (sz_27 _) rfl rfl (own_sl ho).one' b_o Nat.zero_lt_one) ?_
    rintro w2 ⟨b_o2, hg, -⟩
    have ho := own_apart ho b_o (by decide) hg
    try replace b_g := b_g.by hg (fun e => blk_ne b_g b_o (by decide) (Option.some.inj e))
    have hcw := hcw.grown hg hcw.size (by rintro _ ⟨⟩; omega)
    have b_o : Blk w2 A_o 27 [ov] := b_o2
    clear b_o2 hg
    refine AwC.back ?_
    refine AwC.only (by assumption) (i := 9) (by kernel_rfl) rfl ?_
    refine Lw.unit (Xu.stB (u := .func (.func 110) #[picV t] #[]) (sz_131 _) rfl rfl rfl b_g Nat.zero_lt_one) ?_
    rintro w2 ⟨b_g2, hg, -⟩
    have ho := own_apart ho b_g (by decide) hg
    have b_o := b_o.by hg (fun e => blk_ne b_o b_g (by decide) (Option.some.inj e))
    have hcw := hcw.grown hg hcw.size (by rintro _ ⟨⟩; omega)
    have b_g : Blk w2 A_g 131 [.func (.func 110) #[picV t] #[]] := b_g2
    clear b_g2 hg
    refine AwC.back ?_
    refine AwC.done (by assumption) (by kernel_rfl) (Pg.low ?_)
    exact Pg.midS ((ov, A_o, A_g)) ⟨rfl, rfl, rfl, rfl, rfl, rfl, rfl, rfl, trivial⟩ (⟨hcw, ho, l_o, b_o, l_g, b_g⟩)
    have zc := hcw.size
    refine Lw.newA it_131 rfl ?_
    rintro A_g w eA_g b_g hn -
    have l_g : B1 ≤ A_g := by omega
    clear zc
    replace hcw := hcw.bs hn
    replace b_o := b_o.bs hn
    clear hn
    refine AwC.back ?_
    refine AwC.only (by assumption) (i := 1) (by kernel_rfl) rfl ?_
    refine Lw.callF rfl rfl (size_c x S _ ((own_slT hx).bs hcw)) ?_
    rintro _ w ⟨rfl, hn⟩
    replace hcw := hcw.bs hn
    replace b_o := b_o.bs hn
    replace b_g := b_g.bs hn
    clear hn
    refine Lw.know 43 (v' := .int .i64 (M : Int)) rfl (congrArg (Value.int .i64) (by omega)) ?_
    refine AwC.back ?_
    refine AwC.two (by assumption) (i := 2) (j := 4) (by kernel_rfl) rfl rfl ?_ ?_
    refine Lw.valW (Xw.make (l := 0) (c := M) st_27 it_21 rfl rfl rfl (Nat.zero_le _) (by omega) (by omega)) rfl ?_
    rintro ov w ⟨ho, -, hn, -⟩
    have ho := own_mono (B' := B1) ho (Nat.le_trans (Nat.le_of_eq hB1) hcw.size)
    replace hcw := hcw.bs hn
    replace b_o := b_o.bs hn
    replace b_g := b_g.bs hn
    clear hn
    refine AwC.back ?_
    refine AwC.only (by assumption) (i := 4) (by kernel_rfl) rfl ?_
    refine Lw.callF rfl rfl (pof_c t _ (h_t.bs hcw) (by omega)) ?_
    rintro _ w ⟨rfl, hn⟩
    replace hcw := hcw.bs hn
    replace b_o := b_o.bs hn
    replace b_g := b_g.bs hn
    replace ho := ho.bs hn
    clear hn
    refine AwC.back ?_
    refine AwC.take (i := 5) (NoP.lift NoP.midG) rfl (by kernel_rfl) (by kernel_rfl) (by kernel_rfl) (fun w1 hc => Ex.mkFn (vs := [picV t]) (us := []) rfl rfl) rfl ?_
    refine AwC.only (by assumption) (i := 8) (by kernel_rfl) rfl ?_
    refine Lw.unit (Xu.stB (u := ov) (sz_27 _) rfl rfl (own_sl ho).one' b_o Nat.zero_lt_one) ?_
    rintro w2 ⟨b_o2, hg, -⟩
    have ho := own_apart ho b_o (by decide) hg
    try replace b_g := b_g.by hg (fun e => blk_ne b_g b_o (by decide) (Option.some.inj e))
    have hcw := hcw.grown hg hcw.size (by rintro _ ⟨⟩; omega)
    have b_o : Blk w2 A_o 27 [ov] := b_o2
    clear b_o2 hg
    refine AwC.back ?_
    refine AwC.only (by assumption) (i := 9) (by kernel_rfl) rfl ?_
    refine Lw.unit (Xu.stB (u := .func (.func 110) #[picV t] #[]) (sz_131 _) rfl rfl rfl b_g Nat.zero_lt_one) ?_
    rintro w2 ⟨b_g2, hg, -⟩
    have ho := own_apart ho b_g (by decide) hg
    have b_o := b_o.by hg (fun e => blk_ne b_o b_g (by decide) (Option.some.inj e))
    have hcw := hcw.grown hg hcw.size (by rintro _ ⟨⟩; omega)
    have b_g : Blk w2 A_g 131 [.func (.func 110) #[picV t] #[]] := b_g2
    clear b_g2 hg
    refine AwC.back ?_
    refine AwC.done (by assumption) (by kernel_rfl) (Pg.low ?_)
    exact Pg.midS ((ov, A_o, A_g)) ⟨rfl, rfl, rfl, rfl, rfl, rfl, rfl, rfl, trivial⟩ (⟨hcw, ho, l_o, b_o, l_g, b_g⟩)
    refine Lw.callF rfl rfl (pof_c t _ (h_t.bs hcw) (by omega)) ?_
    rintro _ w ⟨rfl, hn⟩
    replace hcw := hcw.bs hn
    replace b_o := b_o.bs hn
    replace b_g := b_g.bs hn
    clear hn
    refine AwC.back ?_
    refine AwC.take (i := 5) (NoP.lift NoP.midG) rfl (by kernel_rfl) (by kernel_rfl) (by kernel_rfl) (fun w1 hc => Ex.mkFn (vs := [picV t]) (us := []) rfl rfl) rfl ?_
    refine AwC.only (by assumption) (i := 2) (by kernel_rfl) rfl ?_
    refine Lw.valW (Xw.make (l := 0) (c := M) st_27 it_21 rfl rfl rfl (Nat.zero_le _) (by omega) (by omega)) rfl ?_
    rintro ov w ⟨ho, -, hn, -⟩
    have ho := own_mono (B' := B1) ho (Nat.le_trans (Nat.le_of_eq hB1) hcw.size)
    replace hcw := hcw.bs hn
    replace b_o := b_o.bs hn
    replace b_g := b_g.bs hn
    clear hn
    refine AwC.back ?_
    refine AwC.only (by assumption) (i := 8) (by kernel_rfl) rfl ?_
    refine Lw.unit (Xu.stB (u := ov) (sz_27 _) rfl rfl (own_sl ho).one' b_o Nat.zero_lt_one) ?_
    rintro w2 ⟨b_o2, hg, -⟩
    have ho := own_apart ho b_o (by decide) hg
    try replace b_g := b_g.by hg (fun e => blk_ne b_g b_o (by decide) (Option.some.inj e))
    have hcw := hcw.grown hg hcw.size (by rintro _ ⟨⟩; omega)
    have b_o : Blk w2 A_o 27 [ov] := b_o2
    clear b_o2 hg
    refine AwC.back ?_
    refine AwC.only (by assumption) (i := 9) (by kernel_rfl) rfl ?_
    refine Lw.unit (Xu.stB (u := .func (.func 110) #[picV t] #[]) (sz_131 _) rfl rfl rfl b_g Nat.zero_lt_one) ?_
    rintro w2 ⟨b_g2, hg, -⟩
    have ho := own_apart ho b_g (by decide) hg
    have b_o := b_o.by hg (fun e => blk_ne b_o b_g (by decide) (Option.some.inj e))
    have hcw := hcw.grown hg hcw.size (by rintro _ ⟨⟩; omega)
    have b_g : Blk w2 A_g 131 [.func (.func 110) #[picV t] #[]] := b_g2
    clear b_g2 hg
    refine AwC.back ?_
    refine AwC.done (by assumption) (by kernel_rfl) (Pg.low ?_)
    exact Pg.midS ((ov, A_o, A_g)) ⟨rfl, rfl, rfl, rfl, rfl, rfl, rfl, rfl, trivial⟩ (⟨hcw, ho, l_o, b_o, l_g, b_g⟩)
    have zc := hcw.size
    refine Lw.newA it_131 rfl ?_
    rintro A_g w eA_g b_g hn -
    have l_g : B1 ≤ A_g := by omega
    clear zc
    replace hcw := hcw.bs hn
    clear hn
    refine AwC.back ?_
    refine AwC.two (by assumption) (i := 1) (j := 6) (by kernel_rfl) rfl rfl ?_ ?_
    refine Lw.callF rfl rfl (size_c x S _ ((own_slT hx).bs hcw)) ?_
    rintro _ w ⟨rfl, hn⟩
    replace hcw := hcw.bs hn
    replace b_g := b_g.bs hn
    clear hn
    refine Lw.know 43 (v' := .int .i64 (M : Int)) rfl (congrArg (Value.int .i64) (by omega)) ?_
    refine AwC.back ?_
    refine AwC.three (by assumption) (i0 := 2) (i1 := 4) (i2 := 6) (by kernel_rfl) rfl rfl rfl ?_ ?_ ?_
    refine Lw.valW (Xw.make (l := 0) (c := M) st_27 it_21 rfl rfl rfl (Nat.zero_le _) (by omega) (by omega)) rfl ?_
    rintro ov w ⟨ho, -, hn, -⟩
    have ho := own_mono (B' := B1) ho (Nat.le_trans (Nat.le_of_eq hB1) hcw.size)
    replace hcw := hcw.bs hn
    replace b_g := b_g.bs hn
    clear hn
    refine AwC.back ?_
    refine AwC.two (by assumption) (i := 4) (j := 6) (by kernel_rfl) rfl rfl ?_ ?_
    refine Lw.callF rfl rfl (pof_c t _ (h_t.bs hcw) (by omega)) ?_
    rintro _ w ⟨rfl, hn⟩
    replace hcw := hcw.bs hn
    replace b_g := b_g.bs hn
    replace ho := ho.bs hn
    clear hn
    refine AwC.back ?_
    refine AwC.take (i := 5) (NoP.lift NoP.midG) rfl (by kernel_rfl) (by kernel_rfl) (by kernel_rfl) (fun w1 hc => Ex.mkFn (vs := [picV t]) (us := []) rfl rfl) rfl ?_
    refine AwC.only (by assumption) (i := 6) (by kernel_rfl) rfl ?_
    have zc := hcw.size
    refine Lw.newA it_27 rfl ?_
    rintro A_o w eA_o b_o hn -
    have l_o : B1 ≤ A_o := by omega
    clear zc
    replace hcw := hcw.bs hn
    replace b_g := b_g.bs hn
    replace ho := ho.bs hn
    clear hn
    refine AwC.back ?_
    refine AwC.only (by assumption) (i := 8) (by kernel_rfl) rfl ?_
    refine Lw.unit (Xu.stB (u := ov) (sz_27 _) rfl rfl (own_sl ho).one' b_o Nat.zero_lt_one) ?_
    rintro w2 ⟨b_o2, hg, -⟩
    have ho := own_apart ho b_o (by decide) hg
    try replace b_g := b_g.by hg (fun e => blk_ne b_g b_o (by decide) (Option.some.inj e))
    have hcw := hcw.grown hg hcw.size (by rintro _ ⟨⟩; omega)
    have b_o : Blk w2 A_o 27 [ov] := b_o2
    clear b_o2 hg
    refine AwC.back ?_
    refine AwC.only (by assumption) (i := 9) (by kernel_rfl) rfl ?_
    refine Lw.unit (Xu.stB (u := .func (.func 110) #[picV t] #[]) (sz_131 _) rfl rfl rfl b_g Nat.zero_lt_one) ?_
    rintro w2 ⟨b_g2, hg, -⟩
    have ho := own_apart ho b_g (by decide) hg
    have b_o := b_o.by hg (fun e => blk_ne b_o b_g (by decide) (Option.some.inj e))
    have hcw := hcw.grown hg hcw.size (by rintro _ ⟨⟩; omega)
    have b_g : Blk w2 A_g 131 [.func (.func 110) #[picV t] #[]] := b_g2
    clear b_g2 hg
    refine AwC.back ?_
    refine AwC.done (by assumption) (by kernel_rfl) (Pg.low ?_)
    exact Pg.midS ((ov, A_o, A_g)) ⟨rfl, rfl, rfl, rfl, rfl, rfl, rfl, rfl, trivial⟩ (⟨hcw, ho, l_o, b_o, l_g, b_g⟩)
    have zc := hcw.size
    refine Lw.newA it_27 rfl ?_
    rintro A_o w eA_o b_o hn -
    have l_o : B1 ≤ A_o := by omega
    clear zc
    replace hcw := hcw.bs hn
    replace b_g := b_g.bs hn
    replace ho := ho.bs hn
    clear hn
    refine AwC.back ?_
    refine AwC.only (by assumption) (i := 4) (by kernel_rfl) rfl ?_
    refine Lw.callF rfl rfl (pof_c t _ (h_t.bs hcw) (by omega)) ?_
    rintro _ w ⟨rfl, hn⟩
    replace hcw := hcw.bs hn
    replace b_g := b_g.bs hn
    replace ho := ho.bs hn
    replace b_o := b_o.bs hn
    clear hn
    refine AwC.back ?_
    refine AwC.take (i := 5) (NoP.lift NoP.midG) rfl (by kernel_rfl) (by kernel_rfl) (by kernel_rfl) (fun w1 hc => Ex.mkFn (vs := [picV t]) (us := []) rfl rfl) rfl ?_
    refine AwC.only (by assumption) (i := 8) (by kernel_rfl) rfl ?_
    refine Lw.unit (Xu.stB (u := ov) (sz_27 _) rfl rfl (own_sl ho).one' b_o Nat.zero_lt_one) ?_
    rintro w2 ⟨b_o2, hg, -⟩
    have ho := own_apart ho b_o (by decide) hg
    try replace b_g := b_g.by hg (fun e => blk_ne b_g b_o (by decide) (Option.some.inj e))
    have hcw := hcw.grown hg hcw.size (by rintro _ ⟨⟩; omega)
    have b_o : Blk w2 A_o 27 [ov] := b_o2
    clear b_o2 hg
    refine AwC.back ?_
    refine AwC.only (by assumption) (i := 9) (by kernel_rfl) rfl ?_
    refine Lw.unit (Xu.stB (u := .func (.func 110) #[picV t] #[]) (sz_131 _) rfl rfl rfl b_g Nat.zero_lt_one) ?_
    rintro w2 ⟨b_g2, hg, -⟩
    have ho := own_apart ho b_g (by decide) hg
    have b_o := b_o.by hg (fun e => blk_ne b_o b_g (by decide) (Option.some.inj e))
    have hcw := hcw.grown hg hcw.size (by rintro _ ⟨⟩; omega)
    have b_g : Blk w2 A_g 131 [.func (.func 110) #[picV t] #[]] := b_g2
    clear b_g2 hg
    refine AwC.back ?_
    refine AwC.done (by assumption) (by kernel_rfl) (Pg.low ?_)
    exact Pg.midS ((ov, A_o, A_g)) ⟨rfl, rfl, rfl, rfl, rfl, rfl, rfl, rfl, trivial⟩ (⟨hcw, ho, l_o, b_o, l_g, b_g⟩)
    refine Lw.callF rfl rfl (pof_c t _ (h_t.bs hcw) (by omega)) ?_
    rintro _ w ⟨rfl, hn⟩
    replace hcw := hcw.bs hn
    replace b_g := b_g.bs hn
    clear hn
    refine AwC.back ?_
    refine AwC.take (i := 5) (NoP.lift NoP.midG) rfl (by kernel_rfl) (by kernel_rfl) (by kernel_rfl) (fun w1 hc => Ex.mkFn (vs := [picV t]) (us := []) rfl rfl) rfl ?_
    refine AwC.two (by assumption) (i := 2) (j := 6) (by kernel_rfl) rfl rfl ?_ ?_
    refine Lw.valW (Xw.make (l := 0) (c := M) st_27 it_21 rfl rfl rfl (Nat.zero_le _) (by omega) (by omega)) rfl ?_
    rintro ov w ⟨ho, -, hn, -⟩
    have ho := own_mono (B' := B1) ho (Nat.le_trans (Nat.le_of_eq hB1) hcw.size)
    replace hcw := hcw.bs hn
    replace b_g := b_g.bs hn
    clear hn
    refine AwC.back ?_
    refine AwC.only (by assumption) (i := 6) (by kernel_rfl) rfl ?_
    have zc := hcw.size
    refine Lw.newA it_27 rfl ?_
    rintro A_o w eA_o b_o hn -
    have l_o : B1 ≤ A_o := by omega
    clear zc
    replace hcw := hcw.bs hn
    replace b_g := b_g.bs hn
    replace ho := ho.bs hn
    clear hn
    refine AwC.back ?_
    refine AwC.only (by assumption) (i := 8) (by kernel_rfl) rfl ?_
    refine Lw.unit (Xu.stB (u := ov) (sz_27 _) rfl rfl (own_sl ho).one' b_o Nat.zero_lt_one) ?_
    rintro w2 ⟨b_o2, hg, -⟩
    have ho := own_apart ho b_o (by decide) hg
    try replace b_g := b_g.by hg (fun e => blk_ne b_g b_o (by decide) (Option.some.inj e))
    have hcw := hcw.grown hg hcw.size (by rintro _ ⟨⟩; omega)
    have b_o : Blk w2 A_o 27 [ov] := b_o2
    clear b_o2 hg
    refine AwC.back ?_
    refine AwC.only (by assumption) (i := 9) (by kernel_rfl) rfl ?_
    refine Lw.unit (Xu.stB (u := .func (.func 110) #[picV t] #[]) (sz_131 _) rfl rfl rfl b_g Nat.zero_lt_one) ?_
    rintro w2 ⟨b_g2, hg, -⟩
    have ho := own_apart ho b_g (by decide) hg
    have b_o := b_o.by hg (fun e => blk_ne b_o b_g (by decide) (Option.some.inj e))
    have hcw := hcw.grown hg hcw.size (by rintro _ ⟨⟩; omega)
    have b_g : Blk w2 A_g 131 [.func (.func 110) #[picV t] #[]] := b_g2
    clear b_g2 hg
    refine AwC.back ?_
    refine AwC.done (by assumption) (by kernel_rfl) (Pg.low ?_)
    exact Pg.midS ((ov, A_o, A_g)) ⟨rfl, rfl, rfl, rfl, rfl, rfl, rfl, rfl, trivial⟩ (⟨hcw, ho, l_o, b_o, l_g, b_g⟩)
    have zc := hcw.size
    refine Lw.newA it_27 rfl ?_
    rintro A_o w eA_o b_o hn -
    have l_o : B1 ≤ A_o := by omega
    clear zc
    replace hcw := hcw.bs hn
    replace b_g := b_g.bs hn
    clear hn
    refine AwC.back ?_
    refine AwC.only (by assumption) (i := 2) (by kernel_rfl) rfl ?_
    refine Lw.valW (Xw.make (l := 0) (c := M) st_27 it_21 rfl rfl rfl (Nat.zero_le _) (by omega) (by omega)) rfl ?_
    rintro ov w ⟨ho, -, hn, -⟩
    have ho := own_mono (B' := B1) ho (Nat.le_trans (Nat.le_of_eq hB1) hcw.size)
    replace hcw := hcw.bs hn
    replace b_g := b_g.bs hn
    replace b_o := b_o.bs hn
    clear hn
    refine AwC.back ?_
    refine AwC.only (by assumption) (i := 8) (by kernel_rfl) rfl ?_
    refine Lw.unit (Xu.stB (u := ov) (sz_27 _) rfl rfl (own_sl ho).one' b_o Nat.zero_lt_one) ?_
    rintro w2 ⟨b_o2, hg, -⟩
    have ho := own_apart ho b_o (by decide) hg
    try replace b_g := b_g.by hg (fun e => blk_ne b_g b_o (by decide) (Option.some.inj e))
    have hcw := hcw.grown hg hcw.size (by rintro _ ⟨⟩; omega)
    have b_o : Blk w2 A_o 27 [ov] := b_o2
    clear b_o2 hg
    refine AwC.back ?_
    refine AwC.only (by assumption) (i := 9) (by kernel_rfl) rfl ?_
    refine Lw.unit (Xu.stB (u := .func (.func 110) #[picV t] #[]) (sz_131 _) rfl rfl rfl b_g Nat.zero_lt_one) ?_
    rintro w2 ⟨b_g2, hg, -⟩
    have ho := own_apart ho b_g (by decide) hg
    have b_o := b_o.by hg (fun e => blk_ne b_o b_g (by decide) (Option.some.inj e))
    have hcw := hcw.grown hg hcw.size (by rintro _ ⟨⟩; omega)
    have b_g : Blk w2 A_g 131 [.func (.func 110) #[picV t] #[]] := b_g2
    clear b_g2 hg
    refine AwC.back ?_
    refine AwC.done (by assumption) (by kernel_rfl) (Pg.low ?_)
    exact Pg.midS ((ov, A_o, A_g)) ⟨rfl, rfl, rfl, rfl, rfl, rfl, rfl, rfl, trivial⟩ (⟨hcw, ho, l_o, b_o, l_g, b_g⟩)
    have zc := hcw.size
    refine Lw.newA it_27 rfl ?_
    rintro A_o w eA_o b_o hn -
    have l_o : B1 ≤ A_o := by omega
    clear zc
    replace hcw := hcw.bs hn
    replace b_g := b_g.bs hn
    clear hn
    refine AwC.back ?_
    refine AwC.two (by assumption) (i := 2) (j := 4) (by kernel_rfl) rfl rfl ?_ ?_
    refine Lw.valW (Xw.make (l := 0) (c := M) st_27 it_21 rfl rfl rfl (Nat.zero_le _) (by omega) (by omega)) rfl ?_
    rintro ov w ⟨ho, -, hn, -⟩
    have ho := own_mono (B' := B1) ho (Nat.le_trans (Nat.le_of_eq hB1) hcw.size)
    replace hcw := hcw.bs hn
    replace b_g := b_g.bs hn
    replace b_o := b_o.bs hn
    clear hn
    refine AwC.back ?_
    refine AwC.only (by assumption) (i := 4) (by kernel_rfl) rfl ?_
    refine Lw.callF rfl rfl (pof_c t _ (h_t.bs hcw) (by omega)) ?_
    rintro _ w ⟨rfl, hn⟩
    replace hcw := hcw.bs hn
    replace b_g := b_g.bs hn
    replace b_o := b_o.bs hn
    replace ho := ho.bs hn
    clear hn
    refine AwC.back ?_
    refine AwC.take (i := 5) (NoP.lift NoP.midG) rfl (by kernel_rfl) (by kernel_rfl) (by kernel_rfl) (fun w1 hc => Ex.mkFn (vs := [picV t]) (us := []) rfl rfl) rfl ?_
    refine AwC.only (by assumption) (i := 8) (by kernel_rfl) rfl ?_
    refine Lw.unit (Xu.stB (u := ov) (sz_27 _) rfl rfl (own_sl ho).one' b_o Nat.zero_lt_one) ?_
    rintro w2 ⟨b_o2, hg, -⟩
    have ho := own_apart ho b_o (by decide) hg
    try replace b_g := b_g.by hg (fun e => blk_ne b_g b_o (by decide) (Option.some.inj e))
    have hcw := hcw.grown hg hcw.size (by rintro _ ⟨⟩; omega)
    have b_o : Blk w2 A_o 27 [ov] := b_o2
    clear b_o2 hg
    refine AwC.back ?_
    refine AwC.only (by assumption) (i := 9) (by kernel_rfl) rfl ?_
    refine Lw.unit (Xu.stB (u := .func (.func 110) #[picV t] #[]) (sz_131 _) rfl rfl rfl b_g Nat.zero_lt_one) ?_
    rintro w2 ⟨b_g2, hg, -⟩
    have ho := own_apart ho b_g (by decide) hg
    have b_o := b_o.by hg (fun e => blk_ne b_o b_g (by decide) (Option.some.inj e))
    have hcw := hcw.grown hg hcw.size (by rintro _ ⟨⟩; omega)
    have b_g : Blk w2 A_g 131 [.func (.func 110) #[picV t] #[]] := b_g2
    clear b_g2 hg
    refine AwC.back ?_
    refine AwC.done (by assumption) (by kernel_rfl) (Pg.low ?_)
    exact Pg.midS ((ov, A_o, A_g)) ⟨rfl, rfl, rfl, rfl, rfl, rfl, rfl, rfl, trivial⟩ (⟨hcw, ho, l_o, b_o, l_g, b_g⟩)
    refine Lw.callF rfl rfl (pof_c t _ (h_t.bs hcw) (by omega)) ?_
    rintro _ w ⟨rfl, hn⟩
    replace hcw := hcw.bs hn
    replace b_g := b_g.bs hn
    replace b_o := b_o.bs hn
    clear hn
    refine AwC.back ?_
    refine AwC.take (i := 5) (NoP.lift NoP.midG) rfl (by kernel_rfl) (by kernel_rfl) (by kernel_rfl) (fun w1 hc => Ex.mkFn (vs := [picV t]) (us := []) rfl rfl) rfl ?_
    refine AwC.only (by assumption) (i := 2) (by kernel_rfl) rfl ?_
    refine Lw.valW (Xw.make (l := 0) (c := M) st_27 it_21 rfl rfl rfl (Nat.zero_le _) (by omega) (by omega)) rfl ?_
    rintro ov w ⟨ho, -, hn, -⟩
    have ho := own_mono (B' := B1) ho (Nat.le_trans (Nat.le_of_eq hB1) hcw.size)
    replace hcw := hcw.bs hn
    replace b_g := b_g.bs hn
    replace b_o := b_o.bs hn
    clear hn
    refine AwC.back ?_
    refine AwC.only (by assumption) (i := 8) (by kernel_rfl) rfl ?_
    refine Lw.unit (Xu.stB (u := ov) (sz_27 _) rfl rfl (own_sl ho).one' b_o Nat.zero_lt_one) ?_
    rintro w2 ⟨b_o2, hg, -⟩
    have ho := own_apart ho b_o (by decide) hg
    try replace b_g := b_g.by hg (fun e => blk_ne b_g b_o (by decide) (Option.some.inj e))
    have hcw := hcw.grown hg hcw.size (by rintro _ ⟨⟩; omega)
    have b_o : Blk w2 A_o 27 [ov] := b_o2
    clear b_o2 hg
    refine AwC.back ?_
    refine AwC.only (by assumption) (i := 9) (by kernel_rfl) rfl ?_
    refine Lw.unit (Xu.stB (u := .func (.func 110) #[picV t] #[]) (sz_131 _) rfl rfl rfl b_g Nat.zero_lt_one) ?_
    rintro w2 ⟨b_g2, hg, -⟩
    have ho := own_apart ho b_g (by decide) hg
    have b_o := b_o.by hg (fun e => blk_ne b_o b_g (by decide) (Option.some.inj e))
    have hcw := hcw.grown hg hcw.size (by rintro _ ⟨⟩; omega)
    have b_g : Blk w2 A_g 131 [.func (.func 110) #[picV t] #[]] := b_g2
    clear b_g2 hg
    refine AwC.back ?_
    refine AwC.done (by assumption) (by kernel_rfl) (Pg.low ?_)
    exact Pg.midS ((ov, A_o, A_g)) ⟨rfl, rfl, rfl, rfl, rfl, rfl, rfl, rfl, trivial⟩ (⟨hcw, ho, l_o, b_o, l_g, b_g⟩)
    have zc := hcw.size
    refine Lw.newA it_27 rfl ?_
    rintro A_o w eA_o b_o hn -
    have l_o : B1 ≤ A_o := by omega
    clear zc
    replace hcw := hcw.bs hn
    replace b_g := b_g.bs hn
    clear hn
    refine AwC.back ?_
    refine AwC.only (by assumption) (i := 1) (by kernel_rfl) rfl ?_
    refine Lw.callF rfl rfl (size_c x S _ ((own_slT hx).bs hcw)) ?_
    rintro _ w ⟨rfl, hn⟩
    replace hcw := hcw.bs hn
    replace b_g := b_g.bs hn
    replace b_o := b_o.bs hn
    clear hn
    refine Lw.know 43 (v' := .int .i64 (M : Int)) rfl (congrArg (Value.int .i64) (by omega)) ?_
    refine AwC.back ?_
    refine AwC.two (by assumption) (i := 2) (j := 4) (by kernel_rfl) rfl rfl ?_ ?_
    refine Lw.valW (Xw.make (l := 0) (c := M) st_27 it_21 rfl rfl rfl (Nat.zero_le _) (by omega) (by omega)) rfl ?_
    rintro ov w ⟨ho, -, hn, -⟩
    have ho := own_mono (B' := B1) ho (Nat.le_trans (Nat.le_of_eq hB1) hcw.size)
    replace hcw := hcw.bs hn
    replace b_g := b_g.bs hn
    replace b_o := b_o.bs hn
    clear hn
    refine AwC.back ?_
    refine AwC.only (by assumption) (i := 4) (by kernel_rfl) rfl ?_
    refine Lw.callF rfl rfl (pof_c t _ (h_t.bs hcw) (by omega)) ?_
    rintro _ w ⟨rfl, hn⟩
    replace hcw := hcw.bs hn
    replace b_g := b_g.bs hn
    replace b_o := b_o.bs hn
    replace ho := ho.bs hn
    clear hn
    refine AwC.back ?_
    refine AwC.take (i := 5) (NoP.lift NoP.midG) rfl (by kernel_rfl) (by kernel_rfl) (by kernel_rfl) (fun w1 hc => Ex.mkFn (vs := [picV t]) (us := []) rfl rfl) rfl ?_
    refine AwC.only (by assumption) (i := 8) (by kernel_rfl) rfl ?_
    refine Lw.unit (Xu.stB (u := ov) (sz_27 _) rfl rfl (own_sl ho).one' b_o Nat.zero_lt_one) ?_
    rintro w2 ⟨b_o2, hg, -⟩
    have ho := own_apart ho b_o (by decide) hg
    try replace b_g := b_g.by hg (fun e => blk_ne b_g b_o (by decide) (Option.some.inj e))
    have hcw := hcw.grown hg hcw.size (by rintro _ ⟨⟩; omega)
    have b_o : Blk w2 A_o 27 [ov] := b_o2
    clear b_o2 hg
    refine AwC.back ?_
    refine AwC.only (by assumption) (i := 9) (by kernel_rfl) rfl ?_
    refine Lw.unit (Xu.stB (u := .func (.func 110) #[picV t] #[]) (sz_131 _) rfl rfl rfl b_g Nat.zero_lt_one) ?_
    rintro w2 ⟨b_g2, hg, -⟩
    have ho := own_apart ho b_g (by decide) hg
    have b_o := b_o.by hg (fun e => blk_ne b_o b_g (by decide) (Option.some.inj e))
    have hcw := hcw.grown hg hcw.size (by rintro _ ⟨⟩; omega)
    have b_g : Blk w2 A_g 131 [.func (.func 110) #[picV t] #[]] := b_g2
    clear b_g2 hg
    refine AwC.back ?_
    refine AwC.done (by assumption) (by kernel_rfl) (Pg.low ?_)
    exact Pg.midS ((ov, A_o, A_g)) ⟨rfl, rfl, rfl, rfl, rfl, rfl, rfl, rfl, trivial⟩ (⟨hcw, ho, l_o, b_o, l_g, b_g⟩)
    refine Lw.callF rfl rfl (pof_c t _ (h_t.bs hcw) (by omega)) ?_
    rintro _ w ⟨rfl, hn⟩
    replace hcw := hcw.bs hn
    replace b_g := b_g.bs hn
    replace b_o := b_o.bs hn
    clear hn
    refine AwC.back ?_
    refine AwC.take (i := 5) (NoP.lift NoP.midG) rfl (by kernel_rfl) (by kernel_rfl) (by kernel_rfl) (fun w1 hc => Ex.mkFn (vs := [picV t]) (us := []) rfl rfl) rfl ?_
    refine AwC.only (by assumption) (i := 2) (by kernel_rfl) rfl ?_
    refine Lw.valW (Xw.make (l := 0) (c := M) st_27 it_21 rfl rfl rfl (Nat.zero_le _) (by omega) (by omega)) rfl ?_
    rintro ov w ⟨ho, -, hn, -⟩
    have ho := own_mono (B' := B1) ho (Nat.le_trans (Nat.le_of_eq hB1) hcw.size)
    replace hcw := hcw.bs hn
    replace b_g := b_g.bs hn
    replace b_o := b_o.bs hn
    clear hn
    refine AwC.back ?_
    refine AwC.only (by assumption) (i := 8) (by kernel_rfl) rfl ?_
    refine Lw.unit (Xu.stB (u := ov) (sz_27 _) rfl rfl (own_sl ho).one' b_o Nat.zero_lt_one) ?_
    rintro w2 ⟨b_o2, hg, -⟩
    have ho := own_apart ho b_o (by decide) hg
    try replace b_g := b_g.by hg (fun e => blk_ne b_g b_o (by decide) (Option.some.inj e))
    have hcw := hcw.grown hg hcw.size (by rintro _ ⟨⟩; omega)
    have b_o : Blk w2 A_o 27 [ov] := b_o2
    clear b_o2 hg
    refine AwC.back ?_
    refine AwC.only (by assumption) (i := 9) (by kernel_rfl) rfl ?_
    refine Lw.unit (Xu.stB (u := .func (.func 110) #[picV t] #[]) (sz_131 _) rfl rfl rfl b_g Nat.zero_lt_one) ?_
    rintro w2 ⟨b_g2, hg, -⟩
    have ho := own_apart ho b_g (by decide) hg
    have b_o := b_o.by hg (fun e => blk_ne b_o b_g (by decide) (Option.some.inj e))
    have hcw := hcw.grown hg hcw.size (by rintro _ ⟨⟩; omega)
    have b_g : Blk w2 A_g 131 [.func (.func 110) #[picV t] #[]] := b_g2
    clear b_g2 hg
    refine AwC.back ?_
    refine AwC.done (by assumption) (by kernel_rfl) (Pg.low ?_)
    exact Pg.midS ((ov, A_o, A_g)) ⟨rfl, rfl, rfl, rfl, rfl, rfl, rfl, rfl, trivial⟩ (⟨hcw, ho, l_o, b_o, l_g, b_g⟩)
  rintro ⟨ov, A_o, A_g⟩ w ⟨hn, ho, l_o, b_o, l_g, b_g⟩
  dsimp only at ho l_o b_o l_g b_g ⊢
  refine Cg.out ?_
  replace hB := hB.bs hn
  replace h_t := h_t.bs hn
  replace h_f := h_f.bs hn
  replace b_t := b_t.bs hn
  replace b_f := b_f.bs hn
  replace b_s := b_s.bs hn
  replace b_p := b_p.bs hn
  replace b_r := b_r.bs hn
  replace hx := hx.bs hn
  clear hn
  have g0 := good_at ok.gS (k := 0) (by omega)
  have g1 := good_at ok.gS (k := 1) (by omega)
  have g2 := good_at ok.gS (k := 2) (by omega)
  have t0 := good_at ok.gt (k := 0) (by omega)
  have t1 := good_at ok.gt (k := 1) (by omega)
  have t2 := good_at ok.gt (k := 2) (by omega)
  have okn := ok.n1
  have okst := ok.st
  have okpd := ok.pd
  have fll : f.l.length ≤ 64 * 4096 := by
    have f0 := good_at ok.gf (k := 0) (by omega)
    have h1 : f.s.getD 0 default * (N : Int) ≤ 64 * 4096 := Int.mul_le_mul f0.2 (by omega) (by omega) (by decide)
    have h2 := ok.fl
    omega
  have quo : (f.l.length : Int) / S.getD 0 default = (N : Int) := by
    rw [ok.fl, ← ok.o]; exact Int.mul_ediv_cancel_left _ (by omega)
  refine Cg.seq ?_
  refine Cg.any mixed (by kernel_rfl) (fun w hd _ => ?_)
  replace hB := hB.bs hd
  replace h_t := h_t.bs hd
  replace h_f := h_f.bs hd
  replace b_t := b_t.bs hd
  replace b_f := b_f.bs hd
  replace b_s := b_s.bs hd
  replace b_p := b_p.bs hd
  replace b_r := b_r.bs hd
  replace hx := hx.bs hd
  replace ho := ho.bs hd
  replace b_o := b_o.bs hd
  replace b_g := b_g.bs hd
  clear hd
  have h_f2 := h_f.2
  have s_x := own_slT hx
  refine Aw.cls (fun w' => Below w.heap.size w w') (fun hC => ?_) (Below.refl _ _)
  refine AwC.take (i := 0) (NoP.lift (NoP.thn NoP.retG)) rfl (by kernel_rfl) (by kernel_rfl) (by kernel_rfl) (fun w1 hc => Ex.fieldAddr (q := 0) Tryz.underlying29 rfl (sz_27 _) rfl) rfl ?_
  refine AwC.take (i := 1) (NoP.lift (NoP.thn NoP.retG)) rfl (by kernel_rfl) (by kernel_rfl) (by kernel_rfl) (fun w1 hc => Ex.ldB (ag_27 _) rfl (Blk.bs (by assumption) hc) rfl) rfl ?_
  refine AwC.take (i := 2) (NoP.lift (NoP.thn NoP.retG)) rfl (by kernel_rfl) (by kernel_rfl) (by kernel_rfl) (fun w1 hc => Ex.lenS st_27 rfl (Sl.bs (by assumption) hc)) rfl ?_
  refine AwC.take (i := 3) (NoP.lift (NoP.thn NoP.retG)) rfl (by kernel_rfl) (by kernel_rfl) (by kernel_rfl) (fun w1 hc => Ex.move rfl) rfl ?_
  refine AwC.take (i := 4) (NoP.lift (NoP.thn NoP.retG)) rfl (by kernel_rfl) (by kernel_rfl) (by kernel_rfl) (fun w1 hc => Ex.idxT st_26 rfl rfl (Sl.bs (by assumption) hc) 0 rfl (by omega)) rfl ?_
  refine AwC.take (i := 5) (NoP.lift (NoP.thn NoP.retG)) rfl (by kernel_rfl) (by kernel_rfl) (by kernel_rfl) (fun w1 hc => Ex.ldT (ag_3 _) rfl (Sl.bs (by assumption) hc) (by omega)) rfl ?_
  refine AwC.take (i := 6) (NoP.lift (NoP.thn NoP.retG)) rfl (by kernel_rfl) (by kernel_rfl) (by kernel_rfl) (fun w1 hc => (Ex.quoI rfl rfl (by omega) (by omega)).as (congrArg (Value.int .i64) quo)) rfl ?_
  refine AwC.only (by first | assumption | exact Below.refl _ _) (i := 7) (by kernel_rfl) rfl ?_
  refine Lw.newA it_3 rfl ?_
  rintro A_n w2 eA_n b_n hcw -
  refine AwC.back ?_
  refine AwC.only (by first | assumption | exact Below.refl _ _) (i := 8) (by kernel_rfl) rfl ?_
  refine Lw.unit (Xu.stB (u := .int .i64 (N : Int)) (sz_3 _) rfl rfl rfl b_n Nat.zero_lt_one) ?_
  rintro w3 ⟨b_n2, hg, -⟩
  have hcw := hcw.grown hg hcw.size (by rintro _ ⟨⟩; omega)
  have b_n : Blk w3 A_n 3 [.int .i64 (N : Int)] := b_n2
  clear b_n2 hg
  have zn : B1 ≤ A_n := by have := hB; have := blk_lt b_o; omega
  refine AwC.back ?_
  refine AwC.done (by first | assumption | exact Below.refl _ _) (by kernel_rfl) (Pg.low ?_)
  refine Pg.thenN (Cg.out ?_)
  refine Cg.seq ?_
  refine Cg.seq ?_
  refine Cg.region (by kernel_rfl) ?_
  refine Lw.val (Ex.move rfl) rfl ?_
  replace hB := hB.bs hcw
  replace h_t := h_t.bs hcw
  replace h_f := h_f.bs hcw
  replace b_t := b_t.bs hcw
  replace b_f := b_f.bs hcw
  replace b_s := b_s.bs hcw
  replace b_p := b_p.bs hcw
  replace b_r := b_r.bs hcw
  replace hx := hx.bs hcw
  replace ho := ho.bs hcw
  replace b_o := b_o.bs hcw
  replace b_g := b_g.bs hcw
  clear hcw h_f2 s_x
  refine Lw.callF rfl rfl (spots_c x S _ (own_slT hx)) ?_
  rintro _ w ⟨A_i, rfl, b_i, eA_i, hn⟩
  replace hB := hB.bs hn
  replace h_t := h_t.bs hn
  replace h_f := h_f.bs hn
  replace b_t := b_t.bs hn
  replace b_f := b_f.bs hn
  replace b_s := b_s.bs hn
  replace b_p := b_p.bs hn
  replace b_r := b_r.bs hn
  replace hx := hx.bs hn
  replace ho := ho.bs hn
  replace b_o := b_o.bs hn
  replace b_g := b_g.bs hn
  replace b_n := b_n.bs hn
  clear hn
  refine Lw.nil (Pg.low ?_)
  refine Pg.thenN (Cg.out ?_)
  refine Cg.block ?_
  rename World => w0
  have zB1 : B1 ≤ w0.heap.size := by have := blk_lt b_o; omega
  have zi := blk_lt b_i
  have zW0 := below_size hB
  have hxb := own_block hx
  refine Cg.range rfl (spots_sq A_i x S w0 b_i (own_slT hx) ok.ok ok.lS) (fun b hb => hb.elim (fun e => by rw [e]; exact zi) (fun e => (hxb b e).2)) (fun _ => rfl) (by kernel_rfl) (fun (pre : List (Nat)) w' => (∃ ov, Blk w' A_o 27 [ov] ∧ w'.ownsRow B1 21 1 ov pre.length ((pre.map (wofF t f step pad)).map i32)) ∧ Blk w' A_g 131 [.func (.func 110) #[picV t] #[]] ∧ Blk w' A_n 3 [.int .i64 (N : Int)] ∧ Blk w' A_i 26 [x] ∧ Below B1 w0 w') (by rintro _ ⟨⟩) ?_ ?_ ?_ ?_ ?_
  · exact ⟨⟨ov, b_o, ho⟩, b_g, b_n, b_i, Below.refl _ _⟩
  · rintro pre A A' ⟨⟨ov, h1, h2⟩, h3, h4, h6, h5⟩ hc
    exact ⟨⟨ov, h1.nc hc, own_nc h2 hc⟩, h3.nc hc, h4.nc hc, h6.nc hc, h5.nc hc zB1 zB1⟩
  · rintro pre A A' ⟨⟨ov, h1, h2⟩, h3, h4, h6, h5⟩ hc
    have hc := itr_none hc
    exact ⟨⟨ov, h1.bs hc, own_bs h2 hc⟩, h3.bs hc, h4.bs hc, h6.bs hc, h5.trans (hc.mono (Nat.le_trans zB1 h5.size))⟩
  · rintro lp pre i u hl ⟨⟨ov, b_o, ho⟩, b_g, b_n, b_i, hK⟩ hpre hrec
    obtain ⟨hi, hiM, -⟩ := range_pre hpre
    refine Cg.region (by kernel_rfl) ?_
    refine Lw.boxed (cs := [.int .i64 (spc S i), .int .i64 (spy S i), .int .i64 (spx S i)]) it_138 rfl rfl rfl rfl (fun _ => rfl) (rfl) ?_
    rintro A_to u1 eA_to b_to hn1 zhn1
    refine Lw.nil (Pg.low ?_)
    refine Pg.asg ((KeepsFrom.refl _ _).bs hn1) (Kp.refl.bs hn1) ?_
    rintro w hn hz hrec
    have zu := blk_lt b_o
    have hK1 := hK.trans (hn1.mono (by omega))
    have hK := hK1.nc hn (by omega) zB1
    have ho := own_nc (own_bs ho hn1) hn
    have b_o := (b_o.bs hn1).nc hn
    have b_g := (b_g.bs hn1).nc hn
    have b_n := (b_n.bs hn1).nc hn
    have b_i := (b_i.bs hn1).nc hn
    have b_to := b_to.nc hn
    clear hK1 hn1 zu hn hz
    have b_s := b_s.bl hK (by omega)
    have b_p := b_p.bl hK (by omega)
    have b_t := b_t.bl hK (by omega)
    have b_f := b_f.bl hK (by omega)
    have hBw := hB.trans (hK.mono (by omega))
    have zK := hK.size
    have xi : i < M := by omega
    have ci : 0 ≤ spc S i ∧ spc S i < S.getD 0 default := spc_in ok.ok ok.lS (by omega)
    have yi : 0 ≤ spy S i ∧ spy S i < S.getD 1 default := ⟨Int.emod_nonneg _ (by omega), Int.emod_lt_of_pos _ (by omega)⟩
    have xi2 : 0 ≤ spx S i ∧ spx S i < S.getD 2 default := ⟨Int.emod_nonneg _ (by omega), Int.emod_lt_of_pos _ (by omega)⟩
    have cn : 0 ≤ spc S i * (N : Int) ∧ spc S i * (N : Int) ≤ 64 * 4096 := ⟨Int.mul_nonneg ci.1 (by omega), Int.mul_le_mul (by omega) (by omega) (by omega) (by decide)⟩
    obtain ⟨B2, hB2⟩ : ∃ B2, B2 = w.heap.size := ⟨_, rfl⟩
    have r_to : A_to < B2 := hB2 ▸ blk_lt b_to
    have r_o : A_o < B2 := hB2 ▸ blk_lt b_o
    have r_g : A_g < B2 := hB2 ▸ blk_lt b_g
    have r_n : A_n < B2 := hB2 ▸ blk_lt b_n
    have hob : ∀ b, ov.ownBlock = some b → B1 ≤ b ∧ b < B2 := fun b e => hB2 ▸ own_block ho b e
    have r_i : A_i < B2 := hB2 ▸ blk_lt b_i
    refine Cg.block ?_
    refine Cg.seq ?_
    refine Cg.midS (St := Nat × Nat) (fun z => [(5, .pointer (some ⟨A_f, 0, none⟩)), (6, .pointer (some ⟨A_s, 0, none⟩)), (7, .pointer (some ⟨A_p, 0, none⟩)), (12, .pointer (some ⟨A_o, 0, none⟩)), (13, .pointer (some ⟨A_g, 0, none⟩)), (15, .pointer (some ⟨A_to, 0, none⟩)), (16, .pointer (some ⟨z.1, 0, none⟩)), (17, .pointer (some ⟨z.2, 0, none⟩))]) (fun z w' => Below w.heap.size w w' ∧ B2 ≤ z.1 ∧ Blk w' z.1 21 [i32 0#32] ∧ B2 ≤ z.2 ∧ Blk w' z.2 3 [.int .i64 (spc S i * (N : Int))]) ?_ ?_
    · rename World => w4
      refine Cg.any mixed (by kernel_rfl) (fun w hcw _ => ?_)
      refine Aw.cls (fun w' => Below w4.heap.size w4 w') (fun hC => ?_) (hcw)
      refine AwC.take (i := 0) (NoP.lift NoP.midG) rfl (by kernel_rfl) (by kernel_rfl) (by kernel_rfl) (fun w1 hc => Ex.fieldAddr (q := 0) Tryz.underlying138 rfl (sz_3 _) rfl) rfl ?_
      refine AwC.take (i := 1) (NoP.lift NoP.midG) rfl (by kernel_rfl) (by kernel_rfl) (by kernel_rfl) (fun w1 hc => Ex.ldB (ag_3 _) rfl (Blk.bs (by assumption) hc) rfl) rfl ?_
      refine AwC.take (i := 2) (NoP.lift NoP.midG) rfl (by kernel_rfl) (by kernel_rfl) (by kernel_rfl) (fun w1 hc => Ex.ldB (ag_3 _) rfl (Blk.bs (by assumption) hc) rfl) rfl ?_
      refine AwC.take (i := 3) (NoP.lift NoP.midG) rfl (by kernel_rfl) (by kernel_rfl) (by kernel_rfl) (fun w1 hc => Ex.mulI rfl rfl (by omega)) rfl ?_
      refine AwC.two (by assumption) (i := 4) (j := 5) (by kernel_rfl) rfl rfl ?_ ?_
      have zc := hcw.size
      refine Lw.newA it_21 rfl ?_
      rintro A_m w eA_m b_m hn -
      have l_m : B2 ≤ A_m := by omega
      clear zc
      replace hcw := hcw.bs hn
      clear hn
      refine AwC.back ?_
      refine AwC.only (by assumption) (i := 5) (by kernel_rfl) rfl ?_
      have zc := hcw.size
      refine Lw.newA it_3 rfl ?_
      rintro A_k w eA_k b_k hn -
      have l_k : B2 ≤ A_k := by omega
      clear zc
      replace hcw := hcw.bs hn
      replace b_m := b_m.bs hn
      clear hn
      refine AwC.back ?_
      refine AwC.only (by assumption) (i := 6) (by kernel_rfl) rfl ?_
      refine Lw.unit (Xu.stB (u := i32 0#32) (sz_21 _) rfl (show _ = some (i32 (0#32)) from rfl) rfl b_m Nat.zero_lt_one) ?_
      rintro w2 ⟨b_m2, hg, -⟩
      try replace b_k := b_k.by hg (fun e => blk_ne b_k b_m (by decide) (Option.some.inj e))
      have hcw := hcw.grown hg hcw.size (by rintro _ ⟨⟩; omega)
      have b_m : Blk w2 A_m 21 [i32 0#32] := b_m2
      clear b_m2 hg
      refine AwC.back ?_
      refine AwC.only (by assumption) (i := 7) (by kernel_rfl) rfl ?_
      refine Lw.unit (Xu.stB (u := .int .i64 (spc S i * (N : Int))) (sz_3 _) rfl rfl rfl b_k Nat.zero_lt_one) ?_
      rintro w2 ⟨b_k2, hg, -⟩
      have b_m := b_m.by hg (fun e => blk_ne b_m b_k (by decide) (Option.some.inj e))
      have hcw := hcw.grown hg hcw.size (by rintro _ ⟨⟩; omega)
      have b_k : Blk w2 A_k 3 [.int .i64 (spc S i * (N : Int))] := b_k2
      clear b_k2 hg
      refine AwC.back ?_
      refine AwC.done (by assumption) (by kernel_rfl) (Pg.low ?_)
      exact Pg.midS ((A_m, A_k)) ⟨rfl, rfl, rfl, rfl, rfl, rfl, rfl, rfl, trivial⟩ (⟨hcw, l_m, b_m, l_k, b_k⟩)
      have zc := hcw.size
      refine Lw.newA it_3 rfl ?_
      rintro A_k w eA_k b_k hn -
      have l_k : B2 ≤ A_k := by omega
      clear zc
      replace hcw := hcw.bs hn
      clear hn
      refine AwC.back ?_
      refine AwC.only (by assumption) (i := 4) (by kernel_rfl) rfl ?_
      have zc := hcw.size
      refine Lw.newA it_21 rfl ?_
      rintro A_m w eA_m b_m hn -
      have l_m : B2 ≤ A_m := by omega
      clear zc
      replace hcw := hcw.bs hn
      replace b_k := b_k.bs hn
      clear hn
      refine AwC.back ?_
      refine AwC.only (by assumption) (i := 6) (by kernel_rfl) rfl ?_
      refine Lw.unit (Xu.stB (u := i32 0#32) (sz_21 _) rfl (show _ = some (i32 (0#32)) from rfl) rfl b_m Nat.zero_lt_one) ?_
      rintro w2 ⟨b_m2, hg, -⟩
      try replace b_k := b_k.by hg (fun e => blk_ne b_k b_m (by decide) (Option.some.inj e))
      have hcw := hcw.grown hg hcw.size (by rintro _ ⟨⟩; omega)
      have b_m : Blk w2 A_m 21 [i32 0#32] := b_m2
      clear b_m2 hg
      refine AwC.back ?_
      refine AwC.only (by assumption) (i := 7) (by kernel_rfl) rfl ?_
      refine Lw.unit (Xu.stB (u := .int .i64 (spc S i * (N : Int))) (sz_3 _) rfl rfl rfl b_k Nat.zero_lt_one) ?_
      rintro w2 ⟨b_k2, hg, -⟩
      have b_m := b_m.by hg (fun e => blk_ne b_m b_k (by decide) (Option.some.inj e))
      have hcw := hcw.grown hg hcw.size (by rintro _ ⟨⟩; omega)
      have b_k : Blk w2 A_k 3 [.int .i64 (spc S i * (N : Int))] := b_k2
      clear b_k2 hg
      refine AwC.back ?_
      refine AwC.done (by assumption) (by kernel_rfl) (Pg.low ?_)
      exact Pg.midS ((A_m, A_k)) ⟨rfl, rfl, rfl, rfl, rfl, rfl, rfl, rfl, trivial⟩ (⟨hcw, l_m, b_m, l_k, b_k⟩)
    rintro ⟨A_m, A_k⟩ u2 ⟨hn2, l_m, b_m, l_k, b_k⟩
    dsimp only at l_m b_m l_k b_k ⊢
    refine Cg.out ?_
    replace ho := ho.bs hn2
    replace b_o := b_o.bs hn2
    replace b_g := b_g.bs hn2
    replace b_n := b_n.bs hn2
    replace b_i := b_i.bs hn2
    replace b_to := b_to.bs hn2
    replace b_s := b_s.bs hn2
    replace b_p := b_p.bs hn2
    replace b_t := b_t.bs hn2
    replace b_f := b_f.bs hn2
    replace hBw := hBw.bs hn2
    have h_fx := (h_f0.bs hBw).1
    have s_c := SlT.drop h_fx (i := 1) (by omega)
    have l_c : (f.s.drop 1).length = 3 := by rw [List.length_drop]; omega
    refine Cg.seq ?_
    refine Cg.seq ?_
    refine Cg.region (by kernel_rfl) ?_
    refine Lw.val (Ex.fieldAddr (q := 0) Tryz.underlying29 rfl (sz_26 _) rfl) rfl ?_
    refine Lw.val (Ex.ldB (ag_26 _) rfl (by assumption) rfl) rfl ?_
    refine Lw.val (Ex.cutL (i := 1) st_26 rfl rfl h_fx (by omega)) rfl ?_
    refine Lw.callF rfl rfl (spots_c (cut f.x 1 1 f.s.length) (f.s.drop 1) _ s_c) ?_
    rintro _ u3 ⟨A_j, rfl, b_j, eA_j, hn3⟩
    have b_m2 := b_m
    have b_k2 := b_k
    have s_c := s_c.bs hn3
    replace ho := ho.bs hn3
    replace b_o := b_o.bs hn3
    replace b_g := b_g.bs hn3
    replace b_n := b_n.bs hn3
    replace b_i := b_i.bs hn3
    replace b_to := b_to.bs hn3
    replace b_s := b_s.bs hn3
    replace b_p := b_p.bs hn3
    replace b_t := b_t.bs hn3
    replace b_f := b_f.bs hn3
    replace hBw := hBw.bs hn3
    replace b_m := b_m.bs hn3
    replace b_k := b_k.bs hn3
    refine Lw.nil (Pg.low ?_)
    refine Pg.thenN (Cg.out ?_)
    refine Cg.block ?_
    have zj := blk_lt b_j
    have zB2 : B2 ≤ u3.heap.size := by have := hn2.size; have := hn3.size; omega
    have hrec3 : ∃ r, u3.heap[lp]? = some (.loop r) := by
      obtain ⟨r, hr⟩ := hrec
      have hlt := (Array.getElem?_eq_some_iff.1 hr).1
      have h1 := (hn2.block lp hlt).trans hr
      exact ⟨r, (hn3.block lp (Array.getElem?_eq_some_iff.1 h1).1).trans h1⟩
    have h_fx3 := (h_f0.bs hBw).1
    have fne : f.s.map (Value.int .i64) ≠ [] := fun e2 => by rw [List.map_eq_nil_iff] at e2; rw [e2] at l4; cases l4
    have z_mj : A_m < A_j ∧ A_k < A_j := ⟨eA_j ▸ blk_lt b_m2, eA_j ▸ blk_lt b_k2⟩
    have nj1 : ¬ (A_m = A_j ∨ (cut f.x 1 1 f.s.length).ownBlock = some A_m) := by
      rintro (h | h)
      · omega
      · have := Sl.blk h_f0.1 fne A_m (cut_own h); omega
    have nj2 : ¬ (A_k = A_j ∨ (cut f.x 1 1 f.s.length).ownBlock = some A_k) := by
      rintro (h | h)
      · omega
      · have := Sl.blk h_f0.1 fne A_k (cut_own h); omega
    refine Cg.rangeN (hrec3) rfl (spots_sq A_j (cut f.x 1 1 f.s.length) (f.s.drop 1) u3 b_j s_c ok.okf l_c) (fun b hb => hb.elim (fun e => by rw [e]; exact zj) (fun e => Sl.blk h_fx3 fne b (cut_own e))) (fun _ => rfl) (by kernel_rfl) (fun (pre2 : List (Nat)) w' => Blk w' A_m 21 [i32 (winS t.l f.l t.s S (f.s.drop 1) N step pad i pre2.length)] ∧ Blk w' A_k 3 [.int .i64 (spc S i * (N : Int) + (pre2.length : Int))] ∧ Below B2 u3 w' ∧ KeepsFrom w0.heap.size u3 w') (by rintro _ ⟨⟩) ?_ ?_ ?_ ?_ ?_
    · exact ⟨b_m, by simpa using b_k, Below.refl _ _, KeepsFrom.refl _ _⟩
    · rintro pre A A' ⟨h1, h2, h3, h4⟩ hc
      exact ⟨h1.nc hc, h2.nc hc, h3.nc hc zB2 zB2, h4.nc hc⟩
    · rintro pre A A' ⟨h1, h2, h3, h4⟩ hc
      have hc := itr_none hc
      exact ⟨h1.bs hc, h2.bs hc, h3.trans (hc.mono (Nat.le_trans zB2 h3.size)), h4.bs hc⟩
    · rintro lq pre2 j v hl2 ⟨b_m, b_k, hK2, hKf⟩ hpre2 hrec2
      obtain ⟨hj, hjN, -⟩ := range_pre hpre2
      rw [show (Shapes.size (f.s.drop 1)).toNat = N from hN.symm] at hjN
      refine Cg.region (by kernel_rfl) ?_
      refine Lw.boxed (cs := [.int .i64 (spc (f.s.drop 1) j), .int .i64 (spy (f.s.drop 1) j), .int .i64 (spx (f.s.drop 1) j)]) it_138 rfl rfl rfl rfl (fun _ => rfl) (rfl) ?_
      rintro A_at u4 eA_at b_at hn4 zhn4
      refine Lw.nil (Pg.low ?_)
      refine Pg.asg ((KeepsFrom.refl _ _).bs hn4) (Kp.refl.bs hn4) ?_
      rintro w hn hz hrec
      have hK4 := (hK2.trans (hn4.mono (Nat.le_trans zB2 hK2.size))).nc hn (by omega) zB2
      have hKf4 := (hKf.bs hn4).nc (hn.mono hl2)
      have b_m := (b_m.bs hn4).nc hn
      have b_k := (b_k.bs hn4).nc hn
      have b_at := b_at.nc hn
      have b_to := b_to.bl hK4 (by omega)
      have b_s := b_s.bl hK4 (by omega)
      have b_p := b_p.bl hK4 (by omega)
      have b_g := b_g.bl hK4 (by omega)
      have b_f := b_f.bl hK4 (by omega)
      have hBw4 := hBw.trans (hK4.mono (by omega))
      have h_ty := (h_t0.bs hBw4).2
      have h_fy := (h_f0.bs hBw4).2
      clear hn4 hn hz
      have d1 : (f.s.drop 1).getD 0 default = f.s.getD 1 default := by simp
      have d2 : (f.s.drop 1).getD 1 default = f.s.getD 2 default := by simp
      have d3 : (f.s.drop 1).getD 2 default = f.s.getD 3 default := by simp
      have w1 := good_at ok.gf (k := 1) (by omega)
      have w2 := good_at ok.gf (k := 2) (by omega)
      have w3 := good_at ok.gf (k := 3) (by omega)
      have jc : 0 ≤ spc (f.s.drop 1) j ∧ spc (f.s.drop 1) j < f.s.getD 1 default := by rw [← d1]; exact spc_in ok.okf l_c (by have := Shapes.size_le (f.s.drop 1); unfold wofN at hN; omega)
      have jy : 0 ≤ spy (f.s.drop 1) j ∧ spy (f.s.drop 1) j < 64 := by
        have h1 := Int.emod_nonneg ((j : Int) / (f.s.drop 1).getD 2 default) (b := (f.s.drop 1).getD 1 default) (by omega)
        have h2 := Int.emod_lt_of_pos ((j : Int) / (f.s.drop 1).getD 2 default) (b := (f.s.drop 1).getD 1 default) (by omega)
        unfold spy; omega
      have jx : 0 ≤ spx (f.s.drop 1) j ∧ spx (f.s.drop 1) j < 64 := by
        have h1 := Int.emod_nonneg (j : Int) (b := (f.s.drop 1).getD 2 default) (by omega)
        have h2 := Int.emod_lt_of_pos (j : Int) (b := (f.s.drop 1).getD 2 default) (by omega)
        unfold spx; omega
      have my : 0 ≤ spy S i * step ∧ spy S i * step ≤ 64 * 8 := ⟨Int.mul_nonneg yi.1 (by omega), Int.mul_le_mul (by omega) okst.2 (by omega) (by decide)⟩
      have mx : 0 ≤ spx S i * step ∧ spx S i * step ≤ 64 * 8 := ⟨Int.mul_nonneg xi2.1 (by omega), Int.mul_le_mul (by omega) okst.2 (by omega) (by decide)⟩
      have tl : (spc (f.s.drop 1) j + 1) * (t.s.getD 1 default * t.s.getD 2 default) ≤ t.l.length := by
        rw [ok.tl, ok.c]
        exact Int.mul_le_mul_of_nonneg_right (by omega) (Int.mul_nonneg (by omega) (by omega))
      obtain ⟨k, hk⟩ : ∃ k : Nat, spc S i * (N : Int) + (pre2.length : Int) = (k : Int) := ⟨_, (Int.toNat_of_nonneg (by omega)).symm⟩
      have hkl : k < f.l.length := by
        have h1 : (spc S i + 1) * (N : Int) ≤ f.s.getD 0 default * (N : Int) := Int.mul_le_mul_of_nonneg_right (by have := ok.o; omega) (by omega)
        have h2 := ok.fl
        rw [Int.add_mul, Int.one_mul] at h1
        omega
      have ek : (spc S i).toNat * N + j = k := by
        have : ((spc S i).toNat : Int) = spc S i := Int.toNat_of_nonneg ci.1
        have h2 : (((spc S i).toNat * N + j : Nat) : Int) = (k : Int) := by push_cast; rw [this, hj]; exact hk
        exact_mod_cast h2
      rw [hk] at b_k
      have eS : winS t.l f.l t.s S (f.s.drop 1) N step pad i pre2.length + pic t.l (t.s.getD 1 default) (t.s.getD 2 default) (spc (f.s.drop 1) j) (spy S i * step - pad + spy (f.s.drop 1) j) (spx S i * step - pad + spx (f.s.drop 1) j) * f.l.getD k default = winS t.l f.l t.s S (f.s.drop 1) N step pad i (pre2.length + 1) := by
        rw [← ek, hj]; rfl
      refine Cg.block ?_
      refine Cg.seq ?_
      refine Cg.tail 30 mixed (by kernel_rfl) (by kernel_rfl) ?_
      refine Qw.val (fun w1 hq => Ex.ldB (ag_21 _) rfl (Blk.bs (by assumption) hq) rfl) rfl ?_
      refine Qw.val (fun w1 hq => Ex.ldB (ag_131 _) rfl (Blk.bs (by assumption) hq) rfl) rfl ?_
      refine Qw.val (fun w1 hq => Ex.fieldAddr (q := 0) Tryz.underlying138 rfl (sz_3 _) rfl) rfl ?_
      refine Qw.val (fun w1 hq => Ex.ldB (ag_3 _) rfl (Blk.bs (by assumption) hq) rfl) rfl ?_
      refine Qw.val (fun w1 hq => Ex.fieldAddr (q := 0) Tryz.underlying138 rfl (sz_3 _) rfl) rfl ?_
      refine Qw.val (fun w1 hq => Ex.ldB (ag_3 _) rfl (Blk.bs (by assumption) hq) rfl) rfl ?_
      refine Qw.val (fun w1 hq => Ex.ldB (ag_3 _) rfl (Blk.bs (by assumption) hq) rfl) rfl ?_
      refine Qw.val (fun w1 hq => Ex.mulI rfl rfl (by omega)) rfl ?_
      refine Qw.val (fun w1 hq => Ex.ldB (ag_3 _) rfl (Blk.bs (by assumption) hq) rfl) rfl ?_
      refine Qw.val (fun w1 hq => Ex.subI rfl rfl (by omega)) rfl ?_
      refine Qw.val (fun w1 hq => Ex.fieldAddr (q := 0) Tryz.underlying138 rfl (sz_3 _) rfl) rfl ?_
      refine Qw.val (fun w1 hq => Ex.ldB (ag_3 _) rfl (Blk.bs (by assumption) hq) rfl) rfl ?_
      refine Qw.val (fun w1 hq => Ex.addI rfl rfl (by omega)) rfl ?_
      refine Qw.val (fun w1 hq => Ex.fieldAddr (q := 0) Tryz.underlying138 rfl (sz_3 _) rfl) rfl ?_
      refine Qw.val (fun w1 hq => Ex.ldB (ag_3 _) rfl (Blk.bs (by assumption) hq) rfl) rfl ?_
      refine Qw.val (fun w1 hq => Ex.ldB (ag_3 _) rfl (Blk.bs (by assumption) hq) rfl) rfl ?_
      refine Qw.val (fun w1 hq => Ex.mulI rfl rfl (by omega)) rfl ?_
      refine Qw.val (fun w1 hq => Ex.ldB (ag_3 _) rfl (Blk.bs (by assumption) hq) rfl) rfl ?_
      refine Qw.val (fun w1 hq => Ex.subI rfl rfl (by omega)) rfl ?_
      refine Qw.val (fun w1 hq => Ex.fieldAddr (q := 0) Tryz.underlying138 rfl (sz_3 _) rfl) rfl ?_
      refine Qw.val (fun w1 hq => Ex.ldB (ag_3 _) rfl (Blk.bs (by assumption) hq) rfl) rfl ?_
      refine Qw.val (fun w1 hq => Ex.addI rfl rfl (by omega)) rfl ?_
      refine Qw.callV (p := [picV t]) (q := []) rfl rfl rfl (fun w1 hq => (wat_c t (spc (f.s.drop 1) j) (spy S i * step - pad + spy (f.s.drop 1) j) (spx S i * step - pad + spx (f.s.drop 1) j) w1 (Sl.bs h_ty hq) (by omega) (by omega) (by omega) (by omega) (by omega) tl).q hq) ?_
      refine Qw.val (fun w1 hq => Ex.fieldAddr (q := 0) Tryz.underlying29 rfl (sz_27 _) rfl) rfl ?_
      refine Qw.val (fun w1 hq => Ex.ldB (ag_27 _) rfl (Blk.bs (by assumption) hq) rfl) rfl ?_
      refine Qw.val (fun w1 hq => Ex.ldB (ag_3 _) rfl (Blk.bs (by assumption) hq) rfl) rfl ?_
      refine Qw.val (fun w1 hq => Ex.idxT st_27 rfl rfl (Sl.bs h_fy hq) k rfl hkl) rfl ?_
      refine Qw.val (fun w1 hq => Ex.ldT (ag_21 _) rfl (Sl.bs (by assumption) hq) (by omega)) rfl ?_
      refine Qw.val (fun w1 hq => Ex.muli32 rfl rfl) rfl ?_
      refine Qw.val (fun w1 hq => Ex.addi32 rfl rfl) rfl ?_
      refine Qw.done (fun w5 hq => ?_)
      replace b_m := b_m.bs hq
      replace b_k := b_k.bs hq
      have hK5 := hK4.trans (hq.mono (Nat.le_trans zB2 hK4.size))
      refine Lw.unit (Xu.stB (u := i32 (winS t.l f.l t.s S (f.s.drop 1) N step pad i (pre2.length + 1))) (sz_21 _) rfl (congrArg (fun z => some (i32 z)) eS) rfl b_m Nat.zero_lt_one) ?_
      rintro w6 ⟨b_m6, hg, -⟩
      have b_k := b_k.by hg (fun e => blk_ne b_k b_m (by decide) (Option.some.inj e))
      have hK6 := hK5.grown hg (Nat.le_trans zB2 hK5.size) (by rintro _ ⟨⟩; omega)
      refine Lw.nil (Pg.low ?_)
      refine Pg.thenN (Cg.out ?_)
      refine Cg.region (by kernel_rfl) ?_
      refine Lw.val (Ex.ldB (ag_3 _) rfl (by assumption) rfl) rfl ?_
      refine Lw.val (Ex.addI rfl rfl (by omega)) rfl ?_
      refine Lw.unit (Xu.stB (u := .int .i64 (spc S i * (N : Int) + ((pre2.length + 1 : Nat) : Int))) (sz_3 _) rfl (congrArg (fun z => some (Value.int .i64 z)) (by omega)) rfl b_k Nat.zero_lt_one) ?_
      rintro w7 ⟨b_k7, hg7, -⟩
      have b_m7 : Blk w6 A_m 21 _ := b_m6
      have b_m7 := b_m7.by hg7 (fun e => blk_ne b_m7 b_k (by decide) (Option.some.inj e))
      have hK7 := hK6.grown hg7 (Nat.le_trans zB2 hK6.size) (by rintro _ ⟨⟩; omega)
      have el : (pre2 ++ [j]).length = pre2.length + 1 := by simp
      refine Lw.nil (Pg.low ?_)
      refine Pg.blkN ?_
      exact Pg.rnd ((((KeepsFrom.refl _ _).bs hq).blk b_m hg).blk b_k hg7) (((Kp.refl.bs hq).grown hg (fun b e h => by cases e; exact nj1 h)).grown hg7 (fun b e h => by cases e; exact nj2 h)) (⟨by rw [el]; exact b_m7, by rw [el]; exact b_k7, hK7, ((hKf4.bs hq).blk b_m hg).blk b_k hg7⟩)
    rintro v ⟨b_m, b_k, hK2, hKf⟩
    have eN : (List.range (Shapes.size (f.s.drop 1)).toNat).length = N := by rw [List.length_range]; exact hN.symm
    rw [eN] at b_m
    rw [show winS t.l f.l t.s S (f.s.drop 1) N step pad i N = wofF t f step pad i by unfold wofF; rw [← hN, ← hS]] at b_m
    clear b_k
    have b_o := b_o.bl hK2 (by omega)
    have b_g := b_g.bl hK2 (by omega)
    have b_n := b_n.bl hK2 (by omega)
    have b_i := b_i.bl hK2 (by omega)
    have ho := own_heap ho (fun k e => hK2.block k (hob k e).2)
    have hN1 : Below B2 w v := ((hB2 ▸ hn2).trans (hn3.mono (by have := hn2.size; omega))).trans hK2
    have zv := hN1.size
    have lM : pre.length < 4096 := by omega
    refine Pg.blkN ?_
    refine Pg.thenN (Cg.out ?_)
    refine Cg.region (by kernel_rfl) ?_
    refine Lw.val (Ex.ldB (ag_27 _) rfl (by assumption) rfl) rfl ?_
    refine Lw.val (Ex.ldB (ag_21 _) rfl (by assumption) rfl) rfl ?_
    refine Lw.valW (Xw.lit (vs := [wofF t f step pad i].map i32) st_27 it_21 rfl rfl rfl rfl rfl) rfl ?_
    rintro z w5 ⟨hz, -, hn5, -⟩
    have b_o := b_o.bs hn5
    have b_g := b_g.bs hn5
    have b_n := b_n.bs hn5
    have b_i := b_i.bs hn5
    have ho := own_bs ho hn5
    have z5 := hn5.size
    refine Lw.valW (Xw.append (base := B1) st_27 it_21 rfl (by decide) rfl rfl ho (own_sl hz) (one_map (fun _ => rfl) _) (by omega) (by omega) (by omega)) rfl ?_
    rintro ov2 w6 ⟨ho6, hb6, hg6⟩
    rw [← List.map_append, ← List.map_singleton (f := wofF t f step pad), ← List.map_append] at ho6
    have hne : ∀ {A T : Nat} {cs : List Value}, Blk w5 A T cs → 21 ≠ T → some A ≠ ov.ownBlock := fun h e => blk_own_ne ho h e
    have b_o6 := b_o.by hg6 (hne b_o (by decide))
    have b_g := b_g.by hg6 (hne b_g (by decide))
    have b_n := b_n.by hg6 (hne b_n (by decide))
    have b_i6 := b_i.by hg6 (hne b_i (by decide))
    have hK6 : Below B1 w0 w6 := ((hK.trans (hN1.mono (by omega))).trans (hn5.mono (by omega))).trans hb6
    refine Lw.unit (Xu.stB (u := ov2) (sz_27 _) rfl rfl (own_sl ho6).one' b_o6 Nat.zero_lt_one) ?_
    rintro w7 ⟨b_o7, hg7, -⟩
    have ho7 := own_apart ho6 b_o6 (by decide) hg7
    have b_g := b_g.by hg7 (fun e => blk_ne b_g b_o6 (by decide) (Option.some.inj e))
    have b_n := b_n.by hg7 (fun e => blk_ne b_n b_o6 (by decide) (Option.some.inj e))
    have b_i7 := b_i6.by hg7 (fun e => blk_ne b_i6 b_o6 (by decide) (Option.some.inj e))
    have hK7 := hK6.grown hg7 (Nat.le_trans zB1 hK6.size) (by rintro _ ⟨⟩; omega)
    have el : (pre ++ [i]).length = pre.length + 1 := by simp
    refine Lw.nil (Pg.low ?_)
    refine Pg.blkN ?_
    exact Pg.rnd ((((((((KeepsFrom.refl _ _).bs hn2).bs hn3).trans hKf).bs hn5).own ho hg6).blk b_o6 hg7)) (((((Kp.refl.below hN1 (fun b h => h.elim (fun h => by omega) (fun h => by have := hxl b h; omega))).bs hn5).grown hg6 (fun b e h => h.elim (fun h => hne b_i (by decide) (by rw [← h, e])) (fun h => by have := hxl b h; have := hob b e; omega))).grown hg7 (fun b e h => by cases e; exact h.elim (fun h => blk_ne b_i6 b_o6 (by decide) h.symm) (fun h => by have := hxl A_o h; omega)))) (⟨⟨ov2, b_o7, by rw [el]; exact ho7⟩, b_g, b_n, b_i7, hK7⟩)
  rintro d w hd ⟨⟨ov, b_o, ho⟩, b_g, b_n, b_i, hK⟩ hD
  have eM : (List.range (Shapes.size S).toNat).length = M := by rw [List.length_range]; exact hM.symm
  have hx := own_heap hx (fun k e => hK.block k (by have := hxl k e; omega))
  have b_r := b_r.bl hK (by omega)
  have hB := hB.trans (hK.mono (by omega))
  have zK := hK.size
  have eL : (List.range (Shapes.size S).toNat).map (wofF t f step pad) = wofL t f step pad := by unfold wofL; rw [← hS]
  rw [eL] at ho
  rw [List.length_range] at ho
  have lL : (wofL t f step pad).length = (Shapes.size S).toNat := by rw [← eL]; simp
  rw [← lL] at ho
  have hox := own_block ho
  refine Pg.blkN ?_
  refine Pg.thenN (Cg.out ?_)
  refine Cg.seq ?_
  refine Cg.region (by kernel_rfl) ?_
  refine Lw.val (Ex.move rfl) rfl ?_
  refine Lw.val (Ex.ldB (ag_27 _) rfl (by assumption) rfl) rfl ?_
  refine Lw.val (Ex.build (vs := [(0, x), (1, ov)]) (cs := [x, ov]) rfl (bt_ten _ _ (own_slT hx).one (own_slT ho).one)) rfl ?_
  refine Lw.unit (Xu.stA (cs := [x, ov]) rfl rfl rfl rfl (by simp [(own_slT hx).one', (own_slT ho).one']) b_r rfl) ?_
  rintro w4 ⟨b_r4, hg, hz4⟩
  have hD := (hg.block d (Array.getElem?_eq_some_iff.1 hD).1 (by intro e; cases e; omega)).trans hD
  have hB := hB.grown hg (by omega) (by rintro _ ⟨⟩; omega)
  have ho := own_heap ho (fun k e => hg.block k (own_block ho k e).2 (by intro e2; have := hox k e; cases e2; omega))
  have hx := own_heap hx (fun k e => hg.block k (own_block hx k e).2 (by intro e2; cases e2; have := own_block hx _ e; omega))
  have zB := below_size hB
  refine Lw.val (Ex.assign rfl) rfl ?_
  refine Lw.nil (Pg.low ?_)
  refine Pg.thenN (Cg.out ?_)
  refine Cg.ret ?_
  refine Pg.close (hD) (fun w hn _ => ?_)
  have b_r := b_r4.nc hn
  have ho := own_nc ho hn
  have hx := own_nc hx hn
  have hB := hB.nc hn (by omega) (Nat.le_refl _)
  refine Pw.retCT rfl rfl rfl (by assumption) (Tryz.underlying29) rfl rfl rfl ?_
  exact ⟨hB, x, ov, rfl, fun h => absurd rfl h, fun _ => ⟨.inl (own_mono hx (by omega)), own_mono ho (by omega), fun k e1 e2 => by have := hox k e1; have := hxl k e2; omega⟩⟩
theorem wof_c (t f : T4) (step pad : Int) (W : World) (h_t : t.at W) (h_f : f.at W) : Fnc Tryz.prog 89 [t.v, f.v, .int .i64 step, .int .i64 pad] W (fun r w' => Below W.heap.size W w' ∧ Gets W w' r (wofE t f step pad) (wshS t.s f.s step pad) (wofL t f step pad)) :=
  (wof0_c t f step pad W h_t h_f).mono fun _ _ ⟨h1, h2⟩ => ⟨h1, h2.gets⟩
end Go.Proofs.YtmipoeanpnnjoaaGreat
