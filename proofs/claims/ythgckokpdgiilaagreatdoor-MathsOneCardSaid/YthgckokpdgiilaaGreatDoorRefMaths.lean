/- Contracts: the document's answers on maths. -/
import Derived.Test.YthgckokpdgiilaaGreatDoorMathsLaw
import Derived.Test.YthgckokpdgiilaaGreatDoorRefCode
namespace Go.Proofs.YthgckokpdgiilaaGreatDoor
open Go Go.Dd Go.RowKit
set_option maxRecDepth 100000

theorem e2_a {s t : List Int} {l m : List (BitVec 32)} (h : tok s l = false) : e2 s l t m = 1 := by unfold e2; rw [h]; rfl
theorem e2_b {s t : List Int} {l m : List (BitVec 32)} (h : tok t m = false) : e2 s l t m = 1 := by unfold e2; rw [h, Bool.and_false]; rfl
theorem e2_y {s t : List Int} {l m : List (BitVec 32)} (h : e2 s l t m = 0) : tok s l = true ∧ tok t m = true ∧ t = s := by
  unfold e2 at h
  split at h
  · rename_i h1
    simp only [Bool.and_eq_true] at h1
    split at h
    · rename_i h2; exact ⟨h1.1, h1.2, h2⟩
    · cases h
  · cases h
theorem new_yes {W w : World} {r : Value} {s : List Int} (hok : Shapes.ok s = true) (h : (Shapes.ok s = true ∧ ∃ x y, r = .tuple #[.agg #[x, y], .int .i64 0] ∧ Made1 W w x y s (List.replicate (Shapes.size s).toNat 0#32)) ∨ (Shapes.ok s = false ∧ r = .tuple #[.agg #[.slice none 0 0, .slice none 0 0], .int .i64 1])) :
    ∃ x y, r = .tuple #[.agg #[x, y], .int .i64 0] ∧ Made1 W w x y s (List.replicate (Shapes.size s).toNat 0#32) := by
  rcases h with ⟨_, h⟩ | ⟨h, _⟩
  · exact h
  · rw [hok] at h; cases h
theorem z2_lenN (f : BitVec 32 → BitVec 32 → BitVec 32) (s : List Int) (l m : List (BitVec 32)) : (z2 f s l m).length = (Shapes.size s).toNat := by simp [z2]
theorem z2_at {f : BitVec 32 → BitVec 32 → BitVec 32} {s : List Int} {l m : List (BitVec 32)} {i : Nat} (h : i < (Shapes.size s).toNat) : (z2 f s l m).getD i default = f (l.getD i default) (m.getD i default) := by simp [z2, h]

theorem rboth_c (a b : T4) (W : World) (h_a : a.at W) (h_b : b.at W) : Fnc Tryz.prog 27 [a.v, b.v] W (fun r w' => r = .int .i64 (e2 a.s a.l b.s b.l) ∧ Below W.heap.size W w') := by
  have hB := Below.refl W.heap.size W
  refine Fnc.enter (n := 19) Tryz.func27 (by kernel_rfl) rfl rfl rfl ?_
  refine Cw.seq ?_
  refine Cw.region ?_
  refine Lw.boxV (cs := [a.x, a.y]) rfl rfl rfl ?_
  rintro A_a w eA_a b_a hn -
  replace hB := hB.bs hn
  replace h_a := h_a.bs hn
  replace h_b := h_b.bs hn
  clear hn
  refine Lw.boxV (cs := [b.x, b.y]) rfl rfl rfl ?_
  rintro A_b w eA_b b_b hn -
  replace hB := hB.bs hn
  replace h_a := h_a.bs hn
  replace h_b := h_b.bs hn
  replace b_a := b_a.bs hn
  clear hn
  refine Lw.val (Ex.assign rfl) rfl ?_
  refine Lw.nil ?_
  refine Pw.thenN (Cw.out ?_)
  refine Cw.seq ?_
  refine Cw.seq ?_
  refine Cw.region ?_
  refine Lw.val (Ex.ldA (ag_25 _) (sz_25 _) rfl rfl (by assumption)) rfl ?_
  refine Lw.callF rfl rfl (rtcheck_c a.x a.y a.s a.l _ h_a.1 h_a.2) ?_
  rintro _ w ⟨rfl, hn⟩
  replace hB := hB.bs hn
  replace h_a := h_a.bs hn
  replace h_b := h_b.bs hn
  replace b_a := b_a.bs hn
  replace b_b := b_b.bs hn
  clear hn
  refine Lw.val (Ex.not rfl) rfl ?_
  refine Lw.val (Ex.move rfl) rfl ?_
  refine Lw.part 8 rfl ?_ ?_
  · intro g
    have e : e2 a.s a.l b.s b.l = 1 := e2_a (by simpa using g)
    refine Lw.pass (dj := 8) rfl rfl rfl rfl ?_
    refine Lw.pass (dj := 8) rfl rfl rfl rfl ?_
    refine Lw.pass (dj := 8) rfl rfl rfl rfl ?_
    refine Lw.val (Ex.pickT rfl rfl) rfl ?_
    refine Lw.nil ?_
    refine Pw.thenN (Cw.out ?_)
    refine Cw.condT rfl ?_
    refine Cw.seq ?_
    refine Cw.region ?_
    refine Lw.val (Ex.assign rfl) rfl ?_
    refine Lw.nil ?_
    refine Pw.thenN (Cw.out ?_)
    refine Cw.ret ?_
    refine Pw.thenR ?_
    refine Pw.ret1 rfl rfl ?_
    exact ⟨by rw [e], hB⟩
  intro g
  have t_a : tok a.s a.l = true := by simpa using g
  refine Lw.take (dj := 8) rfl rfl ?_
  refine Lw.val (Ex.ldA (ag_25 _) (sz_25 _) rfl rfl (by assumption)) rfl ?_
  refine Lw.take (dj := 8) rfl rfl ?_
  refine Lw.callF rfl rfl (rtcheck_c b.x b.y b.s b.l _ h_b.1 h_b.2) ?_
  rintro _ w ⟨rfl, hn⟩
  replace hB := hB.bs hn
  replace h_a := h_a.bs hn
  replace h_b := h_b.bs hn
  replace b_a := b_a.bs hn
  replace b_b := b_b.bs hn
  clear hn
  refine Lw.take (dj := 8) rfl rfl ?_
  refine Lw.val (Ex.not rfl) rfl ?_
  refine Lw.val (Ex.pickF rfl rfl) rfl ?_
  refine Lw.nil ?_
  refine Pw.thenN (Cw.out ?_)
  refine Cw.cond rfl ?_ ?_
  · intro g
    have e : e2 a.s a.l b.s b.l = 1 := e2_b (by simpa using g)
    refine Cw.seq ?_
    refine Cw.region ?_
    refine Lw.val (Ex.assign rfl) rfl ?_
    refine Lw.nil ?_
    refine Pw.thenN (Cw.out ?_)
    refine Cw.ret ?_
    refine Pw.thenR ?_
    refine Pw.ret1 rfl rfl ?_
    exact ⟨by rw [e], hB⟩
  intro g
  have t_b : tok b.s b.l = true := by simpa using g
  refine Cw.skip ?_
  refine Pw.thenN (Cw.out ?_)
  refine Cw.seq ?_
  refine Cw.seq ?_
  refine Cw.region ?_
  refine Lw.val (Ex.fieldAddr (q := 0) Tryz.underlying25 rfl (sz_22 _) rfl) rfl ?_
  refine Lw.val (Ex.ldB (ag_22 _) rfl (by assumption) rfl) rfl ?_
  refine Lw.val (Ex.fieldAddr (q := 0) Tryz.underlying25 rfl (sz_22 _) rfl) rfl ?_
  refine Lw.val (Ex.ldB (ag_22 _) rfl (by assumption) rfl) rfl ?_
  refine Lw.callF rfl rfl (rsame4_c a.x b.x a.s b.s _ h_a.1 h_b.1) ?_
  rintro _ w ⟨rfl, hn⟩
  replace hB := hB.bs hn
  replace h_a := h_a.bs hn
  replace h_b := h_b.bs hn
  replace b_a := b_a.bs hn
  replace b_b := b_b.bs hn
  clear hn
  refine Lw.val (Ex.not rfl) rfl ?_
  refine Lw.nil ?_
  refine Pw.thenN (Cw.out ?_)
  refine Cw.cond rfl ?_ ?_
  · intro g
    have e : e2 a.s a.l b.s b.l = 10 := by
      have : ¬ b.s = a.s := fun h => by rw [h] at g; simp at g
      unfold e2
      rw [t_a, t_b, if_neg this]
      rfl
    refine Cw.seq ?_
    refine Cw.region ?_
    refine Lw.val (Ex.assign rfl) rfl ?_
    refine Lw.nil ?_
    refine Pw.thenN (Cw.out ?_)
    refine Cw.ret ?_
    refine Pw.thenR ?_
    refine Pw.ret1 rfl rfl ?_
    exact ⟨by rw [e], hB⟩
  intro g
  have e : e2 a.s a.l b.s b.l = 0 := by
    have : b.s = a.s := by simp at g; exact g.symm
    unfold e2
    rw [t_a, t_b, if_pos this]
    rfl
  refine Cw.skip ?_
  refine Pw.thenN (Cw.out ?_)
  refine Cw.seq ?_
  refine Cw.region ?_
  refine Lw.val (Ex.assign rfl) rfl ?_
  refine Lw.nil ?_
  refine Pw.thenN (Cw.out ?_)
  refine Cw.ret ?_
  refine Pw.ret1 rfl rfl ?_
  exact ⟨by rw [e], hB⟩

theorem radd_c (a b : T4) (W : World) (h_a : a.at W) (h_b : b.at W) : Fnc Tryz.prog 10 [a.v, b.v] W (fun r w' => Below W.heap.size W w' ∧ Ans W w' r (e2 a.s a.l b.s b.l) a.s (z2 (· + ·) a.s a.l b.l)) := by
  have hB := Below.refl W.heap.size W
  refine Fnc.enter (n := 46) Tryz.func10 (by kernel_rfl) rfl rfl rfl ?_
  refine Cw.seq ?_
  refine Cw.region ?_
  refine Lw.boxV (cs := [a.x, a.y]) rfl rfl rfl ?_
  rintro A_a w eA_a b_a hn -
  replace hB := hB.bs hn
  replace h_a := h_a.bs hn
  replace h_b := h_b.bs hn
  clear hn
  refine Lw.boxV (cs := [b.x, b.y]) rfl rfl rfl ?_
  rintro A_b w eA_b b_b hn -
  replace hB := hB.bs hn
  replace h_a := h_a.bs hn
  replace h_b := h_b.bs hn
  replace b_a := b_a.bs hn
  clear hn
  have zr := below_size hB
  refine Lw.newA it_25 rfl ?_
  rintro A_r w eA_r b_r hn -
  replace hB := hB.bs hn
  replace h_a := h_a.bs hn
  replace h_b := h_b.bs hn
  replace b_a := b_a.bs hn
  replace b_b := b_b.bs hn
  clear hn
  refine Lw.val (Ex.assign rfl) rfl ?_
  refine Lw.nil ?_
  refine Pw.thenN (Cw.out ?_)
  refine Cw.seq ?_
  refine Cw.region ?_
  refine Lw.val (Ex.ldA (ag_25 _) (sz_25 _) rfl rfl (by assumption)) rfl ?_
  refine Lw.val (Ex.ldA (ag_25 _) (sz_25 _) rfl rfl (by assumption)) rfl ?_
  have z_r := blk_lt b_r
  have zr : W.heap.size ≤ A_r := by omega
  refine Lw.callF rfl rfl (rboth_c a b _ h_a h_b) ?_
  rintro _ w ⟨rfl, hn⟩
  replace hB := hB.bs hn
  replace h_a := h_a.bs hn
  replace h_b := h_b.bs hn
  replace b_a := b_a.bs hn
  replace b_b := b_b.bs hn
  replace b_r := b_r.bs hn
  clear hn
  refine Lw.val (Ex.assign rfl) rfl ?_
  refine Lw.nil ?_
  refine Pw.thenN (Cw.out ?_)
  refine Cw.seq ?_
  refine Cw.seq ?_
  refine Cw.region ?_
  refine Lw.val (Ex.move rfl) rfl ?_
  refine Lw.val (Ex.neq rfl rfl) rfl ?_
  refine Lw.nil ?_
  refine Pw.thenN (Cw.out ?_)
  refine Cw.cond rfl ?_ ?_
  · intro g
    have g' : e2 a.s a.l b.s b.l ≠ 0 := by simpa using g
    refine Cw.seq ?_
    refine Cw.region ?_
    refine Lw.val (Ex.build (vs := []) (cs := [.slice none 0 0, .slice none 0 0]) rfl (by kernel_rfl)) rfl ?_
    refine Lw.val (Ex.move rfl) rfl ?_
    refine Lw.unit (Xu.stA (cs := [.slice none 0 0, .slice none 0 0]) rfl rfl rfl rfl rfl b_r rfl) ?_
    rintro w9 ⟨b_r, hg, -⟩
    have hB := hB.grown hg (below_size hB) (by rintro _ ⟨⟩; omega)
    refine Lw.val (Ex.assign rfl) rfl ?_
    refine Lw.nil ?_
    refine Pw.thenN (Cw.out ?_)
    refine Cw.ret ?_
    refine Pw.thenR ?_
    refine Pw.retCT rfl rfl rfl (by assumption) (Tryz.underlying25) rfl rfl rfl ?_
    exact ⟨hB, _, _, rfl, fun _ => ⟨rfl, rfl⟩, fun h => absurd h g'⟩
  intro g
  have e0 : e2 a.s a.l b.s b.l = 0 := by simpa using g
  obtain ⟨t_a, t_b, hs⟩ := e2_y e0
  have ka := (tok_ok t_a).1
  have hsz := Shapes.size_le a.s
  have la := (tok_ok t_a).2
  have lb := (tok_ok t_b).2
  rw [hs] at lb
  rw [e0]
  refine Cw.skip ?_
  refine Pw.thenN (Cw.out ?_)
  refine Cw.seq ?_
  refine Cw.region ?_
  refine Lw.val (Ex.fieldAddr (q := 0) Tryz.underlying25 rfl (sz_22 _) rfl) rfl ?_
  refine Lw.val (Ex.ldB (ag_22 _) rfl (by assumption) rfl) rfl ?_
  refine Lw.callF rfl rfl (rnew_c a.x a.s w h_a.1) ?_
  rintro r w3 ⟨hn3, hcase⟩
  obtain ⟨zx, zy, rfl, hz⟩ := new_yes ka hcase
  refine Lw.val (Ex.move rfl) rfl ?_
  refine Lw.val (Ex.extract (i := 0) rfl rfl) rfl ?_
  refine Lw.val (Ex.extract (i := 1) rfl rfl) rfl ?_
  refine Lw.boxed (cs := [zx, zy]) it_25 rfl rfl rfl rfl (fun _ => rfl) (hz.one) ?_
  rintro A_t w4 eA_t b_t hn4 zhn4
  have M := mine_new hz eA_t b_t hn4 zhn4 hn3.size
  have hw4 := bt hn3 hn4
  clear hz b_t hcase eA_t hn3 hn4 zhn4
  obtain ⟨N, hN⟩ : ∃ N, N = (Shapes.size a.s).toNat := ⟨_, rfl⟩
  rw [← hN] at M la lb
  have lrep : (List.replicate N 0#32).length = N := List.length_replicate
  obtain ⟨pl, hpl⟩ : ∃ pl, pl = z2 (· + ·) a.s a.l b.l := ⟨_, rfl⟩
  have npl : pl.length = (List.replicate N 0#32).length := by rw [hpl, z2_lenN, lrep, hN]
  refine Lw.val (Ex.assign rfl) rfl ?_
  refine Lw.nil ?_
  refine Pw.thenN (Cw.out ?_)
  refine Cw.seq ?_
  refine Cw.seq ?_
  refine Cw.region ?_
  refine Lw.val (Ex.assign rfl) rfl ?_
  refine Lw.nil ?_
  refine Pw.thenN (Cw.out ?_)
  refine Cw.block ?_
  refine Cw.loop (S := Nat) (fun i => [(2, .pointer (some ⟨A_a, 0, none⟩)), (3, .pointer (some ⟨A_b, 0, none⟩)), (4, .pointer (some ⟨A_r, 0, none⟩)), (5, .int .i64 0), (7, .pointer (some ⟨A_t, 0, none⟩)), (9, .int .i64 (i : Int))]) (fun i w' => i ≤ N ∧ Below w.heap.size w w' ∧ MineT w' w.heap.size w4.heap.size A_t zx zy a.s (pl.take i ++ (List.replicate N 0#32).drop i)) (fun i => N - i) (0) ⟨rfl, rfl, rfl, rfl, rfl, rfl, trivial⟩ ?_ ?_
  · exact ⟨by omega, hw4, by rw [td_zero]; exact M⟩
  clear M hw4
  have zrw := blk_lt b_r
  rintro i w5 ⟨hi, hw, M⟩
  have b_t := M.box
  have y_t := M.sly
  have b_a5 := b_a.bs hw
  have b_b5 := b_b.bs hw
  have y_a := (h_a.bs hw).2
  have y_b := (h_b.bs hw).2
  have lt : (pl.take i ++ (List.replicate N 0#32).drop i).length = N := by rw [td_len npl, lrep]
  refine Cw.seq ?_
  refine Cw.seq ?_
  refine Cw.region ?_
  refine Lw.val (Ex.move rfl) rfl ?_
  refine Lw.val (Ex.fieldAddr (q := 0) Tryz.underlying25 rfl (sz_23 _) rfl) rfl ?_
  refine Lw.val (Ex.ldB (ag_23 _) rfl (by assumption) rfl) rfl ?_
  refine Lw.val (Ex.lenS st_23 rfl (by assumption)) rfl ?_
  refine Lw.val (Ex.lss rfl rfl) rfl ?_
  refine Lw.nil ?_
  refine Pw.thenN (Cw.out ?_)
  refine Cw.cond rfl ?_ ?_
  · intro h
    have hi' : i < N := by rw [lt] at h; simp at h; omega
    have hir : i < (List.replicate N 0#32).length := by omega
    have hfull : pl.getD i default = a.l.getD i default + b.l.getD i default := by rw [hpl]; exact z2_at (by omega)
    have hlast : (pl.take i ++ (List.replicate N 0#32).drop i).set i (a.l.getD i default + b.l.getD i default) = pl.take (i + 1) ++ (List.replicate N 0#32).drop (i + 1) := by rw [← hfull]; exact td_set npl hir
    refine Cw.skip ?_
    refine Pw.thenN (Cw.out ?_)
    refine Cw.seq ?_
    refine Cw.block ?_
    refine Cw.tail 15 mixed (by kernel_rfl) ?_
    refine Qw.val (fun w1 hq => Ex.fieldAddr (q := 0) Tryz.underlying25 rfl (sz_23 _) rfl) rfl ?_
    refine Qw.val (fun w1 hq => Ex.ldB (ag_23 _) rfl (Blk.bs (by assumption) hq) rfl) rfl ?_
    refine Qw.val (fun w1 hq => Ex.move rfl) rfl ?_
    refine Qw.val (fun w1 hq => Ex.fieldAddr (q := 0) Tryz.underlying25 rfl (sz_23 _) rfl) rfl ?_
    refine Qw.val (fun w1 hq => Ex.ldB (ag_23 _) rfl (Blk.bs (by assumption) hq) rfl) rfl ?_
    refine Qw.val (fun w1 hq => Ex.move rfl) rfl ?_
    refine Qw.val (fun w1 hq => Ex.idxT st_23 rfl rfl (Sl.bs (by assumption) hq) _ rfl (by omega)) rfl ?_
    refine Qw.val (fun w1 hq => Ex.ldT (ag_21 _) rfl (Sl.bs (by assumption) hq) (by omega)) rfl ?_
    refine Qw.val (fun w1 hq => Ex.fieldAddr (q := 0) Tryz.underlying25 rfl (sz_23 _) rfl) rfl ?_
    refine Qw.val (fun w1 hq => Ex.ldB (ag_23 _) rfl (Blk.bs (by assumption) hq) rfl) rfl ?_
    refine Qw.val (fun w1 hq => Ex.move rfl) rfl ?_
    refine Qw.val (fun w1 hq => Ex.idxT st_23 rfl rfl (Sl.bs (by assumption) hq) _ rfl (by omega)) rfl ?_
    refine Qw.val (fun w1 hq => Ex.ldT (ag_21 _) rfl (Sl.bs (by assumption) hq) (by omega)) rfl ?_
    refine Qw.val (fun w1 hq => Ex.addi32 rfl rfl) rfl ?_
    refine Qw.val (fun w1 hq => Ex.idxT st_23 rfl rfl (Sl.bs (by assumption) hq) _ rfl (by omega)) rfl ?_
    refine Qw.done (fun w6 hq => ?_)
    refine Lw.unit ((M.bs hq).st (sz_21 _) rfl rfl (by omega)) ?_
    rintro w7 ⟨M7, hg7, -⟩
    rw [hlast] at M7
    refine Lw.nil ?_
    refine Pw.blkN ?_
    refine Pw.thenN (Cw.out ?_)
    refine Cw.region ?_
    refine Lw.val (Ex.move rfl) rfl ?_
    refine Lw.val (Ex.addI rfl rfl (by omega)) rfl ?_
    refine Lw.val (Ex.assign rfl) rfl ?_
    refine Lw.nil ?_
    exact Pw.thenN (Pw.next (i + 1) ⟨rfl, rfl, rfl, rfl, rfl, rfl, trivial⟩ (⟨hi', (M.bs hq).below (bt hw hq) (Nat.le_refl _) hg7, M7⟩) (by omega))
  intro h
  have hi' : i = N := by rw [lt] at h; simp at h; omega
  subst hi'
  have hall : pl.take i ++ (List.replicate i 0#32).drop i = pl := by
    have := td_all npl
    rwa [lrep] at this
  rw [hall] at M
  have b_t6 := M.box
  have b_r6 := b_r.bs hw
  refine Cw.exit ?_
  refine Pw.thenE ?_
  refine Pw.thenE ?_
  refine Pw.blkHit ?_
  refine Pw.thenN (Cw.out ?_)
  refine Cw.seq ?_
  refine Cw.region ?_
  refine Lw.val (Ex.ldA (ag_25 _) (sz_25 _) rfl rfl (by assumption)) rfl ?_
  refine Lw.unit (Xu.stA (cs := [zx, zy]) rfl rfl rfl rfl (by simp [M.sh.one', M.sly.one']) b_r6 rfl) ?_
  rintro w9 ⟨b_r9, hg9, -⟩
  have M9 := M.keep hg9 (by rintro _ ⟨⟩; omega)
  have zW := below_size hB
  have hB9 := (bt hB hw).grown hg9 (below_size (bt hB hw)) (by rintro _ ⟨⟩; omega)
  refine Lw.val (Ex.assign rfl) rfl ?_
  refine Lw.nil ?_
  refine Pw.thenN (Cw.out ?_)
  refine Cw.ret ?_
  refine Pw.retCT rfl rfl rfl (by assumption) (Tryz.underlying25) rfl rfl rfl ?_
  rw [← hpl]
  exact ⟨hB9, zx, zy, rfl, fun h => absurd rfl h, fun _ => ⟨M9.row.mono zW, own_mono M9.lst.own zW, M9.yx⟩⟩
theorem rmul_c (a b : T4) (W : World) (h_a : a.at W) (h_b : b.at W) : Fnc Tryz.prog 11 [a.v, b.v] W (fun r w' => Below W.heap.size W w' ∧ Ans W w' r (e2 a.s a.l b.s b.l) a.s (z2 (· * ·) a.s a.l b.l)) := by
  have hB := Below.refl W.heap.size W
  refine Fnc.enter (n := 46) Tryz.func11 (by kernel_rfl) rfl rfl rfl ?_
  refine Cw.seq ?_
  refine Cw.region ?_
  refine Lw.boxV (cs := [a.x, a.y]) rfl rfl rfl ?_
  rintro A_a w eA_a b_a hn -
  replace hB := hB.bs hn
  replace h_a := h_a.bs hn
  replace h_b := h_b.bs hn
  clear hn
  refine Lw.boxV (cs := [b.x, b.y]) rfl rfl rfl ?_
  rintro A_b w eA_b b_b hn -
  replace hB := hB.bs hn
  replace h_a := h_a.bs hn
  replace h_b := h_b.bs hn
  replace b_a := b_a.bs hn
  clear hn
  have zr := below_size hB
  refine Lw.newA it_25 rfl ?_
  rintro A_r w eA_r b_r hn -
  replace hB := hB.bs hn
  replace h_a := h_a.bs hn
  replace h_b := h_b.bs hn
  replace b_a := b_a.bs hn
  replace b_b := b_b.bs hn
  clear hn
  refine Lw.val (Ex.assign rfl) rfl ?_
  refine Lw.nil ?_
  refine Pw.thenN (Cw.out ?_)
  refine Cw.seq ?_
  refine Cw.region ?_
  refine Lw.val (Ex.ldA (ag_25 _) (sz_25 _) rfl rfl (by assumption)) rfl ?_
  refine Lw.val (Ex.ldA (ag_25 _) (sz_25 _) rfl rfl (by assumption)) rfl ?_
  have z_r := blk_lt b_r
  have zr : W.heap.size ≤ A_r := by omega
  refine Lw.callF rfl rfl (rboth_c a b _ h_a h_b) ?_
  rintro _ w ⟨rfl, hn⟩
  replace hB := hB.bs hn
  replace h_a := h_a.bs hn
  replace h_b := h_b.bs hn
  replace b_a := b_a.bs hn
  replace b_b := b_b.bs hn
  replace b_r := b_r.bs hn
  clear hn
  refine Lw.val (Ex.assign rfl) rfl ?_
  refine Lw.nil ?_
  refine Pw.thenN (Cw.out ?_)
  refine Cw.seq ?_
  refine Cw.seq ?_
  refine Cw.region ?_
  refine Lw.val (Ex.move rfl) rfl ?_
  refine Lw.val (Ex.neq rfl rfl) rfl ?_
  refine Lw.nil ?_
  refine Pw.thenN (Cw.out ?_)
  refine Cw.cond rfl ?_ ?_
  · intro g
    have g' : e2 a.s a.l b.s b.l ≠ 0 := by simpa using g
    refine Cw.seq ?_
    refine Cw.region ?_
    refine Lw.val (Ex.build (vs := []) (cs := [.slice none 0 0, .slice none 0 0]) rfl (by kernel_rfl)) rfl ?_
    refine Lw.val (Ex.move rfl) rfl ?_
    refine Lw.unit (Xu.stA (cs := [.slice none 0 0, .slice none 0 0]) rfl rfl rfl rfl rfl b_r rfl) ?_
    rintro w9 ⟨b_r, hg, -⟩
    have hB := hB.grown hg (below_size hB) (by rintro _ ⟨⟩; omega)
    refine Lw.val (Ex.assign rfl) rfl ?_
    refine Lw.nil ?_
    refine Pw.thenN (Cw.out ?_)
    refine Cw.ret ?_
    refine Pw.thenR ?_
    refine Pw.retCT rfl rfl rfl (by assumption) (Tryz.underlying25) rfl rfl rfl ?_
    exact ⟨hB, _, _, rfl, fun _ => ⟨rfl, rfl⟩, fun h => absurd h g'⟩
  intro g
  have e0 : e2 a.s a.l b.s b.l = 0 := by simpa using g
  obtain ⟨t_a, t_b, hs⟩ := e2_y e0
  have ka := (tok_ok t_a).1
  have hsz := Shapes.size_le a.s
  have la := (tok_ok t_a).2
  have lb := (tok_ok t_b).2
  rw [hs] at lb
  rw [e0]
  refine Cw.skip ?_
  refine Pw.thenN (Cw.out ?_)
  refine Cw.seq ?_
  refine Cw.region ?_
  refine Lw.val (Ex.fieldAddr (q := 0) Tryz.underlying25 rfl (sz_22 _) rfl) rfl ?_
  refine Lw.val (Ex.ldB (ag_22 _) rfl (by assumption) rfl) rfl ?_
  refine Lw.callF rfl rfl (rnew_c a.x a.s w h_a.1) ?_
  rintro r w3 ⟨hn3, hcase⟩
  obtain ⟨zx, zy, rfl, hz⟩ := new_yes ka hcase
  refine Lw.val (Ex.move rfl) rfl ?_
  refine Lw.val (Ex.extract (i := 0) rfl rfl) rfl ?_
  refine Lw.val (Ex.extract (i := 1) rfl rfl) rfl ?_
  refine Lw.boxed (cs := [zx, zy]) it_25 rfl rfl rfl rfl (fun _ => rfl) (hz.one) ?_
  rintro A_t w4 eA_t b_t hn4 zhn4
  have M := mine_new hz eA_t b_t hn4 zhn4 hn3.size
  have hw4 := bt hn3 hn4
  clear hz b_t hcase eA_t hn3 hn4 zhn4
  obtain ⟨N, hN⟩ : ∃ N, N = (Shapes.size a.s).toNat := ⟨_, rfl⟩
  rw [← hN] at M la lb
  have lrep : (List.replicate N 0#32).length = N := List.length_replicate
  obtain ⟨pl, hpl⟩ : ∃ pl, pl = z2 (· * ·) a.s a.l b.l := ⟨_, rfl⟩
  have npl : pl.length = (List.replicate N 0#32).length := by rw [hpl, z2_lenN, lrep, hN]
  refine Lw.val (Ex.assign rfl) rfl ?_
  refine Lw.nil ?_
  refine Pw.thenN (Cw.out ?_)
  refine Cw.seq ?_
  refine Cw.seq ?_
  refine Cw.region ?_
  refine Lw.val (Ex.assign rfl) rfl ?_
  refine Lw.nil ?_
  refine Pw.thenN (Cw.out ?_)
  refine Cw.block ?_
  refine Cw.loop (S := Nat) (fun i => [(2, .pointer (some ⟨A_a, 0, none⟩)), (3, .pointer (some ⟨A_b, 0, none⟩)), (4, .pointer (some ⟨A_r, 0, none⟩)), (5, .int .i64 0), (7, .pointer (some ⟨A_t, 0, none⟩)), (9, .int .i64 (i : Int))]) (fun i w' => i ≤ N ∧ Below w.heap.size w w' ∧ MineT w' w.heap.size w4.heap.size A_t zx zy a.s (pl.take i ++ (List.replicate N 0#32).drop i)) (fun i => N - i) (0) ⟨rfl, rfl, rfl, rfl, rfl, rfl, trivial⟩ ?_ ?_
  · exact ⟨by omega, hw4, by rw [td_zero]; exact M⟩
  clear M hw4
  have zrw := blk_lt b_r
  rintro i w5 ⟨hi, hw, M⟩
  have b_t := M.box
  have y_t := M.sly
  have b_a5 := b_a.bs hw
  have b_b5 := b_b.bs hw
  have y_a := (h_a.bs hw).2
  have y_b := (h_b.bs hw).2
  have lt : (pl.take i ++ (List.replicate N 0#32).drop i).length = N := by rw [td_len npl, lrep]
  refine Cw.seq ?_
  refine Cw.seq ?_
  refine Cw.region ?_
  refine Lw.val (Ex.move rfl) rfl ?_
  refine Lw.val (Ex.fieldAddr (q := 0) Tryz.underlying25 rfl (sz_23 _) rfl) rfl ?_
  refine Lw.val (Ex.ldB (ag_23 _) rfl (by assumption) rfl) rfl ?_
  refine Lw.val (Ex.lenS st_23 rfl (by assumption)) rfl ?_
  refine Lw.val (Ex.lss rfl rfl) rfl ?_
  refine Lw.nil ?_
  refine Pw.thenN (Cw.out ?_)
  refine Cw.cond rfl ?_ ?_
  · intro h
    have hi' : i < N := by rw [lt] at h; simp at h; omega
    have hir : i < (List.replicate N 0#32).length := by omega
    have hfull : pl.getD i default = a.l.getD i default * b.l.getD i default := by rw [hpl]; exact z2_at (by omega)
    have hlast : (pl.take i ++ (List.replicate N 0#32).drop i).set i (a.l.getD i default * b.l.getD i default) = pl.take (i + 1) ++ (List.replicate N 0#32).drop (i + 1) := by rw [← hfull]; exact td_set npl hir
    refine Cw.skip ?_
    refine Pw.thenN (Cw.out ?_)
    refine Cw.seq ?_
    refine Cw.block ?_
    refine Cw.tail 15 mixed (by kernel_rfl) ?_
    refine Qw.val (fun w1 hq => Ex.fieldAddr (q := 0) Tryz.underlying25 rfl (sz_23 _) rfl) rfl ?_
    refine Qw.val (fun w1 hq => Ex.ldB (ag_23 _) rfl (Blk.bs (by assumption) hq) rfl) rfl ?_
    refine Qw.val (fun w1 hq => Ex.move rfl) rfl ?_
    refine Qw.val (fun w1 hq => Ex.fieldAddr (q := 0) Tryz.underlying25 rfl (sz_23 _) rfl) rfl ?_
    refine Qw.val (fun w1 hq => Ex.ldB (ag_23 _) rfl (Blk.bs (by assumption) hq) rfl) rfl ?_
    refine Qw.val (fun w1 hq => Ex.move rfl) rfl ?_
    refine Qw.val (fun w1 hq => Ex.idxT st_23 rfl rfl (Sl.bs (by assumption) hq) _ rfl (by omega)) rfl ?_
    refine Qw.val (fun w1 hq => Ex.ldT (ag_21 _) rfl (Sl.bs (by assumption) hq) (by omega)) rfl ?_
    refine Qw.val (fun w1 hq => Ex.fieldAddr (q := 0) Tryz.underlying25 rfl (sz_23 _) rfl) rfl ?_
    refine Qw.val (fun w1 hq => Ex.ldB (ag_23 _) rfl (Blk.bs (by assumption) hq) rfl) rfl ?_
    refine Qw.val (fun w1 hq => Ex.move rfl) rfl ?_
    refine Qw.val (fun w1 hq => Ex.idxT st_23 rfl rfl (Sl.bs (by assumption) hq) _ rfl (by omega)) rfl ?_
    refine Qw.val (fun w1 hq => Ex.ldT (ag_21 _) rfl (Sl.bs (by assumption) hq) (by omega)) rfl ?_
    refine Qw.val (fun w1 hq => Ex.muli32 rfl rfl) rfl ?_
    refine Qw.val (fun w1 hq => Ex.idxT st_23 rfl rfl (Sl.bs (by assumption) hq) _ rfl (by omega)) rfl ?_
    refine Qw.done (fun w6 hq => ?_)
    refine Lw.unit ((M.bs hq).st (sz_21 _) rfl rfl (by omega)) ?_
    rintro w7 ⟨M7, hg7, -⟩
    rw [hlast] at M7
    refine Lw.nil ?_
    refine Pw.blkN ?_
    refine Pw.thenN (Cw.out ?_)
    refine Cw.region ?_
    refine Lw.val (Ex.move rfl) rfl ?_
    refine Lw.val (Ex.addI rfl rfl (by omega)) rfl ?_
    refine Lw.val (Ex.assign rfl) rfl ?_
    refine Lw.nil ?_
    exact Pw.thenN (Pw.next (i + 1) ⟨rfl, rfl, rfl, rfl, rfl, rfl, trivial⟩ (⟨hi', (M.bs hq).below (bt hw hq) (Nat.le_refl _) hg7, M7⟩) (by omega))
  intro h
  have hi' : i = N := by rw [lt] at h; simp at h; omega
  subst hi'
  have hall : pl.take i ++ (List.replicate i 0#32).drop i = pl := by
    have := td_all npl
    rwa [lrep] at this
  rw [hall] at M
  have b_t6 := M.box
  have b_r6 := b_r.bs hw
  refine Cw.exit ?_
  refine Pw.thenE ?_
  refine Pw.thenE ?_
  refine Pw.blkHit ?_
  refine Pw.thenN (Cw.out ?_)
  refine Cw.seq ?_
  refine Cw.region ?_
  refine Lw.val (Ex.ldA (ag_25 _) (sz_25 _) rfl rfl (by assumption)) rfl ?_
  refine Lw.unit (Xu.stA (cs := [zx, zy]) rfl rfl rfl rfl (by simp [M.sh.one', M.sly.one']) b_r6 rfl) ?_
  rintro w9 ⟨b_r9, hg9, -⟩
  have M9 := M.keep hg9 (by rintro _ ⟨⟩; omega)
  have zW := below_size hB
  have hB9 := (bt hB hw).grown hg9 (below_size (bt hB hw)) (by rintro _ ⟨⟩; omega)
  refine Lw.val (Ex.assign rfl) rfl ?_
  refine Lw.nil ?_
  refine Pw.thenN (Cw.out ?_)
  refine Cw.ret ?_
  refine Pw.retCT rfl rfl rfl (by assumption) (Tryz.underlying25) rfl rfl rfl ?_
  rw [← hpl]
  exact ⟨hB9, zx, zy, rfl, fun h => absurd rfl h, fun _ => ⟨M9.row.mono zW, own_mono M9.lst.own zW, M9.yx⟩⟩

theorem toInt_bd (x : BitVec 32) : -2147483648 ≤ x.toInt ∧ x.toInt < 2147483648 := by
  have x1 := BitVec.toInt_lt (x := x)
  have x2 := BitVec.le_toInt x
  simp at x1 x2
  omega
theorem z1_lenN (f : BitVec 32 → BitVec 32) (s : List Int) (l : List (BitVec 32)) : (z1 f s l).length = (Shapes.size s).toNat := by simp [z1]
theorem z1_at {f : BitVec 32 → BitVec 32} {s : List Int} {l : List (BitVec 32)} {i : Nat} (h : i < (Shapes.size s).toNat) : (z1 f s l).getD i default = f (l.getD i default) := by simp [z1, h]
theorem down_eq (x b : Int) (h : 1 ≤ b) : (if x.tmod b < 0 then x.tdiv b - 1 else x.tdiv b) = x / b := by
  rw [Int.tdiv_eq_ediv, Int.tmod_eq_emod]
  have h1 := Int.emod_nonneg x (show b ≠ 0 by omega)
  have h2 := Int.emod_lt_of_pos x (show 0 < b by omega)
  have hs : b.sign = 1 := Int.sign_eq_one_of_pos (by omega)
  by_cases hc : 0 ≤ x ∨ b ∣ x
  · rw [if_pos hc, if_pos hc]; simp; omega
  · rw [if_neg hc, if_neg hc, hs]
    have : x % b - b.natAbs < 0 := by omega
    rw [if_pos (by omega)]; omega
theorem tdiv_bd (x b : Int) : -(x.natAbs : Int) ≤ x.tdiv b ∧ x.tdiv b ≤ x.natAbs := by
  have := Int.natAbs_tdiv_le_natAbs x b
  omega
section
variable {P : Program} {n : Nat} {E : Env} {w : World} {x y : Operand} {t s ty : TypeId} {m q : Int}
theorem Ex.quoT (hx : ev E x = some (.int .i64 m)) (hy : ev E y = some (.int .i64 q)) (h0 : -9223372036854775807 ≤ m ∧ m ≤ 9223372036854775807) (h1 : 1 ≤ q) : Ex P n E (.binOp .quo t x y s) ty w (.int .i64 (m.tdiv q)) := Ex.bin hx hy (by
  have : ¬ q = 0 := by omega
  have hb := tdiv_bd m q
  simp [go_sem, Op.intDiv, this, IntWalk.i64_in (m.tdiv q) (by omega)])
theorem Ex.remT (hx : ev E x = some (.int .i64 m)) (hy : ev E y = some (.int .i64 q)) (h1 : 1 ≤ q) : Ex P n E (.binOp .rem t x y s) ty w (.int .i64 (m.tmod q)) := Ex.bin hx hy (by
  have : ¬ q = 0 := by omega
  simp [go_sem, Op.intDiv, this])
end

theorem rrelu_c (a : T4) (W : World) (h_a : a.at W) : Fnc Tryz.prog 18 [a.v] W (fun r w' => Below W.heap.size W w' ∧ Ans W w' r (e1 a.s a.l) a.s (z1 reluB a.s a.l)) := by
  have hB := Below.refl W.heap.size W
  refine Fnc.enter (n := 35) Tryz.func18 (by kernel_rfl) rfl rfl rfl ?_
  refine Cw.seq ?_
  refine Cw.region ?_
  refine Lw.boxV (cs := [a.x, a.y]) rfl rfl rfl ?_
  rintro A_a w eA_a b_a hn -
  replace hB := hB.bs hn
  replace h_a := h_a.bs hn
  clear hn
  have zr := below_size hB
  refine Lw.newA it_25 rfl ?_
  rintro A_r w eA_r b_r hn -
  replace hB := hB.bs hn
  replace h_a := h_a.bs hn
  replace b_a := b_a.bs hn
  clear hn
  refine Lw.val (Ex.assign rfl) rfl ?_
  refine Lw.nil ?_
  refine Pw.thenN (Cw.out ?_)
  refine Cw.seq ?_
  refine Cw.seq ?_
  refine Cw.region ?_
  refine Lw.val (Ex.ldA (ag_25 _) (sz_25 _) rfl rfl (by assumption)) rfl ?_
  have z_r := blk_lt b_r
  have zr : W.heap.size ≤ A_r := by omega
  refine Lw.callF rfl rfl (rtcheck_c a.x a.y a.s a.l _ h_a.1 h_a.2) ?_
  rintro _ w ⟨rfl, hn⟩
  replace hB := hB.bs hn
  replace h_a := h_a.bs hn
  replace b_a := b_a.bs hn
  replace b_r := b_r.bs hn
  clear hn
  refine Lw.val (Ex.not rfl) rfl ?_
  refine Lw.nil ?_
  refine Pw.thenN (Cw.out ?_)
  refine Cw.cond rfl ?_ ?_
  · intro g
    have e : e1 a.s a.l = 1 := by unfold e1; rw [if_neg]; simp at g; simp [g]
    refine Cw.seq ?_
    refine Cw.region ?_
    refine Lw.val (Ex.build (vs := []) (cs := [.slice none 0 0, .slice none 0 0]) rfl (by kernel_rfl)) rfl ?_
    refine Lw.unit (Xu.stA (cs := [.slice none 0 0, .slice none 0 0]) rfl rfl rfl rfl rfl b_r rfl) ?_
    rintro w9 ⟨b_r, hg, -⟩
    have hB := hB.grown hg (below_size hB) (by rintro _ ⟨⟩; omega)
    refine Lw.val (Ex.assign rfl) rfl ?_
    refine Lw.nil ?_
    refine Pw.thenN (Cw.out ?_)
    refine Cw.ret ?_
    refine Pw.thenR ?_
    refine Pw.retCT rfl rfl rfl (by assumption) (Tryz.underlying25) rfl rfl rfl ?_
    exact ⟨hB, _, _, by rw [e], fun _ => ⟨rfl, rfl⟩, fun h => by rw [e] at h; cases h⟩
  intro g
  have t_a : tok a.s a.l = true := by simpa using g
  have e0 : e1 a.s a.l = 0 := by unfold e1; rw [if_pos t_a]
  rw [e0]
  refine Cw.skip ?_
  refine Pw.thenN (Cw.out ?_)
  refine Cw.seq ?_
  refine Cw.region ?_
  refine Lw.val (Ex.fieldAddr (q := 0) Tryz.underlying25 rfl (sz_22 _) rfl) rfl ?_
  refine Lw.val (Ex.ldB (ag_22 _) rfl (by assumption) rfl) rfl ?_
  have ka := (tok_ok t_a).1
  have hsz := Shapes.size_le a.s
  have la := (tok_ok t_a).2
  have zr := below_size hB
  refine Lw.callF rfl rfl (rnew_c a.x a.s w h_a.1) ?_
  rintro r w3 ⟨hn3, hcase⟩
  obtain ⟨zx, zy, rfl, hz⟩ := new_yes ka hcase
  refine Lw.val (Ex.move rfl) rfl ?_
  refine Lw.val (Ex.extract (i := 0) rfl rfl) rfl ?_
  refine Lw.val (Ex.extract (i := 1) rfl rfl) rfl ?_
  refine Lw.boxed (cs := [zx, zy]) it_25 rfl rfl rfl rfl (fun _ => rfl) (hz.one) ?_
  rintro A_t w4 eA_t b_t hn4 zhn4
  have M := mine_new hz eA_t b_t hn4 zhn4 hn3.size
  have hw4 := bt hn3 hn4
  clear hz b_t hcase eA_t hn3 hn4 zhn4
  obtain ⟨N, hN⟩ : ∃ N, N = (Shapes.size a.s).toNat := ⟨_, rfl⟩
  rw [← hN] at M la
  have lrep : (List.replicate N 0#32).length = N := List.length_replicate
  obtain ⟨pl, hpl⟩ : ∃ pl, pl = z1 reluB a.s a.l := ⟨_, rfl⟩
  have npl : pl.length = (List.replicate N 0#32).length := by rw [hpl, z1_lenN, lrep, hN]
  refine Lw.val (Ex.assign rfl) rfl ?_
  refine Lw.nil ?_
  refine Pw.thenN (Cw.out ?_)
  refine Cw.seq ?_
  refine Cw.seq ?_
  refine Cw.region ?_
  refine Lw.val (Ex.assign rfl) rfl ?_
  refine Lw.nil ?_
  refine Pw.thenN (Cw.out ?_)
  refine Cw.block ?_
  refine Cw.loop (S := Nat) (fun i => [(1, .pointer (some ⟨A_a, 0, none⟩)), (2, .pointer (some ⟨A_r, 0, none⟩)), (3, .int .i64 0), (4, .pointer (some ⟨A_t, 0, none⟩)), (6, .int .i64 (i : Int))]) (fun i w' => i ≤ N ∧ Below w.heap.size w w' ∧ MineT w' w.heap.size w4.heap.size A_t zx zy a.s (pl.take i ++ (List.replicate N 0#32).drop i)) (fun i => N - i) (0) ⟨rfl, rfl, rfl, rfl, rfl, trivial⟩ ?_ ?_
  · exact ⟨by omega, hw4, by rw [td_zero]; exact M⟩
  clear M hw4
  have zrw := blk_lt b_r
  rintro i w5 ⟨hi, hw, M⟩
  have b_t := M.box
  have y_t := M.sly
  have b_a5 := b_a.bs hw
  have y_a := (h_a.bs hw).2
  have lt : (pl.take i ++ (List.replicate N 0#32).drop i).length = N := by rw [td_len npl, lrep]
  refine Cw.seq ?_
  refine Cw.seq ?_
  refine Cw.region ?_
  refine Lw.val (Ex.move rfl) rfl ?_
  refine Lw.val (Ex.fieldAddr (q := 0) Tryz.underlying25 rfl (sz_23 _) rfl) rfl ?_
  refine Lw.val (Ex.ldB (ag_23 _) rfl (by assumption) rfl) rfl ?_
  refine Lw.val (Ex.lenS st_23 rfl (by assumption)) rfl ?_
  refine Lw.val (Ex.lss rfl rfl) rfl ?_
  refine Lw.nil ?_
  refine Pw.thenN (Cw.out ?_)
  refine Cw.cond rfl ?_ ?_
  · intro h
    have hi' : i < N := by rw [lt] at h; simp at h; omega
    have hir : i < (List.replicate N 0#32).length := by omega
    have hfull : pl.getD i default = reluB (a.l.getD i default) := by rw [hpl]; exact z1_at (by omega)
    have hlast : (pl.take i ++ (List.replicate N 0#32).drop i).set i (reluB (a.l.getD i default)) = pl.take (i + 1) ++ (List.replicate N 0#32).drop (i + 1) := by rw [← hfull]; exact td_set npl hir
    refine Cw.skip ?_
    refine Pw.thenN (Cw.out ?_)
    refine Cw.seq ?_
    refine Cw.block ?_
    refine Cw.tail 10 mixed (by kernel_rfl) ?_
    refine Qw.val (fun w1 hq => Ex.fieldAddr (q := 0) Tryz.underlying25 rfl (sz_23 _) rfl) rfl ?_
    refine Qw.val (fun w1 hq => Ex.ldB (ag_23 _) rfl (Blk.bs (by assumption) hq) rfl) rfl ?_
    refine Qw.val (fun w1 hq => Ex.move rfl) rfl ?_
    refine Qw.val (fun w1 hq => Ex.fieldAddr (q := 0) Tryz.underlying25 rfl (sz_23 _) rfl) rfl ?_
    refine Qw.val (fun w1 hq => Ex.ldB (ag_23 _) rfl (Blk.bs (by assumption) hq) rfl) rfl ?_
    refine Qw.val (fun w1 hq => Ex.move rfl) rfl ?_
    refine Qw.val (fun w1 hq => Ex.idxT st_23 rfl rfl (Sl.bs (by assumption) hq) _ rfl (by omega)) rfl ?_
    refine Qw.val (fun w1 hq => Ex.ldT (ag_21 _) rfl (Sl.bs (by assumption) hq) (by omega)) rfl ?_
    refine Qw.val (fun w1 hq => Ex.as (Ex.max2 (m := 0) (q := (a.l.getD i default).toInt) rfl rfl) (relu_eq _)) rfl ?_
    refine Qw.val (fun w1 hq => Ex.idxT st_23 rfl rfl (Sl.bs (by assumption) hq) _ rfl (by omega)) rfl ?_
    refine Qw.done (fun w6 hq => ?_)
    refine Lw.unit ((M.bs hq).st (sz_21 _) rfl rfl (by omega)) ?_
    rintro w7 ⟨M7, hg7, -⟩
    rw [hlast] at M7
    refine Lw.nil ?_
    refine Pw.blkN ?_
    refine Pw.thenN (Cw.out ?_)
    refine Cw.region ?_
    refine Lw.val (Ex.move rfl) rfl ?_
    refine Lw.val (Ex.addI rfl rfl (by omega)) rfl ?_
    refine Lw.val (Ex.assign rfl) rfl ?_
    refine Lw.nil ?_
    exact Pw.thenN (Pw.next (i + 1) ⟨rfl, rfl, rfl, rfl, rfl, trivial⟩ (⟨hi', (M.bs hq).below (bt hw hq) (Nat.le_refl _) hg7, M7⟩) (by omega))
  intro h
  have hi' : i = N := by rw [lt] at h; simp at h; omega
  subst hi'
  have hall : pl.take i ++ (List.replicate i 0#32).drop i = pl := by
    have := td_all npl
    rwa [lrep] at this
  rw [hall] at M
  have b_t6 := M.box
  have b_r6 := b_r.bs hw
  refine Cw.exit ?_
  refine Pw.thenE ?_
  refine Pw.thenE ?_
  refine Pw.blkHit ?_
  refine Pw.thenN (Cw.out ?_)
  refine Cw.seq ?_
  refine Cw.region ?_
  refine Lw.val (Ex.ldA (ag_25 _) (sz_25 _) rfl rfl (by assumption)) rfl ?_
  refine Lw.unit (Xu.stA (cs := [zx, zy]) rfl rfl rfl rfl (by simp [M.sh.one', M.sly.one']) b_r6 rfl) ?_
  rintro w9 ⟨b_r9, hg9, -⟩
  have M9 := M.keep hg9 (by rintro _ ⟨⟩; omega)
  have zW := below_size hB
  have hB9 := (bt hB hw).grown hg9 (below_size (bt hB hw)) (by rintro _ ⟨⟩; omega)
  refine Lw.val (Ex.assign rfl) rfl ?_
  refine Lw.nil ?_
  refine Pw.thenN (Cw.out ?_)
  refine Cw.ret ?_
  refine Pw.retCT rfl rfl rfl (by assumption) (Tryz.underlying25) rfl rfl rfl ?_
  rw [← hpl]
  exact ⟨hB9, zx, zy, rfl, fun h => absurd rfl h, fun _ => ⟨M9.row.mono zW, own_mono M9.lst.own zW, M9.yx⟩⟩
theorem rdown_c (x b : Int) (w : World) (hx : -9223372036854775806 ≤ x ∧ x ≤ 9223372036854775806) (hb : 1 ≤ b) : Fnc Tryz.prog 85 [.int .i64 x, .int .i64 b] w (fun r w' => r = .int .i64 (x / b) ∧ Below w.heap.size w w') := by
  have hq := tdiv_bd x b
  refine Fnc.enter (n := 16) Tryz.func85 (by kernel_rfl) rfl rfl rfl ?_
  refine Cw.seq ?_
  refine Cw.region ?_
  refine Lw.val (Ex.assign rfl) rfl ?_
  refine Lw.nil ?_
  refine Pw.thenN (Cw.out ?_)
  refine Cw.seq ?_
  refine Cw.region ?_
  refine Lw.val (Ex.move rfl) rfl ?_
  refine Lw.val (Ex.move rfl) rfl ?_
  refine Lw.val (Ex.quoT rfl rfl (by omega) hb) rfl ?_
  refine Lw.val (Ex.assign rfl) rfl ?_
  refine Lw.nil ?_
  refine Pw.thenN (Cw.out ?_)
  refine Cw.seq ?_
  refine Cw.seq ?_
  refine Cw.region ?_
  refine Lw.val (Ex.move rfl) rfl ?_
  refine Lw.val (Ex.move rfl) rfl ?_
  refine Lw.val (Ex.remT rfl rfl hb) rfl ?_
  refine Lw.val (Ex.lss rfl rfl) rfl ?_
  refine Lw.nil ?_
  refine Pw.thenN (Cw.out ?_)
  refine Cw.cond rfl ?_ ?_
  · intro g
    have g' := of_decide_eq_true g
    refine Cw.region ?_
    refine Lw.val (Ex.move rfl) rfl ?_
    refine Lw.val (Ex.subI rfl rfl (by omega)) rfl ?_
    refine Lw.val (Ex.assign rfl) rfl ?_
    refine Lw.nil ?_
    refine Pw.thenN (Cw.out ?_)
    refine Cw.seq ?_
    refine Cw.region ?_
    refine Lw.val (Ex.move rfl) rfl ?_
    refine Lw.val (Ex.assign rfl) rfl ?_
    refine Lw.nil ?_
    refine Pw.thenN (Cw.out ?_)
    refine Cw.ret ?_
    refine Pw.ret1 rfl rfl ?_
    exact ⟨by rw [← down_eq x b hb, if_pos g'], Below.refl _ _⟩
  · intro g
    have g' := of_decide_eq_false g
    refine Cw.skip ?_
    refine Pw.thenN (Cw.out ?_)
    refine Cw.seq ?_
    refine Cw.region ?_
    refine Lw.val (Ex.move rfl) rfl ?_
    refine Lw.val (Ex.assign rfl) rfl ?_
    refine Lw.nil ?_
    refine Pw.thenN (Cw.out ?_)
    refine Cw.ret ?_
    refine Pw.ret1 rfl rfl ?_
    exact ⟨by rw [← down_eq x b hb, if_neg g'], Below.refl _ _⟩
theorem shB_eq (j : Nat) (x : BitVec 32) (v : Int) (hv : v = (x.toInt + 2 ^ j / 2) / 2 ^ j) : i32 (BitVec.ofInt 32 (if (if (-128 : Int) < v then v else -128) < 127 then (if (-128 : Int) < v then v else -128) else 127)) = i32 (shB j x) := by
  unfold shB shI clampI
  subst hv
  congr 2
  rw [Int.one_mul, Int.pow_one]
  generalize (x.toInt + 2 ^ j / 2) / 2 ^ j = z
  split <;> split <;> split <;> omega
theorem rshift_c (a : T4) (n : Int) (W : World) (h_a : a.at W) : Fnc Tryz.prog 19 [a.v, .int .i64 n] W (fun r w' => Below W.heap.size W w' ∧ Ans W w' r (eSh a.s a.l n) a.s (z1 (shB n.toNat) a.s a.l)) := by
  have hB := Below.refl W.heap.size W
  refine Fnc.enter (n := 62) Tryz.func19 (by kernel_rfl) rfl rfl rfl ?_
  refine Cw.seq ?_
  refine Cw.region ?_
  refine Lw.boxV (cs := [a.x, a.y]) rfl rfl rfl ?_
  rintro A_a w eA_a b_a hn -
  replace hB := hB.bs hn
  replace h_a := h_a.bs hn
  clear hn
  have zr := below_size hB
  refine Lw.newA it_25 rfl ?_
  rintro A_r w eA_r b_r hn -
  replace hB := hB.bs hn
  replace h_a := h_a.bs hn
  replace b_a := b_a.bs hn
  clear hn
  refine Lw.val (Ex.assign rfl) rfl ?_
  refine Lw.nil ?_
  refine Pw.thenN (Cw.out ?_)
  refine Cw.seq ?_
  refine Cw.seq ?_
  refine Cw.region ?_
  refine Lw.val (Ex.ldA (ag_25 _) (sz_25 _) rfl rfl (by assumption)) rfl ?_
  have z_r := blk_lt b_r
  have zr : W.heap.size ≤ A_r := by omega
  refine Lw.callF rfl rfl (rtcheck_c a.x a.y a.s a.l _ h_a.1 h_a.2) ?_
  rintro _ w ⟨rfl, hn⟩
  replace hB := hB.bs hn
  replace h_a := h_a.bs hn
  replace b_a := b_a.bs hn
  replace b_r := b_r.bs hn
  clear hn
  refine Lw.val (Ex.not rfl) rfl ?_
  refine Lw.val (Ex.move rfl) rfl ?_
  refine Lw.part 14 rfl ?_ ?_
  · intro g
    have e : eSh a.s a.l n = 1 := by unfold eSh e1; split; rfl; rw [if_neg]; simp at g; simp [g]
    refine Lw.pass (dj := 14) rfl rfl rfl rfl ?_
    refine Lw.pass (dj := 14) rfl rfl rfl rfl ?_
    refine Lw.val (Ex.pickT rfl rfl) rfl ?_
    refine Lw.val (Ex.move rfl) rfl ?_
    refine Lw.pass (dj := 18) rfl rfl rfl rfl ?_
    refine Lw.pass (dj := 18) rfl rfl rfl rfl ?_
    refine Lw.val (Ex.pickT rfl rfl) rfl ?_
    refine Lw.nil ?_
    refine Pw.thenN (Cw.out ?_)
    refine Cw.condT rfl ?_
    refine Cw.seq ?_
    refine Cw.region ?_
    refine Lw.val (Ex.build (vs := []) (cs := [.slice none 0 0, .slice none 0 0]) rfl (by kernel_rfl)) rfl ?_
    refine Lw.unit (Xu.stA (cs := [.slice none 0 0, .slice none 0 0]) rfl rfl rfl rfl rfl b_r rfl) ?_
    rintro w9 ⟨b_r, hg, -⟩
    have hB := hB.grown hg (below_size hB) (by rintro _ ⟨⟩; omega)
    refine Lw.val (Ex.assign rfl) rfl ?_
    refine Lw.nil ?_
    refine Pw.thenN (Cw.out ?_)
    refine Cw.ret ?_
    refine Pw.thenR ?_
    refine Pw.retCT rfl rfl rfl (by assumption) (Tryz.underlying25) rfl rfl rfl ?_
    exact ⟨hB, _, _, by rw [e], fun _ => ⟨rfl, rfl⟩, fun h => by rw [e] at h; cases h⟩
  intro g
  have t_a : tok a.s a.l = true := by simpa using g
  refine Lw.take (dj := 14) rfl rfl ?_
  refine Lw.val (Ex.move rfl) rfl ?_
  refine Lw.take (dj := 14) rfl rfl ?_
  refine Lw.val (Ex.lss rfl rfl) rfl ?_
  refine Lw.val (Ex.pickF rfl rfl) rfl ?_
  refine Lw.val (Ex.move rfl) rfl ?_
  refine Lw.part 18 rfl ?_ ?_
  · intro g
    have g' := of_decide_eq_true g
    have e : eSh a.s a.l n = 1 := by unfold eSh; rw [if_pos (.inl g')]
    refine Lw.pass (dj := 18) rfl rfl rfl rfl ?_
    refine Lw.pass (dj := 18) rfl rfl rfl rfl ?_
    refine Lw.val (Ex.pickT rfl rfl) rfl ?_
    refine Lw.nil ?_
    refine Pw.thenN (Cw.out ?_)
    refine Cw.condT rfl ?_
    refine Cw.seq ?_
    refine Cw.region ?_
    refine Lw.val (Ex.build (vs := []) (cs := [.slice none 0 0, .slice none 0 0]) rfl (by kernel_rfl)) rfl ?_
    refine Lw.unit (Xu.stA (cs := [.slice none 0 0, .slice none 0 0]) rfl rfl rfl rfl rfl b_r rfl) ?_
    rintro w9 ⟨b_r, hg, -⟩
    have hB := hB.grown hg (below_size hB) (by rintro _ ⟨⟩; omega)
    refine Lw.val (Ex.assign rfl) rfl ?_
    refine Lw.nil ?_
    refine Pw.thenN (Cw.out ?_)
    refine Cw.ret ?_
    refine Pw.thenR ?_
    refine Pw.retCT rfl rfl rfl (by assumption) (Tryz.underlying25) rfl rfl rfl ?_
    exact ⟨hB, _, _, by rw [e], fun _ => ⟨rfl, rfl⟩, fun h => by rw [e] at h; cases h⟩
  intro g
  have g1 := of_decide_eq_false g
  refine Lw.take (dj := 18) rfl rfl ?_
  refine Lw.val (Ex.move rfl) rfl ?_
  refine Lw.take (dj := 18) rfl rfl ?_
  refine Lw.val (Ex.gtr rfl rfl) rfl ?_
  refine Lw.val (Ex.pickF rfl rfl) rfl ?_
  refine Lw.nil ?_
  refine Pw.thenN (Cw.out ?_)
  refine Cw.cond rfl ?_ ?_
  · intro g
    have g' := of_decide_eq_true g
    have e : eSh a.s a.l n = 1 := by unfold eSh; rw [if_pos (.inr (by omega))]
    refine Cw.seq ?_
    refine Cw.region ?_
    refine Lw.val (Ex.build (vs := []) (cs := [.slice none 0 0, .slice none 0 0]) rfl (by kernel_rfl)) rfl ?_
    refine Lw.unit (Xu.stA (cs := [.slice none 0 0, .slice none 0 0]) rfl rfl rfl rfl rfl b_r rfl) ?_
    rintro w9 ⟨b_r, hg, -⟩
    have hB := hB.grown hg (below_size hB) (by rintro _ ⟨⟩; omega)
    refine Lw.val (Ex.assign rfl) rfl ?_
    refine Lw.nil ?_
    refine Pw.thenN (Cw.out ?_)
    refine Cw.ret ?_
    refine Pw.thenR ?_
    refine Pw.retCT rfl rfl rfl (by assumption) (Tryz.underlying25) rfl rfl rfl ?_
    exact ⟨hB, _, _, by rw [e], fun _ => ⟨rfl, rfl⟩, fun h => by rw [e] at h; cases h⟩
  intro g
  have g2 := of_decide_eq_false g
  have e0 : eSh a.s a.l n = 0 := by unfold eSh e1; rw [if_neg (by omega), if_pos t_a]
  rw [e0]
  obtain ⟨j, rfl⟩ := Int.eq_ofNat_of_zero_le (show 0 ≤ n by omega)
  have hj : j ≤ 31 := by omega
  have hp := pow_le j hj
  rw [Int.toNat_natCast]
  refine Cw.skip ?_
  refine Pw.thenN (Cw.out ?_)
  refine Cw.seq ?_
  refine Cw.region ?_
  refine Lw.val (Ex.assign rfl) rfl ?_
  refine Lw.nil ?_
  refine Pw.thenN (Cw.out ?_)
  refine Cw.seq ?_
  refine Cw.seq ?_
  refine Cw.region ?_
  refine Lw.val (Ex.assign rfl) rfl ?_
  refine Lw.nil ?_
  refine Pw.thenN (Cw.out ?_)
  refine Cw.block ?_
  refine Cw.loop (S := Nat) (fun i => [(1, .int .i64 (j : Int)), (2, .pointer (some ⟨A_a, 0, none⟩)), (4, .pointer (some ⟨A_r, 0, none⟩)), (5, .int .i64 0), (6, .int .i64 (2 ^ i)), (7, .int .i64 (i : Int))]) (fun i w' => i ≤ j ∧ w = w') (fun i => j - i) (0) ⟨rfl, rfl, rfl, rfl, rfl, rfl, trivial⟩ ?_ ?_
  · exact ⟨by omega, rfl⟩
  rintro i w2 ⟨hi, rfl⟩
  refine Cw.seq ?_
  refine Cw.seq ?_
  refine Cw.region ?_
  refine Lw.val (Ex.move rfl) rfl ?_
  refine Lw.val (Ex.move rfl) rfl ?_
  refine Lw.val (Ex.lss rfl rfl) rfl ?_
  refine Lw.nil ?_
  refine Pw.thenN (Cw.out ?_)
  refine Cw.cond rfl ?_ ?_
  · intro h
    have hi' : i < j := by simp at h; omega
    have hpi := pow_le i (by omega)
    refine Cw.skip ?_
    refine Pw.thenN (Cw.out ?_)
    refine Cw.seq ?_
    refine Cw.block ?_
    refine Cw.region ?_
    refine Lw.val (Ex.move rfl) rfl ?_
    refine Lw.val (Ex.mulI rfl rfl (by omega)) rfl ?_
    refine Lw.val (Ex.assign rfl) rfl ?_
    refine Lw.nil ?_
    refine Pw.blkN ?_
    refine Pw.thenN (Cw.out ?_)
    refine Cw.region ?_
    refine Lw.val (Ex.move rfl) rfl ?_
    refine Lw.val (Ex.addI rfl rfl (by omega)) rfl ?_
    refine Lw.val (Ex.assign rfl) rfl ?_
    refine Lw.nil ?_
    exact Pw.thenN (Pw.next (i + 1) ⟨rfl, rfl, rfl, rfl, (by rw [Int.pow_succ, Int.mul_comm]; rfl), rfl, trivial⟩ (⟨hi', rfl⟩) (by omega))
  intro h
  have hi' : j = i := by simp at h; omega
  subst hi'
  clear hi h
  refine Cw.exit ?_
  refine Pw.thenE ?_
  refine Pw.thenE ?_
  refine Pw.blkHit ?_
  refine Pw.thenN (Cw.out ?_)
  refine Cw.seq ?_
  refine Cw.region ?_
  refine Lw.val (Ex.fieldAddr (q := 0) Tryz.underlying25 rfl (sz_22 _) rfl) rfl ?_
  refine Lw.val (Ex.ldB (ag_22 _) rfl (by assumption) rfl) rfl ?_
  have ka := (tok_ok t_a).1
  have hsz := Shapes.size_le a.s
  have la := (tok_ok t_a).2
  have zr := below_size hB
  refine Lw.callF rfl rfl (rnew_c a.x a.s w h_a.1) ?_
  rintro r w3 ⟨hn3, hcase⟩
  obtain ⟨zx, zy, rfl, hz⟩ := new_yes ka hcase
  refine Lw.val (Ex.move rfl) rfl ?_
  refine Lw.val (Ex.extract (i := 0) rfl rfl) rfl ?_
  refine Lw.val (Ex.extract (i := 1) rfl rfl) rfl ?_
  refine Lw.boxed (cs := [zx, zy]) it_25 rfl rfl rfl rfl (fun _ => rfl) (hz.one) ?_
  rintro A_t w4 eA_t b_t hn4 zhn4
  have M := mine_new hz eA_t b_t hn4 zhn4 hn3.size
  have hw4 := bt hn3 hn4
  clear hz b_t hcase eA_t hn3 hn4 zhn4
  obtain ⟨N, hN⟩ : ∃ N, N = (Shapes.size a.s).toNat := ⟨_, rfl⟩
  rw [← hN] at M la
  have lrep : (List.replicate N 0#32).length = N := List.length_replicate
  obtain ⟨pl, hpl⟩ : ∃ pl, pl = z1 (shB j) a.s a.l := ⟨_, rfl⟩
  have npl : pl.length = (List.replicate N 0#32).length := by rw [hpl, z1_lenN, lrep, hN]
  refine Lw.val (Ex.assign rfl) rfl ?_
  refine Lw.nil ?_
  refine Pw.thenN (Cw.out ?_)
  refine Cw.seq ?_
  refine Cw.seq ?_
  refine Cw.region ?_
  refine Lw.val (Ex.assign rfl) rfl ?_
  refine Lw.nil ?_
  refine Pw.thenN (Cw.out ?_)
  refine Cw.block ?_
  refine Cw.loop (S := Nat) (fun i => [(1, .int .i64 (j : Int)), (2, .pointer (some ⟨A_a, 0, none⟩)), (4, .pointer (some ⟨A_r, 0, none⟩)), (5, .int .i64 0), (6, .int .i64 (2 ^ j)), (8, .pointer (some ⟨A_t, 0, none⟩)), (10, .int .i64 (i : Int))]) (fun i w' => i ≤ N ∧ Below w.heap.size w w' ∧ MineT w' w.heap.size w4.heap.size A_t zx zy a.s (pl.take i ++ (List.replicate N 0#32).drop i)) (fun i => N - i) (0) ⟨rfl, rfl, rfl, rfl, rfl, rfl, rfl, trivial⟩ ?_ ?_
  · exact ⟨by omega, hw4, by rw [td_zero]; exact M⟩
  clear M hw4
  have zrw := blk_lt b_r
  rintro i w5 ⟨hi, hw, M⟩
  have b_t := M.box
  have y_t := M.sly
  have b_a5 := b_a.bs hw
  have y_a := (h_a.bs hw).2
  have lt : (pl.take i ++ (List.replicate N 0#32).drop i).length = N := by rw [td_len npl, lrep]
  refine Cw.seq ?_
  refine Cw.seq ?_
  refine Cw.region ?_
  refine Lw.val (Ex.move rfl) rfl ?_
  refine Lw.val (Ex.fieldAddr (q := 0) Tryz.underlying25 rfl (sz_23 _) rfl) rfl ?_
  refine Lw.val (Ex.ldB (ag_23 _) rfl (by assumption) rfl) rfl ?_
  refine Lw.val (Ex.lenS st_23 rfl (by assumption)) rfl ?_
  refine Lw.val (Ex.lss rfl rfl) rfl ?_
  refine Lw.nil ?_
  refine Pw.thenN (Cw.out ?_)
  refine Cw.cond rfl ?_ ?_
  · intro h
    have hi' : i < N := by rw [lt] at h; simp at h; omega
    have hir : i < (List.replicate N 0#32).length := by omega
    have hfull : pl.getD i default = shB j (a.l.getD i default) := by rw [hpl]; exact z1_at (by omega)
    have hlast : (pl.take i ++ (List.replicate N 0#32).drop i).set i (shB j (a.l.getD i default)) = pl.take (i + 1) ++ (List.replicate N 0#32).drop (i + 1) := by rw [← hfull]; exact td_set npl hir
    have x3 : 0 ≤ (2 : Int) ^ j / 2 ∧ (2 : Int) ^ j / 2 ≤ 2147483648 := by omega
    have x4 := toInt_bd (a.l.getD i default)
    refine Cw.skip ?_
    refine Pw.thenN (Cw.out ?_)
    refine Cw.seq ?_
    refine Cw.block ?_
    refine Cw.tail 18 mixed (by kernel_rfl) ?_
    refine Qw.val (fun w1 hq => Ex.fieldAddr (q := 0) Tryz.underlying25 rfl (sz_23 _) rfl) rfl ?_
    refine Qw.val (fun w1 hq => Ex.ldB (ag_23 _) rfl (Blk.bs (by assumption) hq) rfl) rfl ?_
    refine Qw.val (fun w1 hq => Ex.move rfl) rfl ?_
    refine Qw.val (fun w1 hq => Ex.fieldAddr (q := 0) Tryz.underlying25 rfl (sz_23 _) rfl) rfl ?_
    refine Qw.val (fun w1 hq => Ex.ldB (ag_23 _) rfl (Blk.bs (by assumption) hq) rfl) rfl ?_
    refine Qw.val (fun w1 hq => Ex.move rfl) rfl ?_
    refine Qw.val (fun w1 hq => Ex.idxT st_23 rfl rfl (Sl.bs (by assumption) hq) _ rfl (by omega)) rfl ?_
    refine Qw.val (fun w1 hq => Ex.ldT (ag_21 _) rfl (Sl.bs (by assumption) hq) (by omega)) rfl ?_
    refine Qw.val (fun w1 hq => Ex.convi32_I us_21 un_2 rfl) rfl ?_
    refine Qw.val (fun w1 hq => Ex.move rfl) rfl ?_
    refine Qw.val (fun w1 hq => Ex.quoI rfl rfl (by omega) (by decide)) rfl ?_
    refine Qw.val (fun w1 hq => Ex.addI rfl rfl (by omega)) rfl ?_
    refine Qw.val (fun w1 hq => Ex.move rfl) rfl ?_
    refine Qw.callF rfl rfl (fun w1 hq => (rdown_c _ _ w1 (by omega) (by omega)).q hq) ?_
    refine Qw.val (fun w1 hq => Ex.max2 rfl rfl) rfl ?_
    refine Qw.val (fun w1 hq => Ex.min2 rfl rfl) rfl ?_
    refine Qw.val (fun w1 hq => (Ex.convi32 us_2 un_21 rfl).as (shB_eq j _ _ rfl)) rfl ?_
    refine Qw.val (fun w1 hq => Ex.idxT st_23 rfl rfl (Sl.bs (by assumption) hq) _ rfl (by omega)) rfl ?_
    refine Qw.done (fun w6 hq => ?_)
    refine Lw.unit ((M.bs hq).st (sz_21 _) rfl rfl (by omega)) ?_
    rintro w7 ⟨M7, hg7, -⟩
    rw [hlast] at M7
    refine Lw.nil ?_
    refine Pw.blkN ?_
    refine Pw.thenN (Cw.out ?_)
    refine Cw.region ?_
    refine Lw.val (Ex.move rfl) rfl ?_
    refine Lw.val (Ex.addI rfl rfl (by omega)) rfl ?_
    refine Lw.val (Ex.assign rfl) rfl ?_
    refine Lw.nil ?_
    exact Pw.thenN (Pw.next (i + 1) ⟨rfl, rfl, rfl, rfl, rfl, rfl, rfl, trivial⟩ (⟨hi', (M.bs hq).below (bt hw hq) (Nat.le_refl _) hg7, M7⟩) (by omega))
  intro h
  have hi' : i = N := by rw [lt] at h; simp at h; omega
  subst hi'
  have hall : pl.take i ++ (List.replicate i 0#32).drop i = pl := by
    have := td_all npl
    rwa [lrep] at this
  rw [hall] at M
  have b_t6 := M.box
  have b_r6 := b_r.bs hw
  refine Cw.exit ?_
  refine Pw.thenE ?_
  refine Pw.thenE ?_
  refine Pw.blkHit ?_
  refine Pw.thenN (Cw.out ?_)
  refine Cw.seq ?_
  refine Cw.region ?_
  refine Lw.val (Ex.ldA (ag_25 _) (sz_25 _) rfl rfl (by assumption)) rfl ?_
  refine Lw.unit (Xu.stA (cs := [zx, zy]) rfl rfl rfl rfl (by simp [M.sh.one', M.sly.one']) b_r6 rfl) ?_
  rintro w9 ⟨b_r9, hg9, -⟩
  have M9 := M.keep hg9 (by rintro _ ⟨⟩; omega)
  have zW := below_size hB
  have hB9 := (bt hB hw).grown hg9 (below_size (bt hB hw)) (by rintro _ ⟨⟩; omega)
  refine Lw.val (Ex.assign rfl) rfl ?_
  refine Lw.nil ?_
  refine Pw.thenN (Cw.out ?_)
  refine Cw.ret ?_
  refine Pw.retCT rfl rfl rfl (by assumption) (Tryz.underlying25) rfl rfl rfl ?_
  rw [← hpl]
  exact ⟨hB9, zx, zy, rfl, fun h => absurd rfl h, fun _ => ⟨M9.row.mono zW, own_mono M9.lst.own zW, M9.yx⟩⟩
end Go.Proofs.YthgckokpdgiilaaGreatDoor
