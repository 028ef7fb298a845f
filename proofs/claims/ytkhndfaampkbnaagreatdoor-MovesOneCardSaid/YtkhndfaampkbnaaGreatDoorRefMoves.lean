/- Contracts: the document's answers on the same numbers elsewhere. -/
import Derived.Test.YtkhndfaampkbnaaGreatDoorRefCode
import Derived.Test.YtkhndfaampkbnaaGreatDoorMovesSum
import Derived.Test.YtkhndfaampkbnaaGreatDoorPl
namespace Go.Proofs.YtkhndfaampkbnaaGreatDoor
open Go Go.Dd Go.RowKit
set_option maxRecDepth 100000

theorem below_nil {w w' : World} (hg : w.grownBy w' (Value.ownBlock (.slice none 0 0))) : Below w.heap.size w w' := ⟨hg.os, hg.tape, hg.output, hg.size, fun k hk => hg.block k hk (by simp [Value.ownBlock])⟩
theorem rmshape_c (t : T4) (u : Value) (s : List Int) (W : World) (h_t : t.at W) (h_u : SlT (Value.int .i64) W u s) :
    Fnc Tryz.prog 21 [t.v, u] W (fun r w' => Below W.heap.size W w' ∧ AnsK W w' r (mvE t s) s t.l) := by
  have hB := Below.refl W.heap.size W
  refine Fnc.enter (n := 28) Tryz.func21 (by kernel_rfl) rfl rfl rfl ?_
  refine Cw.seq ?_
  refine Cw.region ?_
  refine Lw.boxV (cs := [t.x, t.y]) rfl rfl rfl ?_
  rintro A_t w eA_t b_t hn -
  replace hB := hB.bs hn
  replace h_t := h_t.bs hn
  replace h_u := h_u.bs hn
  clear hn
  have z0 := below_size hB
  have y_t := blk_lt b_t
  refine Lw.newA it_29 rfl ?_
  rintro A_r w eA_r b_r hn -
  replace hB := hB.bs hn
  replace h_t := h_t.bs hn
  replace h_u := h_u.bs hn
  replace b_t := b_t.bs hn
  clear hn
  refine Lw.val (Ex.assign rfl) rfl ?_
  refine Lw.nil ?_
  refine Pw.thenN (Cw.out ?_)
  refine Cw.seq ?_
  refine Cw.seq ?_
  refine Cw.region ?_
  refine Lw.val (Ex.ldA (ag_29 _) (sz_29 _) rfl rfl (by assumption)) rfl ?_
  have z_r := blk_lt b_r
  refine Lw.callF rfl rfl (rtcheck_c t.x t.y t.s t.l _ h_t.1 h_t.2) ?_
  rintro _ w ⟨rfl, hn⟩
  replace hB := hB.bs hn
  replace h_t := h_t.bs hn
  replace h_u := h_u.bs hn
  replace b_t := b_t.bs hn
  replace b_r := b_r.bs hn
  clear hn
  refine Lw.val (Ex.not rfl) rfl ?_
  refine Lw.val (Ex.move rfl) rfl ?_
  refine Lw.part 9 rfl ?_ ?_
  · intro g
    refine Lw.pass (dj := 9) rfl rfl rfl rfl ?_
    refine Lw.pass (dj := 9) rfl rfl rfl rfl ?_
    refine Lw.pass (dj := 9) rfl rfl rfl rfl ?_
    refine Lw.val (Ex.pickT rfl rfl) rfl ?_
    refine Lw.nil ?_
    refine Pw.thenN (Cw.out ?_)
    refine Cw.condT rfl ?_
    refine Cw.seq ?_
    refine Cw.region ?_
    refine Lw.val (Ex.build (vs := []) (cs := [.slice none 0 0, .slice none 0 0]) rfl (by kernel_rfl)) rfl ?_
    refine Lw.unit (Xu.stA (cs := [.slice none 0 0, .slice none 0 0]) rfl rfl rfl rfl rfl b_r rfl) ?_
    rintro w3 ⟨b_r, hg, -⟩
    have hB := hB.grown hg (below_size hB) (by rintro _ ⟨⟩; omega)
    refine Lw.val (Ex.assign rfl) rfl ?_
    refine Lw.nil ?_
    refine Pw.thenN (Cw.out ?_)
    refine Cw.ret ?_
    refine Pw.thenR ?_
    refine Pw.retCT rfl rfl rfl (by assumption) (Tryz.underlying29) rfl rfl rfl ?_
    rw [show mvE t s = 1 by simp_all [mvE]]
    exact ⟨hB, ansK_no (by decide)⟩
  intro g1
  refine Lw.take (dj := 9) rfl rfl ?_
  refine Lw.val (Ex.move rfl) rfl ?_
  refine Lw.take (dj := 9) rfl rfl ?_
  refine Lw.callF rfl rfl (rcheck_c u s _ h_u) ?_
  rintro _ w ⟨rfl, hn⟩
  replace hB := hB.bs hn
  replace h_t := h_t.bs hn
  replace h_u := h_u.bs hn
  replace b_t := b_t.bs hn
  replace b_r := b_r.bs hn
  clear hn
  refine Lw.take (dj := 9) rfl rfl ?_
  refine Lw.val (Ex.not rfl) rfl ?_
  refine Lw.val (Ex.pickF rfl rfl) rfl ?_
  refine Lw.nil ?_
  refine Pw.thenN (Cw.out ?_)
  refine Cw.cond rfl ?_ ?_
  · intro g
    refine Cw.seq ?_
    refine Cw.region ?_
    refine Lw.val (Ex.build (vs := []) (cs := [.slice none 0 0, .slice none 0 0]) rfl (by kernel_rfl)) rfl ?_
    refine Lw.unit (Xu.stA (cs := [.slice none 0 0, .slice none 0 0]) rfl rfl rfl rfl rfl b_r rfl) ?_
    rintro w3 ⟨b_r, hg, -⟩
    have hB := hB.grown hg (below_size hB) (by rintro _ ⟨⟩; omega)
    refine Lw.val (Ex.assign rfl) rfl ?_
    refine Lw.nil ?_
    refine Pw.thenN (Cw.out ?_)
    refine Cw.ret ?_
    refine Pw.thenR ?_
    refine Pw.retCT rfl rfl rfl (by assumption) (Tryz.underlying29) rfl rfl rfl ?_
    rw [show mvE t s = 1 by simp_all [mvE]]
    exact ⟨hB, ansK_no (by decide)⟩
  intro g2
  have k_t : tok t.s t.l = true := by simpa using g1
  have k_s : Shapes.ok s = true := by simpa using g2
  have szs := Shapes.size_le s
  have szt := Shapes.size_le t.s
  have lt := (tok_ok k_t).2
  have S := (Shapes.ok_iff s).1 k_s
  clear g1 g2
  have h_t2 := h_t.2
  refine Cw.skip ?_
  refine Pw.thenN (Cw.out ?_)
  refine Cw.seq ?_
  refine Cw.seq ?_
  refine Cw.quiet mixed (by kernel_rfl) ?_
  refine Qw.val (fun w1 hq => Ex.move rfl) rfl ?_
  refine Qw.callF rfl rfl (fun w1 hq => (rsize_c u s w1 (h_u.bs hq)).q hq) ?_
  refine Qw.val (fun w1 hq => Ex.fieldAddr (q := 0) Tryz.underlying29 rfl (sz_27 _) rfl) rfl ?_
  refine Qw.val (fun w1 hq => Ex.ldB (ag_27 _) rfl (Blk.bs (by assumption) hq) rfl) rfl ?_
  refine Qw.val (fun w1 hq => Ex.lenS st_27 rfl (Sl.bs (by assumption) hq)) rfl ?_
  refine Qw.val (fun w1 hq => Ex.neq rfl rfl) rfl ?_
  refine Qw.nil (fun w1 hq => ?_)
  refine Pw.thenN (Cw.out ?_)
  replace hB := hB.bs hq
  replace h_t := h_t.bs hq
  replace h_u := h_u.bs hq
  replace b_t := b_t.bs hq
  replace b_r := b_r.bs hq
  replace h_t2 := h_t2.bs hq
  clear hq
  refine Cw.cond rfl ?_ ?_
  · intro g
    have g : ¬ Shapes.size s = (t.l.length : Int) := by simpa using g
    refine Cw.seq ?_
    refine Cw.region ?_
    refine Lw.val (Ex.build (vs := []) (cs := [.slice none 0 0, .slice none 0 0]) rfl (by kernel_rfl)) rfl ?_
    refine Lw.unit (Xu.stA (cs := [.slice none 0 0, .slice none 0 0]) rfl rfl rfl rfl rfl b_r rfl) ?_
    rintro w3 ⟨b_r, hg, -⟩
    have hB := hB.grown hg (below_size hB) (by rintro _ ⟨⟩; omega)
    refine Lw.val (Ex.assign rfl) rfl ?_
    refine Lw.nil ?_
    refine Pw.thenN (Cw.out ?_)
    refine Cw.ret ?_
    refine Pw.thenR ?_
    refine Pw.retCT rfl rfl rfl (by assumption) (Tryz.underlying29) rfl rfl rfl ?_
    rw [show mvE t s = 10 by unfold mvE; rw [k_t, k_s]; simp [g]]
    exact ⟨hB, ansK_no (by decide)⟩
  intro g
  have g : Shapes.size s = (t.l.length : Int) := by simpa using g
  rw [show mvE t s = 0 by unfold mvE; rw [k_t, k_s]; simp [g]]
  refine Cw.skip ?_
  refine Pw.thenN (Cw.out ?_)
  refine Cw.seq ?_
  rename World => w1
  have zW := below_size hB
  have q_r : A_r < w1.heap.size := blk_lt b_r
  have b_t0 := b_t
  have h_t20 := h_t2
  refine Cw.any mixed (fun w hcw _ => ?_)
  replace hB := hB.bs hcw
  replace h_t := h_t.bs hcw
  replace h_u := h_u.bs hcw
  replace b_t := b_t.bs hcw
  replace b_r := b_r.bs hcw
  replace h_t2 := h_t2.bs hcw
  have a_tr : A_t < A_r := by omega
  refine Aw.cls (fun w' => Below A_r w1 w') (fun hC => ?_) (hcw.mono (by omega))
  refine AwC.take (i := 0) (NoP.thn NoP.ret) rfl (by kernel_rfl) (by kernel_rfl) (by kernel_rfl) (fun w1 hc => Ex.move rfl) rfl ?_
  refine AwC.take (i := 2) (NoP.thn NoP.ret) rfl (by kernel_rfl) (by kernel_rfl) (by kernel_rfl) (fun w1 hc => Ex.fieldAddr (q := 0) Tryz.underlying29 rfl (sz_27 _) rfl) rfl ?_
  refine AwC.take (i := 3) (NoP.thn NoP.ret) rfl (by kernel_rfl) (by kernel_rfl) (by kernel_rfl) (fun w1 hc => Ex.ldB (ag_27 _) rfl (Blk.bl (by assumption) hc a_tr) rfl) rfl ?_
  refine AwC.only (by first | exact hcr | exact hcw.mono (by omega)) (i := 1) (by kernel_rfl) rfl ?_
  have zc := hcw.size
  refine Lw.valW (Xw.append3 (k := 0) (xs := []) st_26 it_3 rfl (by decide) rfl rfl ⟨rfl, .inl ⟨rfl, rfl⟩⟩ h_u (one_map (fun _ => rfl) _) (by omega) (by omega) (Nat.le_refl _)) rfl ?_
  rintro x w ⟨hx, hg, -⟩
  have hn := below_nil hg
  rw [Nat.zero_add, List.nil_append] at hx
  have hx := own_mono (B' := w1.heap.size) hx (by omega)
  clear zc hg
  replace hB := hB.bs hn
  replace h_t := h_t.bs hn
  replace h_u := h_u.bs hn
  replace b_t := b_t.bs hn
  replace b_r := b_r.bs hn
  replace h_t2 := h_t2.bs hn
  replace hcw := hcw.bs hn
  clear hn
  refine AwC.back ?_
  refine AwC.only (by first | exact hcr | exact hcw.mono (by omega)) (i := 4) (by kernel_rfl) rfl ?_
  have zc := hcw.size
  have zx : ∀ b, x.ownBlock = some b → b < _ := fun b e => (own_block hx b e).2
  refine Lw.valW (Xw.append3 (k := 0) (xs := []) st_27 it_21 rfl (by decide) rfl rfl ⟨rfl, .inl ⟨rfl, rfl⟩⟩ h_t2 (one_map (fun _ => rfl) _) (by omega) (by omega) (Nat.le_refl _)) rfl ?_
  rintro y w ⟨hy, hg, -⟩
  have hn := below_nil hg
  rw [Nat.zero_add, List.nil_append] at hy
  have py := own_block hy
  have hy := own_mono (B' := w1.heap.size) hy (by omega)
  clear zc hg
  replace hB := hB.bs hn
  replace h_t := h_t.bs hn
  replace h_u := h_u.bs hn
  replace b_t := b_t.bs hn
  replace b_r := b_r.bs hn
  replace h_t2 := h_t2.bs hn
  replace hcw := hcw.bs hn
  replace hx := hx.bs hn
  clear hn
  refine AwC.back ?_
  refine AwC.take (i := 5) (NoP.thn NoP.ret) rfl (by kernel_rfl) (by kernel_rfl) (by kernel_rfl) (fun w1 hc => Ex.build (vs := [(0, x), (1, y)]) (cs := [x, y]) rfl (bt_ten _ _ (own_sl hx).one (own_sl hy).one)) rfl ?_
  refine AwC.only (by first | exact hcr | exact hcw.mono (by omega)) (i := 6) (by kernel_rfl) rfl ?_
  have hxy : [x, y].all (·.oneCell') = true := by simp [(own_sl hx).one', (own_sl hy).one']
  refine Lw.unit (Xu.stA (cs := [x, y]) rfl rfl rfl rfl hxy b_r rfl) ?_
  rintro w2 ⟨b_r2, hg, -⟩
  have kx := bl_krow (.inl hx) hg q_r
  have ky := bl_krow (.inl hy) hg q_r
  have hB := hB.grown hg (below_size hB) (by rintro _ ⟨⟩; omega)
  have hcr : Below A_r w1 w2 := (hcw.mono (by omega)).grown hg (by have := hcw.size; omega) (by rintro _ ⟨⟩; omega)
  refine AwC.back ?_
  refine AwC.take (i := 7) (NoP.thn NoP.ret) rfl (by kernel_rfl) (by kernel_rfl) (by kernel_rfl) (fun w1 hc => Ex.assign rfl) rfl ?_
  refine AwC.done (by first | exact hcr | exact hcw.mono (by omega)) (by kernel_rfl) ?_
  refine Pw.thenN (Cw.out ?_)
  refine Cw.ret ?_
  refine Pw.retCT rfl rfl rfl (by assumption) (Tryz.underlying29) rfl rfl rfl ?_
  exact ⟨hB, x, y, rfl, fun h => absurd rfl h, fun _ => ⟨kx.mono zW, ky.mono zW, fun b e1 e2 => by
    have h1 := py b e1
    have h2 := zx b e2
    omega⟩⟩
theorem rturned_c (u v : Value) (s o : List Int) (W : World) (h_u : SlT (Value.int .i64) W u s) (h_v : SlT (Value.int .i64) W v o) (ho : ∀ j, j < o.length → 0 ≤ o.getD j default ∧ o.getD j default < (s.length : Int)) (h4 : o.length ≤ 4) :
    Fnc Tryz.prog 107 [u, v] W (fun r w' => Below W.heap.size W w' ∧ w'.ownsRow W.heap.size 3 1 r o.length ((turn s o).map (Value.int .i64))) := by
  refine Fnc.enter (n := 24) Tryz.func107 (by kernel_rfl) rfl rfl rfl ?_
  refine Cw.seq ?_
  refine Cw.region ?_
  refine Lw.val (Ex.assign rfl) rfl ?_
  refine Lw.nil ?_
  refine Pw.thenN (Cw.out ?_)
  refine Cw.seq ?_
  refine Cw.region ?_
  refine Lw.val (Ex.assign rfl) rfl ?_
  refine Lw.nil ?_
  refine Pw.thenN (Cw.out ?_)
  refine Cw.seq ?_
  refine Cw.seq ?_
  refine Cw.region ?_
  refine Lw.val (Ex.assign rfl) rfl ?_
  refine Lw.nil ?_
  refine Pw.thenN (Cw.out ?_)
  refine Cw.block ?_
  refine Cw.loop (S := (Nat × Value)) (fun z => [(0, u), (1, v), (5, z.2), (6, .int .i64 (z.1 : Int))]) (fun z w' => z.1 ≤ o.length ∧ Below W.heap.size W w' ∧ w'.ownsRow W.heap.size 3 1 z.2 z.1 (((turn s o).take z.1).map (Value.int .i64))) (fun z => o.length - z.1) ((0, .slice none 0 0)) ⟨rfl, rfl, rfl, rfl, trivial⟩ ?_ ?_
  · exact ⟨Nat.zero_le _, Below.refl _ _, World.ownsRow_nil _ _ _ _⟩
  rintro ⟨i, x⟩ w1 ⟨hi, hB, hx⟩
  dsimp only at hi hx ⊢
  have h_u1 := h_u.bs hB
  have h_v1 := h_v.bs hB
  have zB := hB.size
  refine Cw.seq ?_
  refine Cw.seq ?_
  refine Cw.region ?_
  refine Lw.val (Ex.move rfl) rfl ?_
  refine Lw.val (Ex.move rfl) rfl ?_
  refine Lw.val (Ex.lenS st_26 rfl (by assumption)) rfl ?_
  refine Lw.val (Ex.lss rfl rfl) rfl ?_
  refine Lw.nil ?_
  refine Pw.thenN (Cw.out ?_)
  refine Cw.cond rfl ?_ ?_
  · intro g
    have hi' : i < o.length := by have := of_decide_eq_true g; omega
    have hr := ho i hi'
    obtain ⟨k, hk⟩ : ∃ k : Nat, o.getD i default = (k : Int) := ⟨_, (Int.toNat_of_nonneg hr.1).symm⟩
    have hks : k < s.length := by omega
    have lt := turn_length s o
    have e1 : (turn s o).take (i + 1) = (turn s o).take i ++ [s.getD k default] := by
      have e : (turn s o).getD i default = s.getD k default := by rw [turn_at hi', hk, Int.toNat_natCast]
      have hi2 : i < (turn s o).length := by omega
      rw [List.take_succ_eq_append_getElem hi2, ← e]; simp [hi2]
    refine Cw.skip ?_
    refine Pw.thenN (Cw.out ?_)
    refine Cw.seq ?_
    refine Cw.block ?_
    refine Cw.region ?_
    refine Lw.val (Ex.move rfl) rfl ?_
    refine Lw.val (Ex.move rfl) rfl ?_
    refine Lw.val (Ex.move rfl) rfl ?_
    refine Lw.val (Ex.move rfl) rfl ?_
    refine Lw.val (Ex.idxT st_26 rfl rfl (by assumption) _ rfl (by omega)) rfl ?_
    refine Lw.val ((Ex.ldT (ag_3 _) rfl h_v1 hi').as (congrArg (Value.int .i64) hk)) rfl ?_
    refine Lw.val (Ex.idxT st_26 rfl rfl h_u1 k rfl hks) rfl ?_
    refine Lw.val (Ex.ldT (ag_3 _) rfl (by assumption) (by omega)) rfl ?_
    refine Lw.valW (Xw.lit (vs := [s.getD k default].map (Value.int .i64)) st_26 it_3 rfl rfl rfl rfl rfl) rfl ?_
    rintro q w2 ⟨hq, -, hn, -⟩
    have hx := own_bs hx hn
    have hB := bt hB hn
    have zB := hB.size
    refine Lw.valW (Xw.append (base := W.heap.size) st_26 it_3 rfl (by decide) rfl rfl hx (own_sl hq) (one_map (fun _ => rfl) _) (by omega) (by omega) zB) rfl ?_
    rintro y w3 ⟨hy, hn3, -⟩
    have hB := hB.trans hn3
    rw [← List.map_append, ← e1] at hy
    refine Lw.val (Ex.assign rfl) rfl ?_
    refine Lw.nil ?_
    refine Pw.blkN ?_
    refine Pw.thenN (Cw.out ?_)
    refine Cw.region ?_
    refine Lw.val (Ex.move rfl) rfl ?_
    refine Lw.val (Ex.addI rfl rfl (by omega)) rfl ?_
    refine Lw.val (Ex.assign rfl) rfl ?_
    refine Lw.nil ?_
    exact Pw.thenN (Pw.next ((i + 1, y)) ⟨rfl, rfl, rfl, rfl, trivial⟩ (⟨hi', hB, hy⟩) (by simp only; omega))
  intro g
  have hi' : i = o.length := by have := of_decide_eq_false g; omega
  rw [hi', List.take_of_length_le (by rw [turn_length]; exact Nat.le_refl _)] at hx
  refine Cw.exit ?_
  refine Pw.thenE ?_
  refine Pw.thenE ?_
  refine Pw.blkHit ?_
  refine Pw.thenN (Cw.out ?_)
  refine Cw.seq ?_
  refine Cw.region ?_
  refine Lw.val (Ex.move rfl) rfl ?_
  refine Lw.val (Ex.assign rfl) rfl ?_
  refine Lw.nil ?_
  refine Pw.thenN (Cw.out ?_)
  refine Cw.ret ?_
  refine Pw.ret1 rfl rfl ?_
  exact ⟨hB, hx⟩
theorem wo_take {s : List Int} {k i : Nat} (h : i < s.length) : wo (s.take (i + 1)) k = if i = k then wo (s.take i) k else wo (s.take i) k ++ [s.getD i default] := by
  have e : s.take (i + 1) = s.take i ++ [s.getD i default] := by rw [List.take_succ_eq_append_getElem h]; simp [h]
  have l : (s.take i).length = i := by rw [List.length_take]; omega
  unfold wo
  rw [e, List.take_append, List.drop_append, l]
  by_cases g : i = k
  · subst g
    rw [if_pos rfl, Nat.sub_self, List.take_zero, List.append_nil, List.drop_of_length_le (by rw [l]; omega)]
    rw [List.drop_of_length_le (by simp)]
    simp
  · rw [if_neg g]
    rcases Nat.lt_or_ge i k with h1 | h1
    · have q1 : (s.take i).drop (k + 1) = [] := List.drop_of_length_le (by omega)
      have q2 : [s.getD i default].drop (k + 1 - i) = [] := List.drop_of_length_le (by simp; omega)
      have q3 : [s.getD i default].take (k - i) = [s.getD i default] := List.take_of_length_le (by simp; omega)
      rw [q1, q2, q3]; simp
    · rw [show k - i = 0 by omega, show k + 1 - i = 0 by omega, List.take_zero, List.drop_zero, List.append_nil, List.append_assoc]
theorem rwithout_c (u : Value) (s : List Int) (k : Nat) (W : World) (h_u : SlT (Value.int .i64) W u s) (hk : k < s.length) (h4 : s.length ≤ 4) :
    Fnc Tryz.prog 108 [u, .int .i64 (k : Int)] W (fun r w' => Below W.heap.size W w' ∧ w'.ownsRow W.heap.size 3 1 r (without s k).length ((without s k).map (Value.int .i64))) := by
  refine Fnc.enter (n := 28) Tryz.func108 (by kernel_rfl) rfl rfl rfl ?_
  refine Cw.seq ?_
  refine Cw.region ?_
  refine Lw.val (Ex.assign rfl) rfl ?_
  refine Lw.nil ?_
  refine Pw.thenN (Cw.out ?_)
  refine Cw.seq ?_
  refine Cw.region ?_
  refine Lw.val (Ex.assign rfl) rfl ?_
  refine Lw.nil ?_
  refine Pw.thenN (Cw.out ?_)
  refine Cw.seq ?_
  refine Cw.seq ?_
  refine Cw.region ?_
  refine Lw.val (Ex.assign rfl) rfl ?_
  refine Lw.nil ?_
  refine Pw.thenN (Cw.out ?_)
  refine Cw.block ?_
  refine Cw.loop (S := (Nat × Value)) (fun z => [(0, u), (1, .int .i64 (k : Int)), (5, z.2), (6, .int .i64 (z.1 : Int))]) (fun z w' => z.1 ≤ s.length ∧ Below W.heap.size W w' ∧ w'.ownsRow W.heap.size 3 1 z.2 (wo (s.take z.1) k).length ((wo (s.take z.1) k).map (Value.int .i64))) (fun z => s.length - z.1) ((0, .slice none 0 0)) ⟨rfl, rfl, rfl, rfl, trivial⟩ ?_ ?_
  · exact ⟨Nat.zero_le _, Below.refl _ _, by show W.ownsRow _ _ _ _ (wo (s.take 0) k).length ((wo (s.take 0) k).map _); rw [show wo (s.take 0) k = [] by simp [wo]]; exact World.ownsRow_nil _ _ _ _⟩
  rintro ⟨i, x⟩ w1 ⟨hi, hB, hx⟩
  dsimp only at hi hx ⊢
  have h_u1 := h_u.bs hB
  have zB := hB.size
  have ll : (wo (s.take i) k).length ≤ i := by
    unfold wo
    rw [List.length_append, List.length_take, List.length_drop, List.length_take]; omega
  refine Cw.seq ?_
  refine Cw.seq ?_
  refine Cw.region ?_
  refine Lw.val (Ex.move rfl) rfl ?_
  refine Lw.val (Ex.move rfl) rfl ?_
  refine Lw.val (Ex.lenS st_26 rfl (by assumption)) rfl ?_
  refine Lw.val (Ex.lss rfl rfl) rfl ?_
  refine Lw.nil ?_
  refine Pw.thenN (Cw.out ?_)
  refine Cw.cond rfl ?_ ?_
  · intro g
    have hi' : i < s.length := by have := of_decide_eq_true g; omega
    have e1 := wo_take (k := k) hi'
    refine Cw.skip ?_
    refine Pw.thenN (Cw.out ?_)
    refine Cw.seq ?_
    refine Cw.block ?_
    refine Cw.seq ?_
    refine Cw.region ?_
    refine Lw.val (Ex.move rfl) rfl ?_
    refine Lw.val (Ex.move rfl) rfl ?_
    refine Lw.val (Ex.neq rfl rfl) rfl ?_
    refine Lw.nil ?_
    refine Pw.thenN (Cw.out ?_)
    refine Cw.cond rfl ?_ ?_
    · intro g2
      have g2 : ¬ i = k := by have := g2; simp at this; omega
      rw [if_neg g2] at e1
      refine Cw.region ?_
      refine Lw.val (Ex.move rfl) rfl ?_
      refine Lw.val (Ex.move rfl) rfl ?_
      refine Lw.val (Ex.move rfl) rfl ?_
      refine Lw.val (Ex.idxT st_26 rfl rfl (by assumption) _ rfl (by omega)) rfl ?_
      refine Lw.val (Ex.ldT (ag_3 _) rfl (by assumption) (by omega)) rfl ?_
      refine Lw.valW (Xw.lit (vs := [s.getD i default].map (Value.int .i64)) st_26 it_3 rfl rfl rfl rfl rfl) rfl ?_
      rintro q w2 ⟨hq, -, hn, -⟩
      have hx := own_bs hx hn
      have hB := bt hB hn
      have zB := hB.size
      refine Lw.valW (Xw.append (base := W.heap.size) st_26 it_3 rfl (by decide) rfl rfl hx (own_sl hq) (one_map (fun _ => rfl) _) (by omega) (by omega) zB) rfl ?_
      rintro y w3 ⟨hy, hn3, -⟩
      have hB := hB.trans hn3
      rw [← List.map_append, ← e1] at hy
      have hy' : w3.ownsRow W.heap.size 3 1 y (wo (s.take (i + 1)) k).length ((wo (s.take (i + 1)) k).map (Value.int .i64)) := by rw [e1, List.length_append, ← e1]; exact hy
      refine Lw.val (Ex.assign rfl) rfl ?_
      refine Lw.nil ?_
      refine Pw.blkN ?_
      refine Pw.thenN (Cw.out ?_)
      refine Cw.region ?_
      refine Lw.val (Ex.move rfl) rfl ?_
      refine Lw.val (Ex.addI rfl rfl (by omega)) rfl ?_
      refine Lw.val (Ex.assign rfl) rfl ?_
      refine Lw.nil ?_
      exact Pw.thenN (Pw.next ((i + 1, y)) ⟨rfl, rfl, rfl, rfl, trivial⟩ (⟨hi', hB, hy'⟩) (by simp only; omega))
    intro g2
    have g2 : i = k := by have := g2; simp at this; omega
    rw [if_pos g2] at e1
    refine Cw.skip ?_
    refine Pw.blkN ?_
    refine Pw.thenN (Cw.out ?_)
    refine Cw.region ?_
    refine Lw.val (Ex.move rfl) rfl ?_
    refine Lw.val (Ex.addI rfl rfl (by omega)) rfl ?_
    refine Lw.val (Ex.assign rfl) rfl ?_
    refine Lw.nil ?_
    exact Pw.thenN (Pw.next ((i + 1, x)) ⟨rfl, rfl, rfl, rfl, trivial⟩ (⟨hi', hB, by show w1.ownsRow _ _ _ _ (wo (s.take (i + 1)) k).length ((wo (s.take (i + 1)) k).map _); rw [e1]; exact hx⟩) (by simp only; omega))
  intro g
  have hi' : i = s.length := by have := of_decide_eq_false g; omega
  rw [hi', List.take_length] at hx
  have lw := wo_length hk
  have s_x := own_slT hx
  refine Cw.exit ?_
  refine Pw.thenE ?_
  refine Pw.thenE ?_
  refine Pw.blkHit ?_
  refine Pw.thenN (Cw.out ?_)
  refine Cw.seq ?_
  refine Cw.seq ?_
  refine Cw.region ?_
  refine Lw.val (Ex.move rfl) rfl ?_
  refine Lw.val (Ex.lenS st_26 rfl (by assumption)) rfl ?_
  refine Lw.val (Ex.eql rfl rfl) rfl ?_
  refine Lw.nil ?_
  refine Pw.thenN (Cw.out ?_)
  refine Cw.cond rfl ?_ ?_
  · intro g2
    have g2 : s.length = 1 := by have := of_decide_eq_true g2; omega
    refine Cw.region ?_
    refine Lw.valW (Xw.lit (vs := [(1 : Int)].map (Value.int .i64)) st_26 it_3 rfl rfl rfl rfl rfl) rfl ?_
    rintro q w2 ⟨hq, -, hn, -⟩
    refine Lw.val (Ex.assign rfl) rfl ?_
    refine Lw.nil ?_
    refine Pw.thenN (Cw.out ?_)
    refine Cw.seq ?_
    refine Cw.region ?_
    refine Lw.val (Ex.move rfl) rfl ?_
    refine Lw.val (Ex.assign rfl) rfl ?_
    refine Lw.nil ?_
    refine Pw.thenN (Cw.out ?_)
    refine Cw.ret ?_
    refine Pw.ret1 rfl rfl ?_
    rw [show without s k = [1] by unfold without; rw [if_pos g2]]
    exact ⟨bt hB hn, own_mono hq zB⟩
  intro g2
  have g2 : ¬ s.length = 1 := by have := of_decide_eq_false g2; omega
  refine Cw.skip ?_
  refine Pw.thenN (Cw.out ?_)
  refine Cw.seq ?_
  refine Cw.region ?_
  refine Lw.val (Ex.move rfl) rfl ?_
  refine Lw.val (Ex.assign rfl) rfl ?_
  refine Lw.nil ?_
  refine Pw.thenN (Cw.out ?_)
  refine Cw.ret ?_
  refine Pw.ret1 rfl rfl ?_
  rw [without_wo g2]
  exact ⟨hB, hx⟩
end Go.Proofs.YtkhndfaampkbnaaGreatDoor
