/- Contract: sums along a direction. -/
import Derived.Test.YtkhndfaampkbnaaGreatDoorMovesCode
import Derived.Test.YtkhndfaampkbnaaGreatDoorNumsCode
namespace Go.Proofs.YtkhndfaampkbnaaGreatDoor
open Go Go.Dd Go.RowKit
set_option maxRecDepth 100000

theorem apartF_c (u : Value) (s : List Int) (k a : Nat) (w : World) (h_u : SlT (Value.int .i64) w u s) (hok : Shapes.ok s = true) (hk : k < s.length) (ha : Shapes.prod (s.drop (k + 1)) = (a : Int)) :
    Fnc Tryz.prog 102 [.agg #[u, .int .i64 (k : Int)]] w (fun r w' => r = .int .i64 (a : Int) ∧ Below w.heap.size w w') := by
  have hB := Below.refl w.heap.size w
  refine Fnc.enter (n := 8) Tryz.func102 (by kernel_rfl) rfl rfl rfl ?_
  refine Cw.seq ?_
  refine Cw.region ?_
  refine Lw.boxV (cs := [u, .int .i64 (k : Int)]) rfl rfl rfl ?_
  rintro A_f w eA_f b_f hn -
  replace hB := hB.bs hn
  replace h_u := h_u.bs hn
  clear hn
  refine Lw.val (Ex.assign rfl) rfl ?_
  refine Lw.nil ?_
  refine Pw.thenN (Cw.out ?_)
  refine Cw.seq ?_
  refine Cw.region ?_
  refine Lw.val (Ex.fieldAddr (q := 0) Tryz.underlying90 rfl (sz_86 _) rfl) rfl ?_
  refine Lw.val (Ex.ldB (ag_86 _) rfl (by assumption) rfl) rfl ?_
  refine Lw.val (Ex.fieldAddr (q := 0) Tryz.underlying90 rfl (sz_3 _) rfl) rfl ?_
  refine Lw.val (Ex.ldB (ag_3 _) rfl (by assumption) rfl) rfl ?_
  refine Lw.callF rfl rfl (behind_c u s k _ h_u hok hk) ?_
  rintro _ w ⟨rfl, hn⟩
  replace hB := hB.bs hn
  replace h_u := h_u.bs hn
  replace b_f := b_f.bs hn
  clear hn
  refine Lw.val (Ex.assign rfl) rfl ?_
  refine Lw.nil ?_
  refine Pw.thenN (Cw.out ?_)
  refine Cw.ret ?_
  refine Pw.ret1 rfl rfl ?_
  exact ⟨by rw [ha], hB⟩
theorem ofF_c (u : Value) (s : List Int) (k a : Nat) (w : World) (h_u : SlT (Value.int .i64) w u s) (hk : k < s.length) (ha : s.getD k default = (a : Int)) :
    Fnc Tryz.prog 103 [.agg #[u, .int .i64 (k : Int)]] w (fun r w' => r = .int .i64 (a : Int) ∧ Below w.heap.size w w') := by
  have hB := Below.refl w.heap.size w
  refine Fnc.enter (n := 9) Tryz.func103 (by kernel_rfl) rfl rfl rfl ?_
  refine Cw.seq ?_
  refine Cw.region ?_
  refine Lw.boxV (cs := [u, .int .i64 (k : Int)]) rfl rfl rfl ?_
  rintro A_f w eA_f b_f hn -
  replace hB := hB.bs hn
  replace h_u := h_u.bs hn
  clear hn
  refine Lw.val (Ex.assign rfl) rfl ?_
  refine Lw.nil ?_
  refine Pw.thenN (Cw.out ?_)
  refine Cw.seq ?_
  refine Cw.region ?_
  refine Lw.val (Ex.fieldAddr (q := 0) Tryz.underlying90 rfl (sz_86 _) rfl) rfl ?_
  refine Lw.val (Ex.ldB (ag_86 _) rfl (by assumption) rfl) rfl ?_
  refine Lw.val (Ex.fieldAddr (q := 0) Tryz.underlying90 rfl (sz_3 _) rfl) rfl ?_
  refine Lw.val (Ex.ldB (ag_3 _) rfl (by assumption) rfl) rfl ?_
  refine Lw.val (Ex.idxT st_86 rfl rfl h_u k rfl hk) rfl ?_
  refine Lw.val ((Ex.ldT (ag_3 _) rfl h_u hk).as (congrArg (Value.int .i64) ha)) rfl ?_
  refine Lw.val (Ex.assign rfl) rfl ?_
  refine Lw.nil ?_
  refine Pw.thenN (Cw.out ?_)
  refine Cw.ret ?_
  refine Pw.ret1 rfl rfl ?_
  exact ⟨rfl, hB⟩
theorem bt_field (y : Value) (a : Int) (hy : y.cells = [y].toArray) : Tryz.prog.built 90 [(0, y), (1, .int .i64 a)] = some [y, .int .i64 a].toArray := by
  have h1 : Tryz.prog.info? 90 = some Tryz.t90 := rfl
  have h2 : Tryz.prog.info? 86 = some Tryz.t86 := rfl
  have h3 : Tryz.prog.info? 3 = some Tryz.t3 := rfl
  simp [Program.built, h1, Tryz.underlying90, h2, h3, Instr.fill, hy]
  rfl
def suE (t : T4) (along : Int) : Int := if tok t.s t.l && decide (0 ≤ along) && decide (along < (t.s.length : Int)) then 0 else 1
set_option maxHeartbeats 1000000 in
theorem msum_c (t : T4) (al : Int) (W : World) (h_t : t.at W) :
    Fnc Tryz.prog 20 [t.v, .int .i64 al] W (fun r w' => Below W.heap.size W w' ∧ AnsK W w' r (suE t al) (without t.s al.toNat) (suL t.s t.l al.toNat)) := by
  have hB := Below.refl W.heap.size W
  refine Fnc.enter (n := 99) Tryz.func20 (by kernel_rfl) rfl rfl rfl ?_
  refine Cw.seq ?_
  refine Cw.region ?_
  refine Lw.boxV (cs := [t.x, t.y]) rfl rfl rfl ?_
  rintro A_t w eA_t b_t hn -
  replace hB := hB.bs hn
  replace h_t := h_t.bs hn
  clear hn
  have z0 := below_size hB
  refine Lw.newA it_29 rfl ?_
  rintro A_r w eA_r b_r hn -
  replace hB := hB.bs hn
  replace h_t := h_t.bs hn
  replace b_t := b_t.bs hn
  clear hn
  refine Lw.val (Ex.assign rfl) rfl ?_
  refine Lw.nil ?_
  refine Pw.thenN (Cw.out ?_)
  refine Cw.seq ?_
  refine Cw.seq ?_
  refine Cw.region ?_
  refine Lw.val (Ex.ldA (ag_29 _) (sz_29 _) rfl rfl (by assumption)) rfl ?_
  have z_r := blk_lt b_r
  have h_t1 := h_t.1
  refine Lw.callF rfl rfl (tcheck_c t.x t.y t.s t.l _ h_t.1 h_t.2) ?_
  rintro _ w ⟨rfl, hn⟩
  replace hB := hB.bs hn
  replace h_t := h_t.bs hn
  replace b_t := b_t.bs hn
  replace b_r := b_r.bs hn
  replace h_t1 := h_t1.bs hn
  clear hn
  refine Lw.val (Ex.not rfl) rfl ?_
  refine Lw.val (Ex.move rfl) rfl ?_
  refine Lw.part 16 rfl ?_ ?_
  · intro g
    refine Lw.pass (dj := 16) rfl rfl rfl rfl ?_
    refine Lw.pass (dj := 16) rfl rfl rfl rfl ?_
    refine Lw.val (Ex.pickT rfl rfl) rfl ?_
    refine Lw.val (Ex.move rfl) rfl ?_
    refine Lw.pass (dj := 20) rfl rfl rfl rfl ?_
    refine Lw.pass (dj := 20) rfl rfl rfl rfl ?_
    refine Lw.pass (dj := 20) rfl rfl rfl rfl ?_
    refine Lw.pass (dj := 20) rfl rfl rfl rfl ?_
    refine Lw.pass (dj := 20) rfl rfl rfl rfl ?_
    refine Lw.val (Ex.pickT rfl rfl) rfl ?_
    refine Lw.nil ?_
    refine Pw.thenN (Cw.out ?_)
    refine Cw.condT rfl ?_
    refine Cw.seq ?_
    refine Cw.region ?_
    refine Lw.val (Ex.build (vs := []) (cs := [.slice none 0 0, .slice none 0 0]) rfl (by kernel_rfl)) rfl ?_
    refine Lw.unit (Xu.stA (cs := [.slice none 0 0, .slice none 0 0]) rfl rfl rfl rfl rfl b_r rfl) ?_
    rintro w3 ⟨b_r, hg, -⟩
    have hB := hB.grown hg (below_size hB) (by rintro _ ⟨⟩; omega)
    refine Lw.val (Ex.assign rfl) rfl ?_
    refine Lw.nil ?_
    refine Pw.thenN (Cw.out ?_)
    refine Cw.ret ?_
    refine Pw.thenR ?_
    refine Pw.retCT rfl rfl rfl (by assumption) (Tryz.underlying29) rfl rfl rfl ?_
    rw [show suE t al = 1 by simp_all [suE]]
    exact ⟨hB, ansK_no (by decide)⟩
  intro g1
  have k_t : tok t.s t.l = true := by simpa using g1
  refine Lw.take (dj := 16) rfl rfl ?_
  refine Lw.val (Ex.move rfl) rfl ?_
  refine Lw.take (dj := 16) rfl rfl ?_
  refine Lw.val (Ex.lss rfl rfl) rfl ?_
  refine Lw.val (Ex.pickF rfl rfl) rfl ?_
  refine Lw.val (Ex.move rfl) rfl ?_
  refine Lw.part 20 rfl ?_ ?_
  · intro g
    have g := of_decide_eq_true g
    refine Lw.pass (dj := 20) rfl rfl rfl rfl ?_
    refine Lw.pass (dj := 20) rfl rfl rfl rfl ?_
    refine Lw.pass (dj := 20) rfl rfl rfl rfl ?_
    refine Lw.pass (dj := 20) rfl rfl rfl rfl ?_
    refine Lw.pass (dj := 20) rfl rfl rfl rfl ?_
    refine Lw.val (Ex.pickT rfl rfl) rfl ?_
    refine Lw.nil ?_
    refine Pw.thenN (Cw.out ?_)
    refine Cw.condT rfl ?_
    refine Cw.seq ?_
    refine Cw.region ?_
    refine Lw.val (Ex.build (vs := []) (cs := [.slice none 0 0, .slice none 0 0]) rfl (by kernel_rfl)) rfl ?_
    refine Lw.unit (Xu.stA (cs := [.slice none 0 0, .slice none 0 0]) rfl rfl rfl rfl rfl b_r rfl) ?_
    rintro w3 ⟨b_r, hg, -⟩
    have hB := hB.grown hg (below_size hB) (by rintro _ ⟨⟩; omega)
    refine Lw.val (Ex.assign rfl) rfl ?_
    refine Lw.nil ?_
    refine Pw.thenN (Cw.out ?_)
    refine Cw.ret ?_
    refine Pw.thenR ?_
    refine Pw.retCT rfl rfl rfl (by assumption) (Tryz.underlying29) rfl rfl rfl ?_
    rw [show suE t al = 1 by unfold suE; rw [decide_eq_false (show ¬ 0 ≤ al by omega), Bool.and_false, Bool.false_and]; rfl]
    exact ⟨hB, ansK_no (by decide)⟩
  intro g2
  have g2 := of_decide_eq_false g2
  refine Lw.take (dj := 20) rfl rfl ?_
  refine Lw.val (Ex.move rfl) rfl ?_
  refine Lw.take (dj := 20) rfl rfl ?_
  refine Lw.val (Ex.fieldAddr (q := 0) Tryz.underlying29 rfl (sz_26 _) rfl) rfl ?_
  refine Lw.take (dj := 20) rfl rfl ?_
  refine Lw.val (Ex.ldB (ag_26 _) rfl (by assumption) rfl) rfl ?_
  refine Lw.take (dj := 20) rfl rfl ?_
  refine Lw.val (Ex.lenS st_26 rfl (by assumption)) rfl ?_
  refine Lw.take (dj := 20) rfl rfl ?_
  refine Lw.val (Ex.geq rfl rfl) rfl ?_
  refine Lw.val (Ex.pickF rfl rfl) rfl ?_
  refine Lw.nil ?_
  refine Pw.thenN (Cw.out ?_)
  refine Cw.cond rfl ?_ ?_
  · intro g
    have g := of_decide_eq_true g
    refine Cw.seq ?_
    refine Cw.region ?_
    refine Lw.val (Ex.build (vs := []) (cs := [.slice none 0 0, .slice none 0 0]) rfl (by kernel_rfl)) rfl ?_
    refine Lw.unit (Xu.stA (cs := [.slice none 0 0, .slice none 0 0]) rfl rfl rfl rfl rfl b_r rfl) ?_
    rintro w3 ⟨b_r, hg, -⟩
    have hB := hB.grown hg (below_size hB) (by rintro _ ⟨⟩; omega)
    refine Lw.val (Ex.assign rfl) rfl ?_
    refine Lw.nil ?_
    refine Pw.thenN (Cw.out ?_)
    refine Cw.ret ?_
    refine Pw.thenR ?_
    refine Pw.retCT rfl rfl rfl (by assumption) (Tryz.underlying29) rfl rfl rfl ?_
    rw [show suE t al = 1 by unfold suE; rw [decide_eq_false (show ¬ al < (t.s.length : Int) by omega), Bool.and_false]; rfl]
    exact ⟨hB, ansK_no (by decide)⟩
  intro g3
  have g3 := of_decide_eq_false g3
  rw [show suE t al = 0 by unfold suE; rw [k_t, decide_eq_true (show 0 ≤ al by omega), decide_eq_true (show al < (t.s.length : Int) by omega)]; rfl]
  clear g1
  obtain ⟨k, rfl⟩ : ∃ k : Nat, al = (k : Int) := ⟨al.toNat, by omega⟩
  rw [Int.toNat_natCast]
  have hk : k < t.s.length := by omega
  clear g2 g3
  obtain ⟨k1, k2⟩ := tok_ok k_t
  have S := (Shapes.ok_iff t.s).1 k1
  have okW := without_ok k1 hk
  have pr := Shapes.ok_prod k1 (k + 1)
  have dk := dim_at S.2.1 hk
  obtain ⟨a, ha⟩ : ∃ a : Nat, Shapes.prod (t.s.drop (k + 1)) = (a : Int) := ⟨_, (Int.toNat_of_nonneg (by omega)).symm⟩
  obtain ⟨n, hn⟩ : ∃ n : Nat, t.s.getD k default = (n : Int) := ⟨_, (Int.toNat_of_nonneg (by omega)).symm⟩
  obtain ⟨ps, hps⟩ : ∃ ps : List (Value × List Int), ps = [(cut t.x 1 0 k, t.s.take k), (cut t.x 1 (k + 1) t.s.length, t.s.drop (k + 1))] := ⟨_, rfl⟩
  have s_1 := SlT.take h_t1 (j := k) (by omega)
  have s_2 := SlT.drop h_t1 (i := k + 1) (by omega)
  refine Cw.skip ?_
  refine Pw.thenN (Cw.out ?_)
  refine Cw.seq ?_
  refine Cw.tail 9 mixed (by kernel_rfl) ?_
  refine Qw.val (fun w1 hq => Ex.fieldAddr (q := 0) Tryz.underlying29 rfl (sz_26 _) rfl) rfl ?_
  refine Qw.val (fun w1 hq => Ex.ldB (ag_26 _) rfl (Blk.bs (by assumption) hq) rfl) rfl ?_
  refine Qw.val (fun w1 hq => Ex.move rfl) rfl ?_
  refine Qw.val (fun w1 hq => Ex.cutH st_26 rfl rfl (Sl.bs (by assumption) hq) (by omega)) rfl ?_
  refine Qw.val (fun w1 hq => Ex.fieldAddr (q := 0) Tryz.underlying29 rfl (sz_26 _) rfl) rfl ?_
  refine Qw.val (fun w1 hq => Ex.ldB (ag_26 _) rfl (Blk.bs (by assumption) hq) rfl) rfl ?_
  refine Qw.val (fun w1 hq => Ex.move rfl) rfl ?_
  refine Qw.val (fun w1 hq => (Ex.addI rfl rfl (by omega)).as (congrArg (Value.int .i64) (show (k : Int) + 1 = ((k + 1 : Nat) : Int) by omega))) rfl ?_
  refine Qw.val (fun w1 hq => Ex.cutL st_26 rfl rfl (Sl.bs (by assumption) hq) (by omega)) rfl ?_
  refine Qw.done (fun w2 hq => ?_)
  replace hB := hB.bs hq
  replace h_t := h_t.bs hq
  replace b_t := b_t.bs hq
  replace b_r := b_r.bs hq
  replace h_t1 := h_t1.bs hq
  replace s_1 := s_1.bs hq
  replace s_2 := s_2.bs hq
  clear hq
  refine Lw.valW (Xw.lit (vs := ps.map (fun p => p.1)) st_72 it_26 rfl (by rw [hps]; rfl) (by rw [hps]; rfl) (by rw [hps]; simp [s_1.one', s_2.one']) rfl) rfl ?_
  rintro x0 w ⟨hx0, -, hn0, -⟩
  have hx0 : w.ownsRow w2.heap.size 26 1 x0 ps.length (ps.map (fun p => p.1)) := by rw [show ps.length = 2 by rw [hps]; rfl]; exact hx0
  replace hB := hB.bs hn0
  replace h_t := h_t.bs hn0
  replace b_t := b_t.bs hn0
  replace b_r := b_r.bs hn0
  replace h_t1 := h_t1.bs hn0
  replace s_1 := s_1.bs hn0
  replace s_2 := s_2.bs hn0
  clear hn0
  have zc := below_size hB
  refine Lw.callF rfl rfl (concatInt_c x0 ps w (own_slT hx0) (by rw [hps]; intro p hp; simp at hp; rcases hp with rfl | rfl; exact s_1; exact s_2) (by rw [hps]; simp; omega)) ?_
  rintro x w ⟨hx, hn1⟩
  have hfl : (ps.map (·.2)).flatten = t.s.take k ++ t.s.drop (k + 1) := by rw [hps]; simp
  rw [hfl] at hx
  have hx := own_mono hx zc
  replace hB := hB.bs hn1
  replace h_t := h_t.bs hn1
  replace b_t := b_t.bs hn1
  replace b_r := b_r.bs hn1
  replace h_t1 := h_t1.bs hn1
  replace s_1 := s_1.bs hn1
  replace s_2 := s_2.bs hn1
  clear hn1 hx0 hfl
  have s_x := own_slT hx
  refine Lw.val (Ex.assign rfl) rfl ?_
  refine Lw.nil ?_
  refine Pw.thenN (Cw.out ?_)
  refine Cw.seq ?_
  refine Cw.seq ?_
  refine Cw.region ?_
  refine Lw.val (Ex.move rfl) rfl ?_
  refine Lw.val (Ex.lenS st_26 rfl (by assumption)) rfl ?_
  refine Lw.val (Ex.eql rfl rfl) rfl ?_
  refine Lw.nil ?_
  refine Pw.thenN (Cw.out ?_)
  refine Cw.midS (St := Value) (fun z => [(1, .int .i64 (k : Int)), (2, .pointer (some ⟨A_t, 0, none⟩)), (4, .pointer (some ⟨A_r, 0, none⟩)), (6, z)]) (fun z w' => Below w.heap.size w w' ∧ SlT (Value.int .i64) w' z (without t.s k)) ?_ ?_
  · have hM := Below.refl w.heap.size w
    refine Cw.cond rfl ?_ ?_
    · intro g
      have g := of_decide_eq_true g
      have l1 : t.s.length = 1 := by rw [List.length_append, List.length_take, List.length_drop] at g; omega
      refine Cw.region ?_
      refine Lw.valW (Xw.lit (vs := [(1 : Int)].map (Value.int .i64)) st_26 it_3 rfl rfl rfl rfl rfl) rfl ?_
      rintro z w ⟨hz, -, hn2, -⟩
      replace hB := hB.bs hn2
      replace h_t := h_t.bs hn2
      replace b_t := b_t.bs hn2
      replace b_r := b_r.bs hn2
      replace h_t1 := h_t1.bs hn2
      replace s_1 := s_1.bs hn2
      replace s_2 := s_2.bs hn2
      replace hx := hx.bs hn2
      replace s_x := s_x.bs hn2
      replace hM := hM.bs hn2
      refine Lw.val (Ex.assign rfl) rfl ?_
      refine Lw.nil ?_
      exact Pw.midS (z) ⟨rfl, rfl, rfl, rfl, trivial⟩ (⟨hM, by unfold without; rw [if_pos l1]; exact own_slT hz⟩)
    intro g
    have g := of_decide_eq_false g
    have l1 : ¬ t.s.length = 1 := by intro h; apply g; rw [List.length_append, List.length_take, List.length_drop]; omega
    refine Cw.skip ?_
    exact Pw.midS (x) ⟨rfl, rfl, rfl, rfl, trivial⟩ (⟨hM, by unfold without; rw [if_neg l1]; exact own_slT hx⟩)
  rintro z w ⟨hn3, h_z⟩
  replace hB := hB.bs hn3
  replace h_t := h_t.bs hn3
  replace b_t := b_t.bs hn3
  replace b_r := b_r.bs hn3
  replace h_t1 := h_t1.bs hn3
  replace s_1 := s_1.bs hn3
  replace s_2 := s_2.bs hn3
  replace hx := hx.bs hn3
  replace s_x := s_x.bs hn3
  clear hn3
  clear hx s_x
  refine Cw.out ?_
  have h_t2 := h_t.2
  refine Cw.seq ?_
  refine Cw.region ?_
  refine Lw.val (Ex.fieldAddr (q := 0) Tryz.underlying29 rfl (sz_26 _) rfl) rfl ?_
  refine Lw.val (Ex.ldB (ag_26 _) rfl (by assumption) rfl) rfl ?_
  refine Lw.val (Ex.move rfl) rfl ?_
  refine Lw.val (Ex.build (vs := [(0, t.x), (1, .int .i64 (k : Int))]) (cs := [t.x, .int .i64 (k : Int)]) rfl (bt_field _ _ h_t1.one)) rfl ?_
  refine Lw.boxed (cs := [t.x, .int .i64 (k : Int)]) it_90 rfl rfl rfl rfl (fun _ => rfl) (by simp [h_t1.one']; rfl) ?_
  rintro A_f w eA_f b_f hn -
  replace hB := hB.bs hn
  replace h_t := h_t.bs hn
  replace b_t := b_t.bs hn
  replace b_r := b_r.bs hn
  replace h_t1 := h_t1.bs hn
  replace s_1 := s_1.bs hn
  replace s_2 := s_2.bs hn
  replace h_z := h_z.bs hn
  replace h_t2 := h_t2.bs hn
  clear hn
  refine Lw.nil ?_
  refine Pw.thenN (Cw.out ?_)
  refine Cw.seq ?_
  refine Cw.region ?_
  refine Lw.val (Ex.move rfl) rfl ?_
  have y_t := blk_lt b_t
  have y_r := blk_lt b_r
  have y_f := blk_lt b_f
  have y_B := below_size hB
  have p_t := h_t
  refine Lw.callF rfl rfl (new_c z (without t.s k) _ h_z) ?_
  rintro _ w7 ⟨hn7, ⟨hk', x, y, rfl, hm⟩ | ⟨hk', rfl⟩⟩
  · refine Lw.val (Ex.move rfl) rfl ?_
    refine Lw.val (Ex.extract (i := 0) rfl rfl) rfl ?_
    refine Lw.val (Ex.extract (i := 1) rfl rfl) rfl ?_
    refine Lw.boxed (cs := [x, y]) it_29 rfl rfl rfl rfl (fun _ => rfl) (hm.one) ?_
    rintro A_m w8 eA_m b_m hn8 zhn8
    have M := mine_new hm eA_m b_m hn8 zhn8 hn7.size
    have hw8 := bt hn7 hn8
    have zw := hw8.size
    replace hB := hB.bs hw8
    replace h_t := h_t.bs hw8
    replace b_t := b_t.bs hw8
    replace b_r := b_r.bs hw8
    replace h_t1 := h_t1.bs hw8
    replace s_1 := s_1.bs hw8
    replace s_2 := s_2.bs hw8
    replace h_z := h_z.bs hw8
    replace h_t2 := h_t2.bs hw8
    replace b_f := b_f.bs hw8
    clear hm b_m hn7 hn8 eA_m zhn8 hw8
    have zB := below_size hB
    have szW := Shapes.size_le (without t.s k)
    have szo := Shapes.size_ok okW
    rw [without_prod hk, ha] at szo
    obtain ⟨P, hP⟩ : ∃ P : Nat, Shapes.prod (t.s.take k) = (P : Int) := ⟨_, (Int.toNat_of_nonneg (by have := Shapes.prod_pos (s := t.s.take k) fun x hx => S.2.1 x (List.mem_of_mem_take hx); omega)).symm⟩
    have hM : (Shapes.size (without t.s k)).toNat = P * a := by
      have : ((P * a : Nat) : Int) = Shapes.size (without t.s k) := by rw [szo, hP]; push_cast; rfl
      omega
    have hL : t.l.length = P * (n * a) := by
      have e1 := Shapes.size_ok k1
      rw [prod_split hk, ha, hn, hP] at e1
      have : ((P * (n * a) : Nat) : Int) = Shapes.size t.s := by rw [e1]; push_cast; rfl
      have := Shapes.size_le t.s
      omega
    have sz4 : t.l.length ≤ 4096 := by have := Shapes.size_le t.s; omega
    obtain ⟨fl, hfl⟩ : ∃ l, l = suL t.s t.l k := ⟨_, rfl⟩
    obtain ⟨zs, hzs⟩ : ∃ l, l = List.replicate (Shapes.size (without t.s k)).toNat 0#32 := ⟨_, rfl⟩
    rw [← hzs] at M
    have n1 : fl.length = zs.length := by rw [hfl, hzs]; simp [suL]
    have n2 : zs.length = P * a := by rw [hzs, List.length_replicate, hM]
    have hF : ∀ i, i < P * a → fl.getD i default = sm n (suF t.s t.l k i) := fun i hi => by rw [hfl]; unfold suL; rw [hM, hn, Int.toNat_natCast]; simp [hi]
    have hG : ∀ i j, suF t.s t.l k i j = t.l.getD (i / a * a * n + i % a + j * a) default := fun i j => by unfold suF; rw [ha, hn, Int.toNat_natCast, Int.toNat_natCast]
    have b_m := M.box
    have y_m := M.sly
    refine Lw.val (Ex.assign rfl) rfl ?_
    refine Lw.nil ?_
    refine Pw.thenN (Cw.out ?_)
    refine Cw.seq ?_
    refine Cw.seq ?_
    refine Cw.region ?_
    refine Lw.val (Ex.fieldAddr (q := 0) Tryz.underlying29 rfl (sz_27 _) rfl) rfl ?_
    refine Lw.val (Ex.ldB (ag_27 _) rfl (by assumption) rfl) rfl ?_
    refine Lw.val (Ex.lenS st_27 rfl (by assumption)) rfl ?_
    refine Lw.val (Ex.move rfl) rfl ?_
    refine Lw.nil ?_
    refine Pw.thenN (Cw.out ?_)
    refine Cw.block ?_
    refine Cw.loop (S := Nat) (fun i => [(2, .pointer (some ⟨A_t, 0, none⟩)), (4, .pointer (some ⟨A_r, 0, none⟩)), (7, .pointer (some ⟨A_f, 0, none⟩)), (8, .pointer (some ⟨A_m, 0, none⟩)), (9, .int .i64 0), (54, .int .i64 (zs.length : Int)), (55, .int .i64 (i : Int))]) (fun i w' => i ≤ zs.length ∧ Below w.heap.size w8 w' ∧ MineT w' w.heap.size w8.heap.size A_m x y (without t.s k) (fl.take i ++ zs.drop i)) (fun i => zs.length - i) (0) ⟨rfl, rfl, rfl, rfl, rfl, rfl, rfl, trivial⟩ ?_ ?_
    · exact ⟨by omega, Below.refl _ _, by rw [td_zero]; exact M⟩
    clear M b_m y_m
    rintro i w11 ⟨hi, hw, M⟩
    refine Cw.seq ?_
    refine Cw.region ?_
    refine Lw.val (Ex.lss rfl rfl) rfl ?_
    refine Lw.nil ?_
    refine Pw.thenN (Cw.out ?_)
    refine Cw.seq ?_
    refine Cw.cond rfl ?_ ?_
    · intro h
      have hi' : i < zs.length := by have := of_decide_eq_true h; omega
      have hiP : i < P * a := by omega
      have b_f1 := b_f.bl hw y_f
      have h_t11 := (at_stay p_t h_t (Nat.le_refl _) hw).1
      have a1 : 1 ≤ a := by omega
      have r0 := su_lt (n := n) hiP (j := 0) (by omega)
      rw [Nat.zero_mul, Nat.add_zero, ← hL] at r0
      obtain ⟨fi, hfi⟩ : ∃ x, x = i / a * a * n + i % a := ⟨_, rfl⟩
      obtain ⟨qa, hqa⟩ : ∃ x, x = i / a * a := ⟨_, rfl⟩
      obtain ⟨qn, hqn⟩ : ∃ x, x = qa * n := ⟨_, rfl⟩
      obtain ⟨q, hqq⟩ : ∃ x, x = i / a := ⟨_, rfl⟩
      obtain ⟨rr, hrr⟩ : ∃ x, x = i % a := ⟨_, rfl⟩
      rw [← hqq] at hqa
      rw [← hqq, ← hqa, ← hqn, ← hrr] at hfi r0
      have c1 : (q : Int) * (a : Int) = (qa : Int) := by rw [hqa]; push_cast; rfl
      have c2 : (qa : Int) * (n : Int) = (qn : Int) := by rw [hqn]; push_cast; rfl
      have qle : qa ≤ i := by rw [hqa, hqq]; exact Nat.div_mul_le_self i a
      refine Cw.skip ?_
      refine Pw.thenN (Cw.out ?_)
      refine Cw.seq ?_
      refine Cw.block ?_
      refine Cw.seq ?_
      refine Cw.region ?_
      refine Lw.val (Ex.move rfl) rfl ?_
      refine Lw.val (Ex.assign rfl) rfl ?_
      refine Lw.nil ?_
      refine Pw.thenN (Cw.out ?_)
      refine Cw.seq ?_
      refine Cw.quiet mixed (by kernel_rfl) ?_
      refine Qw.val (fun w1 hq => Ex.move rfl) rfl ?_
      refine Qw.val (fun w1 hq => Ex.ldA (ag_90 _) (sz_90 _) rfl rfl (Blk.bs (by assumption) hq)) rfl ?_
      refine Qw.callF rfl rfl (fun w1 hq => (apartF_c t.x t.s k a w1 (h_t11.bs hq) k1 hk ha).q hq) ?_
      refine Qw.val (fun w1 hq => (Ex.quoI rfl rfl (by omega) (by omega)).as (congrArg (Value.int .i64) (show (i : Int) / (a : Int) = (q : Int) by rw [hqq]; rfl))) rfl ?_
      refine Qw.val (fun w1 hq => Ex.ldA (ag_90 _) (sz_90 _) rfl rfl (Blk.bs (by assumption) hq)) rfl ?_
      refine Qw.callF rfl rfl (fun w1 hq => (apartF_c t.x t.s k a w1 (h_t11.bs hq) k1 hk ha).q hq) ?_
      refine Qw.val (fun w1 hq => (Ex.mulI rfl rfl (by omega)).as (congrArg (Value.int .i64) c1)) rfl ?_
      refine Qw.val (fun w1 hq => Ex.ldA (ag_90 _) (sz_90 _) rfl rfl (Blk.bs (by assumption) hq)) rfl ?_
      refine Qw.callF rfl rfl (fun w1 hq => (ofF_c t.x t.s k n w1 (h_t11.bs hq) hk hn).q hq) ?_
      refine Qw.val (fun w1 hq => (Ex.mulI rfl rfl (by omega)).as (congrArg (Value.int .i64) c2)) rfl ?_
      refine Qw.val (fun w1 hq => Ex.move rfl) rfl ?_
      refine Qw.val (fun w1 hq => Ex.ldA (ag_90 _) (sz_90 _) rfl rfl (Blk.bs (by assumption) hq)) rfl ?_
      refine Qw.callF rfl rfl (fun w1 hq => (apartF_c t.x t.s k a w1 (h_t11.bs hq) k1 hk ha).q hq) ?_
      refine Qw.val (fun w1 hq => (Ex.remI rfl rfl (by omega) (by omega)).as (congrArg (Value.int .i64) (show (i : Int) % (a : Int) = (rr : Int) by rw [hrr]; rfl))) rfl ?_
      refine Qw.val (fun w1 hq => (Ex.addI rfl rfl (by omega)).as (congrArg (Value.int .i64) (show (qn : Int) + (rr : Int) = (fi : Int) by omega))) rfl ?_
      refine Qw.val (fun w1 hq => Ex.assign rfl) rfl ?_
      refine Qw.nil (fun w12 hq => ?_)
      refine Pw.thenN (Cw.out ?_)
      refine Cw.seq ?_
      have hw := hw.trans (hq.mono (by have := hw.size; omega))
      have M := M.bs hq
      have b_f1 := b_f1.bs hq
      have h_t11 := h_t11.bs hq
      clear hq
      refine Cw.region ?_
      refine Lw.val (Ex.ldA (ag_90 _) (sz_90 _) rfl rfl (by assumption)) rfl ?_
      refine Lw.callF rfl rfl (ofF_c t.x t.s k n w12 h_t11 hk hn) ?_
      rintro _ w13 ⟨rfl, hq⟩
      have hw := hw.trans (hq.mono (by have := hw.size; omega))
      have M := M.bs hq
      have e1 := td_len (i := i) n1
      have h0 : (fl.take i ++ zs.drop i).set i 0#32 = fl.take i ++ zs.drop i := set_selfD (by omega) (by rw [td_get n1 hi', hzs]; exact getD_rep (by omega))
      refine Lw.val (Ex.move rfl) rfl ?_
      refine Lw.nil ?_
      refine Pw.thenN (Cw.out ?_)
      refine Cw.block ?_
      refine Cw.loop (S := Nat) (fun j => [(2, .pointer (some ⟨A_t, 0, none⟩)), (4, .pointer (some ⟨A_r, 0, none⟩)), (7, .pointer (some ⟨A_f, 0, none⟩)), (8, .pointer (some ⟨A_m, 0, none⟩)), (9, .int .i64 0), (54, .int .i64 (zs.length : Int)), (55, .int .i64 (i : Int)), (10, .int .i64 (i : Int)), (11, .int .i64 (fi : Int)), (74, .int .i64 (n : Int)), (75, .int .i64 (j : Int))]) (fun j w' => j ≤ n ∧ Below w.heap.size w8 w' ∧ MineT w' w.heap.size w8.heap.size A_m x y (without t.s k) ((fl.take i ++ zs.drop i).set i (sm j (suF t.s t.l k i)))) (fun j => n - j) (0) ⟨rfl, rfl, rfl, rfl, rfl, rfl, rfl, rfl, rfl, rfl, rfl, trivial⟩ ?_ ?_
      · exact ⟨Nat.zero_le _, hw, by rw [show sm 0 (suF t.s t.l k i) = 0#32 from rfl, h0]; exact M⟩
      clear M hw hq b_f1 h_t11
      rintro j w14 ⟨hj, hw, M⟩
      refine Cw.seq ?_
      refine Cw.region ?_
      refine Lw.val (Ex.lss rfl rfl) rfl ?_
      refine Lw.nil ?_
      refine Pw.thenN (Cw.out ?_)
      refine Cw.seq ?_
      refine Cw.cond rfl ?_ ?_
      · intro h
        have hj' : j < n := by have := of_decide_eq_true h; omega
        have b_f1 := b_f.bl hw y_f
        have b_t1 := b_t.bl hw y_t
        have h_t1a := at_stay p_t h_t (Nat.le_refl _) hw
        have h_t11 := h_t1a.1
        have h_t12 := h_t1a.2
        have b_m := M.box
        have y_m := M.sly
        have hil : i < ((fl.take i ++ zs.drop i).set i (sm j (suF t.s t.l k i))).length := by rw [List.length_set]; omega
        have rK := su_lt (n := n) hiP hj'
        rw [← hL] at rK
        obtain ⟨ja, hja⟩ : ∃ x, x = j * a := ⟨_, rfl⟩
        obtain ⟨K, hK⟩ : ∃ x, x = fi + ja := ⟨_, rfl⟩
        have eK : i / a * a * n + i % a + j * a = K := by rw [hK, hja, hfi, hqn, hqa, hqq, hrr]
        rw [eK] at rK
        have c3 : (j : Int) * (a : Int) = (ja : Int) := by rw [hja]; push_cast; rfl
        have eV : sm j (suF t.s t.l k i) + t.l.getD K default = sm (j + 1) (suF t.s t.l k i) := by
          show _ = sm j (suF t.s t.l k i) + suF t.s t.l k i j
          rw [hG, eK]
        refine Cw.skip ?_
        refine Pw.thenN (Cw.out ?_)
        refine Cw.seq ?_
        refine Cw.block ?_
        refine Cw.seq ?_
        refine Cw.region ?_
        refine Lw.val (Ex.move rfl) rfl ?_
        refine Lw.val (Ex.assign rfl) rfl ?_
        refine Lw.nil ?_
        refine Pw.thenN (Cw.out ?_)
        refine Cw.tail 17 mixed (by kernel_rfl) ?_
        refine Qw.val (fun w1 hq => Ex.fieldAddr (q := 0) Tryz.underlying29 rfl (sz_27 _) rfl) rfl ?_
        refine Qw.val (fun w1 hq => Ex.ldB (ag_27 _) rfl (Blk.bs (by assumption) hq) rfl) rfl ?_
        refine Qw.val (fun w1 hq => Ex.move rfl) rfl ?_
        refine Qw.val (fun w1 hq => Ex.idxT st_27 rfl rfl (Sl.bs y_m hq) i rfl hil) rfl ?_
        refine Qw.val (fun w1 hq => (Ex.ldT (ag_21 _) rfl (Sl.bs y_m hq) hil).as (congrArg i32 (getD_set (by omega)))) rfl ?_
        refine Qw.val (fun w1 hq => Ex.fieldAddr (q := 0) Tryz.underlying29 rfl (sz_27 _) rfl) rfl ?_
        refine Qw.val (fun w1 hq => Ex.ldB (ag_27 _) rfl (Blk.bs (by assumption) hq) rfl) rfl ?_
        refine Qw.val (fun w1 hq => Ex.move rfl) rfl ?_
        refine Qw.val (fun w1 hq => Ex.move rfl) rfl ?_
        refine Qw.val (fun w1 hq => Ex.ldA (ag_90 _) (sz_90 _) rfl rfl (Blk.bs (by assumption) hq)) rfl ?_
        refine Qw.callF rfl rfl (fun w1 hq => (apartF_c t.x t.s k a w1 (h_t11.bs hq) k1 hk ha).q hq) ?_
        refine Qw.val (fun w1 hq => (Ex.mulI rfl rfl (by omega)).as (congrArg (Value.int .i64) c3)) rfl ?_
        refine Qw.val (fun w1 hq => (Ex.addI rfl rfl (by omega)).as (congrArg (Value.int .i64) (show (fi : Int) + (ja : Int) = (K : Int) by omega))) rfl ?_
        refine Qw.val (fun w1 hq => Ex.idxT st_27 rfl rfl (Sl.bs h_t12 hq) K rfl rK) rfl ?_
        refine Qw.val (fun w1 hq => Ex.ldT (ag_21 _) rfl (Sl.bs h_t12 hq) rK) rfl ?_
        refine Qw.val (fun w1 hq => (Ex.addi32 rfl rfl).as (congrArg i32 eV)) rfl ?_
        refine Qw.val (fun w1 hq => Ex.idxT st_27 rfl rfl (Sl.bs y_m hq) i rfl hil) rfl ?_
        refine Qw.done (fun w15 hq => ?_)
        refine Lw.unit ((M.bs hq).st (sz_21 _) rfl rfl hil) ?_
        rintro w16 ⟨M2, hg2, -⟩
        have hw2 := (M.bs hq).below (hw.trans (hq.mono (by have := hw.size; omega))) (by omega) hg2
        rw [List.set_set] at M2
        refine Lw.nil ?_
        refine Pw.blkN ?_
        refine Pw.thenN (Cw.out ?_)
        refine Cw.region ?_
        refine Lw.val (Ex.addI rfl rfl (by omega)) rfl ?_
        refine Lw.val (Ex.move rfl) rfl ?_
        refine Lw.nil ?_
        exact Pw.thenN (Pw.next (j + 1) ⟨rfl, rfl, rfl, rfl, rfl, rfl, rfl, rfl, rfl, rfl, rfl, trivial⟩ (⟨hj', hw2, M2⟩) (by omega))
      intro h
      have hj' : j = n := by have := of_decide_eq_false h; omega
      subst hj'
      rw [← hF i hiP, td_set n1 hi'] at M
      refine Cw.exit ?_
      refine Pw.thenE ?_
      refine Pw.thenE ?_
      refine Pw.blkHit ?_
      refine Pw.blkN ?_
      refine Pw.thenN (Cw.out ?_)
      refine Cw.region ?_
      refine Lw.val (Ex.addI rfl rfl (by omega)) rfl ?_
      refine Lw.val (Ex.move rfl) rfl ?_
      refine Lw.nil ?_
      exact Pw.thenN (Pw.next (i + 1) ⟨rfl, rfl, rfl, rfl, rfl, rfl, rfl, trivial⟩ (⟨hi', hw, M⟩) (by omega))
    intro h
    have hi' : i = zs.length := by have := of_decide_eq_false h; omega
    subst hi'
    rw [td_all n1, hfl] at M
    have b_m := M.box
    have b_r := b_r.bl hw y_r
    have hB2 := hB.trans (hw.mono (by omega))
    refine Cw.exit ?_
    refine Pw.thenE ?_
    refine Pw.thenE ?_
    refine Pw.blkHit ?_
    refine Pw.thenN (Cw.out ?_)
    refine Cw.seq ?_
    refine Cw.region ?_
    refine Lw.val (Ex.ldA (ag_29 _) (sz_29 _) rfl rfl (by assumption)) rfl ?_
    refine Lw.val (Ex.move rfl) rfl ?_
    refine Lw.unit (Xu.stA (cs := [x, y]) rfl rfl rfl rfl (mine_at M).one b_r rfl) ?_
    rintro w12 ⟨b_r2, hg, -⟩
    have M2 := M.keep hg (by rintro _ ⟨⟩; exact .inl y_r)
    have hB3 := hB2.grown hg (below_size hB2) (by rintro _ ⟨⟩; omega)
    refine Lw.val (Ex.assign rfl) rfl ?_
    refine Lw.nil ?_
    refine Pw.thenN (Cw.out ?_)
    refine Cw.ret ?_
    refine Pw.retCT rfl rfl rfl (by assumption) (Tryz.underlying29) rfl rfl rfl ?_
    exact ⟨hB3, x, y, rfl, fun h => absurd rfl h, fun _ => ⟨M2.row.mono (by omega), .inl (own_mono M2.lst.own (by omega)), M2.yx⟩⟩
  exact absurd okW (by rw [hk']; decide)
end Go.Proofs.YtkhndfaampkbnaaGreatDoor
