/- A disk takes records till there is no room; one that is refused leaves those that are there: for any lists; no condition. -/
import Derived.Test.YtiaojbbgjlpikaaOutArg
import Derived.Test.YtiaojbbgjlpikaaRows
namespace Go.Proofs.Ytiaojbbgjlpikaa
open Go Go.Dd Go.RowKit Go.ChangeShapes Go.WideShapes
set_option maxRecDepth 100000

theorem outlogsFull_w (v : Value) (ps : List (Value × Nums)) (sx : BitVec 8) (W : World) (h : LL W v ps) (hm : ps.length ≤ 1125899906842624) :
    Fnc Try.prog 3 [v, b8 sx] W (fun r w' => r = .bool true ∧ Below W.heap.size W w') := by
  have hB := Below.refl W.heap.size W
  have s8 := sx.isLt
  obtain ⟨N, hN⟩ : ∃ N, N = 2 + sx.toNat % 40 := ⟨_, rfl⟩
  refine Fnc.enter (n := 120) Try.func3 (by kernel_rfl) rfl rfl rfl ?_
  refine Cw.seq ?_
  refine Cw.region ?_
  refine Lw.val (Ex.assign rfl) rfl ?_
  refine Lw.nil ?_
  refine Pw.thenN (Cw.out ?_)
  refine Cw.seq ?_
  refine Cw.seq ?_
  refine Cw.region ?_
  refine Lw.val (Ex.move rfl) rfl ?_
  refine Lw.callF rfl rfl (fit_c v ps W h hm) ?_
  rintro _ w ⟨rfl, hn⟩
  have hB := hB.trans hn
  refine Lw.val (Ex.not rfl) rfl ?_
  refine Lw.nil ?_
  refine Pw.thenN (Cw.out ?_)
  refine Cw.cond rfl ?_ ?_
  · intro _
    refine Cw.seq ?_
    refine Cw.region ?_
    refine Lw.callF rfl rfl (lives_c w) ?_
    rintro _ w2 ⟨rfl, hn2⟩
    refine Lw.val (Ex.assign rfl) rfl ?_
    refine Lw.nil ?_
    refine Pw.thenN (Cw.out ?_)
    refine Cw.ret ?_
    refine Pw.thenR ?_
    refine Pw.ret1 rfl rfl ?_
    exact ⟨rfl, hB.trans (hn2.mono (below_size hB))⟩
  intro g
  have hfit : fitB ps = true := by simpa using g
  obtain ⟨hok, h50⟩ := fitB_ok hfit
  have z0 := below_size hB
  refine Cw.skip ?_
  refine Pw.thenN (Cw.out ?_)
  refine Cw.seq ?_
  refine Cw.region ?_
  refine Lw.val (Ex.move rfl) rfl ?_
  refine Lw.val (Ex.conv8_I us_5 un_3 rfl) rfl ?_
  refine Lw.val ((Ex.remI rfl rfl (by omega) (by omega)).as (congrArg (Value.int .i64) (show (sx.toNat : Int) % 40 = ((sx.toNat % 40 : Nat) : Int) by omega))) rfl ?_
  refine Lw.val ((Ex.addI rfl rfl (by omega)).as (congrArg (Value.int .i64) (show (2 : Int) + ((sx.toNat % 40 : Nat) : Int) = (N : Int) by omega))) rfl ?_
  refine Lw.callF rfl rfl (dnew_c N w (by omega) (by omega)) ?_
  rintro _ w1 ⟨hn1, A, rfl, hD⟩
  have z1 := hn1.size
  refine Lw.val (Ex.move rfl) rfl ?_
  refine Lw.val (Ex.extract (i := 0) rfl rfl) rfl ?_
  refine Lw.val (Ex.extract (i := 1) rfl rfl) rfl ?_
  refine Lw.val (Ex.assign rfl) rfl ?_
  refine Lw.val (Ex.assign rfl) rfl ?_
  refine Lw.nil ?_
  refine Pw.thenN (Cw.out ?_)
  refine Cw.seq ?_
  refine Cw.region ?_
  refine Lw.val (Ex.move rfl) rfl ?_
  refine Lw.val (Ex.conv8_I us_5 un_3 rfl) rfl ?_
  refine Lw.val ((Ex.remI rfl rfl (by omega) (by omega)).as (congrArg (Value.int .i64) (show (sx.toNat : Int) % 40 = ((sx.toNat % 40 : Nat) : Int) by omega))) rfl ?_
  refine Lw.val ((Ex.addI rfl rfl (by omega)).as (congrArg (Value.int .i64) (show (2 : Int) + ((sx.toNat % 40 : Nat) : Int) = (N : Int) by omega))) rfl ?_
  refine Lw.val ((Ex.addI rfl rfl (by omega)).as (congrArg (Value.int .i64) (show (N : Int) + 10 = ((N + 10 : Nat) : Int) by omega))) rfl ?_
  refine Lw.callF rfl rfl (dnew_c (N + 10) w1 (by omega) (by omega)) ?_
  rintro _ w2 ⟨hn2, A2, rfl, hD2⟩
  have z2 := hn2.size
  have hD := hD.bs hn2
  refine Lw.val (Ex.move rfl) rfl ?_
  refine Lw.val (Ex.extract (i := 0) rfl rfl) rfl ?_
  refine Lw.val (Ex.extract (i := 1) rfl rfl) rfl ?_
  refine Lw.val (Ex.assign rfl) rfl ?_
  refine Lw.val (Ex.assign rfl) rfl ?_
  refine Lw.nil ?_
  refine Pw.thenN (Cw.out ?_)
  refine Cw.seq ?_
  refine Cw.region ?_
  refine Lw.val (Ex.move rfl) rfl ?_
  refine Lw.callF rfl rfl (open1_c A _ _ [] w2 hD (onDisk_new (by omega)) (by rw [List.length_replicate]; omega)) ?_
  rintro _ w3 ⟨hn3, L, rfl, hL⟩
  have z3 := hn3.size
  have hD2 := hD2.bs hn3
  refine Lw.val (Ex.move rfl) rfl ?_
  refine Lw.val (Ex.extract (i := 0) rfl rfl) rfl ?_
  refine Lw.val (Ex.extract (i := 1) rfl rfl) rfl ?_
  refine Lw.val (Ex.assign rfl) rfl ?_
  refine Lw.val (Ex.assign rfl) rfl ?_
  refine Lw.nil ?_
  refine Pw.thenN (Cw.out ?_)
  refine Cw.seq ?_
  refine Cw.region ?_
  refine Lw.val (Ex.move rfl) rfl ?_
  refine Lw.callF rfl rfl (open1_c A2 _ _ [] w3 hD2 (onDisk_new (by omega)) (by rw [List.length_replicate]; omega)) ?_
  rintro _ w4 ⟨hn4, L2, rfl, hL2⟩
  have z4 := hn4.size
  have hL := hL.bs hn4
  have hB4 : Below W.heap.size W w4 := (((hB.trans (hn1.mono z0)).trans (hn2.mono (by omega))).trans (hn3.mono (by omega))).trans (hn4.mono (by omega))
  have key : ∃ S S2, LogIs w4 S L A (List.replicate N zer) [] ∧ LogIs w4 S2 L2 A2 (List.replicate (N + 10) zer) [] ∧ (∀ b, S b → ¬ S2 b) ∧ (∀ b, S b → W.heap.size ≤ b) ∧ (∀ b, S2 b → W.heap.size ≤ b) := by
    refine ⟨_, _, hL, hL2, fun b e1 e2 => ?_, fun b e => ?_, fun b e => ?_⟩
    · rcases e1 with e1 | e1 <;> rcases e2 with e2 | e2 <;> omega
    · rcases e with e | e <;> omega
    · rcases e with e | e <;> omega
  clear hL hL2 hD hD2
  refine Lw.val (Ex.move rfl) rfl ?_
  refine Lw.val (Ex.extract (i := 0) rfl rfl) rfl ?_
  refine Lw.val (Ex.extract (i := 1) rfl rfl) rfl ?_
  refine Lw.val (Ex.assign rfl) rfl ?_
  refine Lw.val (Ex.assign rfl) rfl ?_
  refine Lw.nil ?_
  refine Pw.thenN (Cw.out ?_)
  refine Cw.seq ?_
  refine Cw.seq ?_
  refine Cw.region ?_
  refine Lw.val (Ex.move rfl) rfl ?_
  refine Lw.val (Ex.neq rfl rfl) rfl ?_
  refine Lw.val (Ex.move rfl) rfl ?_
  refine Lw.know 51 (v' := .bool false) rfl (congrArg Value.bool (rfl)) ?_
  refine Lw.take (dj := 51) rfl rfl ?_
  refine Lw.val (Ex.move rfl) rfl ?_
  refine Lw.take (dj := 51) rfl rfl ?_
  refine Lw.val (Ex.neq rfl rfl) rfl ?_
  refine Lw.val (Ex.pickF rfl rfl) rfl ?_
  refine Lw.val (Ex.move rfl) rfl ?_
  refine Lw.know 55 (v' := .bool false) rfl (congrArg Value.bool (rfl)) ?_
  refine Lw.take (dj := 55) rfl rfl ?_
  refine Lw.val (Ex.move rfl) rfl ?_
  refine Lw.take (dj := 55) rfl rfl ?_
  refine Lw.val (Ex.neq rfl rfl) rfl ?_
  refine Lw.val (Ex.pickF rfl rfl) rfl ?_
  refine Lw.val (Ex.move rfl) rfl ?_
  refine Lw.know 59 (v' := .bool false) rfl (congrArg Value.bool (rfl)) ?_
  refine Lw.take (dj := 59) rfl rfl ?_
  refine Lw.val (Ex.move rfl) rfl ?_
  refine Lw.take (dj := 59) rfl rfl ?_
  refine Lw.val (Ex.neq rfl rfl) rfl ?_
  refine Lw.val (Ex.pickF rfl rfl) rfl ?_
  refine Lw.nil ?_
  refine Pw.thenN (Cw.out ?_)
  refine Cw.condB rfl false (rfl) ?_
  refine Cw.skip ?_
  refine Pw.thenN (Cw.out ?_)
  refine Cw.seq ?_
  refine Cw.region ?_
  refine Lw.val (Ex.assign rfl) rfl ?_
  refine Lw.nil ?_
  refine Pw.thenN (Cw.out ?_)
  refine Cw.seq ?_
  refine Cw.seq ?_
  refine Cw.region ?_
  refine Lw.val (Ex.assign rfl) rfl ?_
  refine Lw.nil ?_
  refine Pw.thenN (Cw.out ?_)
  refine Cw.block ?_
  refine Cw.loop (S := Nat) (fun i => [(0, v), (9, .pointer (some ⟨L, 0, none⟩)), (11, .pointer (some ⟨L2, 0, none⟩)), (13, .int .i64 (i : Int)), (14, .int .i64 (i : Int))]) (fun i w' => i ≤ ps.length ∧ Below W.heap.size W w' ∧ ∃ S S2 l l2, l.length = N ∧ l2.length = N + 10 ∧ LogIs w' S L A l (nums2 (ps.take i)) ∧ LogIs w' S2 L2 A2 l2 (nums2 (ps.take i)) ∧ (∀ b, S b → ¬ S2 b) ∧ (∀ b, S b → W.heap.size ≤ b) ∧ (∀ b, S2 b → W.heap.size ≤ b)) (fun i => ps.length - i) (0) ⟨rfl, rfl, rfl, rfl, rfl, trivial⟩ ?_ ?_
  · obtain ⟨S, S2, k1, k2, k3, k4, k5⟩ := key
    exact ⟨Nat.zero_le _, hB4, S, S2, _, _, List.length_replicate, List.length_replicate, k1, k2, k3, k4, k5⟩
  clear key
  rintro i w5 ⟨hi, hB, S, S2, l, l2, hl, hl2, hL, hL2, hS, hSW, hSW2⟩
  have ltS5 := hL.log.lt
  have h5 := h.bs hB
  have s_v := h5.sl
  have z5 := below_size hB
  refine Cw.seq ?_
  refine Cw.seq ?_
  refine Cw.region ?_
  refine Lw.val (Ex.move rfl) rfl ?_
  refine Lw.val (Ex.move rfl) rfl ?_
  refine Lw.val (Ex.lenS st_22 rfl (by assumption)) rfl ?_
  refine Lw.val (Ex.lss rfl rfl) rfl ?_
  refine Lw.nil ?_
  refine Pw.thenN (Cw.out ?_)
  refine Cw.cond rfl ?_ ?_
  · intro g
    have hi' : i < ps.length := by have := of_decide_eq_true g; omega
    obtain ⟨p, hp⟩ : ∃ p, p = ps[i] := ⟨_, rfl⟩
    have hpm : p ∈ ps := by rw [hp]; exact List.getElem_mem hi'
    have s_p := h5.each p hpm
    have hxp := hok p hpm
    have eg : (ps.getD i default).1 = p.1 := by rw [hp, List.getD_eq_getElem?_getD, List.getElem?_eq_getElem hi']; rfl
    have et : nums2 (ps.take (i + 1)) = nums2 (ps.take i) ++ [p.2] := by unfold nums2; rw [List.take_succ_eq_append_getElem hi', List.map_append, hp]; rfl
    have ll : (nums2 (ps.take i)).length = i := by simp [nums2]; omega
    obtain ⟨ix, hix⟩ : ∃ ix, ix = BitVec.ofNat 32 i := ⟨_, rfl⟩
    refine Cw.skip ?_
    refine Pw.thenN (Cw.out ?_)
    refine Cw.seq ?_
    refine Cw.block ?_
    refine Cw.seq ?_
    refine Cw.region ?_
    refine Lw.val (Ex.move rfl) rfl ?_
    refine Lw.val (Ex.as (Ex.conv32 us_3 un_32 rfl) (congrArg u32 (show BitVec.ofInt 32 (i : Int) = ix by rw [hix]; exact ofInt_ofNat i))) rfl ?_
    refine Lw.val (Ex.move rfl) rfl ?_
    refine Lw.val (Ex.move rfl) rfl ?_
    refine Lw.val (Ex.idxT st_22 rfl rfl (by assumption) _ rfl (by omega)) rfl ?_
    refine Lw.val (Ex.as (Ex.ldT (ag_34 _) rfl s_v hi') eg) rfl ?_
    refine Lw.callF rfl rfl (small_c p.1 p.2 w5 s_p) ?_
    rintro _ w6 ⟨hn6, s, rfl, s_s, s_b⟩
    have z6 := hn6.size
    have hL := hL.bs hn6
    have hL2 := hL2.bs hn6
    have s_p := s_p.bs hn6
    have hB := hB.trans (hn6.mono z5)
    refine Lw.val (Ex.build (vs := [(0, u32 ix), (1, .agg [s, p.1].toArray)]) (cs := [u32 ix, s, p.1]) rfl (bt_rec _ _ _)) rfl ?_
    refine Lw.boxed (cs := [u32 ix, s, p.1]) it_39 rfl rfl rfl rfl (fun _ => rfl) ((by rw [List.all_cons, List.all_cons, List.all_cons, s_s.one', s_p.one']; rfl)) ?_
    rintro A_r w7 eA_r b_r hn7 zhn7
    have z7 := hn7.size
    have hL := hL.bs hn7
    have hL2 := hL2.bs hn7
    have s_p := s_p.bs hn7
    have s_s := s_s.bs hn7
    have hB := hB.trans (hn7.mono (by omega))
    have a1 := add1_c L A S l (nums2 (ps.take i)) s p.1 p.2 w7 hL s_s s_p hxp (by rw [ll]; omega)
    rw [ll, ← hix] at a1
    have ltS := hL.log.lt
    have ltS2 := hL2.log.lt
    have yr := blk_lt b_r
    have nr : w6.heap.size ≤ A_r := by omega
    refine Lw.nil ?_
    refine Pw.thenN (Cw.out ?_)
    refine Cw.seq ?_
    refine Cw.region ?_
    refine Lw.val (Ex.move rfl) rfl ?_
    refine Lw.val (Ex.ldA (ag_39 _) (sz_39 _) rfl rfl (by assumption)) rfl ?_
    refine Lw.callF rfl rfl (a1) ?_
    rintro _ w8 (⟨hfull, rfl, hn8⟩ | ⟨hfits, rfl, hC8, hL8⟩)
    · have hL := hL.bs hn8
      have hL2 := hL2.bs hn8
      have s_p := s_p.bs hn8
      have s_s := s_s.bs hn8
      have b_r := b_r.bs hn8
      have z8 := hn8.size
      have hB := hB.trans (hn8.mono (by omega))
      have a2 := add1_c L2 A2 S2 l2 (nums2 (ps.take i)) s p.1 p.2 w8 hL2 s_s s_p hxp (by rw [ll]; omega)
      rw [ll, ← hix] at a2
      refine Lw.val (Ex.assign rfl) rfl ?_
      refine Lw.nil ?_
      refine Pw.thenN (Cw.out ?_)
      refine Cw.seq ?_
      refine Cw.region ?_
      refine Lw.val (Ex.move rfl) rfl ?_
      refine Lw.val (Ex.ldA (ag_39 _) (sz_39 _) rfl rfl (by assumption)) rfl ?_
      refine Lw.callF rfl rfl (a2) ?_
      rintro rr w9 hr
      have hr9 : ∃ e, rr = .int .i64 e ∧ Below W.heap.size W w9 ∧ LogIs w9 S L A l (nums2 (ps.take i)) := by
        rcases hr with ⟨-, h2, h3⟩ | ⟨-, h2, h3, -⟩
        · exact ⟨6, h2, hB.trans (h3.mono (by omega)), hL.bs h3⟩
        · exact ⟨0, h2, hB.trans (h3.to_below hSW2 (by omega)), hL.chg h3 hS⟩
      obtain ⟨e, rfl, hB, hL⟩ := hr9
      refine Lw.val (Ex.assign rfl) rfl ?_
      refine Lw.nil ?_
      refine Pw.thenN (Cw.out ?_)
      refine Cw.seq ?_
      refine Cw.seq ?_
      refine Cw.region ?_
      refine Lw.val (Ex.move rfl) rfl ?_
      refine Lw.val (Ex.eql rfl rfl) rfl ?_
      refine Lw.val (Ex.move rfl) rfl ?_
      refine Lw.know 85 (v' := .bool false) rfl (congrArg Value.bool (rfl)) ?_
      refine Lw.pass (dj := 85) rfl rfl rfl rfl ?_
      refine Lw.pass (dj := 85) rfl rfl rfl rfl ?_
      refine Lw.val (Ex.pickF rfl rfl) rfl ?_
      refine Lw.val (Ex.move rfl) rfl ?_
      refine Lw.take (dj := 89) rfl rfl ?_
      refine Lw.val (Ex.move rfl) rfl ?_
      refine Lw.take (dj := 89) rfl rfl ?_
      refine Lw.val (Ex.neq rfl rfl) rfl ?_
      refine Lw.take (dj := 89) rfl rfl ?_
      refine Lw.val (Ex.move rfl) rfl ?_
      refine Lw.know 92 (v' := .bool true) rfl (congrArg Value.bool (rfl)) ?_
      refine Lw.take (dj := 92) rfl rfl ?_
      refine Lw.val (Ex.move rfl) rfl ?_
      refine Lw.take (dj := 92) rfl rfl ?_
      refine Lw.val (Ex.neq rfl rfl) rfl ?_
      refine Lw.take (dj := 89) rfl rfl ?_
      refine Lw.val (Ex.pickT rfl rfl) rfl ?_
      refine Lw.val (Ex.pickF rfl rfl) rfl ?_
      refine Lw.nil ?_
      refine Pw.thenN (Cw.out ?_)
      refine Cw.condB rfl false (rfl) ?_
      refine Cw.skip ?_
      refine Pw.thenN (Cw.out ?_)
      refine Cw.seq ?_
      refine Cw.seq ?_
      refine Cw.region ?_
      refine Lw.val (Ex.move rfl) rfl ?_
      refine Lw.val (Ex.neq rfl rfl) rfl ?_
      refine Lw.nil ?_
      refine Pw.thenN (Cw.out ?_)
      refine Cw.condB rfl true (rfl) ?_
      refine Cw.seq ?_
      refine Cw.region ?_
      refine Lw.val (Ex.move rfl) rfl ?_
      refine Lw.val (Ex.move rfl) rfl ?_
      refine Lw.val (Ex.move rfl) rfl ?_
      refine Lw.val (Ex.cutHv st_22 rfl rfl h.sl.shp (by omega)) rfl ?_
      have hLL := (h.bs hB).take (n := i) (by omega)
      refine Lw.callF rfl rfl (told_c L A S l _ _ (ps.take i) w9 hL hLL) ?_
      rintro _ w10 ⟨rfl, hn10⟩
      refine Lw.val (Ex.move rfl) rfl ?_
      refine Lw.know 104 (v' := .bool true) rfl (congrArg Value.bool ((by simp))) ?_
      refine Lw.take (dj := 104) rfl rfl ?_
      refine Lw.callF rfl rfl (lives_c w10) ?_
      rintro _ w11 ⟨rfl, hn11⟩
      have hB10 := hB.trans (hn10.mono (below_size hB))
      refine Lw.val (Ex.pickT rfl rfl) rfl ?_
      refine Lw.val (Ex.assign rfl) rfl ?_
      refine Lw.nil ?_
      refine Pw.thenN (Cw.out ?_)
      refine Cw.ret ?_
      refine Pw.thenR ?_
      refine Pw.blkR ?_
      refine Pw.thenR ?_
      refine Pw.thenR ?_
      refine Pw.blkR ?_
      refine Pw.thenR ?_
      refine Pw.ret1 rfl rfl ?_
      exact ⟨rfl, hB10.trans (hn11.mono (below_size hB10))⟩
    have hL := hL8
    have z8 := hC8.size
    have hL2 := hL2.chg hC8 (fun b e1 e2 => hS b e2 e1)
    have hB := hB.trans (hC8.to_below hSW (by omega))
    have s_p : SlT i32 w8 p.1 p.2 := (h.bs hB).each p hpm
    have nS : ∀ b, w5.heap.size ≤ b → ¬ S b := fun b e1 e2 => by have := ltS5 b e2; omega
    have b_r := b_r.chg hC8 (nS _ (by omega))
    have s_s : SlT (Value.int .i64) w8 s [(p.2.length : Int)] := Sl.chg s_s hC8 (fun k e _ => nS k (s_b k e))
    have a2 := add1_c L2 A2 S2 l2 (nums2 (ps.take i)) s p.1 p.2 w8 hL2 s_s s_p hxp (by rw [ll]; omega)
    rw [ll, ← hix] at a2
    refine Lw.val (Ex.assign rfl) rfl ?_
    refine Lw.nil ?_
    refine Pw.thenN (Cw.out ?_)
    refine Cw.seq ?_
    refine Cw.region ?_
    refine Lw.val (Ex.move rfl) rfl ?_
    refine Lw.val (Ex.ldA (ag_39 _) (sz_39 _) rfl rfl (by assumption)) rfl ?_
    refine Lw.callF rfl rfl (a2) ?_
    rintro rr w9 hr
    have hr := hr.resolve_left (fun h => by have := h.1; omega)
    obtain ⟨-, rfl, hC9, hL2⟩ := hr
    have z9 := hC9.size
    have hL := hL.chg hC9 (fun b e e2 => e.elim (fun e => hS b e e2) (fun e => by have := ltS2 b e2; omega))
    have hB := hB.trans (hC9.to_below hSW2 (by omega))
    refine Lw.val (Ex.assign rfl) rfl ?_
    refine Lw.nil ?_
    refine Pw.thenN (Cw.out ?_)
    refine Cw.seq ?_
    refine Cw.seq ?_
    refine Cw.region ?_
    refine Lw.val (Ex.move rfl) rfl ?_
    refine Lw.val (Ex.eql rfl rfl) rfl ?_
    refine Lw.val (Ex.move rfl) rfl ?_
    refine Lw.know 85 (v' := .bool true) rfl (congrArg Value.bool (rfl)) ?_
    refine Lw.take (dj := 85) rfl rfl ?_
    refine Lw.val (Ex.move rfl) rfl ?_
    refine Lw.take (dj := 85) rfl rfl ?_
    refine Lw.val (Ex.neq rfl rfl) rfl ?_
    refine Lw.val (Ex.pickT rfl rfl) rfl ?_
    refine Lw.val (Ex.move rfl) rfl ?_
    refine Lw.know 89 (v' := .bool false) rfl (congrArg Value.bool (rfl)) ?_
    refine Lw.take (dj := 89) rfl rfl ?_
    refine Lw.val (Ex.move rfl) rfl ?_
    refine Lw.take (dj := 89) rfl rfl ?_
    refine Lw.val (Ex.neq rfl rfl) rfl ?_
    refine Lw.take (dj := 89) rfl rfl ?_
    refine Lw.val (Ex.move rfl) rfl ?_
    refine Lw.know 92 (v' := .bool false) rfl (congrArg Value.bool (rfl)) ?_
    refine Lw.pass (dj := 92) rfl rfl rfl rfl ?_
    refine Lw.pass (dj := 92) rfl rfl rfl rfl ?_
    refine Lw.take (dj := 89) rfl rfl ?_
    refine Lw.val (Ex.pickF rfl rfl) rfl ?_
    refine Lw.val (Ex.pickF rfl rfl) rfl ?_
    refine Lw.nil ?_
    refine Pw.thenN (Cw.out ?_)
    refine Cw.condF rfl ?_
    refine Cw.skip ?_
    refine Pw.thenN (Cw.out ?_)
    refine Cw.seq ?_
    refine Cw.seq ?_
    refine Cw.region ?_
    refine Lw.val (Ex.move rfl) rfl ?_
    refine Lw.val (Ex.neq rfl rfl) rfl ?_
    refine Lw.nil ?_
    refine Pw.thenN (Cw.out ?_)
    refine Cw.condB rfl false (rfl) ?_
    refine Cw.skip ?_
    refine Pw.thenN (Cw.out ?_)
    refine Cw.region ?_
    refine Lw.val (Ex.move rfl) rfl ?_
    refine Lw.val (Ex.addI rfl rfl (by omega)) rfl ?_
    refine Lw.val (Ex.assign rfl) rfl ?_
    refine Lw.nil ?_
    refine Pw.blkN ?_
    refine Pw.thenN (Cw.out ?_)
    refine Cw.region ?_
    refine Lw.val (Ex.move rfl) rfl ?_
    refine Lw.val (Ex.addI rfl rfl (by omega)) rfl ?_
    refine Lw.val (Ex.assign rfl) rfl ?_
    refine Lw.nil ?_
    exact Pw.thenN (Pw.next (i + 1) ⟨rfl, rfl, rfl, rfl, rfl, trivial⟩ (⟨hi', hB, gro S w7 w8, gro S2 w8 w9, addL l (nums2 (ps.take i)) p.2, addL l2 (nums2 (ps.take i)) p.2, by rw [addL_len]; exact hl, by rw [addL_len]; exact hl2, by rw [et]; exact hL, by rw [et]; exact hL2, fun b e1 e2 => e1.elim (fun e1 => e2.elim (hS b e1) (fun e2 => by have := ltS b e1; omega)) (fun e1 => e2.elim (fun e2 => by have := ltS2 b e2; omega) (fun e2 => by omega)), fun b e => e.elim (hSW b) (fun e => by omega), fun b e => e.elim (hSW2 b) (fun e => by omega)⟩) (by omega))
  intro g
  have hi' : i = ps.length := by have := of_decide_eq_false g; omega
  subst hi'
  rw [List.take_length] at hL hL2
  refine Cw.exit ?_
  refine Pw.thenE ?_
  refine Pw.thenE ?_
  refine Pw.blkHit ?_
  refine Pw.thenN (Cw.out ?_)
  refine Cw.seq ?_
  refine Cw.region ?_
  refine Lw.val (Ex.move rfl) rfl ?_
  refine Lw.val (Ex.move rfl) rfl ?_
  refine Lw.callF rfl rfl (told_c L A S l _ v ps w5 hL h5) ?_
  rintro _ w6 ⟨rfl, hn6⟩
  refine Lw.val (Ex.move rfl) rfl ?_
  refine Lw.know 112 (v' := .bool true) rfl (congrArg Value.bool ((by simp))) ?_
  refine Lw.take (dj := 112) rfl rfl ?_
  refine Lw.val (Ex.move rfl) rfl ?_
  refine Lw.take (dj := 112) rfl rfl ?_
  refine Lw.val (Ex.move rfl) rfl ?_
  refine Lw.take (dj := 112) rfl rfl ?_
  refine Lw.callF rfl rfl (told_c L2 A2 S2 l2 _ v ps w6 (hL2.bs hn6) (h5.bs hn6)) ?_
  rintro _ w7 ⟨rfl, hn7⟩
  refine Lw.val (Ex.pickT rfl rfl) rfl ?_
  refine Lw.val (Ex.move rfl) rfl ?_
  refine Lw.know 117 (v' := .bool true) rfl (congrArg Value.bool ((by simp))) ?_
  refine Lw.take (dj := 117) rfl rfl ?_
  refine Lw.callF rfl rfl (lives_c w7) ?_
  rintro _ w8 ⟨rfl, hn8⟩
  have z6 := hn6.size
  have z7 := hn7.size
  refine Lw.val (Ex.pickT rfl rfl) rfl ?_
  refine Lw.val (Ex.assign rfl) rfl ?_
  refine Lw.nil ?_
  refine Pw.thenN (Cw.out ?_)
  refine Cw.ret ?_
  refine Pw.ret1 rfl rfl ?_
  exact ⟨rfl, ((hB.trans (hn6.mono z5)).trans (hn7.mono (by omega))).trans (hn8.mono (by omega))⟩

set_option maxRecDepth 100000 in
set_option maxHeartbeats 2000000 in
theorem outlogsFull_lifted (os : Os) (started : os.Started) (H : Type) (enc : TypeId × Value → H) :
    ReturnsInHanded {} Try.checked os 3 .any (Rows.outlogsFullSpec.pre6 enc Try.prog Try.f3 Rows.outlogsFullRow.domain false) (Rows.outlogsFullSpec.post enc Try.prog Try.f3 false true false false) := by
  refine returnsInHanded_of_change_sized (C := Try.checked) own started (by kernel_rfl) Try.func3
    (ChangeSpec.witness6 (enc := enc) (C := Try.checked) false ⟨#[], #[.slice none 0 0, .int .u8 0], []⟩ 8 (by kernel_rfl) (by kernel_rfl) (by kernel_rfl) (by kernel_rfl)) ?_
  intro W base args ds gs before hval0 hW hcnd hsz0 _
  have hval : ∀ (j : Nat) t v, Try.f3.params[j]? = some t → args[j]? = some v → Value.okWide Try.prog W .any base t v := hval0
  have hW' := hW
  obtain ⟨p, q, hA0, hV, rfl, hfz, hnd⟩ := hW
  have hA : DataW.TrodAll enc Try.prog W 0 (fun _ => true) true Try.f3.params.toList args.toList ds p := hA0
  have hsz : (DataW.weightsEach Try.prog (Try.f3.params.toList ++ Rows.outlogsFullSpec.plain.varTypes Try.prog) (ds ++ gs)).all (· ≤ reachBytes) = true := hsz0
  rw [Try.params3] at hA hval hsz
  obtain ⟨v0, vs0, d0, ds0, p0, q0, hargs, rfl, rfl, h0, r0⟩ := trodAll_cons hA
  obtain ⟨v1, vs1, d1, ds1, p1, q1, rfl, rfl, rfl, h1, r1⟩ := trodAll_cons r0
  obtain ⟨rfl, rfl, rfl⟩ := trodAll_nil r1
  obtain rfl : args = #[v0, v1] := by cases args; simp_all
  obtain ⟨rfl, rfl⟩ := trodVars_none hV
  have k0 := h0
  have lt0 : ∀ x ∈ p0, x.block < W.heap.size := by obtain ⟨m, hm⟩ := k0; exact DataW.trod_lt m _ _ _ hm
  have i0 := in_of (j := 0) (t := 22) hsz rfl rfl h0
  have o0 := hval 0 22 v0 rfl rfl
  have k1 := h1
  have lt1 : ∀ x ∈ p1, x.block < W.heap.size := by obtain ⟨m, hm⟩ := k1; exact DataW.trod_lt m _ _ _ hm
  have i1 := in_of (j := 1) (t := 5) hsz rfl rfl h1
  have o1 := hval 1 5 v1 rfl rfl
  clear hA0 hval0 hsz0 hsz
  obtain ⟨ps, hl, hm⟩ := arg_ll o0 i0
  obtain ⟨sx, rfl⟩ := arg_num (BitVec.ofInt 8) b8 (fun _ h => wf_u8 h) un_5 o1 i1
  refine (law_calls (outlogsFull_w v0 ps sx W hl hm)).mono fun e W' ⟨he, bel⟩ => ?_
  subst he
  exact ⟨_, rfl, _, _, _, [], _, [], hW', trodAll_mk1 (shut_bool un_4 _), (trodAll_cons_mk (Below.trod laidOut (by kernel_rfl) (of_decide_eq_true (by kernel_rfl)) k0 bel lt0) (trodAll_cons_mk (Below.trod laidOut (by kernel_rfl) (of_decide_eq_true (by kernel_rfl)) k1 bel lt1) trodAll_mk0)), rfl, bel.frame _, fun h => by cases h⟩

/-- The statement. -/
theorem outlogsFull_proved : Rows.OutlogsFullSaid :=
  OpenClaim.holds_of_wide 3 Try.f3 rfl rfl rfl rfl rfl rfl rfl ⟨rfl, rfl, rfl, rfl, rfl⟩ rfl rfl rfl rfl rfl (by kernel_rfl) Try.func3 (by kernel_rfl)
    (of_decide_eq_true (by kernel_rfl)) (by unfold Func.isWrapper; first | (rw [if_pos (by decide +kernel)]; kernel_rfl) | (rw [if_neg (by decide +kernel)]; exact ⟨rfl, rfl⟩))
    (fun os started H enc _ => outlogsFull_lifted os started H enc)
#print axioms outlogsFull_proved
end Go.Proofs.Ytiaojbbgjlpikaa
