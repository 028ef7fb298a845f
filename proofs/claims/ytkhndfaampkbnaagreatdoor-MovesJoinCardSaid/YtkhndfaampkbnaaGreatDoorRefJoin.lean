/- Contract: some tensors, joined along a direction, as the document has it. -/
import Derived.Test.YtkhndfaampkbnaaGreatDoorJoinPl
namespace Go.Proofs.YtkhndfaampkbnaaGreatDoor
open Go Go.Dd Go.RowKit
set_option maxRecDepth 100000

theorem one_fst (ps : List (Value × List Int)) (w : World) (h : ∀ p ∈ ps, SlT (Value.int .i64) w p.1 p.2) : (ps.map fun p => p.1).all (·.oneCell') = true := by
  rw [List.all_eq_true]
  intro x hx
  obtain ⟨p, hp, rfl⟩ := List.mem_map.1 hx
  exact (h p hp).one'
set_option maxHeartbeats 2000000 in
theorem rjoin_c (v : Value) (ts : List T4) (al : Int) (W : World) (h : Tens W v ts) :
    Fnc Tryz.prog 9 [v, .int .i64 al] W (fun r w' => Below W.heap.size W w' ∧ AnsK W w' r (jnE ts al) (jnS ts al.toNat) (jnL ts al.toNat)) := by
  have hB := Below.refl W.heap.size W
  have lv : ts.length ≤ 9223372036854775807 := h.1.le
  refine Fnc.enter (n := 123) Tryz.func9 (by kernel_rfl) rfl rfl rfl ?_
  refine Cw.seq ?_
  refine Cw.region ?_
  refine Lw.newA it_29 rfl ?_
  rintro A_r w eA_r b_r hn -
  replace hB := hB.bs hn
  replace h := h.bs hn
  clear hn
  refine Lw.val (Ex.assign rfl) rfl ?_
  refine Lw.nil ?_
  refine Pw.thenN (Cw.out ?_)
  refine Cw.seq ?_
  refine Cw.region ?_
  refine Lw.val (Ex.assign rfl) rfl ?_
  refine Lw.nil ?_
  refine Pw.thenN (Cw.out ?_)
  refine Cw.seq ?_
  refine Cw.seq ?_
  refine Cw.region ?_
  refine Lw.val (Ex.assign rfl) rfl ?_
  refine Lw.nil ?_
  refine Pw.thenN (Cw.out ?_)
  refine Cw.block ?_
  have z_r := blk_lt b_r
  have zB := below_size hB
  obtain ⟨PS, hPS⟩ : ∃ PS : Nat → List (Value × List Int), PS = fun i => (ts.take i).map fun t => (t.x, t.s) := ⟨_, rfl⟩
  have ePS : ∀ i, ints2 (PS i) = (ts.take i).map (·.s) := fun i => by rw [hPS]; simp only [ints2, List.map_map]; rfl
  have lPS : ∀ i, i ≤ ts.length → (PS i).length = i := fun i hi => by rw [hPS, List.length_map, List.length_take]; omega
  refine Cw.loop (S := (Nat × Value)) (fun z => [(0, v), (1, .int .i64 al), (4, .pointer (some ⟨A_r, 0, none⟩)), (6, z.2), (7, .int .i64 (z.1 : Int))]) (fun z w' => z.1 ≤ ts.length ∧ z.1 ≤ 5 ∧ badT (ts.take z.1) = false ∧ Below w.heap.size w w' ∧ w'.ownsRow w.heap.size 26 1 z.2 z.1 ((PS z.1).map fun p => p.1)) (fun z => ts.length - z.1) ((0, .slice none 0 0)) ⟨rfl, rfl, rfl, rfl, rfl, trivial⟩ ?_ ?_
  · exact ⟨Nat.zero_le _, Nat.zero_le _, rfl, Below.refl _ _, by rw [hPS]; exact ⟨rfl, .inl ⟨rfl, rfl⟩⟩⟩
  rintro ⟨i, u⟩ w1 ⟨hi, hi5, hbad, hn, o_u⟩
  replace hi : i ≤ ts.length := hi
  replace hi5 : i ≤ 5 := hi5
  replace hbad : badT (ts.take i) = false := hbad
  replace o_u : w1.ownsRow w.heap.size 26 1 u i ((PS i).map fun p => p.1) := o_u
  have hB := hB.trans (hn.mono zB)
  have h := h.bs hn
  have b_r := b_r.bs hn
  have h1 := h.1
  have zn := hn.size
  have hLI : LI w1 u (PS i) := ⟨by
    have := own_sl o_u
    unfold SlT
    rw [lPS i hi]
    exact this, fun p hp => by
    rw [hPS] at hp
    obtain ⟨t, ht, rfl⟩ := List.mem_map.1 hp
    exact (h.2 t (List.mem_of_mem_take ht)).1⟩
  refine Cw.seq ?_
  refine Cw.seq ?_
  refine Cw.region ?_
  refine Lw.val (Ex.move rfl) rfl ?_
  refine Lw.val (Ex.move rfl) rfl ?_
  refine Lw.val (Ex.lenS st_22 rfl (by assumption)) rfl ?_
  refine Lw.val (Ex.lss rfl rfl) rfl ?_
  refine Lw.val (Ex.move rfl) rfl ?_
  refine Lw.part 23 rfl ?_ ?_
  · intro g
    have hi' : i < ts.length := by have := of_decide_eq_true g; omega
    refine Lw.take (dj := 23) rfl rfl ?_
    refine Lw.val (Ex.move rfl) rfl ?_
    refine Lw.take (dj := 23) rfl rfl ?_
    refine Lw.val (Ex.leq rfl rfl) rfl ?_
    refine Lw.val (Ex.pickT rfl rfl) rfl ?_
    refine Lw.nil ?_
    refine Pw.thenN (Cw.out ?_)
    refine Cw.cond rfl ?_ ?_
    · intro g2
      have hi4 : i ≤ 4 := by have := of_decide_eq_true g2; omega
      obtain ⟨a, ha, ham, c1, c2⟩ := tens_at hi'
      have hvs := h.slice hi'
      have h1 := h.1
      have haw := h.2 a ham
      have ebad : badT (ts.take (i + 1)) = (badT (ts.take i) || !tok a.s a.l) := by unfold badT; rw [List.take_succ_eq_append_getElem hi', List.any_append, ← ha]; simp
      refine Cw.skip ?_
      refine Pw.thenN (Cw.out ?_)
      refine Cw.seq ?_
      refine Cw.block ?_
      refine Cw.seq ?_
      refine Cw.seq ?_
      refine Cw.region ?_
      refine Lw.val (Ex.move rfl) rfl ?_
      refine Lw.val (Ex.move rfl) rfl ?_
      refine Lw.val (Ex.idx st_22 rfl rfl h1 i rfl hi') rfl ?_
      refine Lw.val (Ex.ldE (cs := [a.x, a.y]) (ag_29 _) (sz_29 _) rfl h1 rfl (by decide) (two_cells c1 c2)) rfl ?_
      refine Lw.callF rfl rfl (rtcheck_c a.x a.y a.s a.l w1 haw.1 haw.2) ?_
      rintro _ w2 ⟨rfl, hn2⟩
      have hB := bt hB hn2
      have b_r := b_r.bs hn2
      refine Lw.val (Ex.not rfl) rfl ?_
      refine Lw.nil ?_
      refine Pw.thenN (Cw.out ?_)
      refine Cw.cond rfl ?_ ?_
      · intro g3
        have g3 : tok a.s a.l = false := by simpa using g3
        have hE : jnE ts al = 1 := jnE_bad (by
          have : badT ts = true := List.any_eq_true.2 ⟨a, ham, by rw [g3]; rfl⟩
          unfold jnA; rw [this]; simp)
        refine Cw.seq ?_
        refine Cw.region ?_
        refine Lw.val (Ex.build (vs := []) (cs := [.slice none 0 0, .slice none 0 0]) rfl (by kernel_rfl)) rfl ?_
        refine Lw.unit (Xu.stA (cs := [.slice none 0 0, .slice none 0 0]) rfl rfl rfl rfl rfl b_r rfl) ?_
        rintro w3 ⟨b_r, hg, -⟩
        have hB := hB.grown hg (below_size hB) (by rintro _ ⟨⟩; omega)
        refine Lw.val (Ex.assign rfl) rfl ?_
        refine Lw.nil ?_
        refine Pw.thenN (Cw.out ?_)
        refine Cw.ret ?_
        refine Pw.thenR ?_
        refine Pw.blkR ?_
        refine Pw.thenR ?_
        refine Pw.thenR ?_
        refine Pw.blkR ?_
        refine Pw.thenR ?_
        refine Pw.retCT rfl rfl rfl (by assumption) (Tryz.underlying29) rfl rfl rfl ?_
        rw [hE]
        exact ⟨hB, ansK_no (by decide)⟩
      intro g3
      have g3 : tok a.s a.l = true := by simpa using g3
      have h := h.bs hn2
      have h1 := h.1
      have o_u := own_bs o_u hn2
      have haw := haw.bs hn2
      have zn2 := hn2.size
      refine Cw.skip ?_
      refine Pw.thenN (Cw.out ?_)
      refine Cw.region ?_
      refine Lw.val (Ex.move rfl) rfl ?_
      refine Lw.val (Ex.move rfl) rfl ?_
      refine Lw.val (Ex.move rfl) rfl ?_
      refine Lw.val (Ex.idx st_22 rfl rfl h1 i rfl hi') rfl ?_
      refine Lw.val (Ex.fieldAddrE Tryz.underlying29 rfl (sz_26 _) rfl hvs) rfl ?_
      refine Lw.val (Ex.ld (ag_26 _) rfl h1 c1) rfl ?_
      refine Lw.valW (Xw.lit (vs := [a.x]) st_72 it_26 rfl rfl rfl (by rw [List.all_cons, haw.1.one']; rfl) rfl) rfl ?_
      rintro q w3 ⟨o_q, -, hn3, -⟩
      have o_u := own_bs o_u hn3
      have hn23 := bt hn2 hn3
      refine Lw.valW (Xw.append2 (base := w.heap.size) st_72 it_26 rfl (by decide) rfl rfl o_u (own_sl o_q) (by rw [List.all_cons, haw.1.one']; rfl) (by omega) (by omega) (Nat.le_trans zn hn23.size)) rfl ?_
      rintro u' w4 ⟨o_u, hn4, hg, -⟩
      have hn5 := (hn.trans (hn23.mono zn)).trans hn4
      have eP : (PS (i + 1)).map (fun p => p.1) = (PS i).map (fun p => p.1) ++ [a.x] := by
        rw [hPS]
        simp only
        rw [List.take_succ_eq_append_getElem hi', List.map_append, List.map_append, ← ha]; rfl
      refine Lw.val (Ex.assign rfl) rfl ?_
      refine Lw.nil ?_
      refine Pw.blkN ?_
      refine Pw.thenN (Cw.out ?_)
      refine Cw.region ?_
      refine Lw.val (Ex.move rfl) rfl ?_
      refine Lw.val (Ex.addI rfl rfl (by omega)) rfl ?_
      refine Lw.val (Ex.assign rfl) rfl ?_
      refine Lw.nil ?_
      exact Pw.thenN (Pw.next ((i + 1, u')) ⟨rfl, rfl, rfl, rfl, rfl, trivial⟩ (⟨hi', by simp only; omega, by simp only; rw [ebad, hbad, g3]; rfl, hn5, by simp only; rw [eP]; exact o_u⟩) (by simp only; omega))
    intro g2
    have hi4 : ¬ i ≤ 4 := by have := of_decide_eq_false g2; omega
    have lP := lPS i hi
    have hE : jnE ts al = 1 := jnE_bad (by unfold jnA; rw [decide_eq_true (show 4 < ts.length by omega)]; simp)
    have hJ : jdE (ints2 (PS i)) al = 1 := by
      unfold jdE jdA
      rw [List.length_map, lP, decide_eq_true (show 4 < i by omega)]
      simp
    refine Cw.exit ?_
    refine Pw.thenE ?_
    refine Pw.thenE ?_
    refine Pw.blkHit ?_
    refine Pw.thenN (Cw.out ?_)
    refine Cw.seq ?_
    refine Cw.region ?_
    refine Lw.val (Ex.move rfl) rfl ?_
    refine Lw.val (Ex.move rfl) rfl ?_
    refine Lw.callF rfl rfl (rjoined_c u (PS i) al w1 hLI) ?_
    rintro _ w2 ⟨hn2, x, s, rfl, -, -⟩
    rw [hJ]
    have hB := bt hB hn2
    have b_r := b_r.bs hn2
    refine Lw.val (Ex.move rfl) rfl ?_
    refine Lw.val (Ex.extract (i := 0) rfl rfl) rfl ?_
    refine Lw.val (Ex.extract (i := 1) rfl rfl) rfl ?_
    refine Lw.val (Ex.assign rfl) rfl ?_
    refine Lw.val (Ex.assign rfl) rfl ?_
    refine Lw.nil ?_
    refine Pw.thenN (Cw.out ?_)
    refine Cw.seq ?_
    refine Cw.seq ?_
    refine Cw.region ?_
    refine Lw.val (Ex.move rfl) rfl ?_
    refine Lw.val (Ex.neq rfl rfl) rfl ?_
    refine Lw.nil ?_
    refine Pw.thenN (Cw.out ?_)
    refine Cw.condB rfl true (rfl) ?_
    refine Cw.seq ?_
    refine Cw.region ?_
    refine Lw.val (Ex.build (vs := []) (cs := [.slice none 0 0, .slice none 0 0]) rfl (by kernel_rfl)) rfl ?_
    refine Lw.val (Ex.move rfl) rfl ?_
    refine Lw.unit (Xu.stA (cs := [.slice none 0 0, .slice none 0 0]) rfl rfl rfl rfl rfl b_r rfl) ?_
    rintro w3 ⟨b_r, hg, -⟩
    have hB := hB.grown hg (below_size hB) (by rintro _ ⟨⟩; omega)
    refine Lw.val (Ex.assign rfl) rfl ?_
    refine Lw.nil ?_
    refine Pw.thenN (Cw.out ?_)
    refine Cw.ret ?_
    refine Pw.thenR ?_
    refine Pw.retCT rfl rfl rfl (by assumption) (Tryz.underlying29) rfl rfl rfl ?_
    rw [hE]
    exact ⟨hB, ansK_no (by decide)⟩
  intro g
  have hi' : i = ts.length := by have := of_decide_eq_false g; omega
  rw [hi', List.take_length] at hbad
  have eI : ints2 (PS i) = ts.map (·.s) := by rw [ePS, hi', List.take_length]
  obtain ⟨eE, eS⟩ := jdE_jnE al hbad
  have lts : ts.length ≤ 5 := by omega
  clear o_u ePS lPS hPS
  refine Lw.pass (dj := 23) rfl rfl rfl rfl ?_
  refine Lw.pass (dj := 23) rfl rfl rfl rfl ?_
  refine Lw.val (Ex.pickF rfl rfl) rfl ?_
  refine Lw.nil ?_
  refine Pw.thenN (Cw.out ?_)
  refine Cw.condF rfl ?_
  refine Cw.exit ?_
  refine Pw.thenE ?_
  refine Pw.thenE ?_
  refine Pw.blkHit ?_
  refine Pw.thenN (Cw.out ?_)
  refine Cw.seq ?_
  refine Cw.region ?_
  refine Lw.val (Ex.move rfl) rfl ?_
  refine Lw.val (Ex.move rfl) rfl ?_
  refine Lw.callF rfl rfl (rjoined_c u (PS i) al w1 hLI) ?_
  rintro _ w2 ⟨hn2, x, S, rfl, s_x, hS⟩
  rw [eI, eE] at hS ⊢
  have hB := bt hB hn2
  have b_r := b_r.bs hn2
  have h := h.bs hn2
  have zn2 := hn2.size
  clear hLI hn2 hn
  refine Lw.val (Ex.move rfl) rfl ?_
  refine Lw.val (Ex.extract (i := 0) rfl rfl) rfl ?_
  refine Lw.val (Ex.extract (i := 1) rfl rfl) rfl ?_
  refine Lw.val (Ex.assign rfl) rfl ?_
  refine Lw.val (Ex.assign rfl) rfl ?_
  refine Lw.nil ?_
  refine Pw.thenN (Cw.out ?_)
  refine Cw.seq ?_
  refine Cw.seq ?_
  refine Cw.region ?_
  refine Lw.val (Ex.move rfl) rfl ?_
  refine Lw.val (Ex.neq rfl rfl) rfl ?_
  refine Lw.nil ?_
  refine Pw.thenN (Cw.out ?_)
  refine Cw.cond rfl ?_ ?_
  · intro g2
    have hne : jnE ts al ≠ 0 := fun e => by rw [e] at g2; simp at g2
    refine Cw.seq ?_
    refine Cw.region ?_
    refine Lw.val (Ex.build (vs := []) (cs := [.slice none 0 0, .slice none 0 0]) rfl (by kernel_rfl)) rfl ?_
    refine Lw.val (Ex.move rfl) rfl ?_
    refine Lw.unit (Xu.stA (cs := [.slice none 0 0, .slice none 0 0]) rfl rfl rfl rfl rfl b_r rfl) ?_
    rintro w3 ⟨b_r, hg, -⟩
    have hB := hB.grown hg (below_size hB) (by rintro _ ⟨⟩; omega)
    refine Lw.val (Ex.assign rfl) rfl ?_
    refine Lw.nil ?_
    refine Pw.thenN (Cw.out ?_)
    refine Cw.ret ?_
    refine Pw.thenR ?_
    refine Pw.retCT rfl rfl rfl (by assumption) (Tryz.underlying29) rfl rfl rfl ?_
    exact ⟨hB, ansK_no hne⟩
  intro g2
  have hE : jnE ts al = 0 := by simpa using g2
  have hSS : S = jnS ts al.toNat := by
    have := hS hE
    rw [eS hE] at this
    exact (Option.some.inj this).symm
  clear hS eS g2 g eE eI hbad
  rw [hE]
  have hal : 0 ≤ al := by
    rcases Int.lt_or_le al 0 with h0 | h0
    · rw [jnE_bad (by unfold jnA; rw [decide_eq_true h0]; simp)] at hE; cases hE
    · exact h0
  obtain ⟨k, rfl⟩ : ∃ k : Nat, al = (k : Int) := ⟨al.toNat, by omega⟩
  have J := jnE_iff.1 hE
  rw [Int.toNat_natCast] at hSS ⊢
  have J4 := J.few.2
  have okS : Shapes.ok S = true := by rw [hSS, J.S]; exact J.oks
  have lS : S.length = (s0T ts).length := by rw [hSS, J.S, List.length_set]
  refine Cw.skip ?_
  refine Pw.thenN (Cw.out ?_)
  refine Cw.seq ?_
  refine Cw.region ?_
  refine Lw.val (Ex.move rfl) rfl ?_
  refine Lw.callF rfl rfl (rnew_c x S w2 s_x) ?_
  rintro _ w7 ⟨hn7, ⟨hk, p, y, rfl, hm⟩ | ⟨hk, rfl⟩⟩
  · refine Lw.val (Ex.move rfl) rfl ?_
    refine Lw.val (Ex.extract (i := 0) rfl rfl) rfl ?_
    refine Lw.val (Ex.extract (i := 1) rfl rfl) rfl ?_
    refine Lw.boxed (cs := [p, y]) it_29 rfl rfl rfl rfl (fun _ => rfl) (hm.one) ?_
    rintro A_m w8 eA_m b_m hn8 zhn8
    have M := mine_new hm eA_m b_m hn8 zhn8 hn7.size
    have hw8 := bt hn7 hn8
    have zw := hw8.size
    have zB := below_size hB
    have p_h := h
    have p_x := s_x
    have q_r := blk_lt b_r
    have h := h.bs hw8
    have b_r := b_r.bs hw8
    have s_x := s_x.bs hw8
    have hB := bt hB hw8
    obtain ⟨zs, hzs⟩ : ∃ l, l = List.replicate (Shapes.size S).toNat 0#32 := ⟨_, rfl⟩
    rw [← hzs] at M
    have D0 : Done ts k 0 0 zs := ⟨by rw [hzs, List.length_replicate, Shapes.size_ok okS, J.L, mk_length, hSS, J.S], fun a b ha => absurd ha (by omega), fun b hb => absurd hb (by omega)⟩
    clear hm b_m hn7 hn8 eA_m zhn8 hw8 hzs
    refine Lw.val (Ex.assign rfl) rfl ?_
    refine Lw.nil ?_
    refine Pw.thenN (Cw.out ?_)
    refine Cw.seq ?_
    refine Cw.region ?_
    refine Lw.val (Ex.assign rfl) rfl ?_
    refine Lw.nil ?_
    refine Pw.thenN (Cw.out ?_)
    refine Cw.seq ?_
    refine Cw.seq ?_
    refine Cw.region ?_
    refine Lw.val (Ex.assign rfl) rfl ?_
    refine Lw.nil ?_
    refine Pw.thenN (Cw.out ?_)
    refine Cw.block ?_
    refine Cw.loop (S := (Nat × List (BitVec 32))) (fun z => [(0, v), (1, .int .i64 (k : Int)), (4, .pointer (some ⟨A_r, 0, none⟩)), (8, x), (10, .pointer (some ⟨A_m, 0, none⟩)), (12, .int .i64 (jsum k (ts.take z.1))), (13, .int .i64 (z.1 : Int))]) (fun z w' => z.1 ≤ ts.length ∧ Below w2.heap.size w8 w' ∧ MineT w' w2.heap.size w8.heap.size A_m p y S z.2 ∧ Done ts k z.1 0 z.2) (fun z => ts.length - z.1) ((0, zs)) ⟨rfl, rfl, rfl, rfl, rfl, rfl, rfl, trivial⟩ ?_ ?_
    · exact ⟨Nat.zero_le _, Below.refl _ _, M, D0⟩
    clear M D0
    rintro ⟨i, m⟩ w9 ⟨hi, hw, M, D⟩
    replace hi : i ≤ ts.length := hi
    replace M : MineT w9 w2.heap.size w8.heap.size A_m p y S m := M
    replace D : Done ts k i 0 m := D
    have hB := hB.trans (hw.mono (show W.heap.size ≤ w2.heap.size by omega))
    have zw := hw.size
    have h := Tens.stay p_h h (Nat.le_refl _) hw
    have s_x : SlT (Value.int .i64) w9 x S := Sl.stay s_x fun b e hne => hw.block b (Sl.blk p_x hne b e)
    have b_r := b_r.bl hw q_r
    have b_m := M.box
    have y_m := M.sly
    have h1 := h.1
    refine Cw.seq ?_
    refine Cw.seq ?_
    refine Cw.region ?_
    refine Lw.val (Ex.move rfl) rfl ?_
    refine Lw.val (Ex.move rfl) rfl ?_
    refine Lw.val (Ex.lenS st_22 rfl (by assumption)) rfl ?_
    refine Lw.val (Ex.lss rfl rfl) rfl ?_
    refine Lw.nil ?_
    refine Pw.thenN (Cw.out ?_)
    refine Cw.cond rfl ?_ ?_
    · intro g
      have hi' : i < ts.length := by have := of_decide_eq_true g; omega
      obtain ⟨a, ha, ham, c1, c2⟩ := tens_at hi'
      have eg : ts.getD i default = a := by rw [List.getD_eq_getElem?_getD, List.getElem?_eq_getElem hi', ← ha]; rfl
      obtain ⟨o1, o2⟩ := tok_sz (J.toks a ham)
      have gd := ((Shapes.ok_iff _).1 o1).2.1
      have da := J.dim ham
      have hEach := fun (j : Nat) (hj : (j : Int) < Shapes.prod a.s) => J.each hi' (j := j) (by rw [← ha]; exact hj)
      rw [← ha] at hEach
      have js := jsum_le (k := k) (ts := ts.take i) fun u hu => by have := J.dim (List.mem_of_mem_take hu); omega
      have lti : (ts.take i).length ≤ 4 := by rw [List.length_take]; omega
      have hJs : jsum k (ts.take (i + 1)) = jsum k (ts.take i) + a.s.getD k default := by
        rw [List.take_succ_eq_append_getElem hi', jsum_append, ← ha]
        simp [jsum]
      obtain ⟨jb, hjb⟩ : ∃ jb, jb = jsum k (ts.take i) := ⟨_, rfl⟩
      rw [← hjb] at js hJs hEach ⊢
      refine Cw.skip ?_
      refine Pw.thenN (Cw.out ?_)
      refine Cw.seq ?_
      refine Cw.block ?_
      refine Cw.seq ?_
      refine Cw.seq ?_
      refine Cw.region ?_
      refine Lw.val (Ex.assign rfl) rfl ?_
      refine Lw.nil ?_
      refine Pw.thenN (Cw.out ?_)
      refine Cw.block ?_
      refine Cw.loop (S := (Nat × List (BitVec 32))) (fun z => [(0, v), (1, .int .i64 (k : Int)), (4, .pointer (some ⟨A_r, 0, none⟩)), (8, x), (10, .pointer (some ⟨A_m, 0, none⟩)), (12, .int .i64 jb), (13, .int .i64 (i : Int)), (14, .int .i64 (z.1 : Int))]) (fun z w' => z.1 ≤ a.l.length ∧ Below w2.heap.size w9 w' ∧ MineT w' w2.heap.size w8.heap.size A_m p y S z.2 ∧ Done ts k i z.1 z.2) (fun z => a.l.length - z.1) ((0, m)) ⟨rfl, rfl, rfl, rfl, rfl, rfl, rfl, rfl, trivial⟩ ?_ ?_
      · exact ⟨Nat.zero_le _, Below.refl _ _, M, D⟩
      clear M D b_m y_m h1
      rintro ⟨j, m⟩ w10 ⟨hj, hw2, M, D⟩
      replace hj : j ≤ a.l.length := hj
      replace M : MineT w10 w2.heap.size w8.heap.size A_m p y S m := M
      replace D : Done ts k i j m := D
      have hB := hB.trans (hw2.mono (show W.heap.size ≤ w2.heap.size by omega))
      have zw2 := hw2.size
      have h := Tens.stay p_h h (Nat.le_refl _) hw2
      have s_x : SlT (Value.int .i64) w10 x S := Sl.stay s_x fun b e hne => hw2.block b (Sl.blk p_x hne b e)
      have b_r := b_r.bl hw2 q_r
      have b_m := M.box
      have y_m := M.sly
      have h1 := h.1
      have haw := h.2 a ham
      have haw1 := haw.1
      have haw2 := haw.2
      have lal := haw2.le
      have hvs := h.slice hi'
      refine Cw.seq ?_
      refine Cw.seq ?_
      refine Cw.region ?_
      refine Lw.val (Ex.move rfl) rfl ?_
      refine Lw.val (Ex.move rfl) rfl ?_
      refine Lw.val (Ex.move rfl) rfl ?_
      refine Lw.val (Ex.idx st_22 rfl rfl h1 i rfl hi') rfl ?_
      refine Lw.val (Ex.fieldAddrE Tryz.underlying29 rfl (sz_27 _) rfl hvs) rfl ?_
      refine Lw.val (Ex.ld (ag_27 _) rfl h1 c2) rfl ?_
      refine Lw.val (Ex.lenS st_27 rfl (by assumption)) rfl ?_
      refine Lw.val (Ex.lss rfl rfl) rfl ?_
      refine Lw.nil ?_
      refine Pw.thenN (Cw.out ?_)
      refine Cw.cond rfl ?_ ?_
      · intro g2
        have hj' : j < a.l.length := by have := of_decide_eq_true g2; omega
        have hjp : (j : Int) < Shapes.prod a.s := by omega
        obtain ⟨inn, tlt, tval⟩ := hEach j hjp
        obtain ⟨q, eq⟩ : ∃ q, q = Shapes.place a.s (j : Int) := ⟨_, rfl⟩
        have lq : q.length = a.s.length := by rw [eq, Shapes.place_length]
        have iq := Shapes.inn_at (by rw [eq]; exact Shapes.place_in (by omega) gd : Shapes.inn a.s q = true) da.2.2
        have hkq : k < q.length := by omega
        rw [← eq] at inn
        have hk2 : Shapes.idx S (q.set k (q.getD k default + jb)) = ((tgt ts k i j : Nat) : Int) := by
          have G := Shapes.idx_lt ((Shapes.ok_iff _).1 okS).2.1 (by rw [hSS]; exact inn)
          unfold tgt
          rw [eg, ← eq, ← hjb, hSS] at *
          omega
        refine Cw.skip ?_
        refine Pw.thenN (Cw.out ?_)
        refine Cw.seq ?_
        refine Cw.block ?_
        refine Cw.seq ?_
        refine Cw.region ?_
        refine Lw.val (Ex.move rfl) rfl ?_
        refine Lw.val (Ex.move rfl) rfl ?_
        refine Lw.val (Ex.idx st_22 rfl rfl h1 i rfl hi') rfl ?_
        refine Lw.val (Ex.fieldAddrE Tryz.underlying29 rfl (sz_26 _) rfl hvs) rfl ?_
        refine Lw.val (Ex.ld (ag_26 _) rfl h1 c1) rfl ?_
        refine Lw.val (Ex.move rfl) rfl ?_
        refine Lw.callF rfl rfl (rat_o a.s a.x (j : Int) w10 haw1) ?_
        rintro _ w11 ⟨hn, b, rfl, o_b⟩
        rw [show Shapes.atl a.s (j : Int) = q by rw [eq]; unfold Shapes.atl; rw [if_pos ⟨by omega, by rw [Shapes.size_ok o1]; exact hjp⟩]] at o_b
        have s_b := own_slT o_b
        refine Lw.val (Ex.move rfl) rfl ?_
        refine Lw.val (Ex.extract (i := 0) rfl rfl) rfl ?_
        refine Lw.val (Ex.extract (i := 1) rfl rfl) rfl ?_
        refine Lw.val (Ex.assign rfl) rfl ?_
        refine Lw.val (Ex.assign rfl) rfl ?_
        refine Lw.nil ?_
        refine Pw.thenN (Cw.out ?_)
        refine Cw.seq ?_
        refine Cw.region ?_
        refine Lw.val (Ex.move rfl) rfl ?_
        refine Lw.val (Ex.move rfl) rfl ?_
        refine Lw.val (Ex.move rfl) rfl ?_
        refine Lw.val (Ex.move rfl) rfl ?_
        refine Lw.val (Ex.idxT st_26 rfl rfl s_b k rfl hkq) rfl ?_
        refine Lw.val (Ex.ldT (ag_3 _) rfl s_b hkq) rfl ?_
        refine Lw.val (Ex.move rfl) rfl ?_
        refine Lw.val (Ex.addI rfl rfl (by omega)) rfl ?_
        refine Lw.val (Ex.idxT st_26 rfl rfl s_b k rfl hkq) rfl ?_
        refine Lw.unit (Xu.stO (u := .int .i64 (q.getD k default + jb)) (sz_3 _) rfl rfl rfl o_b (by rw [List.length_map]; exact hkq)) ?_
        rintro w12 ⟨o_b2, hg, -⟩
        rw [← List.map_set] at o_b2
        have hn12 := hn.grown hg hn.size (fun b e => (own_block o_b b e).1)
        refine Lw.nil ?_
        refine Pw.thenN (Cw.out ?_)
        refine Cw.seq ?_
        refine Cw.region ?_
        refine Lw.val (Ex.move rfl) rfl ?_
        refine Lw.val (Ex.move rfl) rfl ?_
        refine Lw.callF rfl rfl (rindex_c S (q.set k (q.getD k default + jb)) x b w12 (s_x.bs hn12) (own_slT o_b2)) ?_
        rintro _ w13 ⟨rfl, hn13⟩
        rw [index_yes okS (by rw [hSS]; exact inn)]
        have hn := bt hn12 hn13
        have zn13 := hn.size
        have hw2 := hw2.trans (hn.mono (by omega))
        have M := M.bs hn
        have h := h.bs hn
        have haw := haw.bs hn
        have b_m := M.box
        have y_m := M.sly
        have haw2 := haw.2
        have h1 := h.1
        have lm := D.len
        refine Lw.val (Ex.move rfl) rfl ?_
        refine Lw.val (Ex.extract (i := 0) rfl rfl) rfl ?_
        refine Lw.val (Ex.extract (i := 1) rfl rfl) rfl ?_
        refine Lw.val (Ex.assign rfl) rfl ?_
        refine Lw.val (Ex.assign rfl) rfl ?_
        refine Lw.nil ?_
        refine Pw.thenN (Cw.out ?_)
        refine Cw.tail 12 mixed (by kernel_rfl) ?_
        refine Qw.val (fun w1 hq => Ex.fieldAddr (q := 0) Tryz.underlying29 rfl (sz_27 _) rfl) rfl ?_
        refine Qw.val (fun w1 hq => Ex.ldB (ag_27 _) rfl (Blk.bs (by assumption) hq) rfl) rfl ?_
        refine Qw.val (fun w1 hq => Ex.move rfl) rfl ?_
        refine Qw.val (fun w1 hq => Ex.move rfl) rfl ?_
        refine Qw.val (fun w1 hq => Ex.move rfl) rfl ?_
        refine Qw.val (fun w1 hq => Ex.idx st_22 rfl rfl (Sl.bs h1 hq) i rfl hi') rfl ?_
        refine Qw.val (fun w1 hq => Ex.fieldAddrE Tryz.underlying29 rfl (sz_27 _) rfl hvs) rfl ?_
        refine Qw.val (fun w1 hq => Ex.ld (ag_27 _) rfl (Sl.bs h1 hq) c2) rfl ?_
        refine Qw.val (fun w1 hq => Ex.move rfl) rfl ?_
        refine Qw.val (fun w1 hq => Ex.idxT st_27 rfl rfl (Sl.bs haw2 hq) j rfl hj') rfl ?_
        refine Qw.val (fun w1 hq => Ex.ldT (ag_21 _) rfl (Sl.bs (by assumption) hq) (by omega)) rfl ?_
        refine Qw.val (fun w1 hq => Ex.idxT st_27 rfl rfl (Sl.bs y_m hq) (tgt ts k i j) hk2 (by omega)) rfl ?_
        refine Qw.done (fun w14 hq => ?_)
        refine Lw.unit ((M.bs hq).st (sz_21 _) rfl rfl (by omega)) ?_
        rintro w15 ⟨M2, hg2, -⟩
        have hw3 := (M.bs hq).below (hw2.trans (hq.mono (by omega))) (by omega) hg2
        have D2 := D.set tlt
        rw [tval] at D2
        refine Lw.nil ?_
        refine Pw.blkN ?_
        refine Pw.thenN (Cw.out ?_)
        refine Cw.region ?_
        refine Lw.val (Ex.move rfl) rfl ?_
        refine Lw.val (Ex.addI rfl rfl (by omega)) rfl ?_
        refine Lw.val (Ex.assign rfl) rfl ?_
        refine Lw.nil ?_
        exact Pw.thenN (Pw.next ((j + 1, m.set (tgt ts k i j) (a.l.getD j default))) ⟨rfl, rfl, rfl, rfl, rfl, rfl, rfl, rfl, trivial⟩ (⟨hj', hw3, M2, D2⟩) (by simp only; omega))
      intro g2
      have hj' : j = a.l.length := by have := of_decide_eq_false g2; omega
      refine Cw.exit ?_
      refine Pw.thenE ?_
      refine Pw.thenE ?_
      refine Pw.blkHit ?_
      refine Pw.thenN (Cw.out ?_)
      refine Cw.region ?_
      refine Lw.val (Ex.move rfl) rfl ?_
      refine Lw.val (Ex.move rfl) rfl ?_
      refine Lw.val (Ex.move rfl) rfl ?_
      refine Lw.val (Ex.idx st_22 rfl rfl h1 i rfl hi') rfl ?_
      refine Lw.val (Ex.fieldAddrE Tryz.underlying29 rfl (sz_26 _) rfl hvs) rfl ?_
      refine Lw.val (Ex.ld (ag_26 _) rfl h1 c1) rfl ?_
      refine Lw.val (Ex.move rfl) rfl ?_
      refine Lw.val (Ex.idxT st_26 rfl rfl haw1 k rfl da.2.2) rfl ?_
      refine Lw.val (Ex.ldT (ag_3 _) rfl haw1 da.2.2) rfl ?_
      refine Lw.val ((Ex.addI rfl rfl (by omega)).as (congrArg (Value.int .i64) hJs.symm)) rfl ?_
      refine Lw.val (Ex.assign rfl) rfl ?_
      refine Lw.nil ?_
      refine Pw.blkN ?_
      refine Pw.thenN (Cw.out ?_)
      refine Cw.region ?_
      refine Lw.val (Ex.move rfl) rfl ?_
      refine Lw.val (Ex.addI rfl rfl (by omega)) rfl ?_
      refine Lw.val (Ex.assign rfl) rfl ?_
      refine Lw.nil ?_
      have dp := Shapes.prod_pos gd
      exact Pw.thenN (Pw.next ((i + 1, m)) ⟨rfl, rfl, rfl, rfl, rfl, rfl, rfl, trivial⟩ (⟨hi', hw.trans hw2, M, D.next (by rw [eg]; omega)⟩) (by simp only; omega))
    intro g
    have hi' : i = ts.length := by have := of_decide_eq_false g; omega
    subst hi'
    have em : m = jnL ts k := D.all J
    refine Cw.exit ?_
    refine Pw.thenE ?_
    refine Pw.thenE ?_
    refine Pw.blkHit ?_
    refine Pw.thenN (Cw.out ?_)
    refine Cw.seq ?_
    refine Cw.region ?_
    refine Lw.val (Ex.ldA (ag_29 _) (sz_29 _) rfl rfl (by assumption)) rfl ?_
    refine Lw.unit (Xu.stA (cs := [p, y]) rfl rfl rfl rfl (mine_at M).one b_r rfl) ?_
    rintro w10 ⟨b_r2, hg, -⟩
    have M2 := M.keep hg (by rintro _ ⟨⟩; exact .inl q_r)
    have hB3 := hB.grown hg (below_size hB) (by rintro _ ⟨⟩; omega)
    refine Lw.val (Ex.assign rfl) rfl ?_
    refine Lw.nil ?_
    refine Pw.thenN (Cw.out ?_)
    refine Cw.ret ?_
    refine Pw.retCT rfl rfl rfl (by assumption) (Tryz.underlying29) rfl rfl rfl ?_
    rw [em, hSS] at M2
    exact ⟨hB3, p, y, rfl, fun h => absurd rfl h, fun _ => ⟨M2.row.mono (by omega), .inl (own_mono M2.lst.own (by omega)), M2.yx⟩⟩
  exact absurd okS (by rw [hk]; decide)
end Go.Proofs.YtkhndfaampkbnaaGreatDoor
