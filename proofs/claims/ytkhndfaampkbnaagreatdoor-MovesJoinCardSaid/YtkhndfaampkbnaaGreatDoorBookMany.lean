/- Contracts: a book of lists of tensors and of nodes: how it fills them, grows them, and looks at them. Printed by a program of ours. -/
import Derived.Test.YtkhndfaampkbnaaGreatDoorBookCode
import Derived.Test.YtkhndfaampkbnaaGreatDoorBkn
namespace Go.Proofs.YtkhndfaampkbnaaGreatDoor
open Go Go.Dd Go.RowKit
set_option maxRecDepth 100000

theorem sl_formB {w : World} {sz n : Nat} {v : Value} {xs : List Value} (h : Sl w sz v n xs) : ∃ ao n c, v = .slice ao n c := by
  obtain ⟨_, ao, cap, rfl, _⟩ := h; exact ⟨_, _, _, rfl⟩
theorem bt_tenB (x : Value) (hx : ∃ ao n c, x = .slice ao n c) : Tryz.prog.built 29 [(0, x)] = some [x, .slice none 0 0].toArray := by
  obtain ⟨ao, n, c, rfl⟩ := hx
  have h1 : Tryz.prog.info? 29 = some Tryz.t29 := by kernel_rfl
  have h2 : Tryz.prog.info? 26 = some Tryz.t26 := by kernel_rfl
  have h3 : Tryz.prog.info? 27 = some Tryz.t27 := by kernel_rfl
  simp [Program.built, h1, Tryz.underlying29, h2, h3, Instr.fill, Value.cells]
  rfl
theorem markTensor_m (B : Nat) (n : Int) (w : World) (hn : 0 ≤ n ∧ n ≤ 4000000) (hBw : B ≤ w.heap.size) : Fnc Tryz.prog 121 [.int .i64 n] w (fun r w' => (∃ c : List Value, r = .agg c.toArray ∧ phT B 3 n w' c) ∧ Below w.heap.size w w') := by
  have hB := Below.refl w.heap.size w
  refine Fnc.enter (n := 7) Tryz.func121 (by kernel_rfl) rfl rfl rfl ?_
  refine Cw.seq ?_
  refine Cw.region ?_
  refine Lw.newA it_29 rfl ?_
  rintro A_r w eA_r b_r hn -
  replace hB := hB.bs hn
  clear hn
  refine Lw.nil ?_
  refine Pw.thenN (Cw.out ?_)
  refine Cw.seq ?_
  refine Cw.region ?_
  refine Lw.val (Ex.move rfl) rfl ?_
  refine Lw.val (Ex.negI rfl (by omega)) rfl ?_
  have y_r := blk_lt b_r
  have z_r := below_size hB
  refine Lw.valW (Xw.lit (vs := [-n].map (Value.int .i64)) st_26 it_3 rfl rfl rfl rfl rfl) rfl ?_
  rintro x w ⟨o_x, -, hn2, -⟩
  replace hB := hB.bs hn2
  replace b_r := b_r.bs hn2
  clear hn2
  refine Lw.val (Ex.build (vs := [(0, x)]) (cs := [x, .slice none 0 0]) rfl (bt_tenB x (sl_formB (own_sl o_x)))) rfl ?_
  refine Lw.unit (Xu.stA (cs := [x, .slice none 0 0]) rfl rfl rfl rfl (by rw [List.all_cons, (own_sl o_x).one']; rfl) b_r rfl) ?_
  rintro w3 ⟨b3, hg3, -⟩
  have o3 := own_heap o_x (fun b e => hg3.block b (own_block o_x b e).2 (fun e2 => by cases e2; have := (own_block o_x _ e).1; omega))
  have hB3 := hB.grown hg3 (below_size hB) (by rintro _ ⟨⟩; omega)
  refine Lw.nil ?_
  refine Pw.thenN (Cw.out ?_)
  refine Cw.ret ?_
  refine Pw.retC rfl rfl (by assumption) (Tryz.underlying29) rfl rfl rfl ?_
  exact ⟨⟨_, rfl, x, rfl, own_slT o3, fun b e => by
    obtain ⟨cap, cur, -, q, -⟩ := own_cells o3 e
    exact ⟨by have := (own_block o_x b e).1; omega, _, q⟩⟩, hB3⟩
theorem bt_nodeB (m : Int) : Tryz.prog.built 121 [(3, .int .i64 m)] = some [b8 0#8, .slice none 0 0, .slice none 0 0, .int .i64 m, .int .i64 0].toArray := by
  have h1 : Tryz.prog.info? 121 = some Tryz.t121 := by kernel_rfl
  have h2 : Tryz.prog.info? 26 = some Tryz.t26 := by kernel_rfl
  have h3 : Tryz.prog.info? 3 = some Tryz.t3 := by kernel_rfl
  have h4 : Tryz.prog.info? 119 = some Tryz.t119 := by kernel_rfl
  simp [Program.built, h1, Tryz.underlying121, h2, h3, h4, Instr.fill, Value.cells]
  rfl
theorem markNode_m (B : Nat) (n : Int) (w : World) (hn : 0 ≤ n ∧ n ≤ 4000000) (_hBw : B ≤ w.heap.size) : Fnc Tryz.prog 122 [.int .i64 n] w (fun r w' => (∃ c : List Value, r = .agg c.toArray ∧ phN n w' c) ∧ Below w.heap.size w w') := by
  have hB := Below.refl w.heap.size w
  refine Fnc.enter (n := 6) Tryz.func122 (by kernel_rfl) rfl rfl rfl ?_
  refine Cw.seq ?_
  refine Cw.region ?_
  refine Lw.newA it_121 rfl ?_
  rintro A_r w eA_r b_r hn -
  replace hB := hB.bs hn
  clear hn
  refine Lw.nil ?_
  refine Pw.thenN (Cw.out ?_)
  refine Cw.seq ?_
  refine Cw.region ?_
  refine Lw.val (Ex.move rfl) rfl ?_
  refine Lw.val (Ex.negI rfl (by omega)) rfl ?_
  refine Lw.val (Ex.build (vs := [(3, .int .i64 (-n))]) (cs := [b8 0#8, .slice none 0 0, .slice none 0 0, .int .i64 (-n), .int .i64 0]) rfl (bt_nodeB (-n))) rfl ?_
  refine Lw.unit (Xu.stA (cs := [b8 0#8, .slice none 0 0, .slice none 0 0, .int .i64 (-n), .int .i64 0]) rfl rfl rfl rfl rfl b_r rfl) ?_
  rintro w3 ⟨b3, hg3, -⟩
  have hB3 := hB.grown hg3 (below_size hB) (by rintro _ ⟨⟩; omega)
  refine Lw.nil ?_
  refine Pw.thenN (Cw.out ?_)
  refine Cw.ret ?_
  refine Pw.retC rfl rfl (by assumption) (Tryz.underlying121) rfl rfl rfl ?_
  exact ⟨⟨_, rfl, rfl⟩, hB3⟩
theorem isTensor_m (B : Nat) (n : Int) (w : World) (c : List Value) (hn : 0 ≤ n ∧ n ≤ 4000000) (hc : phT B 3 n w c) : Fnc Tryz.prog 136 [.agg c.toArray, .int .i64 n] w (fun r w' => r = .bool true ∧ Below w.heap.size w w') := by
  obtain ⟨x, rfl, s_x, -⟩ := hc
  have hB := Below.refl w.heap.size w
  refine Fnc.enter (n := 18) Tryz.func136 (by kernel_rfl) rfl rfl rfl ?_
  refine Cw.seq ?_
  refine Cw.region ?_
  refine Lw.boxV (cs := [x, .slice none 0 0]) rfl rfl rfl ?_
  rintro A_x w eA_x b_x hn -
  replace hB := hB.bs hn
  replace s_x := s_x.bs hn
  clear hn
  refine Lw.val (Ex.assign rfl) rfl ?_
  refine Lw.nil ?_
  refine Pw.thenN (Cw.out ?_)
  refine Cw.seq ?_
  refine Cw.region ?_
  refine Lw.val (Ex.fieldAddr (q := 0) Tryz.underlying29 rfl (sz_26 _) rfl) rfl ?_
  refine Lw.val (Ex.ldB (ag_26 _) rfl (by assumption) rfl) rfl ?_
  refine Lw.val (Ex.lenS st_26 rfl (by assumption)) rfl ?_
  refine Lw.val (Ex.eql rfl rfl) rfl ?_
  refine Lw.val (Ex.move rfl) rfl ?_
  refine Lw.know 9 (v' := .bool true) rfl (congrArg Value.bool (rfl)) ?_
  refine Lw.take (dj := 9) rfl rfl ?_
  refine Lw.val (Ex.fieldAddr (q := 0) Tryz.underlying29 rfl (sz_26 _) rfl) rfl ?_
  refine Lw.take (dj := 9) rfl rfl ?_
  refine Lw.val (Ex.ldB (ag_26 _) rfl (by assumption) rfl) rfl ?_
  refine Lw.take (dj := 9) rfl rfl ?_
  refine Lw.val (Ex.idxT st_26 rfl rfl s_x 0 rfl (by simp)) rfl ?_
  refine Lw.take (dj := 9) rfl rfl ?_
  refine Lw.val (Ex.ldT (ag_3 _) rfl s_x (by simp)) rfl ?_
  refine Lw.take (dj := 9) rfl rfl ?_
  refine Lw.val (Ex.move rfl) rfl ?_
  refine Lw.take (dj := 9) rfl rfl ?_
  refine Lw.val (Ex.negI rfl (by omega)) rfl ?_
  refine Lw.take (dj := 9) rfl rfl ?_
  refine Lw.val (Ex.eql rfl rfl) rfl ?_
  refine Lw.val (Ex.pickT rfl rfl) rfl ?_
  refine Lw.val (Ex.assign rfl) rfl ?_
  refine Lw.nil ?_
  refine Pw.thenN (Cw.out ?_)
  refine Cw.ret ?_
  refine Pw.ret1 rfl rfl ?_
  exact ⟨congrArg Value.bool (by simp), hB⟩
theorem isNode_m (B : Nat) (n : Int) (w : World) (c : List Value) (hn : 0 ≤ n ∧ n ≤ 4000000) (hc : phN n w c) : Fnc Tryz.prog 137 [.agg c.toArray, .int .i64 n] w (fun r w' => r = .bool true ∧ Below w.heap.size w w') := by
  have _ := B
  obtain rfl := hc
  have hB := Below.refl w.heap.size w
  refine Fnc.enter (n := 10) Tryz.func137 (by kernel_rfl) rfl rfl rfl ?_
  refine Cw.seq ?_
  refine Cw.region ?_
  refine Lw.boxV (cs := [b8 0#8, .slice none 0 0, .slice none 0 0, .int .i64 (-n), .int .i64 0]) rfl rfl rfl ?_
  rintro A_x w eA_x b_x hn -
  replace hB := hB.bs hn
  clear hn
  refine Lw.val (Ex.assign rfl) rfl ?_
  refine Lw.nil ?_
  refine Pw.thenN (Cw.out ?_)
  refine Cw.seq ?_
  refine Cw.region ?_
  refine Lw.val (Ex.fieldAddr (q := 0) Tryz.underlying121 rfl (sz_3 _) rfl) rfl ?_
  refine Lw.val (Ex.ldB (ag_3 _) rfl (by assumption) rfl) rfl ?_
  refine Lw.val (Ex.move rfl) rfl ?_
  refine Lw.val (Ex.negI rfl (by omega)) rfl ?_
  refine Lw.val (Ex.eql rfl rfl) rfl ?_
  refine Lw.val (Ex.assign rfl) rfl ?_
  refine Lw.nil ?_
  refine Pw.thenN (Cw.out ?_)
  refine Cw.ret ?_
  refine Pw.ret1 rfl rfl ?_
  exact ⟨congrArg Value.bool (by simp), hB⟩


/-! ### Tensor -/
theorem fillTensor_m (A : Nat) (book : List Value) (u : Value) (hs : List Hd) (lo base B : Nat) (w : World) (hA : Blk w A bookT book) (hu : book[6]? = some u) (ho : w.ownsRow lo 96 3 u hs.length (hcells hs)) (hk : Kept w base 29 2 hs)
    (hb1 : ¬ blks hs A) (hb2 : ∀ b, u.ownBlock = some b → ¬ blks hs b) (hB : B ≤ w.heap.size) (hSB : ∀ b, blks hs b → b < B) :
    Fnc Tryz.prog 50 [.pointer (some ⟨A, 0, none⟩)] w (fun r w' => r = .tuple #[] ∧ Chg (blks hs) w w' ∧ FullN w' base 29 2 (phT B 3) hs) := by
  have hle := (own_sl ho).le
  have st := (phT_stays B 3)
  refine Fnc.enter (n := 35) Tryz.func50 (by kernel_rfl) rfl rfl rfl ?_
  refine Cw.seq ?_
  refine Cw.region ?_
  refine Lw.val (Ex.assign rfl) rfl ?_
  refine Lw.nil ?_
  refine Pw.thenN (Cw.out ?_)
  refine Cw.block ?_
  refine Cw.loop (S := Nat) (fun i => [(0, .pointer (some ⟨A, 0, none⟩)), (2, .int .i64 (i : Int))]) (fun i w' => i ≤ hs.length ∧ Chg (blks hs) w w' ∧ (∀ j (hj : j < hs.length), j < i → ∃ cs, Mks (phT B 3) 2 hs[j].n w' hs[j].k cs ∧ KRow w' base 29 2 hs[j].v hs[j].k cs.flatten) ∧ (∀ j (hj : j < hs.length), i ≤ j → KRow w' base 29 2 hs[j].v hs[j].k hs[j].xs)) (fun i => hs.length - i) (0) ⟨rfl, rfl, trivial⟩ ?_ ?_
  · exact ⟨by omega, Chg.refl _ _, fun j hj h => by omega, fun j hj _ => hk.own _ (List.getElem_mem hj)⟩
  rintro i w1 ⟨hi, hc, hd, ht⟩
  have b1 := hA.chg hc hb1
  have o1 := own_sl (own_chg ho hc hb2)
  refine Cw.seq ?_
  refine Cw.seq ?_
  refine Cw.region ?_
  refine Lw.val (Ex.move rfl) rfl ?_
  refine Lw.val (Ex.move rfl) rfl ?_
  refine Lw.val (Ex.nilCheck rfl) rfl ?_
  refine Lw.val (Ex.fieldAddr (q := 0) Tryz.underlying51 rfl (sz_40 _) rfl) rfl ?_
  refine Lw.val (Ex.ldB (ag_40 _) rfl b1 hu) rfl ?_
  refine Lw.val (Ex.lenS (sz := 3) st_40 rfl o1) rfl ?_
  refine Lw.val (Ex.lss rfl rfl) rfl ?_
  refine Lw.nil ?_
  refine Pw.thenN (Cw.out ?_)
  refine Cw.cond rfl ?_ ?_
  · intro h
    have hi' : i < hs.length := by simp at h; omega
    have hm := List.getElem_mem hi'
    have hfew := hk.few _ hm
    have hnum := hk.num _ hm
    have hone : hs[i].g.oneCell' = true := by rw [hk.new _ hm]; rfl
    have hxl := (hk.own _ hm).len
    have hvb : ∀ b, hs[i].v.ownBlock = some b → b < w.heap.size := fun b e => (hk.blk ⟨_, hm, e⟩).2
    have hvB : ∀ b, hs[i].v.ownBlock = some b → b < B := fun b e => hSB b ⟨_, hm, e⟩
    refine Cw.skip ?_
    refine Pw.thenN (Cw.out ?_)
    refine Cw.seq ?_
    refine Cw.block ?_
    refine Cw.seq ?_
    refine Cw.region ?_
    refine Lw.val (Ex.move rfl) rfl ?_
    refine Lw.val (Ex.nilCheck rfl) rfl ?_
    refine Lw.val (Ex.fieldAddr (q := 0) Tryz.underlying51 rfl (sz_40 _) rfl) rfl ?_
    refine Lw.val (Ex.ldB (ag_40 _) rfl b1 hu) rfl ?_
    refine Lw.val (Ex.move rfl) rfl ?_
    refine Lw.val (Ex.idx st_40 rfl rfl o1 i rfl hi') rfl ?_
    refine Lw.val (Ex.ldE (cs := hs[i].cells) (ag_96 _) (sz_96 _) rfl o1 rfl (by decide) (hcells_three hi')) rfl ?_
    refine Lw.boxed (cs := hs[i].cells) it_96 rfl rfl rfl rfl (fun _ => rfl) (by simp [Hd.cells, (hk.own _ hm).sl.one', hone, int_one]) ?_
    rintro A_h w2 eA_h b_h hn2 zhn2
    have hc2 := hc.below hn2
    have z1 := hc.size
    have r0 := (ht i hi' (Nat.le_refl _)).bs hn2
    refine Lw.nil ?_
    refine Pw.thenN (Cw.out ?_)
    refine Cw.seq ?_
    refine Cw.region ?_
    refine Lw.val (Ex.assign rfl) rfl ?_
    refine Lw.nil ?_
    refine Pw.thenN (Cw.out ?_)
    refine Cw.block ?_
    refine Cw.loop (S := (Nat × List (List Value))) (fun s => [(0, .pointer (some ⟨A, 0, none⟩)), (2, .int .i64 (i : Int)), (3, .pointer (some ⟨A_h, 0, none⟩)), (4, .int .i64 (s.1 : Int))]) (fun s w' => s.1 ≤ hs[i].k ∧ Blk w' A_h 96 hs[i].cells ∧ Chg (blks hs) w w' ∧ Chg (fun b => hs[i].v.ownBlock = some b) w2 w' ∧ Mks (phT B 3) 2 hs[i].n w' s.1 s.2 ∧ KRow w' base 29 2 hs[i].v hs[i].k (s.2.flatten ++ hs[i].xs.drop (s.1 * 2))) (fun s => hs[i].k - s.1) ((0, [])) ⟨rfl, rfl, rfl, rfl, trivial⟩ ?_ ?_
    · exact ⟨by simp, b_h, hc2, Chg.refl _ _, Mks.nil _ _ _ _, by simpa using r0⟩
    clear b_h r0
    rintro ⟨k, cs⟩ w3 ⟨hk3, b_h, hc3, hd3, m3, r3⟩
    dsimp only at hk3 b_h hc3 hd3 m3 r3 ⊢
    refine Cw.seq ?_
    refine Cw.seq ?_
    refine Cw.region ?_
    refine Lw.val (Ex.move rfl) rfl ?_
    refine Lw.val (Ex.fieldAddr (q := 0) Tryz.underlying96 rfl (sz_22 _) rfl) rfl ?_
    refine Lw.val (Ex.ldB (ag_22 _) rfl (by assumption) rfl) rfl ?_
    refine Lw.val (Ex.lenS (sz := 2) st_22 rfl r3.sl) rfl ?_
    refine Lw.val (Ex.lss rfl rfl) rfl ?_
    refine Lw.nil ?_
    refine Pw.thenN (Cw.out ?_)
    refine Cw.cond rfl ?_ ?_
    · intro h
      have hk' : k < hs[i].k := by simp at h; omega
      refine Cw.skip ?_
      refine Pw.thenN (Cw.out ?_)
      refine Cw.seq ?_
      refine Cw.block ?_
      refine Cw.any mixed (fun w4 hd4 _ => ?_)
      have r4 := r3.bs hd4
      have m4 := m3.bs st hd4
      have b4 := b_h.bs hd4
      have hc4 := hc3.below hd4
      have hd5 := hd3.below hd4
      have z4 := hc4.size
      refine Aw.seg (St := List Value) (g := 1) [0, 1, 2, 3, 4, 5, 6] 7 (fun c => [(0, .pointer (some ⟨A, 0, none⟩)), (2, .int .i64 (i : Int)), (3, .pointer (some ⟨A_h, 0, none⟩)), (4, .int .i64 (k : Int)), (33, .agg c.toArray), (34, elemPtr hs[i].v (k * 2))]) (fun c w' => Below w4.heap.size w4 w' ∧ (phT B 3) hs[i].n w' c) (by kernel_rfl) rfl ?_ ?_
      · have hr4 := Below.refl w4.heap.size w4
        refine Aw.cls (fun w' => Below w4.heap.size w4 w') (fun hC => ?_) (hr4)
        refine AwC.take (i := 0) (NoP.thn (NoP.blk (NoP.thn (NoP.thn (NoP.blk (NoP.blk (NoP.thn (NoP.thn (NoP.blk NoP.ret))))))))) rfl (by kernel_rfl) (by kernel_rfl) (by kernel_rfl) (fun w1 hc => Ex.fieldAddr (q := 0) Tryz.underlying96 rfl (sz_22 _) rfl) rfl ?_
        refine AwC.take (i := 1) (NoP.thn (NoP.blk (NoP.thn (NoP.thn (NoP.blk (NoP.blk (NoP.thn (NoP.thn (NoP.blk NoP.ret))))))))) rfl (by kernel_rfl) (by kernel_rfl) (by kernel_rfl) (fun w1 hc => Ex.ldB (ag_22 _) rfl (b4.bs hc) rfl) rfl ?_
        refine AwC.take (i := 2) (NoP.thn (NoP.blk (NoP.thn (NoP.thn (NoP.blk (NoP.blk (NoP.thn (NoP.thn (NoP.blk NoP.ret))))))))) rfl (by kernel_rfl) (by kernel_rfl) (by kernel_rfl) (fun w1 hc => Ex.move rfl) rfl ?_
        refine AwC.take (i := 3) (NoP.thn (NoP.blk (NoP.thn (NoP.thn (NoP.blk (NoP.blk (NoP.thn (NoP.thn (NoP.blk NoP.ret))))))))) rfl (by kernel_rfl) (by kernel_rfl) (by kernel_rfl) (fun w1 hc => Ex.fieldAddr (q := 0) Tryz.underlying96 rfl (sz_3 _) rfl) rfl ?_
        refine AwC.take (i := 4) (NoP.thn (NoP.blk (NoP.thn (NoP.thn (NoP.blk (NoP.blk (NoP.thn (NoP.thn (NoP.blk NoP.ret))))))))) rfl (by kernel_rfl) (by kernel_rfl) (by kernel_rfl) (fun w1 hc => Ex.ldB (ag_3 _) rfl (b4.bs hc) rfl) rfl ?_
        refine AwC.only (by assumption) (i := 5) (by kernel_rfl) rfl ?_
        refine Lw.callF rfl rfl (markTensor_m B hs[i].n w4 hnum (by omega)) ?_
        rintro _ w5 ⟨⟨c, rfl, hf⟩, hn5⟩
        refine AwC.back ?_
        refine AwC.take (i := 6) (NoP.thn (NoP.blk (NoP.thn (NoP.thn (NoP.blk (NoP.blk (NoP.thn (NoP.thn (NoP.blk NoP.ret))))))))) rfl (by kernel_rfl) (by kernel_rfl) (by kernel_rfl) (fun w1 hc => Ex.idx st_22 rfl rfl (r4.sl.bs hc) k rfl hk') rfl ?_
        refine AwC.done (by assumption) (by kernel_rfl) ?_
        exact Pw.thenN (Pw.seg (c) ⟨rfl, rfl, rfl, rfl, rfl, rfl, trivial⟩ (⟨hn5, hf⟩))
      rintro c w5 ⟨hn5, hf⟩
      have r5 := r4.bs hn5
      have m5 := m4.bs st hn5
      have b5 := b4.bs hn5
      have lc := (phT_len hf).1
      have ld := done_len hxl m5.els hk3
      refine Aw.only (i := 7) (by kernel_rfl) rfl ?_
      refine Lw.unit (Xu.stKA (k := 2) (ds := c) rfl lc rfl rfl (phT_len hf).2 r5 (by omega) (by rw [ld, lc]; omega)) ?_
      rintro w6 ⟨r6, hg6, -⟩
      rw [spl_done hxl m5.els lc hk'] at r6
      have hS6 : Chg (fun b => hs[i].v.ownBlock = some b) w5 w6 := (Chg.refl _ _).grown hg6 (fun b e => .inl e)
      have m6 := (m5.snoc lc hf).chg st hS6 hvB
      have b6 := b5.by hg6 (fun e => by have := hvb _ e.symm; omega)
      refine Aw.back ?_
      refine Aw.done (by kernel_rfl) ?_
      refine Pw.blkN ?_
      refine Pw.thenN (Cw.out ?_)
      refine Cw.region ?_
      refine Lw.val (Ex.move rfl) rfl ?_
      refine Lw.val (Ex.addI rfl rfl (by omega)) rfl ?_
      refine Lw.val (Ex.assign rfl) rfl ?_
      refine Lw.nil ?_
      exact Pw.thenN (Pw.next ((k + 1, cs ++ [c])) ⟨rfl, rfl, rfl, rfl, trivial⟩ (⟨hk', b6, (hc4.below hn5).grown hg6 (fun b e => .inl ⟨_, hm, e⟩), (hd5.below hn5).grown hg6 (fun b e => .inl e), m6, r6⟩) (by simp only; omega))
    intro h
    have hk' : k = hs[i].k := by simp at h; omega
    rw [List.drop_of_length_le (by rw [hxl, hk']; exact Nat.le_refl _), List.append_nil] at r3
    rw [hk'] at m3
    have hall : Chg (fun b => hs[i].v.ownBlock = some b) w1 w3 := (Chg.of_below hn2).trans hd3
    refine Cw.exit ?_
    refine Pw.thenE ?_
    refine Pw.thenE ?_
    refine Pw.blkHit ?_
    refine Pw.blkN ?_
    refine Pw.thenN (Cw.out ?_)
    refine Cw.region ?_
    refine Lw.val (Ex.move rfl) rfl ?_
    refine Lw.val (Ex.addI rfl rfl (by omega)) rfl ?_
    refine Lw.val (Ex.assign rfl) rfl ?_
    refine Lw.nil ?_
    exact Pw.thenN (Pw.next (i + 1) ⟨rfl, rfl, trivial⟩ (⟨hi', hc3, fun j hj hji => (if e : j = i then by subst e; exact ⟨cs, m3, r3⟩ else by obtain ⟨ds, q1, q2⟩ := hd j hj (by omega); exact ⟨ds, q1.chg st hall hvB, q2.chg hall fun b e1 e2 => apart_ne hk.apart hi' hj (Ne.symm e) b e2 e1⟩), fun j hj hji => (ht j hj (by omega)).chg hall fun b e1 e2 => apart_ne hk.apart hi' hj (by omega) b e2 e1⟩) (by omega))
  intro h
  have hi' : i = hs.length := by simp at h; omega
  refine Cw.exit ?_
  refine Pw.thenE ?_
  refine Pw.thenE ?_
  refine Pw.blkHit ?_
  refine Pw.end0 rfl ?_
  refine ⟨rfl, hc, fun x hx => ?_⟩
  obtain ⟨j, hj, rfl⟩ := List.mem_iff_getElem.1 hx
  exact hd j hj (by omega)


theorem growTensor_m (A : Nat) (book : List Value) (u : Value) (hs : List Hd) (lo base B : Nat) (w : World) (hA : Blk w A bookT book) (hu : book[6]? = some u) (ho : w.ownsRow lo 96 3 u hs.length (hcells hs)) (hk : KOk hs) (hf : FullN w base 29 2 (phT B 3) hs)
    (hb1 : ¬ blks hs A) (hb2 : ∀ b, u.ownBlock = some b → ¬ blks hs b) (hb3 : u.ownBlock ≠ some A) (hbase : base ≤ w.heap.size) (hB : B ≤ w.heap.size) (hSB : ∀ b, blks hs b → b < B) (huB : ∀ b, u.ownBlock = some b → b < B) :
    Fnc Tryz.prog 65 [.pointer (some ⟨A, 0, none⟩)] w (fun r w' => r = .tuple #[] ∧ Chg (fun b => blks hs b ∨ u.ownBlock = some b) w w' ∧ ∃ ts, Grown w hs ts ∧ w'.ownsRow lo 96 3 u hs.length (hcells ts) ∧ ∀ t ∈ ts, TallN w' 2 (phT B 3) t) := by
  have hle := (own_sl ho).le
  have st := (phT_stays B 3)
  refine Fnc.enter (n := 42) Tryz.func65 (by kernel_rfl) rfl rfl rfl ?_
  refine Cw.seq ?_
  refine Cw.region ?_
  refine Lw.val (Ex.assign rfl) rfl ?_
  refine Lw.nil ?_
  refine Pw.thenN (Cw.out ?_)
  refine Cw.block ?_
  refine Cw.loop (S := (Nat × List Hd)) (fun s => [(0, .pointer (some ⟨A, 0, none⟩)), (2, .int .i64 (s.1 : Int))]) (fun s w' => s.1 ≤ hs.length ∧ Grown w hs s.2 ∧ (∀ t ∈ s.2, t.g.oneCell' = true) ∧ Chg (fun b => blks hs b ∨ u.ownBlock = some b) w w' ∧ w'.ownsRow lo 96 3 u hs.length (hcells s.2) ∧ (∀ j (hj : j < s.2.length), j < s.1 → TallN w' 2 (phT B 3) s.2[j]) ∧ (∀ j (hj : j < hs.length), s.1 ≤ j → ∃ cs, Mks (phT B 3) 2 hs[j].n w' hs[j].k cs ∧ KRow w' base 29 2 hs[j].v hs[j].k cs.flatten)) (fun s => hs.length - s.1) ((0, hs)) ⟨rfl, rfl, trivial⟩ ?_ ?_
  · exact ⟨by simp, Grown.refl w hk.new, fun t ht => (by rw [hk.new t ht]; rfl), Chg.refl _ _, ho, fun j hj h => by simp at h, fun j hj _ => hf _ (List.getElem_mem hj)⟩
  rintro ⟨i, ts⟩ w1 ⟨hi, hG, h1, hc, o1, hd, ht⟩
  dsimp only at hi hG h1 hc o1 hd ht ⊢
  have b1 := hA.chg hc (fun e => e.elim hb1 hb3)
  have s1 := own_sl o1
  have hlen := hG.len
  refine Cw.seq ?_
  refine Cw.seq ?_
  refine Cw.region ?_
  refine Lw.val (Ex.move rfl) rfl ?_
  refine Lw.val (Ex.move rfl) rfl ?_
  refine Lw.val (Ex.nilCheck rfl) rfl ?_
  refine Lw.val (Ex.fieldAddr (q := 0) Tryz.underlying51 rfl (sz_40 _) rfl) rfl ?_
  refine Lw.val (Ex.ldB (ag_40 _) rfl b1 hu) rfl ?_
  refine Lw.val (Ex.lenS (sz := 3) st_40 rfl s1) rfl ?_
  refine Lw.val (Ex.lss rfl rfl) rfl ?_
  refine Lw.nil ?_
  refine Pw.thenN (Cw.out ?_)
  refine Cw.cond rfl ?_ ?_
  · intro h
    have hi' : i < hs.length := by simp at h; omega
    have hit : i < ts.length := by omega
    obtain ⟨ev, ek, en, eg⟩ := hG.all i hi' hit
    have hm := List.getElem_mem hi'
    have hmt := List.getElem_mem hit
    have hfew := hk.few _ hm
    have hnum := hk.num _ hm
    have hone := h1 _ hmt
    have hvb : ∀ b, hs[i].v.ownBlock = some b → b < w.heap.size := fun b e => (hf.blk ⟨_, hm, e⟩).2
    have hvB : ∀ b, hs[i].v.ownBlock = some b → b < B := fun b e => hSB b ⟨_, hm, e⟩
    obtain ⟨c0, m0, r0⟩ := ht i hi' (Nat.le_refl _)
    have hvo := r0.sl.one'
    refine Cw.skip ?_
    refine Pw.thenN (Cw.out ?_)
    refine Cw.seq ?_
    refine Cw.block ?_
    refine Cw.seq ?_
    refine Cw.region ?_
    refine Lw.val (Ex.move rfl) rfl ?_
    refine Lw.val (Ex.nilCheck rfl) rfl ?_
    refine Lw.val (Ex.fieldAddr (q := 0) Tryz.underlying51 rfl (sz_40 _) rfl) rfl ?_
    refine Lw.val (Ex.ldB (ag_40 _) rfl b1 hu) rfl ?_
    refine Lw.val (Ex.move rfl) rfl ?_
    refine Lw.val (Ex.idx st_40 rfl rfl s1 i rfl hi') rfl ?_
    refine Lw.val (Ex.ldE (cs := ts[i].cells) (ag_96 _) (sz_96 _) rfl s1 rfl (by decide) (hcells_three hit)) rfl ?_
    refine Lw.boxed (cs := ts[i].cells) it_96 rfl rfl rfl rfl (fun _ => rfl) (by simp [Hd.cells, ev, hvo, hone, int_one]) ?_
    rintro A_h w2 eA_h b_h hn2 zhn2
    have hc2 := hc.below hn2
    have z1 := hc.size
    have z2 := hc2.size
    replace r0 := r0.bs hn2
    replace m0 := m0.bs st hn2
    refine Lw.nil ?_
    refine Pw.thenN (Cw.out ?_)
    refine Cw.seq ?_
    refine Cw.region ?_
    refine Lw.val (Ex.fieldAddr (q := 0) Tryz.underlying96 rfl (sz_22 _) rfl) rfl ?_
    refine Lw.val (Ex.ldB (ag_22 _) rfl (by assumption) rfl) rfl ?_
    refine Lw.val (Ex.assign rfl) rfl ?_
    refine Lw.nil ?_
    refine Pw.thenN (Cw.out ?_)
    refine Cw.seq ?_
    refine Cw.seq ?_
    refine Cw.region ?_
    refine Lw.val (Ex.assign rfl) rfl ?_
    refine Lw.nil ?_
    refine Pw.thenN (Cw.out ?_)
    refine Cw.block ?_
    refine Cw.know 4 (v' := hs[i].v) rfl (ev) ?_
    refine Cw.loop (S := (Nat × Value × List (List Value))) (fun s => [(0, .pointer (some ⟨A, 0, none⟩)), (2, .int .i64 (i : Int)), (3, .pointer (some ⟨A_h, 0, none⟩)), (4, s.2.1), (5, .int .i64 (s.1 : Int))]) (fun s w' => s.1 ≤ 40 ∧ Blk w' A_h 96 ts[i].cells ∧ Chg (fun b => hs[i].v.ownBlock = some b) w2 w' ∧ Mks (phT B 3) 2 hs[i].n w' (hs[i].k + s.1) s.2.2 ∧ KRow w' base 29 2 s.2.1 (hs[i].k + s.1) s.2.2.flatten ∧ (∀ b, s.2.1.ownBlock = some b → hs[i].v.ownBlock = some b ∨ w2.heap.size ≤ b) ∧ s.2.2.take hs[i].k = c0 ∧ Sl w' 2 hs[i].v hs[i].k c0.flatten) (fun s => 40 - s.1) ((0, hs[i].v, c0)) ⟨rfl, rfl, rfl, rfl, rfl, trivial⟩ ?_ ?_
    · exact ⟨by simp, b_h, Chg.refl _ _, m0, r0, fun b e => .inl e, List.take_of_length_le (by rw [m0.els.1]; exact Nat.le_refl _), r0.sl⟩
    clear b_h
    rintro ⟨k, g, cs⟩ w3 ⟨hk3, b_h, hd3, m3, r3, hgb, htk, l3⟩
    dsimp only at hk3 b_h m3 r3 hgb htk l3 ⊢
    have z3 := hd3.size
    refine Cw.seq ?_
    refine Cw.seq ?_
    refine Cw.region ?_
    refine Lw.val (Ex.move rfl) rfl ?_
    refine Lw.val (Ex.lss rfl rfl) rfl ?_
    refine Lw.nil ?_
    refine Pw.thenN (Cw.out ?_)
    refine Cw.cond rfl ?_ ?_
    · intro h
      have hk' : k < 40 := by simp at h; omega
      refine Cw.skip ?_
      refine Pw.thenN (Cw.out ?_)
      refine Cw.seq ?_
      refine Cw.block ?_
      refine Cw.region ?_
      refine Lw.val (Ex.move rfl) rfl ?_
      refine Lw.val (Ex.fieldAddr (q := 0) Tryz.underlying96 rfl (sz_3 _) rfl) rfl ?_
      refine Lw.val (Ex.ldB (ag_3 _) rfl (by assumption) rfl) rfl ?_
      refine Lw.know 30 (v' := .int .i64 hs[i].n) rfl (congrArg (Value.int .i64) en) ?_
      refine Lw.callF rfl rfl (markTensor_m B hs[i].n w3 hnum (by omega)) ?_
      rintro _ w4 ⟨⟨c, rfl, hφ⟩, hn4⟩
      have lc := phT_len hφ
      refine Lw.valW (Xw.litA1 (cs := c) st_22 it_29 rfl lc.1 (by decide) (by decide)) rfl ?_
      rintro nv w5 ⟨o5, -, hn5, -⟩
      have hn35 := bt hn4 hn5
      have z5 := hn35.size
      have r5 := r3.bs hn35
      have m5 := (m3.bs st hn35).snoc lc.1 (st.bs hφ hn5)
      have hgt : ∀ b, g.ownBlock = some b → b < B ∨ ∃ T cs, Blk w5 b T cs ∧ T ≠ 3 := fun b e => by
        rcases hgb b e with h2 | h2
        · exact .inl (hvB b h2)
        · obtain ⟨cur, hcur⟩ := r5.ty e
          exact .inr ⟨_, cur, hcur, by decide⟩
      refine Lw.valW (Xw.appendK (base := base) st_22 it_29 rfl (by decide) rfl rfl r5 (own_sl o5) lc.2 (by omega) (by omega) (by omega) (Nat.le_refl _)) rfl ?_
      rintro g' w6 ⟨r6, hg6, hcase⟩
      have l5 := l3.bs hn35
      have b5 := b_h.bs hn35
      have e6 : cs.flatten ++ c = (cs ++ [c]).flatten := by simp
      rw [e6] at r6
      have m6 := m5.by st hg6 hgt
      have hgA : some A_h ≠ g.ownBlock := fun e => by
        rcases hgb _ e.symm with h2 | h2
        · have := hvb _ h2; omega
        · omega
      have htk' : (cs ++ [c]).take hs[i].k = c0 := by rw [List.take_append_of_le_length (by rw [m3.els.1]; omega)]; exact htk
      have l6 : Sl w6 2 hs[i].v hs[i].k c0.flatten := grow_keepsN r0 (.inl r6) hg6 hcase l5 (by
        rw [Els.flat_take (k := hs[i].k) (m := k + 1) m5.els, htk'])
      have hgb' : ∀ b, g'.ownBlock = some b → hs[i].v.ownBlock = some b ∨ w2.heap.size ≤ b := fun b e => by
        rcases hcase with h2 | ⟨h2, -⟩
        · rw [h2] at e; exact hgb b e
        · exact .inr (by have := h2 b e; omega)
      refine Lw.val (Ex.assign rfl) rfl ?_
      refine Lw.nil ?_
      refine Pw.blkN ?_
      refine Pw.thenN (Cw.out ?_)
      refine Cw.region ?_
      refine Lw.val (Ex.move rfl) rfl ?_
      refine Lw.val (Ex.addI rfl rfl (by omega)) rfl ?_
      refine Lw.val (Ex.assign rfl) rfl ?_
      refine Lw.nil ?_
      exact Pw.thenN (Pw.next ((k + 1, g', cs ++ [c])) ⟨rfl, rfl, rfl, rfl, rfl, trivial⟩ (⟨hk', b5.by hg6 hgA, (hd3.below hn35).grown hg6 hgb, m6, .inl r6, hgb', htk', l6⟩) (by simp only; omega))
    intro h
    have hk' : k = 40 := by simp at h; omega
    subst hk'
    have hall : Chg (fun b => hs[i].v.ownBlock = some b) w1 w3 := (Chg.of_below hn2).trans hd3
    have hcS : Chg (fun b => blks hs b ∨ u.ownBlock = some b) w w3 := hc.trans (hall.mono fun b e => .inl ⟨_, hm, e⟩)
    have b3 := hA.chg hcS (fun e => e.elim hb1 hb3)
    have o3 := own_chg o1 hall (fun b e1 e2 => hb2 b e1 ⟨_, hm, e2⟩)
    refine Cw.exit ?_
    refine Pw.thenE ?_
    refine Pw.thenE ?_
    refine Pw.blkHit ?_
    refine Pw.thenN (Cw.out ?_)
    refine Cw.region ?_
    refine Lw.val (Ex.move rfl) rfl ?_
    refine Lw.val (Ex.nilCheck rfl) rfl ?_
    refine Lw.val (Ex.fieldAddr (q := 0) Tryz.underlying51 rfl (sz_40 _) rfl) rfl ?_
    refine Lw.val (Ex.ldB (ag_40 _) rfl b3 hu) rfl ?_
    refine Lw.val (Ex.move rfl) rfl ?_
    refine Lw.val (Ex.move rfl) rfl ?_
    refine Lw.val (Ex.idx st_40 rfl rfl (own_sl o3) i rfl hi') rfl ?_
    refine Lw.val (Ex.fieldAddrE Tryz.underlying96 rfl (sz_22 _) rfl (own_some o3 (by omega))) rfl ?_
    refine Lw.unit (Xu.stO (j := i * 3 + 1) (sz_22 _) rfl rfl r3.sl.one' o3 (by rw [hcells_len]; omega)) ?_
    rintro w4 ⟨o4, hg4, -⟩
    have e4 := hcells_set hit g
    have o4 : w4.ownsRow lo 96 3 u hs.length (hcells (ts.set i { ts[i] with g := g })) := by rw [← e4]; exact o4
    have hG4 := hG.set hi' hit (g := g) (fun b e => by
      rcases hgb b e with h2 | h2
      · exact .inl h2
      · exact .inr (by omega))
    have hall4 : Chg (fun b => hs[i].v.ownBlock = some b ∨ u.ownBlock = some b) w1 w4 := (hall.mono fun b e => .inl e).grown hg4 (fun b e => .inl (.inr e))
    have hlow : ∀ b, (hs[i].v.ownBlock = some b ∨ u.ownBlock = some b) → b < B := fun b e => e.elim (hvB b) (huB b)
    have hS4 : Chg (fun b => blks hs b ∨ u.ownBlock = some b) w w4 := hcS.grown hg4 (fun b e => .inl (.inr e))
    have huT : ∀ b, u.ownBlock = some b → b < B ∨ ∃ T cs, Blk w3 b T cs ∧ T ≠ 3 := fun b e => .inl (huB b e)
    have m4 := m3.by st hg4 huT
    have t4 : TallN w4 2 (phT B 3) { ts[i] with g := g } := by
      refine ⟨⟨c0, ?_, ?_⟩, ⟨cs, ?_, ?_⟩⟩
      · simp only; rw [ek, en, ← htk]; exact m4.take
      · simp only; rw [ev, ek]
        refine l3.by hg4 ?_
        cases hv : hs[i].v.ownBlock with
        | none => exact .inl rfl
        | some b => exact .inr fun e => hb2 b e.symm ⟨_, hm, hv⟩
      · simp only; rw [ek, en]; exact m4
      · simp only; rw [ek]
        refine r3.sl.by hg4 ?_
        cases hv : g.ownBlock with
        | none => exact .inl rfl
        | some b =>
          refine .inr fun e => ?_
          rcases hgb b hv with h2 | h2
          · exact hb2 b e.symm ⟨_, hm, h2⟩
          · have := (own_block ho b e.symm).2; omega
    have h14 : ∀ t ∈ ts.set i { ts[i] with g := g }, t.g.oneCell' = true := fun t htm => by
      rcases List.mem_or_eq_of_mem_set htm with h2 | h2
      · exact h1 t h2
      · rw [h2]; exact r3.sl.one'
    have hd4 : ∀ j (hj : j < (ts.set i { ts[i] with g := g }).length), j < i + 1 → TallN w4 2 (phT B 3) (ts.set i { ts[i] with g := g })[j] := fun j hj hji => by
        rw [List.getElem_set]
        split
        · exact t4
        · rename_i hne
          have hj' : j < ts.length := by simpa using hj
          obtain ⟨fv, _, _, fg⟩ := hG.all j (by omega) hj'
          refine (hd j hj' (by omega)).chg st hall4 hlow (fun b e1 _ e2 => ?_) (fun b e1 _ e2 => ?_)
          · rw [fv] at e1
            rcases e2 with e2 | e2
            · exact apart_ne hk.apart hi' (show j < hs.length by omega) hne b e2 e1
            · exact hb2 b e2 ⟨_, List.getElem_mem _, e1⟩
          · rcases e2 with e2 | e2
            · rcases fg b e1 with h2 | h2
              · exact apart_ne hk.apart hi' (show j < hs.length by omega) hne b e2 h2
              · have := hvb b e2; omega
            · rcases fg b e1 with h2 | h2
              · exact hb2 b e2 ⟨_, List.getElem_mem _, h2⟩
              · have := (own_block ho b e2).2; omega
    have ht4 : ∀ j (hj : j < hs.length), i + 1 ≤ j → ∃ cs, Mks (phT B 3) 2 hs[j].n w4 hs[j].k cs ∧ KRow w4 base 29 2 hs[j].v hs[j].k cs.flatten := fun j hj hji => by
      obtain ⟨ds, q1, q2⟩ := ht j hj (by omega)
      refine ⟨ds, q1.chg st hall4 hlow, q2.chg hall4 fun b e1 e2 => ?_⟩
      rcases e2 with e2 | e2
      · exact apart_ne hk.apart hi' hj (by omega) b e2 e1
      · exact hb2 b e2 ⟨_, List.getElem_mem _, e1⟩
    refine Lw.nil ?_
    refine Pw.blkN ?_
    refine Pw.thenN (Cw.out ?_)
    refine Cw.region ?_
    refine Lw.val (Ex.move rfl) rfl ?_
    refine Lw.val (Ex.addI rfl rfl (by omega)) rfl ?_
    refine Lw.val (Ex.assign rfl) rfl ?_
    refine Lw.nil ?_
    exact Pw.thenN (Pw.next ((i + 1, ts.set i { ts[i] with g := g })) ⟨rfl, rfl, trivial⟩ (⟨hi', hG4, h14, hS4, o4, hd4, ht4⟩) (by simp only; omega))
  intro h
  have hi' : i = hs.length := by simp at h; omega
  refine Cw.exit ?_
  refine Pw.thenE ?_
  refine Pw.thenE ?_
  refine Pw.blkHit ?_
  refine Pw.end0 rfl ?_
  refine ⟨rfl, hc, ts, hG, o1, fun t htm => ?_⟩
  obtain ⟨j, hj, rfl⟩ := List.mem_iff_getElem.1 htm
  exact hd j hj (by omega)


theorem lookTensor_m (A : Nat) (book : List Value) (u : Value) (ts : List Hd) (lo B : Nat) (w : World) (hA : Blk w A bookT book) (hu : book[6]? = some u) (ho : w.ownsRow lo 96 3 u ts.length (hcells ts)) (ht : ∀ t ∈ ts, TallN w 2 (phT B 3) t) (hn : ∀ t ∈ ts, (0 ≤ t.n ∧ t.n ≤ 4000000) ∧ t.k ≤ 16777216) :
    Fnc Tryz.prog 80 [.pointer (some ⟨A, 0, none⟩)] w (fun r w' => r = .bool true ∧ Below w.heap.size w w') := by
  have hle := (own_sl ho).le
  have st := (phT_stays B 3)
  refine Fnc.enter (n := 64) Tryz.func80 (by kernel_rfl) rfl rfl rfl ?_
  refine Cw.seq ?_
  refine Cw.region ?_
  refine Lw.val (Ex.assign rfl) rfl ?_
  refine Lw.nil ?_
  refine Pw.thenN (Cw.out ?_)
  refine Cw.seq ?_
  refine Cw.seq ?_
  refine Cw.region ?_
  refine Lw.val (Ex.assign rfl) rfl ?_
  refine Lw.nil ?_
  refine Pw.thenN (Cw.out ?_)
  refine Cw.block ?_
  refine Cw.loop (S := Nat) (fun i => [(0, .pointer (some ⟨A, 0, none⟩)), (2, .bool false), (3, .int .i64 (i : Int))]) (fun i w' => i ≤ ts.length ∧ Below w.heap.size w w') (fun i => ts.length - i) (0) ⟨rfl, rfl, rfl, trivial⟩ ?_ ?_
  · exact ⟨by omega, Below.refl _ _⟩
  rintro i w1 ⟨hi, hw1⟩
  have b1 := hA.bs hw1
  have s1 := (own_sl ho).bs hw1
  refine Cw.seq ?_
  refine Cw.seq ?_
  refine Cw.region ?_
  refine Lw.val (Ex.move rfl) rfl ?_
  refine Lw.val (Ex.move rfl) rfl ?_
  refine Lw.val (Ex.nilCheck rfl) rfl ?_
  refine Lw.val (Ex.fieldAddr (q := 0) Tryz.underlying51 rfl (sz_40 _) rfl) rfl ?_
  refine Lw.val (Ex.ldB (ag_40 _) rfl b1 hu) rfl ?_
  refine Lw.val (Ex.lenS (sz := 3) st_40 rfl s1) rfl ?_
  refine Lw.val (Ex.lss rfl rfl) rfl ?_
  refine Lw.nil ?_
  refine Pw.thenN (Cw.out ?_)
  refine Cw.cond rfl ?_ ?_
  · intro h
    have hi' : i < ts.length := by simp at h; omega
    have hm := List.getElem_mem hi'
    obtain ⟨hnum, hfew⟩ := hn _ hm
    have t1 := (ht _ hm).bs st hw1
    obtain ⟨⟨c1, m1, l1⟩, ⟨c2, m2, g1⟩⟩ := t1
    refine Cw.skip ?_
    refine Pw.thenN (Cw.out ?_)
    refine Cw.seq ?_
    refine Cw.block ?_
    refine Cw.seq ?_
    refine Cw.region ?_
    refine Lw.val (Ex.move rfl) rfl ?_
    refine Lw.val (Ex.nilCheck rfl) rfl ?_
    refine Lw.val (Ex.fieldAddr (q := 0) Tryz.underlying51 rfl (sz_40 _) rfl) rfl ?_
    refine Lw.val (Ex.ldB (ag_40 _) rfl b1 hu) rfl ?_
    refine Lw.val (Ex.move rfl) rfl ?_
    refine Lw.val (Ex.idx st_40 rfl rfl s1 i rfl hi') rfl ?_
    refine Lw.val (Ex.ldE (cs := ts[i].cells) (ag_96 _) (sz_96 _) rfl s1 rfl (by decide) (hcells_three hi')) rfl ?_
    refine Lw.boxed (cs := ts[i].cells) it_96 rfl rfl rfl rfl (fun _ => rfl) (by simp [Hd.cells, l1.one', g1.one', int_one]) ?_
    rintro A_h w2 eA_h b_h hn2 zhn2
    have hw2 := bt hw1 hn2
    replace l1 := l1.bs hn2
    replace g1 := g1.bs hn2
    replace m1 := m1.bs st hn2
    replace m2 := m2.bs st hn2
    refine Lw.nil ?_
    refine Pw.thenN (Cw.out ?_)
    refine Cw.seq ?_
    refine Cw.seq ?_
    refine Cw.region ?_
    refine Lw.val (Ex.fieldAddr (q := 0) Tryz.underlying96 rfl (sz_22 _) rfl) rfl ?_
    refine Lw.val (Ex.ldB (ag_22 _) rfl (by assumption) rfl) rfl ?_
    refine Lw.val (Ex.lenS (sz := 2) st_22 rfl g1) rfl ?_
    refine Lw.val (Ex.fieldAddr (q := 0) Tryz.underlying96 rfl (sz_22 _) rfl) rfl ?_
    refine Lw.val (Ex.ldB (ag_22 _) rfl (by assumption) rfl) rfl ?_
    refine Lw.val (Ex.lenS (sz := 2) st_22 rfl l1) rfl ?_
    refine Lw.val (Ex.addI rfl rfl (by omega)) rfl ?_
    refine Lw.val (Ex.neq rfl rfl) rfl ?_
    refine Lw.nil ?_
    refine Pw.thenN (Cw.out ?_)
    refine Cw.condB rfl false (by simp) ?_
    refine Cw.skip ?_
    refine Pw.thenN (Cw.out ?_)
    refine Cw.seq ?_
    refine Cw.region ?_
    refine Lw.val (Ex.assign rfl) rfl ?_
    refine Lw.nil ?_
    refine Pw.thenN (Cw.out ?_)
    refine Cw.block ?_
    refine Cw.loop (S := Nat) (fun k => [(0, .pointer (some ⟨A, 0, none⟩)), (2, .bool false), (3, .int .i64 (i : Int)), (4, .pointer (some ⟨A_h, 0, none⟩)), (5, .int .i64 (k : Int))]) (fun k w' => k ≤ ts[i].k + 40 ∧ Below w2.heap.size w2 w') (fun k => ts[i].k + 40 - k) (0) ⟨rfl, rfl, rfl, rfl, rfl, trivial⟩ ?_ ?_
    · exact ⟨by omega, Below.refl _ _⟩
    rintro k w3 ⟨hk3, hw3⟩
    have l3 := l1.bs hw3
    have g3 := g1.bs hw3
    have b3 := b_h.bs hw3
    have m3 := m1.bs st hw3
    have m4 := m2.bs st hw3
    refine Cw.seq ?_
    refine Cw.seq ?_
    refine Cw.region ?_
    refine Lw.val (Ex.move rfl) rfl ?_
    refine Lw.val (Ex.fieldAddr (q := 0) Tryz.underlying96 rfl (sz_22 _) rfl) rfl ?_
    refine Lw.val (Ex.ldB (ag_22 _) rfl (by assumption) rfl) rfl ?_
    refine Lw.val (Ex.lenS (sz := 2) st_22 rfl g3) rfl ?_
    refine Lw.val (Ex.lss rfl rfl) rfl ?_
    refine Lw.nil ?_
    refine Pw.thenN (Cw.out ?_)
    refine Cw.cond rfl ?_ ?_
    · intro h
      have hk' : k < ts[i].k + 40 := by simp at h; omega
      have hkc : k < c2.length := by rw [m2.els.1]; exact hk'
      refine Cw.skip ?_
      refine Pw.thenN (Cw.out ?_)
      refine Cw.seq ?_
      refine Cw.block ?_
      refine Cw.seq ?_
      refine Cw.quiet mixed (by kernel_rfl) ?_
      refine Qw.val (fun w1 hq => Ex.fieldAddr (q := 0) Tryz.underlying96 rfl (sz_22 _) rfl) rfl ?_
      refine Qw.val (fun w1 hq => Ex.ldB (ag_22 _) rfl (Blk.bs (by assumption) hq) rfl) rfl ?_
      refine Qw.val (fun w1 hq => Ex.move rfl) rfl ?_
      refine Qw.val (fun w1 hq => Ex.idx st_22 rfl rfl (g3.bs hq) k rfl hk') rfl ?_
      refine Qw.val (fun w1 hq => Ex.ldE (cs := c2[k]) (ag_29 _) (sz_29 _) rfl (g3.bs hq) (m2.els.2 _ (List.getElem_mem hkc)) (by decide) (m2.els.cells hkc)) rfl ?_
      refine Qw.val (fun w1 hq => Ex.fieldAddr (q := 0) Tryz.underlying96 rfl (sz_3 _) rfl) rfl ?_
      refine Qw.val (fun w1 hq => Ex.ldB (ag_3 _) rfl (Blk.bs (by assumption) hq) rfl) rfl ?_
      refine Qw.callF rfl rfl (fun w1 hq => (isTensor_m B ts[i].n w1 c2[k] hnum (st.bs (m4.each _ (List.getElem_mem hkc)) hq)).q hq) ?_
      refine Qw.val (fun w1 hq => Ex.not rfl) rfl ?_
      refine Qw.val (fun w1 hq => Ex.move rfl) rfl ?_
      refine Qw.know 46 (v' := .bool false) rfl (congrArg Value.bool (rfl)) ?_
      refine Qw.take (dj := 46) rfl rfl ?_
      refine Qw.val (fun w1 hq => Ex.move rfl) rfl ?_
      refine Qw.take (dj := 46) rfl rfl ?_
      refine Qw.val (fun w1 hq => Ex.fieldAddr (q := 0) Tryz.underlying96 rfl (sz_22 _) rfl) rfl ?_
      refine Qw.take (dj := 46) rfl rfl ?_
      refine Qw.val (fun w1 hq => Ex.ldB (ag_22 _) rfl (Blk.bs (by assumption) hq) rfl) rfl ?_
      refine Qw.take (dj := 46) rfl rfl ?_
      refine Qw.val (fun w1 hq => Ex.lenS (sz := 2) st_22 rfl (l3.bs hq)) rfl ?_
      refine Qw.take (dj := 46) rfl rfl ?_
      refine Qw.val (fun w1 hq => Ex.lss rfl rfl) rfl ?_
      refine Qw.take (dj := 46) rfl rfl ?_
      refine Qw.val (fun w1 hq => Ex.move rfl) rfl ?_
      refine Qw.part 52 rfl ?_ ?_
      · intro g
        have hkl : k < ts[i].k := by simpa using g
        have hkd : k < c1.length := by rw [m1.els.1]; exact hkl
        refine Qw.take (dj := 52) rfl rfl ?_
        refine Qw.val (fun w1 hq => Ex.fieldAddr (q := 0) Tryz.underlying96 rfl (sz_22 _) rfl) rfl ?_
        refine Qw.take (dj := 52) rfl rfl ?_
        refine Qw.val (fun w1 hq => Ex.ldB (ag_22 _) rfl (Blk.bs (by assumption) hq) rfl) rfl ?_
        refine Qw.take (dj := 52) rfl rfl ?_
        refine Qw.val (fun w1 hq => Ex.move rfl) rfl ?_
        refine Qw.take (dj := 52) rfl rfl ?_
        refine Qw.val (fun w1 hq => Ex.idx st_22 rfl rfl (l3.bs hq) k rfl hkl) rfl ?_
        refine Qw.take (dj := 52) rfl rfl ?_
        refine Qw.val (fun w1 hq => Ex.ldE (cs := c1[k]) (ag_29 _) (sz_29 _) rfl (l3.bs hq) (m1.els.2 _ (List.getElem_mem hkd)) (by decide) (m1.els.cells hkd)) rfl ?_
        refine Qw.take (dj := 52) rfl rfl ?_
        refine Qw.val (fun w1 hq => Ex.fieldAddr (q := 0) Tryz.underlying96 rfl (sz_3 _) rfl) rfl ?_
        refine Qw.take (dj := 52) rfl rfl ?_
        refine Qw.val (fun w1 hq => Ex.ldB (ag_3 _) rfl (Blk.bs (by assumption) hq) rfl) rfl ?_
        refine Qw.take (dj := 52) rfl rfl ?_
        refine Qw.callF rfl rfl (fun w1 hq => (isTensor_m B ts[i].n w1 c1[k] hnum (st.bs (m3.each _ (List.getElem_mem hkd)) hq)).q hq) ?_
        refine Qw.take (dj := 52) rfl rfl ?_
        refine Qw.val (fun w1 hq => Ex.not rfl) rfl ?_
        refine Qw.take (dj := 46) rfl rfl ?_
        refine Qw.val (fun w1 hq => Ex.pickT rfl rfl) rfl ?_
        refine Qw.val (fun w1 hq => Ex.pickF rfl rfl) rfl ?_
        refine Qw.nil (fun w4 hq => ?_)
        refine Pw.thenN (Cw.out ?_)
        refine Cw.condB rfl false (rfl) ?_
        refine Cw.skip ?_
        refine Pw.blkN ?_
        refine Pw.thenN (Cw.out ?_)
        refine Cw.region ?_
        refine Lw.val (Ex.move rfl) rfl ?_
        refine Lw.val (Ex.addI rfl rfl (by omega)) rfl ?_
        refine Lw.val (Ex.assign rfl) rfl ?_
        refine Lw.nil ?_
        exact Pw.thenN (Pw.next (k + 1) ⟨rfl, rfl, rfl, rfl, rfl, trivial⟩ (⟨hk', bt hw3 hq⟩) (by omega))
      · intro g
        refine Qw.pass (dj := 52) rfl rfl rfl rfl ?_
        refine Qw.pass (dj := 52) rfl rfl rfl rfl ?_
        refine Qw.pass (dj := 52) rfl rfl rfl rfl ?_
        refine Qw.pass (dj := 52) rfl rfl rfl rfl ?_
        refine Qw.pass (dj := 52) rfl rfl rfl rfl ?_
        refine Qw.pass (dj := 52) rfl rfl rfl rfl ?_
        refine Qw.pass (dj := 52) rfl rfl rfl rfl ?_
        refine Qw.pass (dj := 52) rfl rfl rfl rfl ?_
        refine Qw.pass (dj := 52) rfl rfl rfl rfl ?_
        refine Qw.take (dj := 46) rfl rfl ?_
        refine Qw.val (fun w1 hq => Ex.pickF rfl rfl) rfl ?_
        refine Qw.val (fun w1 hq => Ex.pickF rfl rfl) rfl ?_
        refine Qw.nil (fun w4 hq => ?_)
        refine Pw.thenN (Cw.out ?_)
        refine Cw.condF rfl ?_
        refine Cw.skip ?_
        refine Pw.blkN ?_
        refine Pw.thenN (Cw.out ?_)
        refine Cw.region ?_
        refine Lw.val (Ex.move rfl) rfl ?_
        refine Lw.val (Ex.addI rfl rfl (by omega)) rfl ?_
        refine Lw.val (Ex.assign rfl) rfl ?_
        refine Lw.nil ?_
        exact Pw.thenN (Pw.next (k + 1) ⟨rfl, rfl, rfl, rfl, rfl, trivial⟩ (⟨hk', bt hw3 hq⟩) (by omega))
    intro h
    refine Cw.exit ?_
    refine Pw.thenE ?_
    refine Pw.thenE ?_
    refine Pw.blkHit ?_
    refine Pw.blkN ?_
    refine Pw.thenN (Cw.out ?_)
    refine Cw.region ?_
    refine Lw.val (Ex.move rfl) rfl ?_
    refine Lw.val (Ex.addI rfl rfl (by omega)) rfl ?_
    refine Lw.val (Ex.assign rfl) rfl ?_
    refine Lw.nil ?_
    exact Pw.thenN (Pw.next (i + 1) ⟨rfl, rfl, rfl, trivial⟩ (⟨hi', bt hw2 hw3⟩) (by omega))
  intro h
  refine Cw.exit ?_
  refine Pw.thenE ?_
  refine Pw.thenE ?_
  refine Pw.blkHit ?_
  refine Pw.thenN (Cw.out ?_)
  refine Cw.seq ?_
  refine Cw.region ?_
  refine Lw.val (Ex.assign rfl) rfl ?_
  refine Lw.nil ?_
  refine Pw.thenN (Cw.out ?_)
  refine Cw.ret ?_
  refine Pw.ret1 rfl rfl ?_
  exact ⟨rfl, hw1⟩


/-! ### Node -/
theorem fillNode_m (A : Nat) (book : List Value) (u : Value) (hs : List Hd) (lo base B : Nat) (w : World) (hA : Blk w A bookT book) (hu : book[7]? = some u) (ho : w.ownsRow lo 118 3 u hs.length (hcells hs)) (hk : Kept w base 121 5 hs)
    (hb1 : ¬ blks hs A) (hb2 : ∀ b, u.ownBlock = some b → ¬ blks hs b) (hB : B ≤ w.heap.size) (hSB : ∀ b, blks hs b → b < B) :
    Fnc Tryz.prog 51 [.pointer (some ⟨A, 0, none⟩)] w (fun r w' => r = .tuple #[] ∧ Chg (blks hs) w w' ∧ FullN w' base 121 5 (phN) hs) := by
  have hle := (own_sl ho).le
  have st := (phN_stays B 3)
  refine Fnc.enter (n := 35) Tryz.func51 (by kernel_rfl) rfl rfl rfl ?_
  refine Cw.seq ?_
  refine Cw.region ?_
  refine Lw.val (Ex.assign rfl) rfl ?_
  refine Lw.nil ?_
  refine Pw.thenN (Cw.out ?_)
  refine Cw.block ?_
  refine Cw.loop (S := Nat) (fun i => [(0, .pointer (some ⟨A, 0, none⟩)), (2, .int .i64 (i : Int))]) (fun i w' => i ≤ hs.length ∧ Chg (blks hs) w w' ∧ (∀ j (hj : j < hs.length), j < i → ∃ cs, Mks (phN) 5 hs[j].n w' hs[j].k cs ∧ KRow w' base 121 5 hs[j].v hs[j].k cs.flatten) ∧ (∀ j (hj : j < hs.length), i ≤ j → KRow w' base 121 5 hs[j].v hs[j].k hs[j].xs)) (fun i => hs.length - i) (0) ⟨rfl, rfl, trivial⟩ ?_ ?_
  · exact ⟨by omega, Chg.refl _ _, fun j hj h => by omega, fun j hj _ => hk.own _ (List.getElem_mem hj)⟩
  rintro i w1 ⟨hi, hc, hd, ht⟩
  have b1 := hA.chg hc hb1
  have o1 := own_sl (own_chg ho hc hb2)
  refine Cw.seq ?_
  refine Cw.seq ?_
  refine Cw.region ?_
  refine Lw.val (Ex.move rfl) rfl ?_
  refine Lw.val (Ex.move rfl) rfl ?_
  refine Lw.val (Ex.nilCheck rfl) rfl ?_
  refine Lw.val (Ex.fieldAddr (q := 0) Tryz.underlying51 rfl (sz_41 _) rfl) rfl ?_
  refine Lw.val (Ex.ldB (ag_41 _) rfl b1 hu) rfl ?_
  refine Lw.val (Ex.lenS (sz := 3) st_41 rfl o1) rfl ?_
  refine Lw.val (Ex.lss rfl rfl) rfl ?_
  refine Lw.nil ?_
  refine Pw.thenN (Cw.out ?_)
  refine Cw.cond rfl ?_ ?_
  · intro h
    have hi' : i < hs.length := by simp at h; omega
    have hm := List.getElem_mem hi'
    have hfew := hk.few _ hm
    have hnum := hk.num _ hm
    have hone : hs[i].g.oneCell' = true := by rw [hk.new _ hm]; rfl
    have hxl := (hk.own _ hm).len
    have hvb : ∀ b, hs[i].v.ownBlock = some b → b < w.heap.size := fun b e => (hk.blk ⟨_, hm, e⟩).2
    have hvB : ∀ b, hs[i].v.ownBlock = some b → b < B := fun b e => hSB b ⟨_, hm, e⟩
    refine Cw.skip ?_
    refine Pw.thenN (Cw.out ?_)
    refine Cw.seq ?_
    refine Cw.block ?_
    refine Cw.seq ?_
    refine Cw.region ?_
    refine Lw.val (Ex.move rfl) rfl ?_
    refine Lw.val (Ex.nilCheck rfl) rfl ?_
    refine Lw.val (Ex.fieldAddr (q := 0) Tryz.underlying51 rfl (sz_41 _) rfl) rfl ?_
    refine Lw.val (Ex.ldB (ag_41 _) rfl b1 hu) rfl ?_
    refine Lw.val (Ex.move rfl) rfl ?_
    refine Lw.val (Ex.idx st_41 rfl rfl o1 i rfl hi') rfl ?_
    refine Lw.val (Ex.ldE (cs := hs[i].cells) (ag_118 _) (sz_118 _) rfl o1 rfl (by decide) (hcells_three hi')) rfl ?_
    refine Lw.boxed (cs := hs[i].cells) it_118 rfl rfl rfl rfl (fun _ => rfl) (by simp [Hd.cells, (hk.own _ hm).sl.one', hone, int_one]) ?_
    rintro A_h w2 eA_h b_h hn2 zhn2
    have hc2 := hc.below hn2
    have z1 := hc.size
    have r0 := (ht i hi' (Nat.le_refl _)).bs hn2
    refine Lw.nil ?_
    refine Pw.thenN (Cw.out ?_)
    refine Cw.seq ?_
    refine Cw.region ?_
    refine Lw.val (Ex.assign rfl) rfl ?_
    refine Lw.nil ?_
    refine Pw.thenN (Cw.out ?_)
    refine Cw.block ?_
    refine Cw.loop (S := (Nat × List (List Value))) (fun s => [(0, .pointer (some ⟨A, 0, none⟩)), (2, .int .i64 (i : Int)), (3, .pointer (some ⟨A_h, 0, none⟩)), (4, .int .i64 (s.1 : Int))]) (fun s w' => s.1 ≤ hs[i].k ∧ Blk w' A_h 118 hs[i].cells ∧ Chg (blks hs) w w' ∧ Chg (fun b => hs[i].v.ownBlock = some b) w2 w' ∧ Mks (phN) 5 hs[i].n w' s.1 s.2 ∧ KRow w' base 121 5 hs[i].v hs[i].k (s.2.flatten ++ hs[i].xs.drop (s.1 * 5))) (fun s => hs[i].k - s.1) ((0, [])) ⟨rfl, rfl, rfl, rfl, trivial⟩ ?_ ?_
    · exact ⟨by simp, b_h, hc2, Chg.refl _ _, Mks.nil _ _ _ _, by simpa using r0⟩
    clear b_h r0
    rintro ⟨k, cs⟩ w3 ⟨hk3, b_h, hc3, hd3, m3, r3⟩
    dsimp only at hk3 b_h hc3 hd3 m3 r3 ⊢
    refine Cw.seq ?_
    refine Cw.seq ?_
    refine Cw.region ?_
    refine Lw.val (Ex.move rfl) rfl ?_
    refine Lw.val (Ex.fieldAddr (q := 0) Tryz.underlying118 rfl (sz_116 _) rfl) rfl ?_
    refine Lw.val (Ex.ldB (ag_116 _) rfl (by assumption) rfl) rfl ?_
    refine Lw.val (Ex.lenS (sz := 5) st_116 rfl r3.sl) rfl ?_
    refine Lw.val (Ex.lss rfl rfl) rfl ?_
    refine Lw.nil ?_
    refine Pw.thenN (Cw.out ?_)
    refine Cw.cond rfl ?_ ?_
    · intro h
      have hk' : k < hs[i].k := by simp at h; omega
      refine Cw.skip ?_
      refine Pw.thenN (Cw.out ?_)
      refine Cw.seq ?_
      refine Cw.block ?_
      refine Cw.any mixed (fun w4 hd4 _ => ?_)
      have r4 := r3.bs hd4
      have m4 := m3.bs st hd4
      have b4 := b_h.bs hd4
      have hc4 := hc3.below hd4
      have hd5 := hd3.below hd4
      have z4 := hc4.size
      refine Aw.seg (St := List Value) (g := 1) [0, 1, 2, 3, 4, 5, 6] 7 (fun c => [(0, .pointer (some ⟨A, 0, none⟩)), (2, .int .i64 (i : Int)), (3, .pointer (some ⟨A_h, 0, none⟩)), (4, .int .i64 (k : Int)), (33, .agg c.toArray), (34, elemPtr hs[i].v (k * 5))]) (fun c w' => Below w4.heap.size w4 w' ∧ (phN) hs[i].n w' c) (by kernel_rfl) rfl ?_ ?_
      · have hr4 := Below.refl w4.heap.size w4
        refine Aw.cls (fun w' => Below w4.heap.size w4 w') (fun hC => ?_) (hr4)
        refine AwC.take (i := 0) (NoP.thn (NoP.blk (NoP.thn (NoP.thn (NoP.blk (NoP.blk (NoP.thn (NoP.thn (NoP.blk NoP.ret))))))))) rfl (by kernel_rfl) (by kernel_rfl) (by kernel_rfl) (fun w1 hc => Ex.fieldAddr (q := 0) Tryz.underlying118 rfl (sz_116 _) rfl) rfl ?_
        refine AwC.take (i := 1) (NoP.thn (NoP.blk (NoP.thn (NoP.thn (NoP.blk (NoP.blk (NoP.thn (NoP.thn (NoP.blk NoP.ret))))))))) rfl (by kernel_rfl) (by kernel_rfl) (by kernel_rfl) (fun w1 hc => Ex.ldB (ag_116 _) rfl (b4.bs hc) rfl) rfl ?_
        refine AwC.take (i := 2) (NoP.thn (NoP.blk (NoP.thn (NoP.thn (NoP.blk (NoP.blk (NoP.thn (NoP.thn (NoP.blk NoP.ret))))))))) rfl (by kernel_rfl) (by kernel_rfl) (by kernel_rfl) (fun w1 hc => Ex.move rfl) rfl ?_
        refine AwC.take (i := 3) (NoP.thn (NoP.blk (NoP.thn (NoP.thn (NoP.blk (NoP.blk (NoP.thn (NoP.thn (NoP.blk NoP.ret))))))))) rfl (by kernel_rfl) (by kernel_rfl) (by kernel_rfl) (fun w1 hc => Ex.fieldAddr (q := 0) Tryz.underlying118 rfl (sz_3 _) rfl) rfl ?_
        refine AwC.take (i := 4) (NoP.thn (NoP.blk (NoP.thn (NoP.thn (NoP.blk (NoP.blk (NoP.thn (NoP.thn (NoP.blk NoP.ret))))))))) rfl (by kernel_rfl) (by kernel_rfl) (by kernel_rfl) (fun w1 hc => Ex.ldB (ag_3 _) rfl (b4.bs hc) rfl) rfl ?_
        refine AwC.only (by assumption) (i := 5) (by kernel_rfl) rfl ?_
        refine Lw.callF rfl rfl (markNode_m B hs[i].n w4 hnum (by omega)) ?_
        rintro _ w5 ⟨⟨c, rfl, hf⟩, hn5⟩
        refine AwC.back ?_
        refine AwC.take (i := 6) (NoP.thn (NoP.blk (NoP.thn (NoP.thn (NoP.blk (NoP.blk (NoP.thn (NoP.thn (NoP.blk NoP.ret))))))))) rfl (by kernel_rfl) (by kernel_rfl) (by kernel_rfl) (fun w1 hc => Ex.idx st_116 rfl rfl (r4.sl.bs hc) k rfl hk') rfl ?_
        refine AwC.done (by assumption) (by kernel_rfl) ?_
        exact Pw.thenN (Pw.seg (c) ⟨rfl, rfl, rfl, rfl, rfl, rfl, trivial⟩ (⟨hn5, hf⟩))
      rintro c w5 ⟨hn5, hf⟩
      have r5 := r4.bs hn5
      have m5 := m4.bs st hn5
      have b5 := b4.bs hn5
      have lc := (phN_len hf).1
      have ld := done_len hxl m5.els hk3
      refine Aw.only (i := 7) (by kernel_rfl) rfl ?_
      refine Lw.unit (Xu.stKA (k := 5) (ds := c) rfl lc rfl rfl (phN_len hf).2 r5 (by omega) (by rw [ld, lc]; omega)) ?_
      rintro w6 ⟨r6, hg6, -⟩
      rw [spl_done hxl m5.els lc hk'] at r6
      have hS6 : Chg (fun b => hs[i].v.ownBlock = some b) w5 w6 := (Chg.refl _ _).grown hg6 (fun b e => .inl e)
      have m6 := (m5.snoc lc hf).chg st hS6 hvB
      have b6 := b5.by hg6 (fun e => by have := hvb _ e.symm; omega)
      refine Aw.back ?_
      refine Aw.done (by kernel_rfl) ?_
      refine Pw.blkN ?_
      refine Pw.thenN (Cw.out ?_)
      refine Cw.region ?_
      refine Lw.val (Ex.move rfl) rfl ?_
      refine Lw.val (Ex.addI rfl rfl (by omega)) rfl ?_
      refine Lw.val (Ex.assign rfl) rfl ?_
      refine Lw.nil ?_
      exact Pw.thenN (Pw.next ((k + 1, cs ++ [c])) ⟨rfl, rfl, rfl, rfl, trivial⟩ (⟨hk', b6, (hc4.below hn5).grown hg6 (fun b e => .inl ⟨_, hm, e⟩), (hd5.below hn5).grown hg6 (fun b e => .inl e), m6, r6⟩) (by simp only; omega))
    intro h
    have hk' : k = hs[i].k := by simp at h; omega
    rw [List.drop_of_length_le (by rw [hxl, hk']; exact Nat.le_refl _), List.append_nil] at r3
    rw [hk'] at m3
    have hall : Chg (fun b => hs[i].v.ownBlock = some b) w1 w3 := (Chg.of_below hn2).trans hd3
    refine Cw.exit ?_
    refine Pw.thenE ?_
    refine Pw.thenE ?_
    refine Pw.blkHit ?_
    refine Pw.blkN ?_
    refine Pw.thenN (Cw.out ?_)
    refine Cw.region ?_
    refine Lw.val (Ex.move rfl) rfl ?_
    refine Lw.val (Ex.addI rfl rfl (by omega)) rfl ?_
    refine Lw.val (Ex.assign rfl) rfl ?_
    refine Lw.nil ?_
    exact Pw.thenN (Pw.next (i + 1) ⟨rfl, rfl, trivial⟩ (⟨hi', hc3, fun j hj hji => (if e : j = i then by subst e; exact ⟨cs, m3, r3⟩ else by obtain ⟨ds, q1, q2⟩ := hd j hj (by omega); exact ⟨ds, q1.chg st hall hvB, q2.chg hall fun b e1 e2 => apart_ne hk.apart hi' hj (Ne.symm e) b e2 e1⟩), fun j hj hji => (ht j hj (by omega)).chg hall fun b e1 e2 => apart_ne hk.apart hi' hj (by omega) b e2 e1⟩) (by omega))
  intro h
  have hi' : i = hs.length := by simp at h; omega
  refine Cw.exit ?_
  refine Pw.thenE ?_
  refine Pw.thenE ?_
  refine Pw.blkHit ?_
  refine Pw.end0 rfl ?_
  refine ⟨rfl, hc, fun x hx => ?_⟩
  obtain ⟨j, hj, rfl⟩ := List.mem_iff_getElem.1 hx
  exact hd j hj (by omega)


theorem growNode_m (A : Nat) (book : List Value) (u : Value) (hs : List Hd) (lo base B : Nat) (w : World) (hA : Blk w A bookT book) (hu : book[7]? = some u) (ho : w.ownsRow lo 118 3 u hs.length (hcells hs)) (hk : KOk hs) (hf : FullN w base 121 5 (phN) hs)
    (hb1 : ¬ blks hs A) (hb2 : ∀ b, u.ownBlock = some b → ¬ blks hs b) (hb3 : u.ownBlock ≠ some A) (hbase : base ≤ w.heap.size) (hB : B ≤ w.heap.size) (hSB : ∀ b, blks hs b → b < B) (huB : ∀ b, u.ownBlock = some b → b < B) :
    Fnc Tryz.prog 66 [.pointer (some ⟨A, 0, none⟩)] w (fun r w' => r = .tuple #[] ∧ Chg (fun b => blks hs b ∨ u.ownBlock = some b) w w' ∧ ∃ ts, Grown w hs ts ∧ w'.ownsRow lo 118 3 u hs.length (hcells ts) ∧ ∀ t ∈ ts, TallN w' 5 (phN) t) := by
  have hle := (own_sl ho).le
  have st := (phN_stays B 3)
  refine Fnc.enter (n := 42) Tryz.func66 (by kernel_rfl) rfl rfl rfl ?_
  refine Cw.seq ?_
  refine Cw.region ?_
  refine Lw.val (Ex.assign rfl) rfl ?_
  refine Lw.nil ?_
  refine Pw.thenN (Cw.out ?_)
  refine Cw.block ?_
  refine Cw.loop (S := (Nat × List Hd)) (fun s => [(0, .pointer (some ⟨A, 0, none⟩)), (2, .int .i64 (s.1 : Int))]) (fun s w' => s.1 ≤ hs.length ∧ Grown w hs s.2 ∧ (∀ t ∈ s.2, t.g.oneCell' = true) ∧ Chg (fun b => blks hs b ∨ u.ownBlock = some b) w w' ∧ w'.ownsRow lo 118 3 u hs.length (hcells s.2) ∧ (∀ j (hj : j < s.2.length), j < s.1 → TallN w' 5 (phN) s.2[j]) ∧ (∀ j (hj : j < hs.length), s.1 ≤ j → ∃ cs, Mks (phN) 5 hs[j].n w' hs[j].k cs ∧ KRow w' base 121 5 hs[j].v hs[j].k cs.flatten)) (fun s => hs.length - s.1) ((0, hs)) ⟨rfl, rfl, trivial⟩ ?_ ?_
  · exact ⟨by simp, Grown.refl w hk.new, fun t ht => (by rw [hk.new t ht]; rfl), Chg.refl _ _, ho, fun j hj h => by simp at h, fun j hj _ => hf _ (List.getElem_mem hj)⟩
  rintro ⟨i, ts⟩ w1 ⟨hi, hG, h1, hc, o1, hd, ht⟩
  dsimp only at hi hG h1 hc o1 hd ht ⊢
  have b1 := hA.chg hc (fun e => e.elim hb1 hb3)
  have s1 := own_sl o1
  have hlen := hG.len
  refine Cw.seq ?_
  refine Cw.seq ?_
  refine Cw.region ?_
  refine Lw.val (Ex.move rfl) rfl ?_
  refine Lw.val (Ex.move rfl) rfl ?_
  refine Lw.val (Ex.nilCheck rfl) rfl ?_
  refine Lw.val (Ex.fieldAddr (q := 0) Tryz.underlying51 rfl (sz_41 _) rfl) rfl ?_
  refine Lw.val (Ex.ldB (ag_41 _) rfl b1 hu) rfl ?_
  refine Lw.val (Ex.lenS (sz := 3) st_41 rfl s1) rfl ?_
  refine Lw.val (Ex.lss rfl rfl) rfl ?_
  refine Lw.nil ?_
  refine Pw.thenN (Cw.out ?_)
  refine Cw.cond rfl ?_ ?_
  · intro h
    have hi' : i < hs.length := by simp at h; omega
    have hit : i < ts.length := by omega
    obtain ⟨ev, ek, en, eg⟩ := hG.all i hi' hit
    have hm := List.getElem_mem hi'
    have hmt := List.getElem_mem hit
    have hfew := hk.few _ hm
    have hnum := hk.num _ hm
    have hone := h1 _ hmt
    have hvb : ∀ b, hs[i].v.ownBlock = some b → b < w.heap.size := fun b e => (hf.blk ⟨_, hm, e⟩).2
    have hvB : ∀ b, hs[i].v.ownBlock = some b → b < B := fun b e => hSB b ⟨_, hm, e⟩
    obtain ⟨c0, m0, r0⟩ := ht i hi' (Nat.le_refl _)
    have hvo := r0.sl.one'
    refine Cw.skip ?_
    refine Pw.thenN (Cw.out ?_)
    refine Cw.seq ?_
    refine Cw.block ?_
    refine Cw.seq ?_
    refine Cw.region ?_
    refine Lw.val (Ex.move rfl) rfl ?_
    refine Lw.val (Ex.nilCheck rfl) rfl ?_
    refine Lw.val (Ex.fieldAddr (q := 0) Tryz.underlying51 rfl (sz_41 _) rfl) rfl ?_
    refine Lw.val (Ex.ldB (ag_41 _) rfl b1 hu) rfl ?_
    refine Lw.val (Ex.move rfl) rfl ?_
    refine Lw.val (Ex.idx st_41 rfl rfl s1 i rfl hi') rfl ?_
    refine Lw.val (Ex.ldE (cs := ts[i].cells) (ag_118 _) (sz_118 _) rfl s1 rfl (by decide) (hcells_three hit)) rfl ?_
    refine Lw.boxed (cs := ts[i].cells) it_118 rfl rfl rfl rfl (fun _ => rfl) (by simp [Hd.cells, ev, hvo, hone, int_one]) ?_
    rintro A_h w2 eA_h b_h hn2 zhn2
    have hc2 := hc.below hn2
    have z1 := hc.size
    have z2 := hc2.size
    replace r0 := r0.bs hn2
    replace m0 := m0.bs st hn2
    refine Lw.nil ?_
    refine Pw.thenN (Cw.out ?_)
    refine Cw.seq ?_
    refine Cw.region ?_
    refine Lw.val (Ex.fieldAddr (q := 0) Tryz.underlying118 rfl (sz_116 _) rfl) rfl ?_
    refine Lw.val (Ex.ldB (ag_116 _) rfl (by assumption) rfl) rfl ?_
    refine Lw.val (Ex.assign rfl) rfl ?_
    refine Lw.nil ?_
    refine Pw.thenN (Cw.out ?_)
    refine Cw.seq ?_
    refine Cw.seq ?_
    refine Cw.region ?_
    refine Lw.val (Ex.assign rfl) rfl ?_
    refine Lw.nil ?_
    refine Pw.thenN (Cw.out ?_)
    refine Cw.block ?_
    refine Cw.know 4 (v' := hs[i].v) rfl (ev) ?_
    refine Cw.loop (S := (Nat × Value × List (List Value))) (fun s => [(0, .pointer (some ⟨A, 0, none⟩)), (2, .int .i64 (i : Int)), (3, .pointer (some ⟨A_h, 0, none⟩)), (4, s.2.1), (5, .int .i64 (s.1 : Int))]) (fun s w' => s.1 ≤ 40 ∧ Blk w' A_h 118 ts[i].cells ∧ Chg (fun b => hs[i].v.ownBlock = some b) w2 w' ∧ Mks (phN) 5 hs[i].n w' (hs[i].k + s.1) s.2.2 ∧ KRow w' base 121 5 s.2.1 (hs[i].k + s.1) s.2.2.flatten ∧ (∀ b, s.2.1.ownBlock = some b → hs[i].v.ownBlock = some b ∨ w2.heap.size ≤ b) ∧ s.2.2.take hs[i].k = c0 ∧ Sl w' 5 hs[i].v hs[i].k c0.flatten) (fun s => 40 - s.1) ((0, hs[i].v, c0)) ⟨rfl, rfl, rfl, rfl, rfl, trivial⟩ ?_ ?_
    · exact ⟨by simp, b_h, Chg.refl _ _, m0, r0, fun b e => .inl e, List.take_of_length_le (by rw [m0.els.1]; exact Nat.le_refl _), r0.sl⟩
    clear b_h
    rintro ⟨k, g, cs⟩ w3 ⟨hk3, b_h, hd3, m3, r3, hgb, htk, l3⟩
    dsimp only at hk3 b_h m3 r3 hgb htk l3 ⊢
    have z3 := hd3.size
    refine Cw.seq ?_
    refine Cw.seq ?_
    refine Cw.region ?_
    refine Lw.val (Ex.move rfl) rfl ?_
    refine Lw.val (Ex.lss rfl rfl) rfl ?_
    refine Lw.nil ?_
    refine Pw.thenN (Cw.out ?_)
    refine Cw.cond rfl ?_ ?_
    · intro h
      have hk' : k < 40 := by simp at h; omega
      refine Cw.skip ?_
      refine Pw.thenN (Cw.out ?_)
      refine Cw.seq ?_
      refine Cw.block ?_
      refine Cw.region ?_
      refine Lw.val (Ex.move rfl) rfl ?_
      refine Lw.val (Ex.fieldAddr (q := 0) Tryz.underlying118 rfl (sz_3 _) rfl) rfl ?_
      refine Lw.val (Ex.ldB (ag_3 _) rfl (by assumption) rfl) rfl ?_
      refine Lw.know 30 (v' := .int .i64 hs[i].n) rfl (congrArg (Value.int .i64) en) ?_
      refine Lw.callF rfl rfl (markNode_m B hs[i].n w3 hnum (by omega)) ?_
      rintro _ w4 ⟨⟨c, rfl, hφ⟩, hn4⟩
      have lc := phN_len hφ
      refine Lw.valW (Xw.litA1 (cs := c) st_116 it_121 rfl lc.1 (by decide) (by decide)) rfl ?_
      rintro nv w5 ⟨o5, -, hn5, -⟩
      have hn35 := bt hn4 hn5
      have z5 := hn35.size
      have r5 := r3.bs hn35
      have m5 := (m3.bs st hn35).snoc lc.1 (st.bs hφ hn5)
      have hgt : ∀ b, g.ownBlock = some b → b < B ∨ ∃ T cs, Blk w5 b T cs ∧ T ≠ 3 := fun b e => by
        rcases hgb b e with h2 | h2
        · exact .inl (hvB b h2)
        · obtain ⟨cur, hcur⟩ := r5.ty e
          exact .inr ⟨_, cur, hcur, by decide⟩
      refine Lw.valW (Xw.appendK (base := base) st_116 it_121 rfl (by decide) rfl rfl r5 (own_sl o5) lc.2 (by omega) (by omega) (by omega) (Nat.le_refl _)) rfl ?_
      rintro g' w6 ⟨r6, hg6, hcase⟩
      have l5 := l3.bs hn35
      have b5 := b_h.bs hn35
      have e6 : cs.flatten ++ c = (cs ++ [c]).flatten := by simp
      rw [e6] at r6
      have m6 := m5.by st hg6 hgt
      have hgA : some A_h ≠ g.ownBlock := fun e => by
        rcases hgb _ e.symm with h2 | h2
        · have := hvb _ h2; omega
        · omega
      have htk' : (cs ++ [c]).take hs[i].k = c0 := by rw [List.take_append_of_le_length (by rw [m3.els.1]; omega)]; exact htk
      have l6 : Sl w6 5 hs[i].v hs[i].k c0.flatten := grow_keepsN r0 (.inl r6) hg6 hcase l5 (by
        rw [Els.flat_take (k := hs[i].k) (m := k + 1) m5.els, htk'])
      have hgb' : ∀ b, g'.ownBlock = some b → hs[i].v.ownBlock = some b ∨ w2.heap.size ≤ b := fun b e => by
        rcases hcase with h2 | ⟨h2, -⟩
        · rw [h2] at e; exact hgb b e
        · exact .inr (by have := h2 b e; omega)
      refine Lw.val (Ex.assign rfl) rfl ?_
      refine Lw.nil ?_
      refine Pw.blkN ?_
      refine Pw.thenN (Cw.out ?_)
      refine Cw.region ?_
      refine Lw.val (Ex.move rfl) rfl ?_
      refine Lw.val (Ex.addI rfl rfl (by omega)) rfl ?_
      refine Lw.val (Ex.assign rfl) rfl ?_
      refine Lw.nil ?_
      exact Pw.thenN (Pw.next ((k + 1, g', cs ++ [c])) ⟨rfl, rfl, rfl, rfl, rfl, trivial⟩ (⟨hk', b5.by hg6 hgA, (hd3.below hn35).grown hg6 hgb, m6, .inl r6, hgb', htk', l6⟩) (by simp only; omega))
    intro h
    have hk' : k = 40 := by simp at h; omega
    subst hk'
    have hall : Chg (fun b => hs[i].v.ownBlock = some b) w1 w3 := (Chg.of_below hn2).trans hd3
    have hcS : Chg (fun b => blks hs b ∨ u.ownBlock = some b) w w3 := hc.trans (hall.mono fun b e => .inl ⟨_, hm, e⟩)
    have b3 := hA.chg hcS (fun e => e.elim hb1 hb3)
    have o3 := own_chg o1 hall (fun b e1 e2 => hb2 b e1 ⟨_, hm, e2⟩)
    refine Cw.exit ?_
    refine Pw.thenE ?_
    refine Pw.thenE ?_
    refine Pw.blkHit ?_
    refine Pw.thenN (Cw.out ?_)
    refine Cw.region ?_
    refine Lw.val (Ex.move rfl) rfl ?_
    refine Lw.val (Ex.nilCheck rfl) rfl ?_
    refine Lw.val (Ex.fieldAddr (q := 0) Tryz.underlying51 rfl (sz_41 _) rfl) rfl ?_
    refine Lw.val (Ex.ldB (ag_41 _) rfl b3 hu) rfl ?_
    refine Lw.val (Ex.move rfl) rfl ?_
    refine Lw.val (Ex.move rfl) rfl ?_
    refine Lw.val (Ex.idx st_41 rfl rfl (own_sl o3) i rfl hi') rfl ?_
    refine Lw.val (Ex.fieldAddrE Tryz.underlying118 rfl (sz_116 _) rfl (own_some o3 (by omega))) rfl ?_
    refine Lw.unit (Xu.stO (j := i * 3 + 1) (sz_116 _) rfl rfl r3.sl.one' o3 (by rw [hcells_len]; omega)) ?_
    rintro w4 ⟨o4, hg4, -⟩
    have e4 := hcells_set hit g
    have o4 : w4.ownsRow lo 118 3 u hs.length (hcells (ts.set i { ts[i] with g := g })) := by rw [← e4]; exact o4
    have hG4 := hG.set hi' hit (g := g) (fun b e => by
      rcases hgb b e with h2 | h2
      · exact .inl h2
      · exact .inr (by omega))
    have hall4 : Chg (fun b => hs[i].v.ownBlock = some b ∨ u.ownBlock = some b) w1 w4 := (hall.mono fun b e => .inl e).grown hg4 (fun b e => .inl (.inr e))
    have hlow : ∀ b, (hs[i].v.ownBlock = some b ∨ u.ownBlock = some b) → b < B := fun b e => e.elim (hvB b) (huB b)
    have hS4 : Chg (fun b => blks hs b ∨ u.ownBlock = some b) w w4 := hcS.grown hg4 (fun b e => .inl (.inr e))
    have huT : ∀ b, u.ownBlock = some b → b < B ∨ ∃ T cs, Blk w3 b T cs ∧ T ≠ 3 := fun b e => .inl (huB b e)
    have m4 := m3.by st hg4 huT
    have t4 : TallN w4 5 (phN) { ts[i] with g := g } := by
      refine ⟨⟨c0, ?_, ?_⟩, ⟨cs, ?_, ?_⟩⟩
      · simp only; rw [ek, en, ← htk]; exact m4.take
      · simp only; rw [ev, ek]
        refine l3.by hg4 ?_
        cases hv : hs[i].v.ownBlock with
        | none => exact .inl rfl
        | some b => exact .inr fun e => hb2 b e.symm ⟨_, hm, hv⟩
      · simp only; rw [ek, en]; exact m4
      · simp only; rw [ek]
        refine r3.sl.by hg4 ?_
        cases hv : g.ownBlock with
        | none => exact .inl rfl
        | some b =>
          refine .inr fun e => ?_
          rcases hgb b hv with h2 | h2
          · exact hb2 b e.symm ⟨_, hm, h2⟩
          · have := (own_block ho b e.symm).2; omega
    have h14 : ∀ t ∈ ts.set i { ts[i] with g := g }, t.g.oneCell' = true := fun t htm => by
      rcases List.mem_or_eq_of_mem_set htm with h2 | h2
      · exact h1 t h2
      · rw [h2]; exact r3.sl.one'
    have hd4 : ∀ j (hj : j < (ts.set i { ts[i] with g := g }).length), j < i + 1 → TallN w4 5 (phN) (ts.set i { ts[i] with g := g })[j] := fun j hj hji => by
        rw [List.getElem_set]
        split
        · exact t4
        · rename_i hne
          have hj' : j < ts.length := by simpa using hj
          obtain ⟨fv, _, _, fg⟩ := hG.all j (by omega) hj'
          refine (hd j hj' (by omega)).chg st hall4 hlow (fun b e1 _ e2 => ?_) (fun b e1 _ e2 => ?_)
          · rw [fv] at e1
            rcases e2 with e2 | e2
            · exact apart_ne hk.apart hi' (show j < hs.length by omega) hne b e2 e1
            · exact hb2 b e2 ⟨_, List.getElem_mem _, e1⟩
          · rcases e2 with e2 | e2
            · rcases fg b e1 with h2 | h2
              · exact apart_ne hk.apart hi' (show j < hs.length by omega) hne b e2 h2
              · have := hvb b e2; omega
            · rcases fg b e1 with h2 | h2
              · exact hb2 b e2 ⟨_, List.getElem_mem _, h2⟩
              · have := (own_block ho b e2).2; omega
    have ht4 : ∀ j (hj : j < hs.length), i + 1 ≤ j → ∃ cs, Mks (phN) 5 hs[j].n w4 hs[j].k cs ∧ KRow w4 base 121 5 hs[j].v hs[j].k cs.flatten := fun j hj hji => by
      obtain ⟨ds, q1, q2⟩ := ht j hj (by omega)
      refine ⟨ds, q1.chg st hall4 hlow, q2.chg hall4 fun b e1 e2 => ?_⟩
      rcases e2 with e2 | e2
      · exact apart_ne hk.apart hi' hj (by omega) b e2 e1
      · exact hb2 b e2 ⟨_, List.getElem_mem _, e1⟩
    refine Lw.nil ?_
    refine Pw.blkN ?_
    refine Pw.thenN (Cw.out ?_)
    refine Cw.region ?_
    refine Lw.val (Ex.move rfl) rfl ?_
    refine Lw.val (Ex.addI rfl rfl (by omega)) rfl ?_
    refine Lw.val (Ex.assign rfl) rfl ?_
    refine Lw.nil ?_
    exact Pw.thenN (Pw.next ((i + 1, ts.set i { ts[i] with g := g })) ⟨rfl, rfl, trivial⟩ (⟨hi', hG4, h14, hS4, o4, hd4, ht4⟩) (by simp only; omega))
  intro h
  have hi' : i = hs.length := by simp at h; omega
  refine Cw.exit ?_
  refine Pw.thenE ?_
  refine Pw.thenE ?_
  refine Pw.blkHit ?_
  refine Pw.end0 rfl ?_
  refine ⟨rfl, hc, ts, hG, o1, fun t htm => ?_⟩
  obtain ⟨j, hj, rfl⟩ := List.mem_iff_getElem.1 htm
  exact hd j hj (by omega)


theorem lookNode_m (A : Nat) (book : List Value) (u : Value) (ts : List Hd) (lo B : Nat) (w : World) (hA : Blk w A bookT book) (hu : book[7]? = some u) (ho : w.ownsRow lo 118 3 u ts.length (hcells ts)) (ht : ∀ t ∈ ts, TallN w 5 (phN) t) (hn : ∀ t ∈ ts, (0 ≤ t.n ∧ t.n ≤ 4000000) ∧ t.k ≤ 16777216) :
    Fnc Tryz.prog 81 [.pointer (some ⟨A, 0, none⟩)] w (fun r w' => r = .bool true ∧ Below w.heap.size w w') := by
  have hle := (own_sl ho).le
  have st := (phN_stays B 3)
  refine Fnc.enter (n := 64) Tryz.func81 (by kernel_rfl) rfl rfl rfl ?_
  refine Cw.seq ?_
  refine Cw.region ?_
  refine Lw.val (Ex.assign rfl) rfl ?_
  refine Lw.nil ?_
  refine Pw.thenN (Cw.out ?_)
  refine Cw.seq ?_
  refine Cw.seq ?_
  refine Cw.region ?_
  refine Lw.val (Ex.assign rfl) rfl ?_
  refine Lw.nil ?_
  refine Pw.thenN (Cw.out ?_)
  refine Cw.block ?_
  refine Cw.loop (S := Nat) (fun i => [(0, .pointer (some ⟨A, 0, none⟩)), (2, .bool false), (3, .int .i64 (i : Int))]) (fun i w' => i ≤ ts.length ∧ Below w.heap.size w w') (fun i => ts.length - i) (0) ⟨rfl, rfl, rfl, trivial⟩ ?_ ?_
  · exact ⟨by omega, Below.refl _ _⟩
  rintro i w1 ⟨hi, hw1⟩
  have b1 := hA.bs hw1
  have s1 := (own_sl ho).bs hw1
  refine Cw.seq ?_
  refine Cw.seq ?_
  refine Cw.region ?_
  refine Lw.val (Ex.move rfl) rfl ?_
  refine Lw.val (Ex.move rfl) rfl ?_
  refine Lw.val (Ex.nilCheck rfl) rfl ?_
  refine Lw.val (Ex.fieldAddr (q := 0) Tryz.underlying51 rfl (sz_41 _) rfl) rfl ?_
  refine Lw.val (Ex.ldB (ag_41 _) rfl b1 hu) rfl ?_
  refine Lw.val (Ex.lenS (sz := 3) st_41 rfl s1) rfl ?_
  refine Lw.val (Ex.lss rfl rfl) rfl ?_
  refine Lw.nil ?_
  refine Pw.thenN (Cw.out ?_)
  refine Cw.cond rfl ?_ ?_
  · intro h
    have hi' : i < ts.length := by simp at h; omega
    have hm := List.getElem_mem hi'
    obtain ⟨hnum, hfew⟩ := hn _ hm
    have t1 := (ht _ hm).bs st hw1
    obtain ⟨⟨c1, m1, l1⟩, ⟨c2, m2, g1⟩⟩ := t1
    refine Cw.skip ?_
    refine Pw.thenN (Cw.out ?_)
    refine Cw.seq ?_
    refine Cw.block ?_
    refine Cw.seq ?_
    refine Cw.region ?_
    refine Lw.val (Ex.move rfl) rfl ?_
    refine Lw.val (Ex.nilCheck rfl) rfl ?_
    refine Lw.val (Ex.fieldAddr (q := 0) Tryz.underlying51 rfl (sz_41 _) rfl) rfl ?_
    refine Lw.val (Ex.ldB (ag_41 _) rfl b1 hu) rfl ?_
    refine Lw.val (Ex.move rfl) rfl ?_
    refine Lw.val (Ex.idx st_41 rfl rfl s1 i rfl hi') rfl ?_
    refine Lw.val (Ex.ldE (cs := ts[i].cells) (ag_118 _) (sz_118 _) rfl s1 rfl (by decide) (hcells_three hi')) rfl ?_
    refine Lw.boxed (cs := ts[i].cells) it_118 rfl rfl rfl rfl (fun _ => rfl) (by simp [Hd.cells, l1.one', g1.one', int_one]) ?_
    rintro A_h w2 eA_h b_h hn2 zhn2
    have hw2 := bt hw1 hn2
    replace l1 := l1.bs hn2
    replace g1 := g1.bs hn2
    replace m1 := m1.bs st hn2
    replace m2 := m2.bs st hn2
    refine Lw.nil ?_
    refine Pw.thenN (Cw.out ?_)
    refine Cw.seq ?_
    refine Cw.seq ?_
    refine Cw.region ?_
    refine Lw.val (Ex.fieldAddr (q := 0) Tryz.underlying118 rfl (sz_116 _) rfl) rfl ?_
    refine Lw.val (Ex.ldB (ag_116 _) rfl (by assumption) rfl) rfl ?_
    refine Lw.val (Ex.lenS (sz := 5) st_116 rfl g1) rfl ?_
    refine Lw.val (Ex.fieldAddr (q := 0) Tryz.underlying118 rfl (sz_116 _) rfl) rfl ?_
    refine Lw.val (Ex.ldB (ag_116 _) rfl (by assumption) rfl) rfl ?_
    refine Lw.val (Ex.lenS (sz := 5) st_116 rfl l1) rfl ?_
    refine Lw.val (Ex.addI rfl rfl (by omega)) rfl ?_
    refine Lw.val (Ex.neq rfl rfl) rfl ?_
    refine Lw.nil ?_
    refine Pw.thenN (Cw.out ?_)
    refine Cw.condB rfl false (by simp) ?_
    refine Cw.skip ?_
    refine Pw.thenN (Cw.out ?_)
    refine Cw.seq ?_
    refine Cw.region ?_
    refine Lw.val (Ex.assign rfl) rfl ?_
    refine Lw.nil ?_
    refine Pw.thenN (Cw.out ?_)
    refine Cw.block ?_
    refine Cw.loop (S := Nat) (fun k => [(0, .pointer (some ⟨A, 0, none⟩)), (2, .bool false), (3, .int .i64 (i : Int)), (4, .pointer (some ⟨A_h, 0, none⟩)), (5, .int .i64 (k : Int))]) (fun k w' => k ≤ ts[i].k + 40 ∧ Below w2.heap.size w2 w') (fun k => ts[i].k + 40 - k) (0) ⟨rfl, rfl, rfl, rfl, rfl, trivial⟩ ?_ ?_
    · exact ⟨by omega, Below.refl _ _⟩
    rintro k w3 ⟨hk3, hw3⟩
    have l3 := l1.bs hw3
    have g3 := g1.bs hw3
    have b3 := b_h.bs hw3
    have m3 := m1.bs st hw3
    have m4 := m2.bs st hw3
    refine Cw.seq ?_
    refine Cw.seq ?_
    refine Cw.region ?_
    refine Lw.val (Ex.move rfl) rfl ?_
    refine Lw.val (Ex.fieldAddr (q := 0) Tryz.underlying118 rfl (sz_116 _) rfl) rfl ?_
    refine Lw.val (Ex.ldB (ag_116 _) rfl (by assumption) rfl) rfl ?_
    refine Lw.val (Ex.lenS (sz := 5) st_116 rfl g3) rfl ?_
    refine Lw.val (Ex.lss rfl rfl) rfl ?_
    refine Lw.nil ?_
    refine Pw.thenN (Cw.out ?_)
    refine Cw.cond rfl ?_ ?_
    · intro h
      have hk' : k < ts[i].k + 40 := by simp at h; omega
      have hkc : k < c2.length := by rw [m2.els.1]; exact hk'
      refine Cw.skip ?_
      refine Pw.thenN (Cw.out ?_)
      refine Cw.seq ?_
      refine Cw.block ?_
      refine Cw.seq ?_
      refine Cw.quiet mixed (by kernel_rfl) ?_
      refine Qw.val (fun w1 hq => Ex.fieldAddr (q := 0) Tryz.underlying118 rfl (sz_116 _) rfl) rfl ?_
      refine Qw.val (fun w1 hq => Ex.ldB (ag_116 _) rfl (Blk.bs (by assumption) hq) rfl) rfl ?_
      refine Qw.val (fun w1 hq => Ex.move rfl) rfl ?_
      refine Qw.val (fun w1 hq => Ex.idx st_116 rfl rfl (g3.bs hq) k rfl hk') rfl ?_
      refine Qw.val (fun w1 hq => Ex.ldE (cs := c2[k]) (ag_121 _) (sz_121 _) rfl (g3.bs hq) (m2.els.2 _ (List.getElem_mem hkc)) (by decide) (m2.els.cells hkc)) rfl ?_
      refine Qw.val (fun w1 hq => Ex.fieldAddr (q := 0) Tryz.underlying118 rfl (sz_3 _) rfl) rfl ?_
      refine Qw.val (fun w1 hq => Ex.ldB (ag_3 _) rfl (Blk.bs (by assumption) hq) rfl) rfl ?_
      refine Qw.callF rfl rfl (fun w1 hq => (isNode_m B ts[i].n w1 c2[k] hnum (st.bs (m4.each _ (List.getElem_mem hkc)) hq)).q hq) ?_
      refine Qw.val (fun w1 hq => Ex.not rfl) rfl ?_
      refine Qw.val (fun w1 hq => Ex.move rfl) rfl ?_
      refine Qw.know 46 (v' := .bool false) rfl (congrArg Value.bool (rfl)) ?_
      refine Qw.take (dj := 46) rfl rfl ?_
      refine Qw.val (fun w1 hq => Ex.move rfl) rfl ?_
      refine Qw.take (dj := 46) rfl rfl ?_
      refine Qw.val (fun w1 hq => Ex.fieldAddr (q := 0) Tryz.underlying118 rfl (sz_116 _) rfl) rfl ?_
      refine Qw.take (dj := 46) rfl rfl ?_
      refine Qw.val (fun w1 hq => Ex.ldB (ag_116 _) rfl (Blk.bs (by assumption) hq) rfl) rfl ?_
      refine Qw.take (dj := 46) rfl rfl ?_
      refine Qw.val (fun w1 hq => Ex.lenS (sz := 5) st_116 rfl (l3.bs hq)) rfl ?_
      refine Qw.take (dj := 46) rfl rfl ?_
      refine Qw.val (fun w1 hq => Ex.lss rfl rfl) rfl ?_
      refine Qw.take (dj := 46) rfl rfl ?_
      refine Qw.val (fun w1 hq => Ex.move rfl) rfl ?_
      refine Qw.part 52 rfl ?_ ?_
      · intro g
        have hkl : k < ts[i].k := by simpa using g
        have hkd : k < c1.length := by rw [m1.els.1]; exact hkl
        refine Qw.take (dj := 52) rfl rfl ?_
        refine Qw.val (fun w1 hq => Ex.fieldAddr (q := 0) Tryz.underlying118 rfl (sz_116 _) rfl) rfl ?_
        refine Qw.take (dj := 52) rfl rfl ?_
        refine Qw.val (fun w1 hq => Ex.ldB (ag_116 _) rfl (Blk.bs (by assumption) hq) rfl) rfl ?_
        refine Qw.take (dj := 52) rfl rfl ?_
        refine Qw.val (fun w1 hq => Ex.move rfl) rfl ?_
        refine Qw.take (dj := 52) rfl rfl ?_
        refine Qw.val (fun w1 hq => Ex.idx st_116 rfl rfl (l3.bs hq) k rfl hkl) rfl ?_
        refine Qw.take (dj := 52) rfl rfl ?_
        refine Qw.val (fun w1 hq => Ex.ldE (cs := c1[k]) (ag_121 _) (sz_121 _) rfl (l3.bs hq) (m1.els.2 _ (List.getElem_mem hkd)) (by decide) (m1.els.cells hkd)) rfl ?_
        refine Qw.take (dj := 52) rfl rfl ?_
        refine Qw.val (fun w1 hq => Ex.fieldAddr (q := 0) Tryz.underlying118 rfl (sz_3 _) rfl) rfl ?_
        refine Qw.take (dj := 52) rfl rfl ?_
        refine Qw.val (fun w1 hq => Ex.ldB (ag_3 _) rfl (Blk.bs (by assumption) hq) rfl) rfl ?_
        refine Qw.take (dj := 52) rfl rfl ?_
        refine Qw.callF rfl rfl (fun w1 hq => (isNode_m B ts[i].n w1 c1[k] hnum (st.bs (m3.each _ (List.getElem_mem hkd)) hq)).q hq) ?_
        refine Qw.take (dj := 52) rfl rfl ?_
        refine Qw.val (fun w1 hq => Ex.not rfl) rfl ?_
        refine Qw.take (dj := 46) rfl rfl ?_
        refine Qw.val (fun w1 hq => Ex.pickT rfl rfl) rfl ?_
        refine Qw.val (fun w1 hq => Ex.pickF rfl rfl) rfl ?_
        refine Qw.nil (fun w4 hq => ?_)
        refine Pw.thenN (Cw.out ?_)
        refine Cw.condB rfl false (rfl) ?_
        refine Cw.skip ?_
        refine Pw.blkN ?_
        refine Pw.thenN (Cw.out ?_)
        refine Cw.region ?_
        refine Lw.val (Ex.move rfl) rfl ?_
        refine Lw.val (Ex.addI rfl rfl (by omega)) rfl ?_
        refine Lw.val (Ex.assign rfl) rfl ?_
        refine Lw.nil ?_
        exact Pw.thenN (Pw.next (k + 1) ⟨rfl, rfl, rfl, rfl, rfl, trivial⟩ (⟨hk', bt hw3 hq⟩) (by omega))
      · intro g
        refine Qw.pass (dj := 52) rfl rfl rfl rfl ?_
        refine Qw.pass (dj := 52) rfl rfl rfl rfl ?_
        refine Qw.pass (dj := 52) rfl rfl rfl rfl ?_
        refine Qw.pass (dj := 52) rfl rfl rfl rfl ?_
        refine Qw.pass (dj := 52) rfl rfl rfl rfl ?_
        refine Qw.pass (dj := 52) rfl rfl rfl rfl ?_
        refine Qw.pass (dj := 52) rfl rfl rfl rfl ?_
        refine Qw.pass (dj := 52) rfl rfl rfl rfl ?_
        refine Qw.pass (dj := 52) rfl rfl rfl rfl ?_
        refine Qw.take (dj := 46) rfl rfl ?_
        refine Qw.val (fun w1 hq => Ex.pickF rfl rfl) rfl ?_
        refine Qw.val (fun w1 hq => Ex.pickF rfl rfl) rfl ?_
        refine Qw.nil (fun w4 hq => ?_)
        refine Pw.thenN (Cw.out ?_)
        refine Cw.condF rfl ?_
        refine Cw.skip ?_
        refine Pw.blkN ?_
        refine Pw.thenN (Cw.out ?_)
        refine Cw.region ?_
        refine Lw.val (Ex.move rfl) rfl ?_
        refine Lw.val (Ex.addI rfl rfl (by omega)) rfl ?_
        refine Lw.val (Ex.assign rfl) rfl ?_
        refine Lw.nil ?_
        exact Pw.thenN (Pw.next (k + 1) ⟨rfl, rfl, rfl, rfl, rfl, trivial⟩ (⟨hk', bt hw3 hq⟩) (by omega))
    intro h
    refine Cw.exit ?_
    refine Pw.thenE ?_
    refine Pw.thenE ?_
    refine Pw.blkHit ?_
    refine Pw.blkN ?_
    refine Pw.thenN (Cw.out ?_)
    refine Cw.region ?_
    refine Lw.val (Ex.move rfl) rfl ?_
    refine Lw.val (Ex.addI rfl rfl (by omega)) rfl ?_
    refine Lw.val (Ex.assign rfl) rfl ?_
    refine Lw.nil ?_
    exact Pw.thenN (Pw.next (i + 1) ⟨rfl, rfl, rfl, trivial⟩ (⟨hi', bt hw2 hw3⟩) (by omega))
  intro h
  refine Cw.exit ?_
  refine Pw.thenE ?_
  refine Pw.thenE ?_
  refine Pw.blkHit ?_
  refine Pw.thenN (Cw.out ?_)
  refine Cw.seq ?_
  refine Cw.region ?_
  refine Lw.val (Ex.assign rfl) rfl ?_
  refine Lw.nil ?_
  refine Pw.thenN (Cw.out ?_)
  refine Cw.ret ?_
  refine Pw.ret1 rfl rfl ?_
  exact ⟨rfl, hw1⟩

end Go.Proofs.YtkhndfaampkbnaaGreatDoor
