/- Directions in another order, and their way back, behind a graph, change nothing of what it comes to; nor does another shape, and the first one again. For every graph that is not too much work, of 30 nodes at most, all tensors, and any direction. -/
import Derived.Test.YtmipoeanpnnjoaaGreatPk7
namespace Go.Proofs.YtmipoeanpnnjoaaGreat
open Go Go.Dd Go.RowKit Go.ChangeShapes Go.WideShapes Go.ChangeAt
set_option maxRecDepth 100000

theorem io_zero (n : Nat) : io n 0 = List.replicate n 0 := by
 refine ext_getD (by rw [io_length, List.length_replicate]) fun j hj => ?_
 rw [io_length] at hj
 rw [io_at hj]
 simp [hj]
theorem own_away {w w' : World} {base base' : Nat} {e T : TypeId} {sz sz' n m : Nat} {v q : Value} {xs ys : List Value} (h : w.ownsRow base e sz v n xs) (k : w.ownsRow base' T sz' q m ys) (hne : e ≠ T) (g : w.grownBy w' q.ownBlock) : w'.ownsRow base e sz v n xs := by
 cases hq : q.ownBlock with
 | none => rw [hq] at g; exact own_bs h (grown_below g (Nat.le_refl _) fun _ e => by cases e)
 | some A =>
  rw [hq] at g
  obtain ⟨cs, hb⟩ := own_ty k hq
  exact own_apart h hb hne g
theorem bt_node3 (k : BitVec 8) (x y : Value) (hx : ∃ ao n c, x = .slice ao n c) (hy : ∃ ao n c, y = .slice ao n c) : Tryz.prog.built nodeT [(0, b8 k), (1, x), (2, y)] = some [b8 k, x, y, .int .i64 0, .int .i64 0].toArray := by
 obtain ⟨ao, n, c, rfl⟩ := hx
 obtain ⟨ao2, n2, c2, rfl⟩ := hy
 have h1 : Tryz.prog.info? nodeT = some Tryz.t45 := by kernel_rfl
 have h2 : Tryz.prog.info? 3 = some Tryz.t3 := by kernel_rfl
 have h3 : Tryz.prog.info? 43 = some Tryz.t43 := by kernel_rfl
 have h4 : Tryz.prog.info? 26 = some Tryz.t26 := by kernel_rfl
 simp [Program.built, h1, Tryz.underlying45, h2, h3, h4, Instr.fill, Value.cells]
 rfl
def ndN (k : BitVec 8) (z b : Value) (i : Int) (o : List Int) : N5 := ⟨k, z, b, [i], o, 0, 0⟩
theorem nd_ones {k : BitVec 8} {z b : Value} {i : Int} {o : List Int} (h : z.oneCell' = true) (g : b.oneCell' = true) : (ndN k z b i o).cells.all (·.oneCell') = true := by
 show List.all [b8 k, z, b, .int .i64 0, .int .i64 0] (·.oneCell') = true
 rw [List.all_cons, List.all_cons, List.all_cons, h, g]; rfl
theorem fill2 (a b : List Value) (ha : a.length = 5) (hb : b.length = 5) :
  Instr.fill (fun i => some (i * 5, 5)) ((Array.range (2 * 5)).map (([b8 0#8, .slice none 0 0, .slice none 0 0, .int .i64 0, .int .i64 0] : List Value).toArray[· % ([b8 0#8, .slice none 0 0, .slice none 0 0, .int .i64 0, .int .i64 0] : List Value).toArray.size]!)) [(0, .agg a.toArray), (1, .agg b.toArray)] = some ([a, b].flatten).toArray := by
 have e0 : (Array.range (2 * 5)).map (([b8 0#8, .slice none 0 0, .slice none 0 0, .int .i64 0, .int .i64 0] : List Value).toArray[· % ([b8 0#8, .slice none 0 0, .slice none 0 0, .int .i64 0, .int .i64 0] : List Value).toArray.size]!) = (List.replicate 2 [b8 0#8, .slice none 0 0, .slice none 0 0, .int .i64 0, .int .i64 0]).flatten.toArray := by kernel_rfl
 rw [e0]
 have r0 : ∀ r ∈ List.replicate 2 ([b8 0#8, .slice none 0 0, .slice none 0 0, .int .i64 0, .int .i64 0] : List Value), r.length = 5 := fun r hr => by rw [(List.mem_replicate.1 hr).2]; rfl
 rw [fill_row r0 (by simp) ha]
 have r1 := set5 (i := 0) (ds := a) r0 ha
 rw [fill_row r1 (by simp) hb]
 rfl
theorem gn_ones {w : World} {v : Value} {ls : List N5} (h : GN w v ls) : (flw N5.cells ls).all (·.oneCell') = true := by
 have : ∀ (l : List N5), (∀ t ∈ l, N5.at w t) → (flw N5.cells l).all (·.oneCell') = true := by
  intro l
  induction l with
  | nil => intro _; rfl
  | cons t l ih =>
   intro hl
   rw [show flw N5.cells (t :: l) = t.cells ++ flw N5.cells l by simp [flw], List.all_append, (hl t (by simp)).ones, ih fun x hx => hl x (List.mem_cons_of_mem _ hx)]; rfl
 exact this ls h.each
theorem flw_app (a b : List N5) : flw N5.cells (a ++ b) = flw N5.cells a ++ flw N5.cells b := by simp [flw]
theorem gn_two {w : World} {v m z1 c1 z2 c2 : Value} {ls : List N5} {k : BitVec 8} {i1 i2 : Int} {o1 o2 : List Int} {B : Nat} (h : GN w v ls) (o : w.ownsRow B nodeT 5 m (ls.length + 2) (flw N5.cells ls ++ ((ndN k z1 c1 i1 o1).cells ++ (ndN k z2 c2 i2 o2).cells))) (s1 : SlT (Value.int .i64) w z1 [i1]) (t1 : SlT (Value.int .i64) w c1 o1) (s2 : SlT (Value.int .i64) w z2 [i2]) (t2 : SlT (Value.int .i64) w c2 o2) :
  GN w m (ls ++ [ndN k z1 c1 i1 o1, ndN k z2 c2 i2 o2]) :=
 ⟨by have := own_sl o; rw [flw_app, List.length_append, show flw N5.cells [ndN k z1 c1 i1 o1, ndN k z2 c2 i2 o2] = (ndN k z1 c1 i1 o1).cells ++ (ndN k z2 c2 i2 o2).cells from by simp [flw]]; exact this, fun x hx => by
  rcases List.mem_append.1 hx with hx | hx
  ·exact h.each x hx
  ·rcases List.mem_cons.1 hx with rfl | hx
   ·exact ⟨s1, t1⟩
   ·rw [List.mem_singleton.1 hx]; exact ⟨s2, t2⟩⟩
set_option maxHeartbeats 1000000 in
theorem meansBack_w (v u : Value) (ls : List N5) (ws : List T4) (t : T4) (da : BitVec 8) (W : World) (h : GN W v ls) (hl : ls.length ≤ 1125899906842624) (hf : ∀ t ∈ ls, t.few) (hw : Tens W u ws) (lw : ws.length ≤ 1125899906842624) (fw : ∀ t ∈ ws, fewT t) (ht : t.at W) (ft : fewT t) :
  Fnc Tryz.prog 7 [.agg [v, u, t.x, t.y].toArray, b8 da] W (fun r w' => r = .bool true ∧ Below W.heap.size W w') := by
 have hB := Below.refl W.heap.size W
 have h_v := h.sl
 refine Fnc.enter (n := 147) Tryz.func7 (by kernel_rfl) rfl rfl rfl <| Cw.seq <| Cw.region <| Lw.boxV (cs := [v, u, t.x, t.y]) rfl rfl rfl ?_
 rintro A_z w eA_z b_z hn -
 replace hB := hB.bs hn
 replace h := h.bs hn
 replace hw := hw.bs hn
 replace ht := ht.bs hn
 replace h_v := h_v.bs hn
 clear hn
 refine Lw.val (Ex.assign rfl) rfl <| Lw.nil ?_
 refine Pw.thenN (Cw.out ?_)
 refine Cw.seq <| Cw.seq <| Cw.region <| Lw.callF rfl rfl (alive_c _) ?_
 rintro _ w ⟨rfl, hn⟩
 replace hB := hB.bs hn
 replace h := h.bs hn
 replace hw := hw.bs hn
 replace ht := ht.bs hn
 replace h_v := h_v.bs hn
 replace b_z := b_z.bs hn
 clear hn
 refine Lw.val (Ex.not rfl) rfl <| Lw.val (Ex.move rfl) rfl <| Lw.know 18 (v' := .bool false) rfl (congrArg Value.bool (rfl)) <| Lw.take (dj := 18) rfl rfl <| Lw.val (Ex.ldA (ag_31 _) (sz_31 _) rfl rfl (by assumption)) rfl ?_
 refine Lw.take (dj := 18) rfl rfl <| Lw.callF rfl rfl (great_c v u ls ws t w h hl hf hw lw fw ht ft) ?_
 rintro _ w ⟨⟨b, rfl, -⟩, hn⟩
 replace hB := hB.bs hn
 replace h := h.bs hn
 replace hw := hw.bs hn
 replace ht := ht.bs hn
 replace h_v := h_v.bs hn
 replace b_z := b_z.bs hn
 clear hn
 refine Lw.val (Ex.pickF rfl rfl) rfl <| Lw.val (Ex.move rfl) rfl ?_
 refine Lw.part 22 rfl ?_ ?_
 ·intro g
  refine Lw.pass (dj := 22) rfl rfl rfl rfl <| Lw.pass (dj := 22) rfl rfl rfl rfl <| Lw.pass (dj := 22) rfl rfl rfl rfl <| Lw.pass (dj := 22) rfl rfl rfl rfl <| Lw.pass (dj := 22) rfl rfl rfl rfl <| Lw.val (Ex.pickT rfl rfl) rfl <| Lw.nil ?_
  refine Pw.thenN (Cw.out ?_)
  refine Cw.condT rfl <| Cw.seq <| Cw.region <| Lw.callF rfl rfl (alive_c _) ?_
  rintro _ w ⟨rfl, hn⟩
  replace hB := hB.bs hn
  replace h := h.bs hn
  replace hw := hw.bs hn
  replace ht := ht.bs hn
  replace h_v := h_v.bs hn
  replace b_z := b_z.bs hn
  clear hn
  refine Lw.val (Ex.assign rfl) rfl <| Lw.nil ?_
  refine Pw.thenN (Cw.out ?_)
  refine Cw.ret <| Pw.thenR <| Pw.ret1 rfl rfl ?_
  exact ⟨rfl, hB⟩
 intro g
 refine Lw.take (dj := 22) rfl rfl <| Lw.val (Ex.fieldAddr (q := 0) Tryz.underlying31 rfl (sz_24 _) rfl) rfl <| Lw.take (dj := 22) rfl rfl <| Lw.val (Ex.fieldAddr (q := 0) Tryz.underlying24 rfl (sz_22 _) rfl) rfl <| Lw.take (dj := 22) rfl rfl <| Lw.val (Ex.ldB (ag_22 _) rfl (by assumption) rfl) rfl ?_
 refine Lw.take (dj := 22) rfl rfl <| Lw.val (Ex.lenS st_22 rfl (by assumption)) rfl ?_
 refine Lw.take (dj := 22) rfl rfl <| Lw.val (Ex.gtr rfl rfl) rfl <| Lw.val (Ex.pickF rfl rfl) rfl <| Lw.nil ?_
 refine Pw.thenN (Cw.out ?_)
 refine Cw.cond rfl ?_ ?_
 ·intro g30
  refine Cw.seq <| Cw.region <| Lw.callF rfl rfl (alive_c _) ?_
  rintro _ w ⟨rfl, hn⟩
  replace hB := hB.bs hn
  replace h := h.bs hn
  replace hw := hw.bs hn
  replace ht := ht.bs hn
  replace h_v := h_v.bs hn
  replace b_z := b_z.bs hn
  clear hn
  refine Lw.val (Ex.assign rfl) rfl <| Lw.nil ?_
  refine Pw.thenN (Cw.out ?_)
  refine Cw.ret <| Pw.thenR <| Pw.ret1 rfl rfl ?_
  exact ⟨rfl, hB⟩
 intro g30
 have g30 : ls.length ≤ 30 := by have := of_decide_eq_false g30; omega
 obtain ⟨R, hR⟩ : ∃ R, R = allG ls (ws.map pv) (pv t) := ⟨_, rfl⟩
 refine Cw.skip ?_
 refine Pw.thenN (Cw.out ?_)
 refine Cw.seq <| Cw.region <| Lw.val (Ex.fieldAddr (q := 0) Tryz.underlying31 rfl (sz_24 _) rfl) rfl <| Lw.val (Ex.ldAt (ds := [v]) (ag_24 _) (sz_24 _) rfl rfl (by assumption) rfl) rfl ?_
 refine Lw.val (Ex.fieldAddr (q := 0) Tryz.underlying31 rfl (sz_25 _) rfl) rfl <| Lw.val (Ex.ldB (ag_25 _) rfl (by assumption) rfl) rfl ?_
 refine Lw.val (Ex.fieldAddr (q := 1) Tryz.underlying31 rfl (sz_29 _) rfl) rfl <| Lw.val (Ex.ldAt (ds := [t.x, t.y]) (ag_29 _) (sz_29 _) rfl rfl (by assumption) rfl) rfl ?_
 refine Lw.callF rfl rfl (run_c v ls u ws t w h hw ht) ?_
 rintro _ w ⟨hn, hr⟩
 rw [← hR] at hr
 replace hB := hB.bs hn
 replace h := h.bs hn
 replace hw := hw.bs hn
 replace ht := ht.bs hn
 replace h_v := h_v.bs hn
 replace b_z := b_z.bs hn
 clear hn
 cases eR : R with
 | none =>
  rw [eR] at hr
  obtain rfl := hr
  refine Lw.val (Ex.move rfl) rfl <| Lw.val (Ex.extract (i := 0) rfl rfl) rfl <| Lw.val (Ex.extract (i := 1) rfl rfl) rfl <| Lw.boxed (cs := [.slice none 0 0, .slice none 0 0]) it_29 rfl rfl rfl rfl (fun _ => rfl) (rfl) ?_
  rintro A_a w eA_a b_a hn -
  replace hB := hB.bs hn
  replace h := h.bs hn
  replace hw := hw.bs hn
  replace ht := ht.bs hn
  replace h_v := h_v.bs hn
  replace b_z := b_z.bs hn
  clear hn
  refine Lw.val (Ex.assign rfl) rfl <| Lw.nil ?_
  refine Pw.thenN (Cw.out ?_)
  refine Cw.seq <| Cw.seq <| Cw.region <| Lw.val (Ex.move rfl) rfl <| Lw.val (Ex.neq rfl rfl) rfl <| Lw.nil ?_
  refine Pw.thenN (Cw.out ?_)
  refine Cw.condB rfl true (rfl) <| Cw.seq <| Cw.region <| Lw.val (Ex.assign rfl) rfl <| Lw.nil ?_
  refine Pw.thenN (Cw.out ?_)
  refine Cw.ret <| Pw.thenR <| Pw.ret1 rfl rfl ?_
  exact ⟨rfl, hB⟩
 | some vs =>
  rw [eR] at hr
  obtain ⟨c, rfl, hc, pc⟩ := hr
  obtain ⟨ss, hss, RN⟩ := ran_of (hR.symm.trans eR)
  replace hc := hc.at
  have l1 := RN.ls1
  have okc : tok c.s c.l = true := by
   have := (ran_node RN (show ls.length - 1 < ls.length by omega)).ok
   have e : lastV vs = vs.getD (ls.length - 1) ([], []) := by unfold lastV; rw [RN.lvs]
   rw [← e, ← pc] at this
   exact this
  have S := (Shapes.ok_iff c.s).1 (tok_ok okc).1
  have s_cs := hc.1
  have s_cl := hc.2
  obtain ⟨n, hn0⟩ : ∃ n, n = c.s.length := ⟨_, rfl⟩
  obtain ⟨k, hk⟩ : ∃ i : Nat, i = da.toNat % n := ⟨_, rfl⟩
  have hkl : k < n := hk ▸ Nat.mod_lt _ (by omega)
  refine Lw.val (Ex.move rfl) rfl <| Lw.val (Ex.extract (i := 0) rfl rfl) rfl <| Lw.val (Ex.extract (i := 1) rfl rfl) rfl <| Lw.boxed (cs := [c.x, c.y]) it_29 rfl rfl rfl rfl (fun _ => rfl) (hc.one) ?_
  rintro A_c w eA_c b_c hn -
  replace hB := hB.bs hn
  replace h := h.bs hn
  replace hw := hw.bs hn
  replace ht := ht.bs hn
  replace h_v := h_v.bs hn
  replace b_z := b_z.bs hn
  replace hc := hc.bs hn
  replace s_cs := s_cs.bs hn
  replace s_cl := s_cl.bs hn
  clear hn
  refine Lw.val (Ex.assign rfl) rfl <| Lw.nil ?_
  refine Pw.thenN (Cw.out ?_)
  refine Cw.seq <| Cw.seq <| Cw.region <| Lw.val (Ex.move rfl) rfl <| Lw.val (Ex.neq rfl rfl) rfl <| Lw.nil ?_
  refine Pw.thenN (Cw.out ?_)
  refine Cw.condB rfl false (rfl) <| Cw.skip ?_
  refine Pw.thenN (Cw.out ?_)
  refine Cw.seq <| Cw.region <| Lw.val (Ex.fieldAddr (q := 0) Tryz.underlying31 rfl (sz_24 _) rfl) rfl <| Lw.val (Ex.fieldAddr (q := 0) Tryz.underlying24 rfl (sz_22 _) rfl) rfl <| Lw.val (Ex.ldB (ag_22 _) rfl (by assumption) rfl) rfl ?_
  refine Lw.val (Ex.lenS st_22 rfl (by assumption)) rfl ?_
  refine Lw.val (Ex.assign rfl) rfl <| Lw.nil ?_
  refine Pw.thenN (Cw.out ?_)
  refine Cw.seq <| Cw.region <| Lw.val (Ex.move rfl) rfl <| Lw.val (Ex.conv8_I us_5 un_3 rfl) rfl <| Lw.val (Ex.fieldAddr (q := 0) Tryz.underlying29 rfl (sz_26 _) rfl) rfl <| Lw.val (Ex.ldB (ag_26 _) rfl (by assumption) rfl) rfl ?_
  refine Lw.val ((Ex.lenS st_26 rfl s_cs).as (congrArg (fun x : Nat => Value.int .i64 (x : Int)) hn0.symm)) rfl <| Lw.val ((Ex.remN rfl rfl (by omega)).as (congrArg (fun x : Nat => Value.int .i64 (x : Int)) hk.symm)) rfl <| Lw.val (Ex.assign rfl) rfl <| Lw.nil ?_
  refine Pw.thenN (Cw.out ?_)
  refine Cw.seq <| Cw.region <| Lw.val (Ex.fieldAddr (q := 0) Tryz.underlying29 rfl (sz_26 _) rfl) rfl <| Lw.val (Ex.ldB (ag_26 _) rfl (by assumption) rfl) rfl ?_
  refine Lw.val ((Ex.lenS st_26 rfl s_cs).as (congrArg (fun x : Nat => Value.int .i64 (x : Int)) hn0.symm)) rfl ?_
  rename World => wb
  refine Lw.valW (Xw.make (l := n) (c := n) st_26 it_3 rfl rfl rfl (Nat.le_refl _) (by omega) (by omega)) rfl ?_
  rintro o w1 ⟨hy, -, hn, -⟩
  replace hy : w1.ownsRow wb.heap.size 3 1 o n ((io n 0).map (Value.int .i64)) := by rw [io_zero, ← rep_flat (enc := Value.int .i64) (z := 0)]; exact hy
  refine Lw.val (Ex.assign rfl) rfl <| Lw.nil ?_
  refine Pw.thenN (Cw.out ?_)
  refine Cw.seq <| Cw.seq <| Cw.region <| Lw.val (Ex.assign rfl) rfl <| Lw.nil ?_
  refine Pw.thenN (Cw.out ?_)
  refine Cw.block ?_
  refine Cw.loop (S := Nat) (fun i => [(2, .pointer (some ⟨A_z, 0, none⟩)), (5, .pointer (some ⟨A_c, 0, none⟩)), (7, .int .i64 (ls.length : Int)), (8, .int .i64 (k : Int)), (9, o), (10, .int .i64 (i : Int))]) (fun i w' => i ≤ n ∧ Below wb.heap.size wb w' ∧ w'.ownsRow wb.heap.size 3 1 o n ((io n i).map (Value.int .i64))) (fun i => n - i) (0) ⟨rfl, rfl, rfl, rfl, rfl, rfl, trivial⟩ ?_ ?_
  ·exact ⟨Nat.zero_le _, hn, hy⟩
  clear hy hn
  rintro i w2 ⟨hi, hX, hy⟩
  obtain ⟨L, hL⟩ : ∃ L, L = io n i := ⟨_, rfl⟩
  have lL : L.length = n := by rw [hL, io_length]
  rw [← hL, ← lL] at hy
  have s_y := own_slT hy
  refine Cw.seq <| Cw.seq <| Cw.region <| Lw.val (Ex.move rfl) rfl <| Lw.val (Ex.move rfl) rfl <| Lw.val (Ex.lenS st_26 rfl (by assumption)) rfl ?_
  refine Lw.val (Ex.lss rfl rfl) rfl <| Lw.nil ?_
  refine Pw.thenN (Cw.out ?_)
  refine Cw.cond rfl ?_ ?_
  ·intro g
   have hi' : i < n := by have := of_decide_eq_true g; omega
   refine Cw.skip ?_
   refine Pw.thenN (Cw.out ?_)
   refine Cw.seq <| Cw.block <| Cw.region <| Lw.val (Ex.move rfl) rfl <| Lw.val (Ex.move rfl) rfl <| Lw.val (Ex.move rfl) rfl <| Lw.val (Ex.idxT st_26 rfl rfl s_y i rfl (by omega)) rfl <| Lw.unit (Xu.stO (sz_3 _) rfl rfl rfl hy (by rw [List.length_map]; omega)) ?_
   rintro w3 ⟨hy3, hg, -⟩
   rw [← List.map_set, lL, hL, io_set hi'] at hy3
   have hX3 := hX.grown hg hX.size (fun b e => (own_block hy b e).1)
   refine Lw.nil <| Pw.blkN ?_
   refine Pw.thenN (Cw.out ?_)
   refine Cw.region <| Lw.val (Ex.move rfl) rfl <| Lw.val (Ex.addI rfl rfl (by omega)) rfl <| Lw.val (Ex.assign rfl) rfl <| Lw.nil ?_
   exact Pw.thenN (Pw.next (i + 1) ⟨rfl, rfl, rfl, rfl, rfl, rfl, trivial⟩ (⟨hi', hX3, hy3⟩) (by omega))
  intro g
  have hi' : i = n := by have := of_decide_eq_false g; omega
  rw [hi'] at hL
  refine Cw.exit <| Pw.thenE <| Pw.thenE <| Pw.blkHit ?_
  refine Pw.thenN (Cw.out ?_)
  refine Cw.seq <| Cw.region <| Lw.val (Ex.move rfl) rfl <| Lw.val (Ex.move rfl) rfl <| Lw.val (Ex.idxT st_26 rfl rfl s_y 0 rfl (by omega)) rfl <| Lw.unit (Xu.stO (sz_3 _) rfl rfl rfl hy (by rw [List.length_map]; omega)) ?_
  rintro w3 ⟨hy3, hg, -⟩
  have hX3 := hX.grown hg hX.size (fun b e => (own_block hy b e).1)
  rw [← List.map_set, show L.length = (L.set 0 (k : Int)).length from (List.length_set ..).symm] at hy3
  have s_y3 := own_slT hy3
  refine Lw.nil ?_
  refine Pw.thenN (Cw.out ?_)
  refine Cw.seq <| Cw.region <| Lw.val (Ex.move rfl) rfl <| Lw.val (Ex.move rfl) rfl <| Lw.val (Ex.idxT st_26 rfl rfl s_y3 k rfl (by rw [List.length_set]; omega)) rfl <| Lw.unit (Xu.stO (u := .int .i64 0) (sz_3 _) rfl rfl rfl hy3 (by rw [List.length_map, List.length_set]; omega)) ?_
  rintro w4 ⟨o_o, hg4, -⟩
  have hX4 := hX3.grown hg4 hX3.size (fun b e => (own_block hy3 b e).1)
  rw [← List.map_set, hL, io_end hkl] at o_o
  rw [show ((io n n).set 0 (k : Int)).length = (swo n k).length by rw [List.length_set, swo_length, io_length]] at o_o
  have t_o := own_slT o_o
  clear hy3 s_y3 hg hg4 hX3 hX s_y hy hL lL o_o
  replace hB := hB.bs hX4
  replace h := h.bs hX4
  replace hw := hw.bs hX4
  replace ht := ht.bs hX4
  replace h_v := h_v.bs hX4
  replace b_z := b_z.bs hX4
  replace hc := hc.bs hX4
  replace s_cs := s_cs.bs hX4
  replace s_cl := s_cl.bs hX4
  replace b_c := b_c.bs hX4
  clear hX4
  refine Lw.nil ?_
  refine Pw.thenN (Cw.out ?_)
  refine Cw.seq <| Cw.region <| Lw.val (Ex.fieldAddr (q := 0) Tryz.underlying31 rfl (sz_24 _) rfl) rfl <| Lw.val (Ex.fieldAddr (q := 0) Tryz.underlying24 rfl (sz_22 _) rfl) rfl <| Lw.val (Ex.ldB (ag_22 _) rfl (by assumption) rfl) rfl ?_
  rename World => wd
  refine Lw.valW (Xw.append2 (base := wd.heap.size) st_22 it_45 rfl (by decide) rfl rfl (World.ownsRow_nil _ _ _ _) h.sl (gn_ones h) (by omega) (by omega) (Nat.le_refl _)) rfl ?_
  rintro q9 w ⟨o_q, -, hg, -⟩
  rw [List.nil_append, Nat.zero_add] at o_q
  have hX := grown_below hg (Nat.le_refl _) fun _ e => by cases e
  clear hg
  refine Lw.val (Ex.assign rfl) rfl <| Lw.nil ?_
  refine Pw.thenN (Cw.out ?_)
  refine Cw.seq <| Cw.region <| Lw.val (Ex.move rfl) rfl <| Lw.val (Ex.move rfl) rfl <| Lw.val ((Ex.subI rfl rfl (by omega)).as (congrArg (Value.int .i64) (show (ls.length : Int) - 1 = ((ls.length - 1 : Nat) : Int) by omega))) rfl <| Lw.valW (Xw.lit (vs := [(((ls.length - 1 : Nat) : Int) : Int)].map (Value.int .i64)) st_26 it_3 rfl rfl rfl rfl rfl) rfl ?_
  rintro z1 w ⟨o_z1, -, hn, -⟩
  replace hX := hX.bs hn
  replace o_q := o_q.bs hn
  clear hn
  refine Lw.val (Ex.move rfl) rfl <| Lw.val (Ex.build (cs := (ndN 11#8 z1 o ((ls.length - 1 : Nat) : Int) (swo n k)).cells) rfl (bt_node3 11#8 z1 o (sl_form (own_sl o_z1)) (sl_form t_o))) rfl <| Lw.val (Ex.move rfl) rfl <| Lw.valW (Xw.lit (vs := [((ls.length : Int) : Int)].map (Value.int .i64)) st_26 it_3 rfl rfl rfl rfl rfl) rfl ?_
  rintro z2 w ⟨o_z2, -, hn, -⟩
  replace hX := hX.bs hn
  replace o_q := o_q.bs hn
  replace o_z1 := o_z1.bs hn
  clear hn
  refine Lw.val (Ex.move rfl) rfl <| Lw.val (Ex.build (cs := (ndN 11#8 z2 o (ls.length : Int) (swo n k)).cells) rfl (bt_node3 11#8 z2 o (sl_form (own_sl o_z2)) (sl_form t_o))) rfl <| Lw.valW (Xw.litA (k := 2) (sz := 5) (vs := [(0, .agg (ndN 11#8 z1 o ((ls.length - 1 : Nat) : Int) (swo n k)).cells.toArray), (1, .agg (ndN 11#8 z2 o (ls.length : Int) (swo n k)).cells.toArray)]) (cs := [(ndN 11#8 z1 o ((ls.length - 1 : Nat) : Int) (swo n k)).cells, (ndN 11#8 z2 o (ls.length : Int) (swo n k)).cells].flatten) st_22 it_45 rfl (by decide) (by decide) (by decide) (by exact fill2 _ _ rfl rfl) rfl) rfl ?_
  rintro p9 w ⟨o_p, -, hn, -⟩
  replace hX := hX.bs hn
  replace o_q := o_q.bs hn
  replace o_z1 := o_z1.bs hn
  replace o_z2 := o_z2.bs hn
  clear hn
  have zx := hX.size
  replace o_p : w.ownsRow _ nodeT 5 p9 2 ((ndN 11#8 z1 o ((ls.length - 1 : Nat) : Int) (swo n k)).cells ++ (ndN 11#8 z2 o (ls.length : Int) (swo n k)).cells) := o_p
  refine Lw.valW (Xw.append2 (base := wd.heap.size) st_22 it_45 rfl (by decide) rfl rfl o_q (own_sl o_p) (by rw [List.all_append, nd_ones (own_sl o_z1).one' t_o.one', nd_ones (own_sl o_z2).one' t_o.one']; rfl) (by omega) (by omega) zx) rfl ?_
  rintro m w ⟨o_m, hn, hg, -⟩
  replace hX := hX.trans hn
  clear hn
  have hG := gn_two (h.bs hX) o_m (own_slT (own_away o_z1 o_q (by decide) hg)) (t_o.bs hX) (own_slT (own_away o_z2 o_q (by decide) hg)) (t_o.bs hX)
  clear o_m o_z1 o_z2 o_q o_p hg zx
  replace hB := hB.bs hX
  replace h := h.bs hX
  replace hw := hw.bs hX
  replace ht := ht.bs hX
  replace h_v := h_v.bs hX
  replace hc := hc.bs hX
  replace s_cs := s_cs.bs hX
  replace s_cl := s_cl.bs hX
  replace b_z := b_z.bs hX
  replace b_c := b_c.bs hX
  clear hX t_o
  obtain ⟨vs', ev, lv⟩ := back_turn RN g30 z1 o z2 o (n := n) (k := k) (by rw [← pc]; exact hn0.symm) hkl
  replace ev : allG (ls ++ [ndN 11#8 z1 o ((ls.length - 1 : Nat) : Int) (swo n k), ndN 11#8 z2 o (ls.length : Int) (swo n k)]) (ws.map pv) (pv t) = some vs' := ev
  refine Lw.val (Ex.assign rfl) rfl <| Lw.nil ?_
  refine Pw.thenN (Cw.out ?_)
  refine Cw.seq <| Cw.region <| Lw.val (Ex.move rfl) rfl <| Lw.val (Ex.build (vs := [(0, m)]) (cs := [m]) rfl (bt_graph m (sl_form hG.sl))) rfl <| Lw.val (Ex.fieldAddr (q := 0) Tryz.underlying31 rfl (sz_25 _) rfl) rfl <| Lw.val (Ex.ldB (ag_25 _) rfl (by assumption) rfl) rfl ?_
  refine Lw.val (Ex.fieldAddr (q := 1) Tryz.underlying31 rfl (sz_29 _) rfl) rfl <| Lw.val (Ex.ldAt (ds := [t.x, t.y]) (ag_29 _) (sz_29 _) rfl rfl (by assumption) rfl) rfl ?_
  refine Lw.callF rfl rfl (run_c m _ u ws t _ hG hw ht) ?_
  rintro _ w ⟨hn, hr⟩
  rw [ev] at hr
  obtain ⟨d, rfl, hd, pd⟩ := hr
  replace hd := hd.at
  replace hB := hB.bs hn
  replace h := h.bs hn
  replace hw := hw.bs hn
  replace ht := ht.bs hn
  replace h_v := h_v.bs hn
  replace hc := hc.bs hn
  replace s_cs := s_cs.bs hn
  replace s_cl := s_cl.bs hn
  replace b_z := b_z.bs hn
  replace b_c := b_c.bs hn
  replace hG := hG.bs hn
  clear hn ev
  rw [lv, ← pc] at pd
  have pd1 : d.s = c.s := congrArg Prod.fst pd
  have pd2 : d.l = c.l := congrArg Prod.snd pd
  clear hG lv
  refine Lw.val (Ex.move rfl) rfl <| Lw.val (Ex.extract (i := 0) rfl rfl) rfl <| Lw.val (Ex.extract (i := 1) rfl rfl) rfl <| Lw.boxed (cs := [d.x, d.y]) it_29 rfl rfl rfl rfl (fun _ => rfl) (hd.one) ?_
  rintro A_d w eA_d b_d hn -
  replace hB := hB.bs hn
  replace h := h.bs hn
  replace hw := hw.bs hn
  replace ht := ht.bs hn
  replace h_v := h_v.bs hn
  replace hc := hc.bs hn
  replace s_cs := s_cs.bs hn
  replace s_cl := s_cl.bs hn
  replace b_z := b_z.bs hn
  replace b_c := b_c.bs hn
  replace hd := hd.bs hn
  clear hn
  refine Lw.val (Ex.assign rfl) rfl <| Lw.nil ?_
  refine Pw.thenN (Cw.out ?_)
  refine Cw.seq <| Cw.seq <| Cw.region <| Lw.val (Ex.move rfl) rfl <| Lw.val (Ex.neq rfl rfl) rfl <| Lw.val (Ex.move rfl) rfl <| Lw.know 100 (v' := .bool false) rfl (congrArg Value.bool (rfl)) <| Lw.take (dj := 100) rfl rfl <| Lw.val (Ex.ldA (ag_29 _) (sz_29 _) rfl rfl (by assumption)) rfl ?_
  refine Lw.take (dj := 100) rfl rfl <| Lw.val (Ex.ldA (ag_29 _) (sz_29 _) rfl rfl (by assumption)) rfl ?_
  refine Lw.take (dj := 100) rfl rfl <| Lw.callF rfl rfl (same_c c.x c.y d.x d.y c.s d.s c.l d.l _ hc.1 hc.2 hd.1 hd.2) ?_
  rintro _ w ⟨rfl, hn⟩
  replace hB := hB.bs hn
  replace h := h.bs hn
  replace hw := hw.bs hn
  replace ht := ht.bs hn
  replace h_v := h_v.bs hn
  replace hc := hc.bs hn
  replace s_cs := s_cs.bs hn
  replace s_cl := s_cl.bs hn
  replace b_z := b_z.bs hn
  replace b_c := b_c.bs hn
  replace hd := hd.bs hn
  replace b_d := b_d.bs hn
  clear hn
  refine Lw.take (dj := 100) rfl rfl <| Lw.val (Ex.not rfl) rfl <| Lw.val (Ex.pickF rfl rfl) rfl <| Lw.nil ?_
  refine Pw.thenN (Cw.out ?_)
  refine Cw.condB rfl false ((by rw [pd1, pd2]; simp)) <| Cw.skip ?_
  refine Pw.thenN (Cw.out ?_)
  refine Cw.seq <| Cw.seq <| Cw.region <| Lw.val (Ex.fieldAddr (q := 0) Tryz.underlying29 rfl (sz_27 _) rfl) rfl <| Lw.val (Ex.ldB (ag_27 _) rfl (by assumption) rfl) rfl ?_
  refine Lw.val (Ex.lenS st_27 rfl (by assumption)) rfl ?_
  refine Lw.val (Ex.gtr rfl rfl) rfl <| Lw.nil ?_
  refine Pw.thenN (Cw.out ?_)
  refine Cw.cond rfl ?_ ?_
  ·intro g64
   refine Cw.seq <| Cw.region <| Lw.val (Ex.assign rfl) rfl <| Lw.nil ?_
   refine Pw.thenN (Cw.out ?_)
   refine Cw.ret <| Pw.thenR <| Pw.ret1 rfl rfl ?_
   exact ⟨rfl, hB⟩
  intro g64
  have h64 : c.l.length ≤ 64 := by have : ¬ (64 : Int) < (c.l.length : Int) := of_decide_eq_false g64; omega
  clear hd pd pd1 pd2
  clear b_d
  refine Cw.skip ?_
  refine Pw.thenN (Cw.out ?_)
  refine Cw.seq <| Cw.region <| Lw.val (Ex.fieldAddr (q := 0) Tryz.underlying31 rfl (sz_24 _) rfl) rfl <| Lw.val (Ex.fieldAddr (q := 0) Tryz.underlying24 rfl (sz_22 _) rfl) rfl <| Lw.val (Ex.ldB (ag_22 _) rfl (by assumption) rfl) rfl ?_
  rename World => we
  refine Lw.valW (Xw.append2 (base := we.heap.size) st_22 it_45 rfl (by decide) rfl rfl (World.ownsRow_nil _ _ _ _) h.sl (gn_ones h) (by omega) (by omega) (Nat.le_refl _)) rfl ?_
  rintro q9 w ⟨o_q, -, hg, -⟩
  rw [List.nil_append, Nat.zero_add] at o_q
  have hX := grown_below hg (Nat.le_refl _) fun _ e => by cases e
  clear hg
  refine Lw.val (Ex.assign rfl) rfl <| Lw.nil ?_
  refine Pw.thenN (Cw.out ?_)
  refine Cw.seq <| Cw.region <| Lw.val (Ex.move rfl) rfl <| Lw.val (Ex.move rfl) rfl <| Lw.val ((Ex.subI rfl rfl (by omega)).as (congrArg (Value.int .i64) (show (ls.length : Int) - 1 = ((ls.length - 1 : Nat) : Int) by omega))) rfl <| Lw.valW (Xw.lit (vs := [(((ls.length - 1 : Nat) : Int) : Int)].map (Value.int .i64)) st_26 it_3 rfl rfl rfl rfl rfl) rfl ?_
  rintro y1 w ⟨o_y1, -, hn, -⟩
  replace hX := hX.bs hn
  replace o_q := o_q.bs hn
  clear hn
  have b_c3 := b_c.bs hX
  have s_cl3 := s_cl.bs hX
  refine Lw.val (Ex.fieldAddr (q := 0) Tryz.underlying29 rfl (sz_27 _) rfl) rfl <| Lw.val (Ex.ldB (ag_27 _) rfl (by assumption) rfl) rfl ?_
  refine Lw.val (Ex.lenS st_27 rfl (by assumption)) rfl ?_
  refine Lw.valW (Xw.lit (vs := [((c.l.length : Int) : Int)].map (Value.int .i64)) st_26 it_3 rfl rfl rfl rfl rfl) rfl ?_
  rintro y2 w ⟨o_y2, -, hn, -⟩
  replace hX := hX.bs hn
  replace o_q := o_q.bs hn
  replace o_y1 := o_y1.bs hn
  clear hn
  refine Lw.val (Ex.build (cs := (ndN 10#8 y1 y2 ((ls.length - 1 : Nat) : Int) [(c.l.length : Int)]).cells) rfl (bt_node3 10#8 y1 y2 (sl_form (own_sl o_y1)) (sl_form (own_sl o_y2)))) rfl <| Lw.val (Ex.move rfl) rfl <| Lw.valW (Xw.lit (vs := [((ls.length : Int) : Int)].map (Value.int .i64)) st_26 it_3 rfl rfl rfl rfl rfl) rfl ?_
  rintro y3 w ⟨o_y3, -, hn, -⟩
  replace hX := hX.bs hn
  replace o_q := o_q.bs hn
  replace o_y1 := o_y1.bs hn
  replace o_y2 := o_y2.bs hn
  clear hn
  have b_c4 := b_c.bs hX
  refine Lw.val (Ex.fieldAddr (q := 0) Tryz.underlying29 rfl (sz_26 _) rfl) rfl <| Lw.val (Ex.ldB (ag_26 _) rfl (by assumption) rfl) rfl ?_
  refine Lw.val (Ex.build (cs := (ndN 10#8 y3 c.x (ls.length : Int) c.s).cells) rfl (bt_node3 10#8 y3 c.x (sl_form (own_sl o_y3)) (sl_form s_cs))) rfl <| Lw.valW (Xw.litA (k := 2) (sz := 5) (vs := [(0, .agg (ndN 10#8 y1 y2 ((ls.length - 1 : Nat) : Int) [(c.l.length : Int)]).cells.toArray), (1, .agg (ndN 10#8 y3 c.x (ls.length : Int) c.s).cells.toArray)]) (cs := [(ndN 10#8 y1 y2 ((ls.length - 1 : Nat) : Int) [(c.l.length : Int)]).cells, (ndN 10#8 y3 c.x (ls.length : Int) c.s).cells].flatten) st_22 it_45 rfl (by decide) (by decide) (by decide) (by exact fill2 _ _ rfl rfl) rfl) rfl ?_
  rintro p9 w ⟨o_p, -, hn, -⟩
  replace hX := hX.bs hn
  replace o_q := o_q.bs hn
  replace o_y1 := o_y1.bs hn
  replace o_y2 := o_y2.bs hn
  replace o_y3 := o_y3.bs hn
  clear hn
  have zx := hX.size
  replace o_p : w.ownsRow _ nodeT 5 p9 2 ((ndN 10#8 y1 y2 ((ls.length - 1 : Nat) : Int) [(c.l.length : Int)]).cells ++ (ndN 10#8 y3 c.x (ls.length : Int) c.s).cells) := o_p
  refine Lw.valW (Xw.append2 (base := we.heap.size) st_22 it_45 rfl (by decide) rfl rfl o_q (own_sl o_p) (by rw [List.all_append, nd_ones (own_sl o_y1).one' (own_sl o_y2).one', nd_ones (own_sl o_y3).one' s_cs.one']; rfl) (by omega) (by omega) zx) rfl ?_
  rintro m w ⟨o_m, hn, hg, -⟩
  replace hX := hX.trans hn
  clear hn
  have hG := gn_two (h.bs hX) o_m (own_slT (own_away o_y1 o_q (by decide) hg)) (own_slT (own_away o_y2 o_q (by decide) hg)) (own_slT (own_away o_y3 o_q (by decide) hg)) (s_cs.bs hX)
  clear o_m o_y1 o_y2 o_y3 o_q o_p hg zx b_c3 b_c4 s_cl3
  clear s_cs s_cl h_v
  replace hB := hB.bs hX
  replace h := h.bs hX
  replace hw := hw.bs hX
  replace ht := ht.bs hX
  replace hc := hc.bs hX
  replace b_z := b_z.bs hX
  replace b_c := b_c.bs hX
  clear hX
  obtain ⟨vs', ev, lv⟩ := back_shape RN g30 y1 y2 y3 c.x (by rw [← pc]; exact h64)
  rw [← pc] at ev
  replace ev : allG (ls ++ [ndN 10#8 y1 y2 ((ls.length - 1 : Nat) : Int) [(c.l.length : Int)], ndN 10#8 y3 c.x (ls.length : Int) c.s]) (ws.map pv) (pv t) = some vs' := ev
  refine Lw.val (Ex.assign rfl) rfl <| Lw.nil ?_
  refine Pw.thenN (Cw.out ?_)
  refine Cw.seq <| Cw.region <| Lw.val (Ex.move rfl) rfl <| Lw.val (Ex.build (vs := [(0, m)]) (cs := [m]) rfl (bt_graph m (sl_form hG.sl))) rfl <| Lw.val (Ex.fieldAddr (q := 0) Tryz.underlying31 rfl (sz_25 _) rfl) rfl <| Lw.val (Ex.ldB (ag_25 _) rfl (by assumption) rfl) rfl ?_
  refine Lw.val (Ex.fieldAddr (q := 1) Tryz.underlying31 rfl (sz_29 _) rfl) rfl <| Lw.val (Ex.ldAt (ds := [t.x, t.y]) (ag_29 _) (sz_29 _) rfl rfl (by assumption) rfl) rfl ?_
  refine Lw.callF rfl rfl (run_c m _ u ws t _ hG hw ht) ?_
  rintro _ w ⟨hn, hr⟩
  rw [ev] at hr
  obtain ⟨d, rfl, hd, pd⟩ := hr
  replace hd := hd.at
  replace hB := hB.bs hn
  replace h := h.bs hn
  replace hw := hw.bs hn
  replace ht := ht.bs hn
  replace hc := hc.bs hn
  replace b_z := b_z.bs hn
  replace b_c := b_c.bs hn
  replace hG := hG.bs hn
  clear hn ev
  rw [lv, ← pc] at pd
  have pd1 : d.s = c.s := congrArg Prod.fst pd
  have pd2 : d.l = c.l := congrArg Prod.snd pd
  clear hG lv
  refine Lw.val (Ex.move rfl) rfl <| Lw.val (Ex.extract (i := 0) rfl rfl) rfl <| Lw.val (Ex.extract (i := 1) rfl rfl) rfl <| Lw.boxed (cs := [d.x, d.y]) it_29 rfl rfl rfl rfl (fun _ => rfl) (hd.one) ?_
  rintro A_d w eA_d b_d hn -
  replace hB := hB.bs hn
  replace h := h.bs hn
  replace hw := hw.bs hn
  replace ht := ht.bs hn
  replace hc := hc.bs hn
  replace b_z := b_z.bs hn
  replace b_c := b_c.bs hn
  replace hd := hd.bs hn
  clear hn
  refine Lw.val (Ex.assign rfl) rfl <| Lw.nil ?_
  refine Pw.thenN (Cw.out ?_)
  refine Cw.seq <| Cw.region <| Lw.val (Ex.move rfl) rfl <| Lw.val (Ex.eql rfl rfl) rfl <| Lw.val (Ex.move rfl) rfl <| Lw.know 142 (v' := .bool true) rfl (congrArg Value.bool (rfl)) <| Lw.take (dj := 142) rfl rfl <| Lw.val (Ex.ldA (ag_29 _) (sz_29 _) rfl rfl (by assumption)) rfl ?_
  refine Lw.take (dj := 142) rfl rfl <| Lw.val (Ex.ldA (ag_29 _) (sz_29 _) rfl rfl (by assumption)) rfl ?_
  refine Lw.take (dj := 142) rfl rfl <| Lw.callF rfl rfl (same_c c.x c.y d.x d.y c.s d.s c.l d.l _ hc.1 hc.2 hd.1 hd.2) ?_
  rintro _ w ⟨rfl, hn⟩
  replace hB := hB.bs hn
  replace h := h.bs hn
  replace hw := hw.bs hn
  replace ht := ht.bs hn
  replace hc := hc.bs hn
  replace b_z := b_z.bs hn
  replace b_c := b_c.bs hn
  replace hd := hd.bs hn
  replace b_d := b_d.bs hn
  clear hn
  refine Lw.val (Ex.pickT rfl rfl) rfl <| Lw.val (Ex.assign rfl) rfl <| Lw.nil ?_
  refine Pw.thenN (Cw.out ?_)
  refine Cw.ret <| Pw.ret1 rfl rfl ?_
  exact ⟨by rw [pd1, pd2]; simp, hB⟩
set_option maxRecDepth 100000 in
set_option maxHeartbeats 2000000 in
theorem meansBack_lifted (os : Os) (started : os.Started) (H : Type) (enc : TypeId × Value → H) :
  ReturnsInHanded {} Tryz.checked os 7 .any (Rows.meansBackSpec.pre6 enc Tryz.prog Tryz.f7 Rows.meansBackRow.domain false) (Rows.meansBackSpec.post enc Tryz.prog Tryz.f7 false true false false) := by
 refine returnsInHanded_of_change_sized (C := Tryz.checked) own started (by kernel_rfl) Tryz.func7
  (ChangeSpec.witness6 (enc := enc) (C := Tryz.checked) false ⟨#[], #[.agg #[.slice none 0 0, .slice none 0 0, .slice none 0 0, .slice none 0 0], .int .u8 0], []⟩ 8 (by kernel_rfl) (by kernel_rfl) (by kernel_rfl) (by kernel_rfl)) ?_
 intro W base args ds gs before hval0 hW hcnd hsz0 _
 have hval : ∀ (j : Nat) t v, Tryz.f7.params[j]? = some t → args[j]? = some v → Value.okWide Tryz.prog W .any base t v := hval0
 have hW' := hW
 obtain ⟨p, q, hA0, hV, rfl, hfz, hnd⟩ := hW
 have hA : DataW.TrodAll enc Tryz.prog W 0 (fun _ => true) true Tryz.f7.params.toList args.toList ds p := hA0
 have hsz : (DataW.weightsEach Tryz.prog (Tryz.f7.params.toList ++ Rows.meansBackSpec.plain.varTypes Tryz.prog) (ds ++ gs)).all (· ≤ reachBytes) = true := hsz0
 rw [Tryz.params7] at hA hval hsz
 obtain ⟨v0, vs0, d0, ds0, p0, q0, hargs, rfl, rfl, h0, r0⟩ := trodAll_cons hA
 obtain ⟨v1, vs1, d1, ds1, p1, q1, rfl, rfl, rfl, h1, r1⟩ := trodAll_cons r0
 obtain ⟨rfl, rfl, rfl⟩ := trodAll_nil r1
 obtain rfl : args = #[v0, v1] := by cases args; simp_all
 obtain ⟨rfl, rfl⟩ := trodVars_none hV
 have k0 := h0
 have lt0 : ∀ x ∈ p0, x.block < W.heap.size := by obtain ⟨m, hm⟩ := k0; exact DataW.trod_lt m _ _ _ hm
 have i0 := in_of (j := 0) (t := 31) hsz rfl rfl h0
 have o0 := hval 0 31 v0 rfl rfl
 have k1 := h1
 have lt1 : ∀ x ∈ p1, x.block < W.heap.size := by obtain ⟨m, hm⟩ := k1; exact DataW.trod_lt m _ _ _ hm
 have i1 := in_of (j := 1) (t := 5) hsz rfl rfl h1
 have o1 := hval 1 5 v1 rfl rfl
 clear hA0 hval0 hsz0 hsz
 obtain ⟨v, u, ls, ws, t, rfl, h, hl, hf, hw, lw, fw, ht, ft⟩ := arg_given o0 i0
 obtain ⟨da, rfl⟩ := arg_num (BitVec.ofInt 8) b8 (fun _ h => wf_u8 h) un_5 o1 i1
 refine (law_calls (meansBack_w v u ls ws t da W h hl hf hw lw fw ht ft)).mono fun e W' ⟨he, bel⟩ => ?_
 subst he
 exact ⟨_, rfl, _, _, _, [], _, [], hW', trodAll_mk1 (shut_bool un_4 _), (trodAll_cons_mk (Below.trod laidOut (by kernel_rfl) (of_decide_eq_true (by kernel_rfl)) k0 bel lt0) (trodAll_cons_mk (Below.trod laidOut (by kernel_rfl) (of_decide_eq_true (by kernel_rfl)) k1 bel lt1) trodAll_mk0)), rfl, bel.frame _, fun h => by cases h⟩

/-- The statement. -/
theorem meansBack_proved : Rows.MeansBackSaid :=
 OpenClaim.holds_of_wide 7 Tryz.f7 rfl rfl rfl rfl rfl rfl rfl ⟨rfl, rfl, rfl, rfl, rfl⟩ rfl rfl rfl rfl rfl (by kernel_rfl) Tryz.func7 (by kernel_rfl)
  (of_decide_eq_true (by kernel_rfl)) (by unfold Func.isWrapper; first | (rw [if_pos (by decide +kernel)]; kernel_rfl) | (rw [if_neg (by decide +kernel)]; exact ⟨rfl, rfl⟩))
  (fun os started H enc _ => meansBack_lifted os started H enc)
#print axioms meansBack_proved
end Go.Proofs.YtmipoeanpnnjoaaGreat
