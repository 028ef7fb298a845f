/- Texts of this proof, one behind the other: MeansLive, MeansArg, MeansTwin. -/
import Derived.Test.YtmipoeanpnnjoaaGreatPk7
import Derived.Test.YtmipoeanpnnjoaaGreatPk3
import Derived.Test.YtmipoeanpnnjoaaGreatPk2
import Derived.Test.YtmipoeanpnnjoaaGreatRows

/-! Contracts: the chapter's graph; some answers. -/
namespace Go.Proofs.YtmipoeanpnnjoaaGreat
open Go Go.Dd Go.RowKit
set_option maxRecDepth 100000

def kx (k : Nat) (x y : Value) (i s : List Int) : N5 := ⟨BitVec.ofNat 8 k, x, y, i, s, 0, 0⟩
def knownL (a b c d : Value) : List N5 := [kx 1 (.slice none 0 0) a [] [2], kx 2 (.slice none 0 0) b [] [2], kx 4 c (.slice none 0 0) [0, 1] [], kx 13 d (.slice none 0 0) [2] []]
theorem known_ok (a b c d : Value) : allG (knownL a b c d) [([2], [3#32, 4#32])] ([2], [1#32, 2#32]) = some [([2], [1#32, 2#32]), ([2], [3#32, 4#32]), ([2], [3#32, 8#32]), ([1], [11#32])] := by kernel_rfl
theorem known_none (a b c d : Value) : allG (knownL a b c d) [] ([2], [1#32, 2#32]) = none := by kernel_rfl
theorem known_one (a b c d : Value) : allG (knownL a b c d) [([2], [3#32, 4#32])] ([1], [1#32]) = none := by kernel_rfl
/-! ### What stays, of what a region's operations come to -/
inductive Ph where
  | val (v : Value)
  | nums (l : List (BitVec 32))
  | ten (l : List (BitVec 32))
  | tens (ps : List PV)
def Ph.ok : Ph → Value → World → Prop
  | .val u, v, _ => v = u
  | .nums l, v, w => SlT i32 w v l
  | .ten l, v, w => ∃ x u, v = .agg #[x, u] ∧ SlT (Value.int .i64) w x [(l.length : Int)] ∧ SlT i32 w u l
  | .tens ps, v, w => ∃ ts, Tens w v ts ∧ ts.map pv = ps
theorem Ph.stab {p : Ph} {v : Value} {w w' : World} (h : p.ok v w) (g : Below w.heap.size w w') : p.ok v w' := by
  cases p with
  | val u => exact h
  | nums l => exact Sl.bs h g
  | ten l => obtain ⟨x, u, e, h1, h2⟩ := h; exact ⟨x, u, e, h1.bs g, h2.bs g⟩
  | tens ps => obtain ⟨ts, h1, h2⟩ := h; exact ⟨ts, h1.bs g, h2⟩
def vt : Ph := .val (.bool true)
def vi (n : Int) : Ph := .val (.int .i64 n)
def liveT (a q : Value) : List Ph := [vi 0, vt, vt, .val a, .nums [11#32], .ten [11#32], vt, vt, vt, vi 0, vt, vt, vt, .val q, .nums [1#32, 2#32], .ten [1#32, 2#32], .nums [3#32, 4#32], .ten [3#32, 4#32], .nums [3#32, 8#32], .ten [3#32, 8#32], .nums [11#32], .ten [11#32], .tens [([2], [1#32, 2#32]), ([2], [3#32, 4#32]), ([2], [3#32, 8#32]), ([1], [11#32])], vt, vt, vt, vi 1, vt, vt, vt, vi 1, vt, vt, vt, vi 10, vt, vt, vt, vi 1, vt, vt, vt]
def PhiT (T : List Ph) (i : Nat) (v : Value) (w : World) : Prop := (T.getD i vt).ok v w
theorem dep {T : List Ph} {s : Nat → Value} {w : World} {o : Oper} (hd : ∀ j ∈ depsOf o, PhiT T j (s j) w) (j : Nat) (h : (depsOf o).contains j = true) : PhiT T j (s j) w := hd j (by simpa using h)
theorem live_in (x y : Value) : doE ⟨1#8, x, y, [], [2], 0, 0⟩ [] = 1 := by kernel_rfl
theorem mof_c (v : Value) (l : List (BitVec 32)) (w : World) (hv : SlT i32 w v l) : Fnc Tryz.prog 25 [v] w (fun r w' => Below w.heap.size w w' ∧ ∃ s, r = .agg [s, v].toArray ∧ SlT (Value.int .i64) w' s [(l.length : Int)]) := by
  have hB := Below.refl w.heap.size w
  refine Fnc.enter (n := 8) Tryz.func25 (by kernel_rfl) rfl rfl rfl ?_
  refine Cw.seq ?_
  refine Cw.region ?_
  refine Lw.newA it_29 rfl ?_
  rintro A_r w eA_r b_r hn -
  replace hB := hB.bs hn
  replace hv := hv.bs hn
  clear hn
  refine Lw.nil ?_
  refine Pw.thenN (Cw.out ?_)
  refine Cw.seq ?_
  refine Cw.region ?_
  refine Lw.val (Ex.move rfl) rfl ?_
  refine Lw.val (Ex.lenS st_27 rfl (by assumption)) rfl ?_
  have z0 := below_size hB
  have yr := blk_lt b_r
  refine Lw.valW (Xw.lit (vs := [(l.length : Int)].map (Value.int .i64)) st_26 it_3 rfl rfl rfl rfl rfl) rfl ?_
  rintro s w1 ⟨o_s, -, hn, -⟩
  replace hB := hB.bs hn
  replace hv := hv.bs hn
  replace b_r := b_r.bs hn
  clear hn
  have sb := own_block o_s
  have hone : [s, v].all (·.oneCell') = true := by rw [List.all_cons, List.all_cons, (own_sl o_s).one', hv.one']; rfl
  refine Lw.val (Ex.move rfl) rfl ?_
  refine Lw.val (Ex.build (vs := [(0, s), (1, v)]) (cs := [s, v]) rfl (bt_ten _ _ (own_sl o_s).one hv.one)) rfl ?_
  refine Lw.unit (Xu.stA (cs := [s, v]) (k := 2) (by kernel_rfl) rfl rfl rfl hone b_r rfl) ?_
  rintro w2 ⟨b_r2, hg, hz⟩
  have hB2 := hB.grown hg (below_size hB) (by rintro _ ⟨⟩; omega)
  have o_s2 := own_heap o_s (fun k e => hg.block k (sb k e).2 (by intro e2; cases e2; have := sb _ e; omega))
  refine Lw.nil ?_
  refine Pw.thenN (Cw.out ?_)
  refine Cw.ret ?_
  refine Pw.retC rfl rfl (by assumption) (Tryz.underlying29) rfl rfl rfl ?_
  exact ⟨hB2, s, rfl, own_slT o_s2⟩
theorem sl_form {w : World} {sz n : Nat} {v : Value} {xs : List Value} (h : Sl w sz v n xs) : ∃ ao n c, v = .slice ao n c := by
  obtain ⟨_, ao, cap, rfl, _⟩ := h; exact ⟨_, _, _, rfl⟩
theorem bt_nodeS (k : BitVec 8) (s : Value) (hs : ∃ ao n c, s = .slice ao n c) : Tryz.prog.built nodeT [(0, b8 k), (2, s)] = some [b8 k, .slice none 0 0, s, .int .i64 0, .int .i64 0].toArray := by
  obtain ⟨ao, n, c, rfl⟩ := hs
  have h1 : Tryz.prog.info? nodeT = some Tryz.t45 := by kernel_rfl
  have h2 : Tryz.prog.info? 3 = some Tryz.t3 := by kernel_rfl
  have h3 : Tryz.prog.info? 43 = some Tryz.t43 := by kernel_rfl
  have h4 : Tryz.prog.info? 26 = some Tryz.t26 := by kernel_rfl
  simp [Program.built, h1, Tryz.underlying45, h2, h3, h4, Instr.fill, Value.cells]
  rfl
theorem bt_nodeI (k : BitVec 8) (s : Value) (hs : ∃ ao n c, s = .slice ao n c) : Tryz.prog.built nodeT [(0, b8 k), (1, s)] = some [b8 k, s, .slice none 0 0, .int .i64 0, .int .i64 0].toArray := by
  obtain ⟨ao, n, c, rfl⟩ := hs
  have h1 : Tryz.prog.info? nodeT = some Tryz.t45 := by kernel_rfl
  have h2 : Tryz.prog.info? 3 = some Tryz.t3 := by kernel_rfl
  have h3 : Tryz.prog.info? 43 = some Tryz.t43 := by kernel_rfl
  have h4 : Tryz.prog.info? 26 = some Tryz.t26 := by kernel_rfl
  simp [Program.built, h1, Tryz.underlying45, h2, h3, h4, Instr.fill, Value.cells]
  rfl
theorem bt_graph (s : Value) (hs : ∃ ao n c, s = .slice ao n c) : Tryz.prog.built 24 [(0, s)] = some [s].toArray := by
  obtain ⟨ao, n, c, rfl⟩ := hs
  have h1 : Tryz.prog.info? 24 = some Tryz.t24 := by kernel_rfl
  have h4 : Tryz.prog.info? 22 = some Tryz.t22 := by kernel_rfl
  simp [Program.built, h1, Tryz.underlying24, h4, Instr.fill, Value.cells]
  rfl
theorem fill4 (a b c d : List Value) (ha : a.length = 5) (hb : b.length = 5) (hc : c.length = 5) (hd : d.length = 5) :
    Instr.fill (fun i => some (i * 5, 5)) ((Array.range (4 * 5)).map (([b8 0#8, .slice none 0 0, .slice none 0 0, .int .i64 0, .int .i64 0] : List Value).toArray[· % ([b8 0#8, .slice none 0 0, .slice none 0 0, .int .i64 0, .int .i64 0] : List Value).toArray.size]!)) [(0, .agg a.toArray), (1, .agg b.toArray), (2, .agg c.toArray), (3, .agg d.toArray)] = some ([a, b, c, d].flatten).toArray := by
  have e0 : (Array.range (4 * 5)).map (([b8 0#8, .slice none 0 0, .slice none 0 0, .int .i64 0, .int .i64 0] : List Value).toArray[· % ([b8 0#8, .slice none 0 0, .slice none 0 0, .int .i64 0, .int .i64 0] : List Value).toArray.size]!) = (List.replicate 4 [b8 0#8, .slice none 0 0, .slice none 0 0, .int .i64 0, .int .i64 0]).flatten.toArray := by kernel_rfl
  rw [e0]
  have r0 : ∀ r ∈ List.replicate 4 ([b8 0#8, .slice none 0 0, .slice none 0 0, .int .i64 0, .int .i64 0] : List Value), r.length = 5 := fun r hr => by rw [(List.mem_replicate.1 hr).2]; rfl
  rw [fill_row r0 (by simp) ha]
  have r1 := set5 (i := 0) (ds := a) r0 ha
  rw [fill_row r1 (by simp) hb]
  have r2 := set5 (i := 1) (ds := b) r1 hb
  rw [fill_row r2 (by simp) hc]
  have r3 := set5 (i := 2) (ds := c) r2 hc
  rw [fill_row r3 (by simp) hd]
  rfl
theorem known_c (w : World) : Fnc Tryz.prog 26 [] w (fun r w' => Below w.heap.size w w' ∧ ∃ v a b c d, r = .agg [v].toArray ∧ GN w' v (knownL a b c d)) := by
  have hB := Below.refl w.heap.size w
  refine Fnc.enter (n := 11) Tryz.func26 (by kernel_rfl) rfl rfl rfl ?_
  refine Cw.seq ?_
  refine Cw.region ?_
  refine Lw.newA it_24 rfl ?_
  rintro A_r w eA_r b_r hn -
  replace hB := hB.bs hn
  clear hn
  refine Lw.nil ?_
  refine Pw.thenN (Cw.out ?_)
  refine Cw.seq ?_
  refine Cw.region ?_
  have yr := blk_lt b_r
  have z0 := below_size hB
  refine Lw.valW (Xw.lit (vs := ([2] : List Int).map (Value.int .i64)) st_26 it_3 rfl rfl rfl rfl rfl) rfl ?_
  rintro a w ⟨o_a, -, hn, -⟩
  replace hB := hB.bs hn
  replace b_r := b_r.bs hn
  clear hn
  refine Lw.val (Ex.build (cs := [b8 1#8, .slice none 0 0, a, .int .i64 0, .int .i64 0]) rfl (bt_nodeS 1#8 a (sl_form (own_sl o_a)))) rfl ?_
  refine Lw.valW (Xw.lit (vs := ([2] : List Int).map (Value.int .i64)) st_26 it_3 rfl rfl rfl rfl rfl) rfl ?_
  rintro b w ⟨o_b, -, hn, -⟩
  replace hB := hB.bs hn
  replace b_r := b_r.bs hn
  replace o_a := o_a.bs hn
  clear hn
  refine Lw.val (Ex.build (cs := [b8 2#8, .slice none 0 0, b, .int .i64 0, .int .i64 0]) rfl (bt_nodeS 2#8 b (sl_form (own_sl o_b)))) rfl ?_
  refine Lw.valW (Xw.lit (vs := ([0, 1] : List Int).map (Value.int .i64)) st_26 it_3 rfl rfl rfl rfl rfl) rfl ?_
  rintro c w ⟨o_c, -, hn, -⟩
  replace hB := hB.bs hn
  replace b_r := b_r.bs hn
  replace o_a := o_a.bs hn
  replace o_b := o_b.bs hn
  clear hn
  refine Lw.val (Ex.build (cs := [b8 4#8, c, .slice none 0 0, .int .i64 0, .int .i64 0]) rfl (bt_nodeI 4#8 c (sl_form (own_sl o_c)))) rfl ?_
  refine Lw.valW (Xw.lit (vs := ([2] : List Int).map (Value.int .i64)) st_26 it_3 rfl rfl rfl rfl rfl) rfl ?_
  rintro d w ⟨o_d, -, hn, -⟩
  replace hB := hB.bs hn
  replace b_r := b_r.bs hn
  replace o_a := o_a.bs hn
  replace o_b := o_b.bs hn
  replace o_c := o_c.bs hn
  clear hn
  obtain ⟨ls, hls⟩ : ∃ ls, ls = knownL a b c d := ⟨_, rfl⟩
  have hcs : flw N5.cells ls = [[b8 1#8, .slice none 0 0, a, .int .i64 0, .int .i64 0], [b8 2#8, .slice none 0 0, b, .int .i64 0, .int .i64 0], [b8 4#8, c, .slice none 0 0, .int .i64 0, .int .i64 0], [b8 13#8, d, .slice none 0 0, .int .i64 0, .int .i64 0]].flatten := by rw [hls]; rfl
  refine Lw.val (Ex.build (cs := [b8 13#8, d, .slice none 0 0, .int .i64 0, .int .i64 0]) rfl (bt_nodeI 13#8 d (sl_form (own_sl o_d)))) rfl ?_
  refine Lw.valW (Xw.litA (k := 4) (sz := 5) (vs := [(0, .agg [b8 1#8, .slice none 0 0, a, .int .i64 0, .int .i64 0].toArray), (1, .agg [b8 2#8, .slice none 0 0, b, .int .i64 0, .int .i64 0].toArray), (2, .agg [b8 4#8, c, .slice none 0 0, .int .i64 0, .int .i64 0].toArray), (3, .agg [b8 13#8, d, .slice none 0 0, .int .i64 0, .int .i64 0].toArray)]) (cs := flw N5.cells ls) st_22 it_45 rfl (by decide) (by decide) (by decide) (by rw [hcs]; exact fill4 _ _ _ _ rfl rfl rfl rfl) (by rw [hls]; rfl)) rfl ?_
  rintro v w1 ⟨o_v, -, hn, -⟩
  replace hB := hB.bs hn
  replace b_r := b_r.bs hn
  replace o_a := o_a.bs hn
  replace o_b := o_b.bs hn
  replace o_c := o_c.bs hn
  replace o_d := o_d.bs hn
  clear hn
  have v1 : [v].all (·.oneCell') = true := by rw [List.all_cons, (own_sl o_v).one']; rfl
  have b_r1 := b_r
  refine Lw.val (Ex.build (vs := [(0, v)]) (cs := [v]) rfl (bt_graph v (sl_form (own_sl o_v)))) rfl ?_
  refine Lw.unit (Xu.stA (cs := [v]) (k := 1) (by kernel_rfl) rfl rfl rfl v1 b_r rfl) ?_
  rintro w2 ⟨b_r2, hg, hz⟩
  have o_v := own_apart o_v b_r1 (by decide) hg
  have o_a := own_apart o_a b_r1 (by decide) hg
  have o_b := own_apart o_b b_r1 (by decide) hg
  have o_c := own_apart o_c b_r1 (by decide) hg
  have o_d := own_apart o_d b_r1 (by decide) hg
  have hB2 := hB.grown hg (below_size hB) (by rintro _ ⟨⟩; omega)
  have hG : GN w2 v ls := ⟨by have := own_sl o_v; rw [hls] at this ⊢; exact this, fun x hx => by
    rw [hls] at hx
    simp only [knownL, List.mem_cons, List.not_mem_nil, or_false] at hx
    rcases hx with rfl | rfl | rfl | rfl
    · exact ⟨Sl.nil _ _, own_slT o_a⟩
    · exact ⟨Sl.nil _ _, own_slT o_b⟩
    · exact ⟨own_slT o_c, Sl.nil _ _⟩
    · exact ⟨own_slT o_d, Sl.nil _ _⟩⟩
  refine Lw.nil ?_
  refine Pw.thenN (Cw.out ?_)
  refine Cw.ret ?_
  refine Pw.retC rfl rfl (by assumption) (Tryz.underlying24) rfl rfl rfl ?_
  exact ⟨hB2, v, a, b, c, d, rfl, hls ▸ hG⟩
set_option maxHeartbeats 1600000 in
theorem alive_c (W : World) : Fnc Tryz.prog 8 [] W (fun r w' => r = .bool true ∧ Below W.heap.size W w') := by
  have hB := Below.refl W.heap.size W
  obtain ⟨w, hw⟩ : ∃ w, w = W := ⟨_, rfl⟩
  refine Fnc.enter (n := 108) Tryz.func8 (by kernel_rfl) rfl rfl rfl ?_
  refine Cw.seq ?_
  refine Cw.region ?_
  refine Lw.val (Ex.assign rfl) rfl ?_
  refine Lw.nil ?_
  refine Pw.thenN (Cw.out ?_)
  refine Cw.seq ?_
  refine Cw.region ?_
  refine Lw.callF rfl rfl (known_c W) ?_
  rintro _ w ⟨hn, v, ka, kb, kc, kd, rfl, hG⟩
  replace hB := hB.bs hn
  clear hn
  obtain ⟨ls, hls⟩ : ∃ ls, ls = knownL ka kb kc kd := ⟨_, rfl⟩
  rw [← hls] at hG
  refine Lw.boxed (cs := [v]) it_24 rfl rfl rfl rfl (fun _ => rfl) ((by rw [List.all_cons, hG.sl.one']; rfl)) ?_
  rintro A_g w eA_g b_g hn -
  replace hB := hB.bs hn
  replace hG := hG.bs hn
  clear hn
  refine Lw.nil ?_
  refine Pw.thenN (Cw.out ?_)
  refine Cw.seq ?_
  refine Cw.region ?_
  refine Lw.valW (Xw.lit (vs := ([3#32, 4#32] : List (BitVec 32)).map i32) st_27 it_21 rfl (by kernel_rfl) rfl rfl rfl) rfl ?_
  rintro u3 w ⟨ho, -, hn, -⟩
  have t_u3 := own_slT ho
  clear ho
  replace hB := hB.bs hn
  replace hG := hG.bs hn
  replace b_g := b_g.bs hn
  clear hn
  refine Lw.callF rfl rfl (mof_c u3 [3#32, 4#32] w t_u3) ?_
  rintro _ w ⟨hn, x3, rfl, s_x3⟩
  replace hB := hB.bs hn
  replace hG := hG.bs hn
  replace b_g := b_g.bs hn
  replace t_u3 := t_u3.bs hn
  clear hn
  refine Lw.valW (Xw.litA1 (cs := [x3, u3]) st_25 it_29 rfl rfl (by decide) (by decide)) rfl ?_
  rintro u w ⟨ho, -, hn, -⟩
  replace hB := hB.bs hn
  replace hG := hG.bs hn
  replace b_g := b_g.bs hn
  replace t_u3 := t_u3.bs hn
  replace s_x3 := s_x3.bs hn
  clear hn
  obtain ⟨c34, hc34⟩ : ∃ c : T4, c = ⟨x3, u3, [2], [3#32, 4#32]⟩ := ⟨_, rfl⟩
  have hW : Tens w u [c34] := ⟨by rw [hc34]; exact own_sl ho, fun q hq => by rw [List.mem_singleton.1 hq, hc34]; exact ⟨s_x3, t_u3⟩⟩
  have K1 : ∀ x y, allG ls ([c34].map pv) (pv ⟨x, y, [2], [1#32, 2#32]⟩) = some [([2], [1#32, 2#32]), ([2], [3#32, 4#32]), ([2], [3#32, 8#32]), ([1], [11#32])] := fun x y => by rw [hc34, hls]; exact known_ok _ _ _ _
  have K2 : ∀ x y, allG ls (([] : List T4).map pv) (pv ⟨x, y, [2], [1#32, 2#32]⟩) = none := fun x y => by rw [hls]; exact known_none _ _ _ _
  have K3 : ∀ x y, allG ls ([c34].map pv) (pv ⟨x, y, [1], [1#32]⟩) = none := fun x y => by rw [hc34, hls]; exact known_one _ _ _ _
  obtain ⟨w0, hw0⟩ : ∃ w0, w0 = w := ⟨_, rfl⟩
  rw [← hw0] at hB hG b_g hW
  have z0 := below_size hB
  refine Lw.val (Ex.assign rfl) rfl ?_
  refine Lw.nil ?_
  refine Pw.thenN (Cw.out ?_)
  refine Cw.seq ?_
  rw [← hw0]
  refine Cw.midS (St := (Nat × T4)) (fun s => [(1, .pointer (some ⟨A_g, 0, none⟩)), (2, u), (3, .pointer (some ⟨s.1, 0, none⟩)), (4, .int .i64 0)]) (fun s w' => Below w0.heap.size w0 w' ∧ Blk w' s.1 tenT [s.2.x, s.2.y] ∧ MadeK w0 w' s.2.x s.2.y s.2.s s.2.l ∧ pv s.2 = ([1], [11#32])) ?_ ?_
  · refine Cw.any mixed (fun w hC _ => ?_)
    refine Aw.cls (fun w' => Below w0.heap.size w0 w') (fun hC => ?_) (hC)
    refine AwC.take (i := 0) NoP.midS rfl (by kernel_rfl) (by kernel_rfl) (by kernel_rfl) (fun w1 hc => Ex.ldA (k := 1) (ag_24 _) (sz_24 _) rfl rfl (b_g.bs hc)) rfl ?_
    refine AwC.take (i := 1) NoP.midS rfl (by kernel_rfl) (by kernel_rfl) (by kernel_rfl) (fun w1 hc => Ex.move rfl) rfl ?_
    refine AwC.two (by assumption) (i := 2) (j := 8) (by kernel_rfl) rfl rfl ?_ ?_
    refine Lw.valW (Xw.lit (vs := ([1#32, 2#32] : List (BitVec 32)).map i32) st_27 it_21 rfl (by kernel_rfl) rfl rfl rfl) rfl ?_
    rintro u1 w ⟨ho, -, hn, -⟩
    have t_u := own_slT ho
    clear ho
    replace hC := hC.bs hn
    clear hn
    refine AwC.back ?_
    refine AwC.two (by assumption) (i := 3) (j := 8) (by kernel_rfl) rfl rfl ?_ ?_
    refine Lw.callF rfl rfl (mof_c u1 [1#32, 2#32] w t_u) ?_
    rintro _ w ⟨hn, x1, rfl, s_x⟩
    replace hC := hC.bs hn
    replace t_u := t_u.bs hn
    clear hn
    have h_x : (T4.mk x1 u1 [2] [1#32, 2#32]).at w := ⟨s_x, t_u⟩
    refine AwC.back ?_
    refine AwC.two (by assumption) (i := 4) (j := 8) (by kernel_rfl) rfl rfl ?_ ?_
    have zc := hC.size
    refine Lw.callF rfl rfl (run_c v ls u [c34] (T4.mk x1 u1 [2] [1#32, 2#32]) w (hG.bs hC) (hW.bs hC) h_x) ?_
    rintro _ w ⟨hn, hr⟩
    rw [K1] at hr
    obtain ⟨a, rfl, h_a, pa⟩ := hr
    replace h_a := h_a.mono (W := w0) zc
    replace hC := hC.bs hn
    replace t_u := t_u.bs hn
    replace s_x := s_x.bs hn
    replace h_x := h_x.bs hn
    clear hn zc
    refine AwC.back ?_
    refine AwC.take (i := 5) NoP.midS rfl (by kernel_rfl) (by kernel_rfl) (by kernel_rfl) (fun w1 hc => Ex.move rfl) rfl ?_
    refine AwC.take (i := 6) NoP.midS rfl (by kernel_rfl) (by kernel_rfl) (by kernel_rfl) (fun w1 hc => Ex.extract (i := 0) rfl rfl) rfl ?_
    refine AwC.take (i := 7) NoP.midS rfl (by kernel_rfl) (by kernel_rfl) (by kernel_rfl) (fun w1 hc => Ex.extract (i := 1) rfl rfl) rfl ?_
    refine AwC.only (by assumption) (i := 8) (by kernel_rfl) rfl ?_
    have zc := hC.size
    refine Lw.newA it_29 rfl ?_
    rintro A_t w eA_t b_t hn -
    replace hC := hC.bs hn
    replace t_u := t_u.bs hn
    replace s_x := s_x.bs hn
    replace h_x := h_x.bs hn
    replace h_a := h_a.bs hn
    clear hn
    refine AwC.back ?_
    refine AwC.only (by assumption) (i := 9) (by kernel_rfl) rfl ?_
    have yt : w0.heap.size ≤ A_t := by omega
    clear zc
    have c1 : [a.x, a.y].all (·.oneCell') = true := by rw [List.all_cons, List.all_cons, h_a.row.slT.one', h_a.col.slT.one']; rfl
    refine Lw.unit (Xu.stA (cs := [a.x, a.y]) (k := 2) (by kernel_rfl) rfl rfl rfl c1 b_t rfl) ?_
    rintro w' ⟨b_t', hg, hz⟩
    have hC' := hC.grown hg hC.size (by rintro _ e; have := Option.some.inj e; omega)
    have h_a' := h_a.ty hg (fun b e => by cases e; exact ⟨_, b_t⟩) (by decide) (by decide)
    refine AwC.back ?_
    refine AwC.take (i := 10) NoP.midS rfl (by kernel_rfl) (by kernel_rfl) (by kernel_rfl) (fun w1 hc => Ex.assign rfl) rfl ?_
    refine AwC.done (by assumption) (by kernel_rfl) ?_
    exact Pw.midS ((A_t, a)) ⟨rfl, rfl, rfl, rfl, trivial⟩ (⟨hC', b_t', h_a', pa⟩)
    have zc := hC.size
    refine Lw.newA it_29 rfl ?_
    rintro A_t w eA_t b_t hn -
    replace hC := hC.bs hn
    replace t_u := t_u.bs hn
    replace s_x := s_x.bs hn
    replace h_x := h_x.bs hn
    clear hn
    refine AwC.back ?_
    refine AwC.only (by assumption) (i := 4) (by kernel_rfl) rfl ?_
    have yt : w0.heap.size ≤ A_t := by omega
    clear zc
    have zc := hC.size
    refine Lw.callF rfl rfl (run_c v ls u [c34] (T4.mk x1 u1 [2] [1#32, 2#32]) w (hG.bs hC) (hW.bs hC) h_x) ?_
    rintro _ w ⟨hn, hr⟩
    rw [K1] at hr
    obtain ⟨a, rfl, h_a, pa⟩ := hr
    replace h_a := h_a.mono (W := w0) zc
    replace hC := hC.bs hn
    replace t_u := t_u.bs hn
    replace s_x := s_x.bs hn
    replace h_x := h_x.bs hn
    replace b_t := b_t.bs hn
    clear hn zc
    refine AwC.back ?_
    refine AwC.take (i := 5) NoP.midS rfl (by kernel_rfl) (by kernel_rfl) (by kernel_rfl) (fun w1 hc => Ex.move rfl) rfl ?_
    refine AwC.take (i := 6) NoP.midS rfl (by kernel_rfl) (by kernel_rfl) (by kernel_rfl) (fun w1 hc => Ex.extract (i := 0) rfl rfl) rfl ?_
    refine AwC.take (i := 7) NoP.midS rfl (by kernel_rfl) (by kernel_rfl) (by kernel_rfl) (fun w1 hc => Ex.extract (i := 1) rfl rfl) rfl ?_
    refine AwC.only (by assumption) (i := 9) (by kernel_rfl) rfl ?_
    have c1 : [a.x, a.y].all (·.oneCell') = true := by rw [List.all_cons, List.all_cons, h_a.row.slT.one', h_a.col.slT.one']; rfl
    refine Lw.unit (Xu.stA (cs := [a.x, a.y]) (k := 2) (by kernel_rfl) rfl rfl rfl c1 b_t rfl) ?_
    rintro w' ⟨b_t', hg, hz⟩
    have hC' := hC.grown hg hC.size (by rintro _ e; have := Option.some.inj e; omega)
    have h_a' := h_a.ty hg (fun b e => by cases e; exact ⟨_, b_t⟩) (by decide) (by decide)
    refine AwC.back ?_
    refine AwC.take (i := 10) NoP.midS rfl (by kernel_rfl) (by kernel_rfl) (by kernel_rfl) (fun w1 hc => Ex.assign rfl) rfl ?_
    refine AwC.done (by assumption) (by kernel_rfl) ?_
    exact Pw.midS ((A_t, a)) ⟨rfl, rfl, rfl, rfl, trivial⟩ (⟨hC', b_t', h_a', pa⟩)
    have zc := hC.size
    refine Lw.newA it_29 rfl ?_
    rintro A_t w eA_t b_t hn -
    replace hC := hC.bs hn
    replace t_u := t_u.bs hn
    clear hn
    refine AwC.back ?_
    refine AwC.only (by assumption) (i := 3) (by kernel_rfl) rfl ?_
    have yt : w0.heap.size ≤ A_t := by omega
    clear zc
    refine Lw.callF rfl rfl (mof_c u1 [1#32, 2#32] w t_u) ?_
    rintro _ w ⟨hn, x1, rfl, s_x⟩
    replace hC := hC.bs hn
    replace t_u := t_u.bs hn
    replace b_t := b_t.bs hn
    clear hn
    have h_x : (T4.mk x1 u1 [2] [1#32, 2#32]).at w := ⟨s_x, t_u⟩
    refine AwC.back ?_
    refine AwC.only (by assumption) (i := 4) (by kernel_rfl) rfl ?_
    have zc := hC.size
    refine Lw.callF rfl rfl (run_c v ls u [c34] (T4.mk x1 u1 [2] [1#32, 2#32]) w (hG.bs hC) (hW.bs hC) h_x) ?_
    rintro _ w ⟨hn, hr⟩
    rw [K1] at hr
    obtain ⟨a, rfl, h_a, pa⟩ := hr
    replace h_a := h_a.mono (W := w0) zc
    replace hC := hC.bs hn
    replace t_u := t_u.bs hn
    replace b_t := b_t.bs hn
    replace s_x := s_x.bs hn
    replace h_x := h_x.bs hn
    clear hn zc
    refine AwC.back ?_
    refine AwC.take (i := 5) NoP.midS rfl (by kernel_rfl) (by kernel_rfl) (by kernel_rfl) (fun w1 hc => Ex.move rfl) rfl ?_
    refine AwC.take (i := 6) NoP.midS rfl (by kernel_rfl) (by kernel_rfl) (by kernel_rfl) (fun w1 hc => Ex.extract (i := 0) rfl rfl) rfl ?_
    refine AwC.take (i := 7) NoP.midS rfl (by kernel_rfl) (by kernel_rfl) (by kernel_rfl) (fun w1 hc => Ex.extract (i := 1) rfl rfl) rfl ?_
    refine AwC.only (by assumption) (i := 9) (by kernel_rfl) rfl ?_
    have c1 : [a.x, a.y].all (·.oneCell') = true := by rw [List.all_cons, List.all_cons, h_a.row.slT.one', h_a.col.slT.one']; rfl
    refine Lw.unit (Xu.stA (cs := [a.x, a.y]) (k := 2) (by kernel_rfl) rfl rfl rfl c1 b_t rfl) ?_
    rintro w' ⟨b_t', hg, hz⟩
    have hC' := hC.grown hg hC.size (by rintro _ e; have := Option.some.inj e; omega)
    have h_a' := h_a.ty hg (fun b e => by cases e; exact ⟨_, b_t⟩) (by decide) (by decide)
    refine AwC.back ?_
    refine AwC.take (i := 10) NoP.midS rfl (by kernel_rfl) (by kernel_rfl) (by kernel_rfl) (fun w1 hc => Ex.assign rfl) rfl ?_
    refine AwC.done (by assumption) (by kernel_rfl) ?_
    exact Pw.midS ((A_t, a)) ⟨rfl, rfl, rfl, rfl, trivial⟩ (⟨hC', b_t', h_a', pa⟩)
    have zc := hC.size
    refine Lw.newA it_29 rfl ?_
    rintro A_t w eA_t b_t hn -
    replace hC := hC.bs hn
    clear hn
    refine AwC.back ?_
    refine AwC.only (by assumption) (i := 2) (by kernel_rfl) rfl ?_
    have yt : w0.heap.size ≤ A_t := by omega
    clear zc
    refine Lw.valW (Xw.lit (vs := ([1#32, 2#32] : List (BitVec 32)).map i32) st_27 it_21 rfl (by kernel_rfl) rfl rfl rfl) rfl ?_
    rintro u1 w ⟨ho, -, hn, -⟩
    have t_u := own_slT ho
    clear ho
    replace hC := hC.bs hn
    replace b_t := b_t.bs hn
    clear hn
    refine AwC.back ?_
    refine AwC.only (by assumption) (i := 3) (by kernel_rfl) rfl ?_
    refine Lw.callF rfl rfl (mof_c u1 [1#32, 2#32] w t_u) ?_
    rintro _ w ⟨hn, x1, rfl, s_x⟩
    replace hC := hC.bs hn
    replace b_t := b_t.bs hn
    replace t_u := t_u.bs hn
    clear hn
    have h_x : (T4.mk x1 u1 [2] [1#32, 2#32]).at w := ⟨s_x, t_u⟩
    refine AwC.back ?_
    refine AwC.only (by assumption) (i := 4) (by kernel_rfl) rfl ?_
    have zc := hC.size
    refine Lw.callF rfl rfl (run_c v ls u [c34] (T4.mk x1 u1 [2] [1#32, 2#32]) w (hG.bs hC) (hW.bs hC) h_x) ?_
    rintro _ w ⟨hn, hr⟩
    rw [K1] at hr
    obtain ⟨a, rfl, h_a, pa⟩ := hr
    replace h_a := h_a.mono (W := w0) zc
    replace hC := hC.bs hn
    replace b_t := b_t.bs hn
    replace t_u := t_u.bs hn
    replace s_x := s_x.bs hn
    replace h_x := h_x.bs hn
    clear hn zc
    refine AwC.back ?_
    refine AwC.take (i := 5) NoP.midS rfl (by kernel_rfl) (by kernel_rfl) (by kernel_rfl) (fun w1 hc => Ex.move rfl) rfl ?_
    refine AwC.take (i := 6) NoP.midS rfl (by kernel_rfl) (by kernel_rfl) (by kernel_rfl) (fun w1 hc => Ex.extract (i := 0) rfl rfl) rfl ?_
    refine AwC.take (i := 7) NoP.midS rfl (by kernel_rfl) (by kernel_rfl) (by kernel_rfl) (fun w1 hc => Ex.extract (i := 1) rfl rfl) rfl ?_
    refine AwC.only (by assumption) (i := 9) (by kernel_rfl) rfl ?_
    have c1 : [a.x, a.y].all (·.oneCell') = true := by rw [List.all_cons, List.all_cons, h_a.row.slT.one', h_a.col.slT.one']; rfl
    refine Lw.unit (Xu.stA (cs := [a.x, a.y]) (k := 2) (by kernel_rfl) rfl rfl rfl c1 b_t rfl) ?_
    rintro w' ⟨b_t', hg, hz⟩
    have hC' := hC.grown hg hC.size (by rintro _ e; have := Option.some.inj e; omega)
    have h_a' := h_a.ty hg (fun b e => by cases e; exact ⟨_, b_t⟩) (by decide) (by decide)
    refine AwC.back ?_
    refine AwC.take (i := 10) NoP.midS rfl (by kernel_rfl) (by kernel_rfl) (by kernel_rfl) (fun w1 hc => Ex.assign rfl) rfl ?_
    refine AwC.done (by assumption) (by kernel_rfl) ?_
    exact Pw.midS ((A_t, a)) ⟨rfl, rfl, rfl, rfl, trivial⟩ (⟨hC', b_t', h_a', pa⟩)
  rintro ⟨A3, a3⟩ w3 ⟨hC, b_3, h_a3, p_a3⟩
  replace b_3 : Blk w3 A3 tenT [a3.x, a3.y] := b_3
  replace h_a3 : a3.at w3 := h_a3.at
  replace p_a3 : pv a3 = ([1], [11#32]) := p_a3
  replace hB := bt hB hC
  replace hG := hG.bs hC
  replace b_g := b_g.bs hC
  replace hW := hW.bs hC
  clear hC hw0 z0
  clear w0
  obtain ⟨w0, hw0⟩ : ∃ w0, w0 = w3 := ⟨_, rfl⟩
  rw [← hw0] at hB hG b_g hW b_3 h_a3
  have z0 := below_size hB
  rw [← hw0]
  refine Cw.seq ?_
  refine Cw.midS (St := (Value × List T4)) (fun s => [(1, .pointer (some ⟨A_g, 0, none⟩)), (2, u), (3, .pointer (some ⟨A3, 0, none⟩)), (4, .int .i64 0), (5, s.1), (6, .int .i64 0)]) (fun s w' => Below w0.heap.size w0 w' ∧ Tens w' s.1 s.2 ∧ madeA w0 w' s.2 ∧ s.2.map pv = [([2], [1#32, 2#32]), ([2], [3#32, 4#32]), ([2], [3#32, 8#32]), ([1], [11#32])]) ?_ ?_
  · refine Cw.any mixed (fun w hC _ => ?_)
    refine Aw.cls (fun w' => Below w0.heap.size w0 w') (fun hC => ?_) (hC)
    refine AwC.take (i := 0) NoP.midS rfl (by kernel_rfl) (by kernel_rfl) (by kernel_rfl) (fun w1 hc => Ex.ldA (k := 1) (ag_24 _) (sz_24 _) rfl rfl (b_g.bs hc)) rfl ?_
    refine AwC.take (i := 1) NoP.midS rfl (by kernel_rfl) (by kernel_rfl) (by kernel_rfl) (fun w1 hc => Ex.move rfl) rfl ?_
    refine AwC.only (by assumption) (i := 2) (by kernel_rfl) rfl ?_
    refine Lw.valW (Xw.lit (vs := ([1#32, 2#32] : List (BitVec 32)).map i32) st_27 it_21 rfl (by kernel_rfl) rfl rfl rfl) rfl ?_
    rintro u1 w ⟨ho, -, hn, -⟩
    have t_u := own_slT ho
    clear ho
    replace hC := hC.bs hn
    clear hn
    refine AwC.back ?_
    refine AwC.only (by assumption) (i := 3) (by kernel_rfl) rfl ?_
    refine Lw.callF rfl rfl (mof_c u1 [1#32, 2#32] w t_u) ?_
    rintro _ w ⟨hn, x1, rfl, s_x⟩
    replace hC := hC.bs hn
    replace t_u := t_u.bs hn
    clear hn
    have h_x : (T4.mk x1 u1 [2] [1#32, 2#32]).at w := ⟨s_x, t_u⟩
    refine AwC.back ?_
    refine AwC.only (by assumption) (i := 4) (by kernel_rfl) rfl ?_
    have zc := hC.size
    refine Lw.callF rfl rfl (all_c v ls u [c34] (T4.mk x1 u1 [2] [1#32, 2#32]) w (hG.bs hC) (hW.bs hC) h_x) ?_
    rintro _ w ⟨hn, hr⟩
    rw [K1] at hr
    obtain ⟨q, ts, rfl, h_q, ma, pq⟩ := hr
    have h_ms : madeA w0 w ts := fun t ht => (ma t ht).mono (W := w0) zc
    replace hC := hC.bs hn
    replace t_u := t_u.bs hn
    replace s_x := s_x.bs hn
    replace h_x := h_x.bs hn
    clear hn zc
    refine AwC.back ?_
    refine AwC.take (i := 5) NoP.midS rfl (by kernel_rfl) (by kernel_rfl) (by kernel_rfl) (fun w1 hc => Ex.move rfl) rfl ?_
    refine AwC.take (i := 6) NoP.midS rfl (by kernel_rfl) (by kernel_rfl) (by kernel_rfl) (fun w1 hc => Ex.extract (i := 0) rfl rfl) rfl ?_
    refine AwC.take (i := 7) NoP.midS rfl (by kernel_rfl) (by kernel_rfl) (by kernel_rfl) (fun w1 hc => Ex.extract (i := 1) rfl rfl) rfl ?_
    refine AwC.take (i := 8) NoP.midS rfl (by kernel_rfl) (by kernel_rfl) (by kernel_rfl) (fun w1 hc => Ex.assign rfl) rfl ?_
    refine AwC.take (i := 9) NoP.midS rfl (by kernel_rfl) (by kernel_rfl) (by kernel_rfl) (fun w1 hc => Ex.assign rfl) rfl ?_
    refine AwC.done (by assumption) (by kernel_rfl) ?_
    exact Pw.midS ((q, ts)) ⟨rfl, rfl, rfl, rfl, rfl, rfl, trivial⟩ (⟨hC, h_q, h_ms, pq⟩)
  rintro ⟨q4, ts4⟩ w4 ⟨hC, h_q4, h_m4, p_4⟩
  replace h_q4 : Tens w4 q4 ts4 := h_q4
  replace p_4 : ts4.map pv = [([2], [1#32, 2#32]), ([2], [3#32, 4#32]), ([2], [3#32, 8#32]), ([1], [11#32])] := p_4
  clear h_m4
  replace hB := bt hB hC
  replace hG := hG.bs hC
  replace b_g := b_g.bs hC
  replace hW := hW.bs hC
  replace b_3 := b_3.bs hC
  replace h_a3 := h_a3.bs hC
  clear hC hw0 z0
  clear w0
  obtain ⟨w0, hw0⟩ : ∃ w0, w0 = w4 := ⟨_, rfl⟩
  rw [← hw0] at hB hG b_g hW b_3 h_a3 h_q4
  have z0 := below_size hB
  rw [← hw0]
  refine Cw.seq ?_
  refine Cw.midS (St := Unit) (fun s => [(1, .pointer (some ⟨A_g, 0, none⟩)), (2, u), (3, .pointer (some ⟨A3, 0, none⟩)), (4, .int .i64 0), (5, q4), (6, .int .i64 0), (8, .int .i64 1)]) (fun s w' => Below w0.heap.size w0 w') ?_ ?_
  · refine Cw.any mixed (fun w hC _ => ?_)
    refine Aw.cls (fun w' => Below w0.heap.size w0 w') (fun hC => ?_) (hC)
    refine AwC.take (i := 0) NoP.midS rfl (by kernel_rfl) (by kernel_rfl) (by kernel_rfl) (fun w1 hc => Ex.ldA (k := 1) (ag_24 _) (sz_24 _) rfl rfl (b_g.bs hc)) rfl ?_
    refine AwC.two (by assumption) (i := 1) (j := 7) (by kernel_rfl) rfl rfl ?_ ?_
    refine Lw.valW (Xw.lit (vs := ([1#32, 2#32] : List (BitVec 32)).map i32) st_27 it_21 rfl (by kernel_rfl) rfl rfl rfl) rfl ?_
    rintro u1 w ⟨ho, -, hn, -⟩
    have t_u := own_slT ho
    clear ho
    replace hC := hC.bs hn
    clear hn
    refine AwC.back ?_
    refine AwC.two (by assumption) (i := 2) (j := 7) (by kernel_rfl) rfl rfl ?_ ?_
    refine Lw.callF rfl rfl (mof_c u1 [1#32, 2#32] w t_u) ?_
    rintro _ w ⟨hn, x1, rfl, s_x⟩
    replace hC := hC.bs hn
    replace t_u := t_u.bs hn
    clear hn
    have h_x : (T4.mk x1 u1 [2] [1#32, 2#32]).at w := ⟨s_x, t_u⟩
    refine AwC.back ?_
    refine AwC.two (by assumption) (i := 3) (j := 7) (by kernel_rfl) rfl rfl ?_ ?_
    have zc := hC.size
    refine Lw.callF rfl rfl (run_c v ls (.slice none 0 0) [] (T4.mk x1 u1 [2] [1#32, 2#32]) w (hG.bs hC) ⟨Sl.nil _ _, fun _ h => by cases h⟩ h_x) ?_
    rintro _ w ⟨hn, hr⟩
    rw [K2] at hr
    obtain rfl := hr
    replace hC := hC.bs hn
    replace t_u := t_u.bs hn
    replace s_x := s_x.bs hn
    replace h_x := h_x.bs hn
    clear hn zc
    refine AwC.back ?_
    refine AwC.take (i := 4) NoP.midS rfl (by kernel_rfl) (by kernel_rfl) (by kernel_rfl) (fun w1 hc => Ex.move rfl) rfl ?_
    refine AwC.take (i := 5) NoP.midS rfl (by kernel_rfl) (by kernel_rfl) (by kernel_rfl) (fun w1 hc => Ex.extract (i := 0) rfl rfl) rfl ?_
    refine AwC.take (i := 6) NoP.midS rfl (by kernel_rfl) (by kernel_rfl) (by kernel_rfl) (fun w1 hc => Ex.extract (i := 1) rfl rfl) rfl ?_
    refine AwC.only (by assumption) (i := 7) (by kernel_rfl) rfl ?_
    have zc := hC.size
    refine Lw.newA it_29 rfl ?_
    rintro A_t w eA_t b_t hn -
    replace hC := hC.bs hn
    replace t_u := t_u.bs hn
    replace s_x := s_x.bs hn
    replace h_x := h_x.bs hn
    clear hn
    refine AwC.back ?_
    refine AwC.only (by assumption) (i := 8) (by kernel_rfl) rfl ?_
    have yt : w0.heap.size ≤ A_t := by omega
    clear zc
    refine Lw.unit (Xu.stA (cs := [.slice none 0 0, .slice none 0 0]) (k := 2) (by kernel_rfl) rfl rfl rfl rfl b_t rfl) ?_
    rintro w' ⟨-, hg, hz⟩
    have hC' := hC.grown hg hC.size (by rintro _ e; have := Option.some.inj e; omega)
    refine AwC.back ?_
    refine AwC.take (i := 9) NoP.midS rfl (by kernel_rfl) (by kernel_rfl) (by kernel_rfl) (fun w1 hc => Ex.assign rfl) rfl ?_
    refine AwC.done (by assumption) (by kernel_rfl) ?_
    exact Pw.midS (()) ⟨rfl, rfl, rfl, rfl, rfl, rfl, rfl, trivial⟩ (hC')
    have zc := hC.size
    refine Lw.newA it_29 rfl ?_
    rintro A_t w eA_t b_t hn -
    replace hC := hC.bs hn
    replace t_u := t_u.bs hn
    replace s_x := s_x.bs hn
    replace h_x := h_x.bs hn
    clear hn
    refine AwC.back ?_
    refine AwC.only (by assumption) (i := 3) (by kernel_rfl) rfl ?_
    have yt : w0.heap.size ≤ A_t := by omega
    clear zc
    have zc := hC.size
    refine Lw.callF rfl rfl (run_c v ls (.slice none 0 0) [] (T4.mk x1 u1 [2] [1#32, 2#32]) w (hG.bs hC) ⟨Sl.nil _ _, fun _ h => by cases h⟩ h_x) ?_
    rintro _ w ⟨hn, hr⟩
    rw [K2] at hr
    obtain rfl := hr
    replace hC := hC.bs hn
    replace t_u := t_u.bs hn
    replace s_x := s_x.bs hn
    replace h_x := h_x.bs hn
    replace b_t := b_t.bs hn
    clear hn zc
    refine AwC.back ?_
    refine AwC.take (i := 4) NoP.midS rfl (by kernel_rfl) (by kernel_rfl) (by kernel_rfl) (fun w1 hc => Ex.move rfl) rfl ?_
    refine AwC.take (i := 5) NoP.midS rfl (by kernel_rfl) (by kernel_rfl) (by kernel_rfl) (fun w1 hc => Ex.extract (i := 0) rfl rfl) rfl ?_
    refine AwC.take (i := 6) NoP.midS rfl (by kernel_rfl) (by kernel_rfl) (by kernel_rfl) (fun w1 hc => Ex.extract (i := 1) rfl rfl) rfl ?_
    refine AwC.only (by assumption) (i := 8) (by kernel_rfl) rfl ?_
    refine Lw.unit (Xu.stA (cs := [.slice none 0 0, .slice none 0 0]) (k := 2) (by kernel_rfl) rfl rfl rfl rfl b_t rfl) ?_
    rintro w' ⟨-, hg, hz⟩
    have hC' := hC.grown hg hC.size (by rintro _ e; have := Option.some.inj e; omega)
    refine AwC.back ?_
    refine AwC.take (i := 9) NoP.midS rfl (by kernel_rfl) (by kernel_rfl) (by kernel_rfl) (fun w1 hc => Ex.assign rfl) rfl ?_
    refine AwC.done (by assumption) (by kernel_rfl) ?_
    exact Pw.midS (()) ⟨rfl, rfl, rfl, rfl, rfl, rfl, rfl, trivial⟩ (hC')
    have zc := hC.size
    refine Lw.newA it_29 rfl ?_
    rintro A_t w eA_t b_t hn -
    replace hC := hC.bs hn
    replace t_u := t_u.bs hn
    clear hn
    refine AwC.back ?_
    refine AwC.only (by assumption) (i := 2) (by kernel_rfl) rfl ?_
    have yt : w0.heap.size ≤ A_t := by omega
    clear zc
    refine Lw.callF rfl rfl (mof_c u1 [1#32, 2#32] w t_u) ?_
    rintro _ w ⟨hn, x1, rfl, s_x⟩
    replace hC := hC.bs hn
    replace t_u := t_u.bs hn
    replace b_t := b_t.bs hn
    clear hn
    have h_x : (T4.mk x1 u1 [2] [1#32, 2#32]).at w := ⟨s_x, t_u⟩
    refine AwC.back ?_
    refine AwC.only (by assumption) (i := 3) (by kernel_rfl) rfl ?_
    have zc := hC.size
    refine Lw.callF rfl rfl (run_c v ls (.slice none 0 0) [] (T4.mk x1 u1 [2] [1#32, 2#32]) w (hG.bs hC) ⟨Sl.nil _ _, fun _ h => by cases h⟩ h_x) ?_
    rintro _ w ⟨hn, hr⟩
    rw [K2] at hr
    obtain rfl := hr
    replace hC := hC.bs hn
    replace t_u := t_u.bs hn
    replace b_t := b_t.bs hn
    replace s_x := s_x.bs hn
    replace h_x := h_x.bs hn
    clear hn zc
    refine AwC.back ?_
    refine AwC.take (i := 4) NoP.midS rfl (by kernel_rfl) (by kernel_rfl) (by kernel_rfl) (fun w1 hc => Ex.move rfl) rfl ?_
    refine AwC.take (i := 5) NoP.midS rfl (by kernel_rfl) (by kernel_rfl) (by kernel_rfl) (fun w1 hc => Ex.extract (i := 0) rfl rfl) rfl ?_
    refine AwC.take (i := 6) NoP.midS rfl (by kernel_rfl) (by kernel_rfl) (by kernel_rfl) (fun w1 hc => Ex.extract (i := 1) rfl rfl) rfl ?_
    refine AwC.only (by assumption) (i := 8) (by kernel_rfl) rfl ?_
    refine Lw.unit (Xu.stA (cs := [.slice none 0 0, .slice none 0 0]) (k := 2) (by kernel_rfl) rfl rfl rfl rfl b_t rfl) ?_
    rintro w' ⟨-, hg, hz⟩
    have hC' := hC.grown hg hC.size (by rintro _ e; have := Option.some.inj e; omega)
    refine AwC.back ?_
    refine AwC.take (i := 9) NoP.midS rfl (by kernel_rfl) (by kernel_rfl) (by kernel_rfl) (fun w1 hc => Ex.assign rfl) rfl ?_
    refine AwC.done (by assumption) (by kernel_rfl) ?_
    exact Pw.midS (()) ⟨rfl, rfl, rfl, rfl, rfl, rfl, rfl, trivial⟩ (hC')
    have zc := hC.size
    refine Lw.newA it_29 rfl ?_
    rintro A_t w eA_t b_t hn -
    replace hC := hC.bs hn
    clear hn
    refine AwC.back ?_
    refine AwC.only (by assumption) (i := 1) (by kernel_rfl) rfl ?_
    have yt : w0.heap.size ≤ A_t := by omega
    clear zc
    refine Lw.valW (Xw.lit (vs := ([1#32, 2#32] : List (BitVec 32)).map i32) st_27 it_21 rfl (by kernel_rfl) rfl rfl rfl) rfl ?_
    rintro u1 w ⟨ho, -, hn, -⟩
    have t_u := own_slT ho
    clear ho
    replace hC := hC.bs hn
    replace b_t := b_t.bs hn
    clear hn
    refine AwC.back ?_
    refine AwC.only (by assumption) (i := 2) (by kernel_rfl) rfl ?_
    refine Lw.callF rfl rfl (mof_c u1 [1#32, 2#32] w t_u) ?_
    rintro _ w ⟨hn, x1, rfl, s_x⟩
    replace hC := hC.bs hn
    replace b_t := b_t.bs hn
    replace t_u := t_u.bs hn
    clear hn
    have h_x : (T4.mk x1 u1 [2] [1#32, 2#32]).at w := ⟨s_x, t_u⟩
    refine AwC.back ?_
    refine AwC.only (by assumption) (i := 3) (by kernel_rfl) rfl ?_
    have zc := hC.size
    refine Lw.callF rfl rfl (run_c v ls (.slice none 0 0) [] (T4.mk x1 u1 [2] [1#32, 2#32]) w (hG.bs hC) ⟨Sl.nil _ _, fun _ h => by cases h⟩ h_x) ?_
    rintro _ w ⟨hn, hr⟩
    rw [K2] at hr
    obtain rfl := hr
    replace hC := hC.bs hn
    replace b_t := b_t.bs hn
    replace t_u := t_u.bs hn
    replace s_x := s_x.bs hn
    replace h_x := h_x.bs hn
    clear hn zc
    refine AwC.back ?_
    refine AwC.take (i := 4) NoP.midS rfl (by kernel_rfl) (by kernel_rfl) (by kernel_rfl) (fun w1 hc => Ex.move rfl) rfl ?_
    refine AwC.take (i := 5) NoP.midS rfl (by kernel_rfl) (by kernel_rfl) (by kernel_rfl) (fun w1 hc => Ex.extract (i := 0) rfl rfl) rfl ?_
    refine AwC.take (i := 6) NoP.midS rfl (by kernel_rfl) (by kernel_rfl) (by kernel_rfl) (fun w1 hc => Ex.extract (i := 1) rfl rfl) rfl ?_
    refine AwC.only (by assumption) (i := 8) (by kernel_rfl) rfl ?_
    refine Lw.unit (Xu.stA (cs := [.slice none 0 0, .slice none 0 0]) (k := 2) (by kernel_rfl) rfl rfl rfl rfl b_t rfl) ?_
    rintro w' ⟨-, hg, hz⟩
    have hC' := hC.grown hg hC.size (by rintro _ e; have := Option.some.inj e; omega)
    refine AwC.back ?_
    refine AwC.take (i := 9) NoP.midS rfl (by kernel_rfl) (by kernel_rfl) (by kernel_rfl) (fun w1 hc => Ex.assign rfl) rfl ?_
    refine AwC.done (by assumption) (by kernel_rfl) ?_
    exact Pw.midS (()) ⟨rfl, rfl, rfl, rfl, rfl, rfl, rfl, trivial⟩ (hC')
  rintro ⟨⟩ w5 hC
  replace hB := bt hB hC
  replace hG := hG.bs hC
  replace b_g := b_g.bs hC
  replace hW := hW.bs hC
  replace b_3 := b_3.bs hC
  replace h_a3 := h_a3.bs hC
  replace h_q4 := h_q4.bs hC
  clear hC hw0 z0
  clear w0
  obtain ⟨w0, hw0⟩ : ∃ w0, w0 = w5 := ⟨_, rfl⟩
  rw [← hw0] at hB hG b_g hW b_3 h_a3 h_q4
  have z0 := below_size hB
  rw [← hw0]
  refine Cw.seq ?_
  refine Cw.midS (St := Unit) (fun s => [(3, .pointer (some ⟨A3, 0, none⟩)), (4, .int .i64 0), (5, q4), (6, .int .i64 0), (8, .int .i64 1), (10, .int .i64 1)]) (fun s w' => Below w0.heap.size w0 w') ?_ ?_
  · refine Cw.any mixed (fun w hC _ => ?_)
    refine Aw.cls (fun w' => Below w0.heap.size w0 w') (fun hC => ?_) (hC)
    refine AwC.take (i := 0) NoP.midS rfl (by kernel_rfl) (by kernel_rfl) (by kernel_rfl) (fun w1 hc => Ex.ldA (k := 1) (ag_24 _) (sz_24 _) rfl rfl (b_g.bs hc)) rfl ?_
    refine AwC.take (i := 1) NoP.midS rfl (by kernel_rfl) (by kernel_rfl) (by kernel_rfl) (fun w1 hc => Ex.move rfl) rfl ?_
    refine AwC.two (by assumption) (i := 2) (j := 8) (by kernel_rfl) rfl rfl ?_ ?_
    refine Lw.valW (Xw.lit (vs := ([1#32] : List (BitVec 32)).map i32) st_27 it_21 rfl (by kernel_rfl) rfl rfl rfl) rfl ?_
    rintro u1 w ⟨ho, -, hn, -⟩
    have t_u := own_slT ho
    clear ho
    replace hC := hC.bs hn
    clear hn
    refine AwC.back ?_
    refine AwC.two (by assumption) (i := 3) (j := 8) (by kernel_rfl) rfl rfl ?_ ?_
    refine Lw.callF rfl rfl (mof_c u1 [1#32] w t_u) ?_
    rintro _ w ⟨hn, x1, rfl, s_x⟩
    replace hC := hC.bs hn
    replace t_u := t_u.bs hn
    clear hn
    have h_x : (T4.mk x1 u1 [1] [1#32]).at w := ⟨s_x, t_u⟩
    refine AwC.back ?_
    refine AwC.two (by assumption) (i := 4) (j := 8) (by kernel_rfl) rfl rfl ?_ ?_
    have zc := hC.size
    refine Lw.callF rfl rfl (run_c v ls u [c34] (T4.mk x1 u1 [1] [1#32]) w (hG.bs hC) (hW.bs hC) h_x) ?_
    rintro _ w ⟨hn, hr⟩
    rw [K3] at hr
    obtain rfl := hr
    replace hC := hC.bs hn
    replace t_u := t_u.bs hn
    replace s_x := s_x.bs hn
    replace h_x := h_x.bs hn
    clear hn zc
    refine AwC.back ?_
    refine AwC.take (i := 5) NoP.midS rfl (by kernel_rfl) (by kernel_rfl) (by kernel_rfl) (fun w1 hc => Ex.move rfl) rfl ?_
    refine AwC.take (i := 6) NoP.midS rfl (by kernel_rfl) (by kernel_rfl) (by kernel_rfl) (fun w1 hc => Ex.extract (i := 0) rfl rfl) rfl ?_
    refine AwC.take (i := 7) NoP.midS rfl (by kernel_rfl) (by kernel_rfl) (by kernel_rfl) (fun w1 hc => Ex.extract (i := 1) rfl rfl) rfl ?_
    refine AwC.only (by assumption) (i := 8) (by kernel_rfl) rfl ?_
    have zc := hC.size
    refine Lw.newA it_29 rfl ?_
    rintro A_t w eA_t b_t hn -
    replace hC := hC.bs hn
    replace t_u := t_u.bs hn
    replace s_x := s_x.bs hn
    replace h_x := h_x.bs hn
    clear hn
    refine AwC.back ?_
    refine AwC.only (by assumption) (i := 9) (by kernel_rfl) rfl ?_
    have yt : w0.heap.size ≤ A_t := by omega
    clear zc
    refine Lw.unit (Xu.stA (cs := [.slice none 0 0, .slice none 0 0]) (k := 2) (by kernel_rfl) rfl rfl rfl rfl b_t rfl) ?_
    rintro w' ⟨-, hg, hz⟩
    have hC' := hC.grown hg hC.size (by rintro _ e; have := Option.some.inj e; omega)
    refine AwC.back ?_
    refine AwC.take (i := 10) NoP.midS rfl (by kernel_rfl) (by kernel_rfl) (by kernel_rfl) (fun w1 hc => Ex.assign rfl) rfl ?_
    refine AwC.done (by assumption) (by kernel_rfl) ?_
    exact Pw.midS (()) ⟨rfl, rfl, rfl, rfl, rfl, rfl, trivial⟩ (hC')
    have zc := hC.size
    refine Lw.newA it_29 rfl ?_
    rintro A_t w eA_t b_t hn -
    replace hC := hC.bs hn
    replace t_u := t_u.bs hn
    replace s_x := s_x.bs hn
    replace h_x := h_x.bs hn
    clear hn
    refine AwC.back ?_
    refine AwC.only (by assumption) (i := 4) (by kernel_rfl) rfl ?_
    have yt : w0.heap.size ≤ A_t := by omega
    clear zc
    have zc := hC.size
    refine Lw.callF rfl rfl (run_c v ls u [c34] (T4.mk x1 u1 [1] [1#32]) w (hG.bs hC) (hW.bs hC) h_x) ?_
    rintro _ w ⟨hn, hr⟩
    rw [K3] at hr
    obtain rfl := hr
    replace hC := hC.bs hn
    replace t_u := t_u.bs hn
    replace s_x := s_x.bs hn
    replace h_x := h_x.bs hn
    replace b_t := b_t.bs hn
    clear hn zc
    refine AwC.back ?_
    refine AwC.take (i := 5) NoP.midS rfl (by kernel_rfl) (by kernel_rfl) (by kernel_rfl) (fun w1 hc => Ex.move rfl) rfl ?_
    refine AwC.take (i := 6) NoP.midS rfl (by kernel_rfl) (by kernel_rfl) (by kernel_rfl) (fun w1 hc => Ex.extract (i := 0) rfl rfl) rfl ?_
    refine AwC.take (i := 7) NoP.midS rfl (by kernel_rfl) (by kernel_rfl) (by kernel_rfl) (fun w1 hc => Ex.extract (i := 1) rfl rfl) rfl ?_
    refine AwC.only (by assumption) (i := 9) (by kernel_rfl) rfl ?_
    refine Lw.unit (Xu.stA (cs := [.slice none 0 0, .slice none 0 0]) (k := 2) (by kernel_rfl) rfl rfl rfl rfl b_t rfl) ?_
    rintro w' ⟨-, hg, hz⟩
    have hC' := hC.grown hg hC.size (by rintro _ e; have := Option.some.inj e; omega)
    refine AwC.back ?_
    refine AwC.take (i := 10) NoP.midS rfl (by kernel_rfl) (by kernel_rfl) (by kernel_rfl) (fun w1 hc => Ex.assign rfl) rfl ?_
    refine AwC.done (by assumption) (by kernel_rfl) ?_
    exact Pw.midS (()) ⟨rfl, rfl, rfl, rfl, rfl, rfl, trivial⟩ (hC')
    have zc := hC.size
    refine Lw.newA it_29 rfl ?_
    rintro A_t w eA_t b_t hn -
    replace hC := hC.bs hn
    replace t_u := t_u.bs hn
    clear hn
    refine AwC.back ?_
    refine AwC.only (by assumption) (i := 3) (by kernel_rfl) rfl ?_
    have yt : w0.heap.size ≤ A_t := by omega
    clear zc
    refine Lw.callF rfl rfl (mof_c u1 [1#32] w t_u) ?_
    rintro _ w ⟨hn, x1, rfl, s_x⟩
    replace hC := hC.bs hn
    replace t_u := t_u.bs hn
    replace b_t := b_t.bs hn
    clear hn
    have h_x : (T4.mk x1 u1 [1] [1#32]).at w := ⟨s_x, t_u⟩
    refine AwC.back ?_
    refine AwC.only (by assumption) (i := 4) (by kernel_rfl) rfl ?_
    have zc := hC.size
    refine Lw.callF rfl rfl (run_c v ls u [c34] (T4.mk x1 u1 [1] [1#32]) w (hG.bs hC) (hW.bs hC) h_x) ?_
    rintro _ w ⟨hn, hr⟩
    rw [K3] at hr
    obtain rfl := hr
    replace hC := hC.bs hn
    replace t_u := t_u.bs hn
    replace b_t := b_t.bs hn
    replace s_x := s_x.bs hn
    replace h_x := h_x.bs hn
    clear hn zc
    refine AwC.back ?_
    refine AwC.take (i := 5) NoP.midS rfl (by kernel_rfl) (by kernel_rfl) (by kernel_rfl) (fun w1 hc => Ex.move rfl) rfl ?_
    refine AwC.take (i := 6) NoP.midS rfl (by kernel_rfl) (by kernel_rfl) (by kernel_rfl) (fun w1 hc => Ex.extract (i := 0) rfl rfl) rfl ?_
    refine AwC.take (i := 7) NoP.midS rfl (by kernel_rfl) (by kernel_rfl) (by kernel_rfl) (fun w1 hc => Ex.extract (i := 1) rfl rfl) rfl ?_
    refine AwC.only (by assumption) (i := 9) (by kernel_rfl) rfl ?_
    refine Lw.unit (Xu.stA (cs := [.slice none 0 0, .slice none 0 0]) (k := 2) (by kernel_rfl) rfl rfl rfl rfl b_t rfl) ?_
    rintro w' ⟨-, hg, hz⟩
    have hC' := hC.grown hg hC.size (by rintro _ e; have := Option.some.inj e; omega)
    refine AwC.back ?_
    refine AwC.take (i := 10) NoP.midS rfl (by kernel_rfl) (by kernel_rfl) (by kernel_rfl) (fun w1 hc => Ex.assign rfl) rfl ?_
    refine AwC.done (by assumption) (by kernel_rfl) ?_
    exact Pw.midS (()) ⟨rfl, rfl, rfl, rfl, rfl, rfl, trivial⟩ (hC')
    have zc := hC.size
    refine Lw.newA it_29 rfl ?_
    rintro A_t w eA_t b_t hn -
    replace hC := hC.bs hn
    clear hn
    refine AwC.back ?_
    refine AwC.only (by assumption) (i := 2) (by kernel_rfl) rfl ?_
    have yt : w0.heap.size ≤ A_t := by omega
    clear zc
    refine Lw.valW (Xw.lit (vs := ([1#32] : List (BitVec 32)).map i32) st_27 it_21 rfl (by kernel_rfl) rfl rfl rfl) rfl ?_
    rintro u1 w ⟨ho, -, hn, -⟩
    have t_u := own_slT ho
    clear ho
    replace hC := hC.bs hn
    replace b_t := b_t.bs hn
    clear hn
    refine AwC.back ?_
    refine AwC.only (by assumption) (i := 3) (by kernel_rfl) rfl ?_
    refine Lw.callF rfl rfl (mof_c u1 [1#32] w t_u) ?_
    rintro _ w ⟨hn, x1, rfl, s_x⟩
    replace hC := hC.bs hn
    replace b_t := b_t.bs hn
    replace t_u := t_u.bs hn
    clear hn
    have h_x : (T4.mk x1 u1 [1] [1#32]).at w := ⟨s_x, t_u⟩
    refine AwC.back ?_
    refine AwC.only (by assumption) (i := 4) (by kernel_rfl) rfl ?_
    have zc := hC.size
    refine Lw.callF rfl rfl (run_c v ls u [c34] (T4.mk x1 u1 [1] [1#32]) w (hG.bs hC) (hW.bs hC) h_x) ?_
    rintro _ w ⟨hn, hr⟩
    rw [K3] at hr
    obtain rfl := hr
    replace hC := hC.bs hn
    replace b_t := b_t.bs hn
    replace t_u := t_u.bs hn
    replace s_x := s_x.bs hn
    replace h_x := h_x.bs hn
    clear hn zc
    refine AwC.back ?_
    refine AwC.take (i := 5) NoP.midS rfl (by kernel_rfl) (by kernel_rfl) (by kernel_rfl) (fun w1 hc => Ex.move rfl) rfl ?_
    refine AwC.take (i := 6) NoP.midS rfl (by kernel_rfl) (by kernel_rfl) (by kernel_rfl) (fun w1 hc => Ex.extract (i := 0) rfl rfl) rfl ?_
    refine AwC.take (i := 7) NoP.midS rfl (by kernel_rfl) (by kernel_rfl) (by kernel_rfl) (fun w1 hc => Ex.extract (i := 1) rfl rfl) rfl ?_
    refine AwC.only (by assumption) (i := 9) (by kernel_rfl) rfl ?_
    refine Lw.unit (Xu.stA (cs := [.slice none 0 0, .slice none 0 0]) (k := 2) (by kernel_rfl) rfl rfl rfl rfl b_t rfl) ?_
    rintro w' ⟨-, hg, hz⟩
    have hC' := hC.grown hg hC.size (by rintro _ e; have := Option.some.inj e; omega)
    refine AwC.back ?_
    refine AwC.take (i := 10) NoP.midS rfl (by kernel_rfl) (by kernel_rfl) (by kernel_rfl) (fun w1 hc => Ex.assign rfl) rfl ?_
    refine AwC.done (by assumption) (by kernel_rfl) ?_
    exact Pw.midS (()) ⟨rfl, rfl, rfl, rfl, rfl, rfl, trivial⟩ (hC')
  rintro ⟨⟩ w6 hC
  replace hB := bt hB hC
  replace hG := hG.bs hC
  replace b_g := b_g.bs hC
  replace hW := hW.bs hC
  replace b_3 := b_3.bs hC
  replace h_a3 := h_a3.bs hC
  replace h_q4 := h_q4.bs hC
  clear hC hw0 z0
  clear w0
  obtain ⟨w0, hw0⟩ : ∃ w0, w0 = w6 := ⟨_, rfl⟩
  rw [← hw0] at hB hG b_g hW b_3 h_a3 h_q4
  have z0 := below_size hB
  rw [← hw0]
  refine Cw.seq ?_
  refine Cw.region ?_
  refine Lw.valW (Xw.lit (vs := ([0, 0] : List Int).map (Value.int .i64)) st_26 it_3 rfl rfl rfl rfl rfl) rfl ?_
  rintro z w ⟨o_z, -, hn, -⟩
  replace hB := hB.bs hn
  replace b_3 := b_3.bs hn
  replace h_a3 := h_a3.bs hn
  replace h_q4 := h_q4.bs hn
  clear hn
  refine Lw.val (Ex.build (cs := [b8 3#8, z, .slice none 0 0, .int .i64 0, .int .i64 0]) rfl (bt_nodeI 3#8 z (sl_form (own_sl o_z)))) rfl ?_
  refine Lw.valW (Xw.lit (vs := ([1#32, 2#32] : List (BitVec 32)).map i32) st_27 it_21 rfl (by kernel_rfl) rfl rfl rfl) rfl ?_
  rintro p w ⟨ho, -, hn, -⟩
  have t_p := own_slT ho
  clear ho
  replace hB := hB.bs hn
  replace b_3 := b_3.bs hn
  replace h_a3 := h_a3.bs hn
  replace h_q4 := h_q4.bs hn
  replace o_z := o_z.bs hn
  clear hn
  refine Lw.callF rfl rfl (mof_c p [1#32, 2#32] w t_p) ?_
  rintro _ w ⟨hn, x_p, rfl, s_p⟩
  replace hB := hB.bs hn
  replace b_3 := b_3.bs hn
  replace h_a3 := h_a3.bs hn
  replace h_q4 := h_q4.bs hn
  replace o_z := o_z.bs hn
  replace t_p := t_p.bs hn
  clear hn
  refine Lw.valW (Xw.lit (vs := ([1#32] : List (BitVec 32)).map i32) st_27 it_21 rfl (by kernel_rfl) rfl rfl rfl) rfl ?_
  rintro q w ⟨ho, -, hn, -⟩
  have t_q := own_slT ho
  clear ho
  replace hB := hB.bs hn
  replace b_3 := b_3.bs hn
  replace h_a3 := h_a3.bs hn
  replace h_q4 := h_q4.bs hn
  replace o_z := o_z.bs hn
  replace t_p := t_p.bs hn
  replace s_p := s_p.bs hn
  clear hn
  refine Lw.callF rfl rfl (mof_c q [1#32] w t_q) ?_
  rintro _ w ⟨hn, x_q, rfl, s_q⟩
  replace hB := hB.bs hn
  replace b_3 := b_3.bs hn
  replace h_a3 := h_a3.bs hn
  replace h_q4 := h_q4.bs hn
  replace o_z := o_z.bs hn
  replace t_p := t_p.bs hn
  replace s_p := s_p.bs hn
  replace t_q := t_q.bs hn
  clear hn
  refine Lw.valW (Xw.litA (vs := [(0, (T4.mk x_p p [2] [1#32, 2#32]).v), (1, (T4.mk x_q q [1] [1#32]).v)]) (cs := cellsOf [⟨x_p, p, [2], [1#32, 2#32]⟩, ⟨x_q, q, [1], [1#32]⟩]) st_25 it_29 rfl (by decide) (by decide) (by decide) (by kernel_rfl) rfl) rfl ?_
  rintro d7 w ⟨ho, -, hn, -⟩
  replace hB := hB.bs hn
  replace b_3 := b_3.bs hn
  replace h_a3 := h_a3.bs hn
  replace h_q4 := h_q4.bs hn
  replace o_z := o_z.bs hn
  replace t_p := t_p.bs hn
  replace s_p := s_p.bs hn
  replace t_q := t_q.bs hn
  replace s_q := s_q.bs hn
  clear hn
  have hT7 : Tens w d7 [⟨x_p, p, [2], [1#32, 2#32]⟩, ⟨x_q, q, [1], [1#32]⟩] := ⟨own_sl ho, fun t ht => by
    rcases List.mem_cons.1 ht with rfl | ht
    · exact ⟨s_p, t_p⟩
    · rw [List.mem_singleton.1 ht]; exact ⟨s_q, t_q⟩⟩
  refine Lw.callF rfl rfl (do_c ⟨3#8, z, .slice none 0 0, [0, 0], [], 0, 0⟩ d7 _ w ⟨own_slT o_z, Sl.nil _ _⟩ hT7) ?_
  rintro _ w ⟨hn, hA⟩
  replace hB := hB.bs hn
  replace b_3 := b_3.bs hn
  replace h_a3 := h_a3.bs hn
  replace h_q4 := h_q4.bs hn
  replace o_z := o_z.bs hn
  replace t_p := t_p.bs hn
  replace s_p := s_p.bs hn
  replace t_q := t_q.bs hn
  replace s_q := s_q.bs hn
  clear hn hT7
  have e7 : doE ⟨3#8, z, .slice none 0 0, [0, 0], [], 0, 0⟩ [⟨x_p, p, [2], [1#32, 2#32]⟩, ⟨x_q, q, [1], [1#32]⟩] = 10 := by kernel_rfl
  rw [e7] at hA
  obtain ⟨c7, rfl, h_c7, -, -⟩ := hA
  refine Lw.val (Ex.move rfl) rfl ?_
  refine Lw.val (Ex.extract (i := 0) rfl rfl) rfl ?_
  refine Lw.val (Ex.extract (i := 1) rfl rfl) rfl ?_
  refine Lw.boxed (cs := [c7.x, c7.y]) it_29 rfl rfl rfl rfl (fun _ => rfl) (h_c7.one) ?_
  rintro A_c7 w eA_c7 b_c7 hn -
  replace hB := hB.bs hn
  replace b_3 := b_3.bs hn
  replace h_a3 := h_a3.bs hn
  replace h_q4 := h_q4.bs hn
  replace o_z := o_z.bs hn
  replace t_p := t_p.bs hn
  replace s_p := s_p.bs hn
  replace t_q := t_q.bs hn
  replace s_q := s_q.bs hn
  clear hn
  refine Lw.val (Ex.assign rfl) rfl ?_
  refine Lw.nil ?_
  refine Pw.thenN (Cw.out ?_)
  refine Cw.seq ?_
  refine Cw.region ?_
  refine Lw.valW (Xw.lit (vs := ([2] : List Int).map (Value.int .i64)) st_26 it_3 rfl rfl rfl rfl rfl) rfl ?_
  rintro y w ⟨o_y, -, hn, -⟩
  replace hB := hB.bs hn
  replace b_3 := b_3.bs hn
  replace h_a3 := h_a3.bs hn
  replace h_q4 := h_q4.bs hn
  clear hn
  refine Lw.val (Ex.build (cs := [b8 1#8, .slice none 0 0, y, .int .i64 0, .int .i64 0]) rfl (bt_nodeS 1#8 y (sl_form (own_sl o_y)))) rfl ?_
  refine Lw.callF rfl rfl (do_c ⟨1#8, .slice none 0 0, y, [], [2], 0, 0⟩ (.slice none 0 0) [] w ⟨Sl.nil _ _, own_slT o_y⟩ ⟨Sl.nil _ _, fun _ h => by cases h⟩) ?_
  rintro _ w ⟨hn, hA⟩
  replace hB := hB.bs hn
  replace b_3 := b_3.bs hn
  replace h_a3 := h_a3.bs hn
  replace h_q4 := h_q4.bs hn
  replace o_y := o_y.bs hn
  clear hn
  have e8 : doE ⟨1#8, .slice none 0 0, y, [], [2], 0, 0⟩ [] = 1 := live_in _ _
  rw [e8] at hA
  obtain ⟨c8, rfl, h_c8, -, -⟩ := hA
  refine Lw.val (Ex.move rfl) rfl ?_
  refine Lw.val (Ex.extract (i := 0) rfl rfl) rfl ?_
  refine Lw.val (Ex.extract (i := 1) rfl rfl) rfl ?_
  refine Lw.boxed (cs := [c8.x, c8.y]) it_29 rfl rfl rfl rfl (fun _ => rfl) (h_c8.one) ?_
  rintro A_c8 w eA_c8 b_c8 hn -
  replace hB := hB.bs hn
  replace b_3 := b_3.bs hn
  replace h_a3 := h_a3.bs hn
  replace h_q4 := h_q4.bs hn
  replace o_y := o_y.bs hn
  clear hn
  refine Lw.val (Ex.assign rfl) rfl ?_
  refine Lw.nil ?_
  refine Pw.thenN (Cw.out ?_)
  refine Cw.seq ?_
  refine Cw.mono (fun i v w' => PhiT (liveT a3.v q4) i v w') mixed (by kernel_rfl) (fun i v w w' h g => Ph.stab h g) ?_ ?_ (by kernel_rfl)
  · skip
    refine AllOps.cons (fun s w' hB0 hd => ⟨fun j g h => (by cases h), Ow.val (Ex.move rfl) ⟨Below.refl _ _, fun _ => rfl⟩⟩) ?_
    refine AllOps.cons (fun s w' hB0 hd => ⟨fun j g h => (by cases h), Ow.val (Ex.eql (m := 0) (q := 0) (congrArg some (show s 0 = .int .i64 0 from dep hd 0 (by kernel_rfl))) rfl) ⟨Below.refl _ _, fun _ => rfl⟩⟩) ?_
    refine AllOps.cons (fun s w' hB0 hd => ⟨fun j g h => (by cases h), Ow.val (Ex.move rfl) ⟨Below.refl _ _, fun _ => dep hd 1 (by kernel_rfl)⟩⟩) ?_
    refine AllOps.cons (fun s w' hB0 hd => ⟨fun j g h => (by cases h; exact dep hd 2 (by kernel_rfl)), Ow.val (Ex.ldA (k := 2) (ag_29 _) (sz_29 _) rfl rfl (b_3.bs hB0)) ⟨Below.refl _ _, fun _ => rfl⟩⟩) ?_
    refine AllOps.cons (fun s w' hB0 hd => ⟨fun j g h => (by cases h; exact dep hd 2 (by kernel_rfl)), Ow.mk (Xw.lit (vs := ([11#32] : List (BitVec 32)).map i32) st_27 it_21 rfl (by kernel_rfl) rfl rfl rfl) (fun v w2 h => ⟨h.2.2.1, fun _ => own_slT h.1⟩)⟩) ?_
    refine AllOps.cons (fun s w' hB0 hd => ⟨fun j g h => (by cases h; exact dep hd 2 (by kernel_rfl)), ?_⟩) ?_
    · have hs : SlT i32 w' (s 4) [11#32] := dep hd 4 (by kernel_rfl)
      refine Ow.call (Xc.mk (mof_c (s 4) [11#32] w' hs).1 rfl) (mof_c (s 4) [11#32] w' hs) (fun v w2 ⟨hn, x, e, sx⟩ => ⟨hn, fun _ => ⟨x, s 4, e, sx, hs.bs hn⟩⟩)
    refine AllOps.cons (fun s w' hB0 hd => ⟨fun j g h => (by cases h; exact dep hd 2 (by kernel_rfl)), ?_⟩) ?_
    · have e3 : s 3 = a3.v := dep hd 3 (by kernel_rfl)
      obtain ⟨x, u, e5, h1, h2⟩ := show Ph.ok (.ten [11#32]) (s 5) w' from dep hd 5 (by kernel_rfl)
      have hc := same_c a3.x a3.y x u a3.s [((([11#32] : List (BitVec 32)).length : Nat) : Int)] a3.l [11#32] w' (h_a3.bs hB0).1 (h_a3.bs hB0).2 h1 h2
      refine Ow.call (Xc.mk (vs := [a3.v, .agg #[x, u]]) hc.1 (by show some [s 3, s 5] = _; rw [e3, e5])) hc (fun v w2 ⟨e, hn⟩ => ⟨hn, fun _ => ?_⟩)
      have p1 : a3.s = [1] := congrArg Prod.fst p_a3
      have p2 : a3.l = [11#32] := congrArg Prod.snd p_a3
      rw [e, p1, p2]
      rfl
    refine AllOps.cons (fun s w' hB0 hd => ⟨fun j g h => (by cases h), Ow.val (Ex.pickT (congrArg some (show s 2 = .bool true from dep hd 2 (by kernel_rfl))) rfl) ⟨Below.refl _ _, fun _ => dep hd 6 (by kernel_rfl)⟩⟩) ?_
    refine AllOps.cons (fun s w' hB0 hd => ⟨fun j g h => (by cases h), Ow.val (Ex.move rfl) ⟨Below.refl _ _, fun _ => dep hd 7 (by kernel_rfl)⟩⟩) ?_
    refine AllOps.cons (fun s w' hB0 hd => ⟨fun j g h => (by cases h; exact dep hd 8 (by kernel_rfl)), Ow.val (Ex.move rfl) ⟨Below.refl _ _, fun _ => rfl⟩⟩) ?_
    refine AllOps.cons (fun s w' hB0 hd => ⟨fun j g h => (by cases h; exact dep hd 8 (by kernel_rfl)), Ow.val (Ex.eql (m := 0) (q := 0) (congrArg some (show s 9 = .int .i64 0 from dep hd 9 (by kernel_rfl))) rfl) ⟨Below.refl _ _, fun _ => rfl⟩⟩) ?_
    refine AllOps.cons (fun s w' hB0 hd => ⟨fun j g h => (by cases h), Ow.val (Ex.pickT (congrArg some (show s 8 = .bool true from dep hd 8 (by kernel_rfl))) rfl) ⟨Below.refl _ _, fun _ => dep hd 10 (by kernel_rfl)⟩⟩) ?_
    refine AllOps.cons (fun s w' hB0 hd => ⟨fun j g h => (by cases h), Ow.val (Ex.move rfl) ⟨Below.refl _ _, fun _ => dep hd 11 (by kernel_rfl)⟩⟩) ?_
    refine AllOps.cons (fun s w' hB0 hd => ⟨fun j g h => (by cases h; exact dep hd 12 (by kernel_rfl)), Ow.val (Ex.move rfl) ⟨Below.refl _ _, fun _ => rfl⟩⟩) ?_
    refine AllOps.cons (fun s w' hB0 hd => ⟨fun j g h => (by cases h; exact dep hd 12 (by kernel_rfl)), Ow.mk (Xw.lit (vs := ([1#32, 2#32] : List (BitVec 32)).map i32) st_27 it_21 rfl (by kernel_rfl) rfl rfl rfl) (fun v w2 h => ⟨h.2.2.1, fun _ => own_slT h.1⟩)⟩) ?_
    refine AllOps.cons (fun s w' hB0 hd => ⟨fun j g h => (by cases h; exact dep hd 12 (by kernel_rfl)), ?_⟩) ?_
    · have hs : SlT i32 w' (s 14) [1#32, 2#32] := dep hd 14 (by kernel_rfl)
      refine Ow.call (Xc.mk (mof_c (s 14) [1#32, 2#32] w' hs).1 rfl) (mof_c (s 14) [1#32, 2#32] w' hs) (fun v w2 ⟨hn, x, e, sx⟩ => ⟨hn, fun _ => ⟨x, s 14, e, sx, hs.bs hn⟩⟩)
    refine AllOps.cons (fun s w' hB0 hd => ⟨fun j g h => (by cases h; exact dep hd 12 (by kernel_rfl)), Ow.mk (Xw.lit (vs := ([3#32, 4#32] : List (BitVec 32)).map i32) st_27 it_21 rfl (by kernel_rfl) rfl rfl rfl) (fun v w2 h => ⟨h.2.2.1, fun _ => own_slT h.1⟩)⟩) ?_
    refine AllOps.cons (fun s w' hB0 hd => ⟨fun j g h => (by cases h; exact dep hd 12 (by kernel_rfl)), ?_⟩) ?_
    · have hs : SlT i32 w' (s 16) [3#32, 4#32] := dep hd 16 (by kernel_rfl)
      refine Ow.call (Xc.mk (mof_c (s 16) [3#32, 4#32] w' hs).1 rfl) (mof_c (s 16) [3#32, 4#32] w' hs) (fun v w2 ⟨hn, x, e, sx⟩ => ⟨hn, fun _ => ⟨x, s 16, e, sx, hs.bs hn⟩⟩)
    refine AllOps.cons (fun s w' hB0 hd => ⟨fun j g h => (by cases h; exact dep hd 12 (by kernel_rfl)), Ow.mk (Xw.lit (vs := ([3#32, 8#32] : List (BitVec 32)).map i32) st_27 it_21 rfl (by kernel_rfl) rfl rfl rfl) (fun v w2 h => ⟨h.2.2.1, fun _ => own_slT h.1⟩)⟩) ?_
    refine AllOps.cons (fun s w' hB0 hd => ⟨fun j g h => (by cases h; exact dep hd 12 (by kernel_rfl)), ?_⟩) ?_
    · have hs : SlT i32 w' (s 18) [3#32, 8#32] := dep hd 18 (by kernel_rfl)
      refine Ow.call (Xc.mk (mof_c (s 18) [3#32, 8#32] w' hs).1 rfl) (mof_c (s 18) [3#32, 8#32] w' hs) (fun v w2 ⟨hn, x, e, sx⟩ => ⟨hn, fun _ => ⟨x, s 18, e, sx, hs.bs hn⟩⟩)
    refine AllOps.cons (fun s w' hB0 hd => ⟨fun j g h => (by cases h; exact dep hd 12 (by kernel_rfl)), Ow.mk (Xw.lit (vs := ([11#32] : List (BitVec 32)).map i32) st_27 it_21 rfl (by kernel_rfl) rfl rfl rfl) (fun v w2 h => ⟨h.2.2.1, fun _ => own_slT h.1⟩)⟩) ?_
    refine AllOps.cons (fun s w' hB0 hd => ⟨fun j g h => (by cases h; exact dep hd 12 (by kernel_rfl)), ?_⟩) ?_
    · have hs : SlT i32 w' (s 20) [11#32] := dep hd 20 (by kernel_rfl)
      refine Ow.call (Xc.mk (mof_c (s 20) [11#32] w' hs).1 rfl) (mof_c (s 20) [11#32] w' hs) (fun v w2 ⟨hn, x, e, sx⟩ => ⟨hn, fun _ => ⟨x, s 20, e, sx, hs.bs hn⟩⟩)
    refine AllOps.cons (fun s w' hB0 hd => ⟨fun j g h => (by cases h; exact dep hd 12 (by kernel_rfl)), ?_⟩) ?_
    · obtain ⟨x5, u5, e5, h5, g5⟩ := show Ph.ok (.ten [1#32, 2#32]) (s 15) w' from dep hd 15 (by kernel_rfl)
      obtain ⟨x6, u6, e6, h6, g6⟩ := show Ph.ok (.ten [3#32, 4#32]) (s 17) w' from dep hd 17 (by kernel_rfl)
      obtain ⟨x7, u7, e7, h7, g7⟩ := show Ph.ok (.ten [3#32, 8#32]) (s 19) w' from dep hd 19 (by kernel_rfl)
      obtain ⟨x8, u8, e8, h8, g8⟩ := show Ph.ok (.ten [11#32]) (s 21) w' from dep hd 21 (by kernel_rfl)
      refine Ow.mk (Xw.litA (sz := 2) (ps := [(0, .tmp 82), (1, .tmp 84), (2, .tmp 86), (3, .tmp 88)]) (vs := [(0, .agg #[x5, u5]), (1, .agg #[x6, u6]), (2, .agg #[x7, u7]), (3, .agg #[x8, u8])]) (cs := cellsOf [⟨x5, u5, [2], [1#32, 2#32]⟩, ⟨x6, u6, [2], [3#32, 4#32]⟩, ⟨x7, u7, [2], [3#32, 8#32]⟩, ⟨x8, u8, [1], [11#32]⟩]) st_25 it_29 (by show some [(0, s 15), (1, s 17), (2, s 19), (3, s 21)] = _; rw [e5, e6, e7, e8]) (by decide) (by decide) (by decide) (by kernel_rfl) rfl) (fun v w2 ⟨ho, _, hn, _⟩ => ⟨hn, fun _ => ⟨[⟨x5, u5, [2], [1#32, 2#32]⟩, ⟨x6, u6, [2], [3#32, 4#32]⟩, ⟨x7, u7, [2], [3#32, 8#32]⟩, ⟨x8, u8, [1], [11#32]⟩], ⟨own_sl ho, fun t ht => ?_⟩, rfl⟩⟩)
      simp only [List.mem_cons, List.not_mem_nil, or_false] at ht
      rcases ht with rfl | rfl | rfl | rfl
      · exact ⟨h5.bs hn, g5.bs hn⟩
      · exact ⟨h6.bs hn, g6.bs hn⟩
      · exact ⟨h7.bs hn, g7.bs hn⟩
      · exact ⟨h8.bs hn, g8.bs hn⟩
    refine AllOps.cons (fun s w' hB0 hd => ⟨fun j g h => (by cases h; exact dep hd 12 (by kernel_rfl)), ?_⟩) ?_
    · have e3 : s 13 = q4 := dep hd 13 (by kernel_rfl)
      obtain ⟨ts, h1, h2⟩ := show Ph.ok (.tens [([2], [1#32, 2#32]), ([2], [3#32, 4#32]), ([2], [3#32, 8#32]), ([1], [11#32])]) (s 22) w' from dep hd 22 (by kernel_rfl)
      have hc := sameTs_c q4 (s 22) ts4 ts w' (h_q4.bs hB0) h1
      refine Ow.call (Xc.mk (vs := [q4, s 22]) hc.1 (by show some [s 13, s 22] = _; rw [e3])) hc (fun v w2 ⟨e, hn⟩ => ⟨hn, fun _ => ?_⟩)
      rw [e, p_4, h2, decide_eq_true rfl]
      rfl
    refine AllOps.cons (fun s w' hB0 hd => ⟨fun j g h => (by cases h), Ow.val (Ex.pickT (congrArg some (show s 12 = .bool true from dep hd 12 (by kernel_rfl))) rfl) ⟨Below.refl _ _, fun _ => dep hd 23 (by kernel_rfl)⟩⟩) ?_
    refine AllOps.cons (fun s w' hB0 hd => ⟨fun j g h => (by cases h), Ow.val (Ex.move rfl) ⟨Below.refl _ _, fun _ => dep hd 24 (by kernel_rfl)⟩⟩) ?_
    refine AllOps.cons (fun s w' hB0 hd => ⟨fun j g h => (by cases h; exact dep hd 25 (by kernel_rfl)), Ow.val (Ex.move rfl) ⟨Below.refl _ _, fun _ => rfl⟩⟩) ?_
    refine AllOps.cons (fun s w' hB0 hd => ⟨fun j g h => (by cases h; exact dep hd 25 (by kernel_rfl)), Ow.val (Ex.eql (m := 1) (q := 1) (congrArg some (show s 26 = .int .i64 1 from dep hd 26 (by kernel_rfl))) rfl) ⟨Below.refl _ _, fun _ => rfl⟩⟩) ?_
    refine AllOps.cons (fun s w' hB0 hd => ⟨fun j g h => (by cases h), Ow.val (Ex.pickT (congrArg some (show s 25 = .bool true from dep hd 25 (by kernel_rfl))) rfl) ⟨Below.refl _ _, fun _ => dep hd 27 (by kernel_rfl)⟩⟩) ?_
    refine AllOps.cons (fun s w' hB0 hd => ⟨fun j g h => (by cases h), Ow.val (Ex.move rfl) ⟨Below.refl _ _, fun _ => dep hd 28 (by kernel_rfl)⟩⟩) ?_
    refine AllOps.cons (fun s w' hB0 hd => ⟨fun j g h => (by cases h; exact dep hd 29 (by kernel_rfl)), Ow.val (Ex.move rfl) ⟨Below.refl _ _, fun _ => rfl⟩⟩) ?_
    refine AllOps.cons (fun s w' hB0 hd => ⟨fun j g h => (by cases h; exact dep hd 29 (by kernel_rfl)), Ow.val (Ex.eql (m := 1) (q := 1) (congrArg some (show s 30 = .int .i64 1 from dep hd 30 (by kernel_rfl))) rfl) ⟨Below.refl _ _, fun _ => rfl⟩⟩) ?_
    refine AllOps.cons (fun s w' hB0 hd => ⟨fun j g h => (by cases h), Ow.val (Ex.pickT (congrArg some (show s 29 = .bool true from dep hd 29 (by kernel_rfl))) rfl) ⟨Below.refl _ _, fun _ => dep hd 31 (by kernel_rfl)⟩⟩) ?_
    refine AllOps.cons (fun s w' hB0 hd => ⟨fun j g h => (by cases h), Ow.val (Ex.move rfl) ⟨Below.refl _ _, fun _ => dep hd 32 (by kernel_rfl)⟩⟩) ?_
    refine AllOps.cons (fun s w' hB0 hd => ⟨fun j g h => (by cases h; exact dep hd 33 (by kernel_rfl)), Ow.val (Ex.move rfl) ⟨Below.refl _ _, fun _ => rfl⟩⟩) ?_
    refine AllOps.cons (fun s w' hB0 hd => ⟨fun j g h => (by cases h; exact dep hd 33 (by kernel_rfl)), Ow.val (Ex.eql (m := 10) (q := 10) (congrArg some (show s 34 = .int .i64 10 from dep hd 34 (by kernel_rfl))) rfl) ⟨Below.refl _ _, fun _ => rfl⟩⟩) ?_
    refine AllOps.cons (fun s w' hB0 hd => ⟨fun j g h => (by cases h), Ow.val (Ex.pickT (congrArg some (show s 33 = .bool true from dep hd 33 (by kernel_rfl))) rfl) ⟨Below.refl _ _, fun _ => dep hd 35 (by kernel_rfl)⟩⟩) ?_
    refine AllOps.cons (fun s w' hB0 hd => ⟨fun j g h => (by cases h), Ow.val (Ex.move rfl) ⟨Below.refl _ _, fun _ => dep hd 36 (by kernel_rfl)⟩⟩) ?_
    refine AllOps.cons (fun s w' hB0 hd => ⟨fun j g h => (by cases h; exact dep hd 37 (by kernel_rfl)), Ow.val (Ex.move rfl) ⟨Below.refl _ _, fun _ => rfl⟩⟩) ?_
    refine AllOps.cons (fun s w' hB0 hd => ⟨fun j g h => (by cases h; exact dep hd 37 (by kernel_rfl)), Ow.val (Ex.eql (m := 1) (q := 1) (congrArg some (show s 38 = .int .i64 1 from dep hd 38 (by kernel_rfl))) rfl) ⟨Below.refl _ _, fun _ => rfl⟩⟩) ?_
    refine AllOps.cons (fun s w' hB0 hd => ⟨fun j g h => (by cases h), Ow.val (Ex.pickT (congrArg some (show s 37 = .bool true from dep hd 37 (by kernel_rfl))) rfl) ⟨Below.refl _ _, fun _ => dep hd 39 (by kernel_rfl)⟩⟩) ?_
    refine AllOps.cons (fun s w' hB0 hd => ⟨fun j g h => (by cases h), Ow.val (Ex.assign rfl) ⟨Below.refl _ _, fun _ => dep hd 40 (by kernel_rfl)⟩⟩) ?_
    exact AllOps.nil
  intro s w' hB1 hall
  have h41 : s 41 = .bool true := hall 41 (by decide) rfl
  have hBF := bt hB hB1
  refine Pw.thenN (Cw.out ?_)
  refine Cw.ret ?_
  refine Pw.ret1 rfl rfl ?_
  exact ⟨h41, hBF⟩
end Go.Proofs.YtmipoeanpnnjoaaGreat

/-! Nodes, graphs and tensors as a statement's argument; how great they are. -/
namespace Go.Proofs.YtmipoeanpnnjoaaGreat
open Go Go.Dd Go.RowKit Go.ChangeShapes Go.WideShapes
set_option maxRecDepth 100000

def fewT (a : T4) : Prop := a.s.length ≤ 1125899906842624 ∧ a.l.length ≤ 1125899906842624
structure N5.few (a : N5) : Prop where
  i : a.i.length ≤ 1125899906842624
  s : a.s.length ≤ 1125899906842624
  n : -9223372036854775808 ≤ a.n ∧ a.n ≤ 9223372036854775807
  p : -9223372036854775808 ≤ a.p ∧ a.p ≤ 9223372036854775807
theorem five_of {α : Type} {l : List α} (h : l.length = 5) : ∃ a b c d e, l = [a, b, c, d, e] := by
  match l, h with
  | [a, b, c, d, e], _ => exact ⟨a, b, c, d, e, rfl⟩
theorem in_node {H : Type} {enc : TypeId × Value → H} {w : World} {cs : List Value} (h : In enc Tryz.prog w nodeT cs) : ∃ a : N5, cs = a.cells ∧ N5.at w a ∧ a.few := by
  obtain ⟨hlen, hel⟩ := h.struct Tryz.underlying45
  have c5 : Tryz.prog.cellsOf nodeT = 5 := by kernel_rfl
  have c1 : Tryz.prog.cellsOf 26 = 1 := by kernel_rfl
  have d1 : Tryz.prog.cellsOf 3 = 1 := by kernel_rfl
  have e1 : Tryz.prog.cellsOf 43 = 1 := by kernel_rfl
  rw [c5] at hlen
  obtain ⟨k0, x0, y0, n0, p0, rfl⟩ := five_of hlen
  obtain ⟨k, ek⟩ := In.num (BitVec.ofInt 8) b8 (fun _ h => wf_u8 h) un_43 (hel 0 _ rfl)
  obtain ⟨u0, i, e0, h0, q0⟩ := (hel 1 _ rfl).slT un_26 (by kernel_rfl) (fun cs h => (In.int un_3 h).imp fun _ h => h.1)
  obtain ⟨u1, s, e2, h1, q1⟩ := (hel 2 _ rfl).slT un_26 (by kernel_rfl) (fun cs h => (In.int un_3 h).imp fun _ h => h.1)
  obtain ⟨n, en, wn⟩ := In.int un_3 (hel 3 _ rfl)
  obtain ⟨p, ep, wp⟩ := In.int un_3 (hel 4 _ rfl)
  have k0 : Tryz.prog.bytesOf 3 = 8 := by kernel_rfl
  rw [k0] at q0 q1
  simp [c1, d1, e1] at ek e0 e2 en ep
  subst e0 e2 ek en ep
  have hr : reachBytes ≤ 140737488355328 := by decide
  exact ⟨⟨k, x0, y0, i, s, n, p⟩, rfl, ⟨h0, h1⟩, ⟨by simp only; omega, by simp only; omega, wf_i64 wn, wf_i64 wp⟩⟩
theorem arg_node {H : Type} {enc : TypeId × Value → H} {w : World} {base : Nat} {v : Value} (ho : Value.okWide Tryz.prog w .any base nodeT v) (h : In enc Tryz.prog w nodeT v.cells.toList) : ∃ a : N5, v = a.v ∧ N5.at w a ∧ a.few := by
  obtain ⟨cs, rfl, hin⟩ := arg_struct Tryz.underlying45 ho h
  obtain ⟨a, rfl, h1⟩ := in_node hin
  exact ⟨a, rfl, h1⟩
theorem tens_of {H : Type} {enc : TypeId × Value → H} {w : World} : ∀ {n : Nat} {xs : List Value}, xs.length = n * 2 → (∀ i, i < n → In enc Tryz.prog w 29 ((xs.drop (i * 2)).take 2)) →
    ∃ ts : List T4, ts.length = n ∧ cellsOf ts = xs ∧ ∀ t ∈ ts, t.at w ∧ fewT t
  | 0, xs, hl, _ => by
    obtain rfl : xs = [] := List.eq_nil_of_length_eq_zero (by omega)
    exact ⟨[], rfl, rfl, fun t ht => by simp at ht⟩
  | n + 1, [], hl, _ => by simp at hl
  | n + 1, [_], hl, _ => by simp at hl; omega
  | n + 1, x :: y :: xs, hl, h => by
    obtain ⟨a, ea, ha, b1, b2⟩ := in_ten (h 0 (by omega))
    obtain ⟨ts, h1, h2, h3⟩ := tens_of (n := n) (xs := xs) (by simp at hl; omega) fun i hi => by
      have := h (i + 1) (by omega)
      rw [show (i + 1) * 2 = i * 2 + 1 + 1 by omega] at this
      simpa using this
    simp at ea
    refine ⟨a :: ts, by simp [h1], by rw [cellsOf, h2, ea.1, ea.2], fun t ht => ?_⟩
    rcases List.mem_cons.1 ht with rfl | ht
    · exact ⟨ha, by omega, by omega⟩
    · exact h3 t ht
theorem in_tens {H : Type} {enc : TypeId × Value → H} {w : World} {cs : List Value} (h : In enc Tryz.prog w 25 cs) : ∃ v, cs = [v] ∧ ∃ ts : List T4, Tens w v ts ∧ ts.length ≤ 1125899906842624 ∧ ∀ t ∈ ts, fewT t := by
  obtain ⟨v, n, xs, e, hs, hb, hi⟩ := h.slice un_25 (sz := 2) (by kernel_rfl)
  obtain ⟨ts, h1, h2, h3⟩ := tens_of hs.len hi
  subst h1 h2
  have hr : reachBytes ≤ 140737488355328 := by decide
  have kb : Tryz.prog.bytesOf 29 = 48 := by kernel_rfl
  rw [kb] at hb
  exact ⟨v, e, ts, ⟨hs, fun t ht => (h3 t ht).1⟩, by omega, fun t ht => (h3 t ht).2⟩
theorem arg_tens {H : Type} {enc : TypeId × Value → H} {w : World} {base : Nat} {v : Value} (ho : Value.okWide Tryz.prog w .any base 25 v) (h : In enc Tryz.prog w 25 v.cells.toList) :
    ∃ ts : List T4, Tens w v ts ∧ ts.length ≤ 1125899906842624 ∧ ∀ t ∈ ts, fewT t := by
  obtain ⟨a, len, cap, rfl⟩ := okWide_slice un_25 ho
  obtain ⟨v, e, h⟩ := in_tens h
  simp [Value.cells] at e
  subst e
  exact h
/-! ### How great -/
def tot : Int → List Int → Int
  | n, [] => n
  | n, x :: l => if n ≤ 1048576 then tot (n + x) l else n
theorem tot_le : ∀ {l : List Int} {n : Int}, (∀ x ∈ l, 0 ≤ x) → n ≤ tot n l
  | [], n, _ => Int.le_refl _
  | x :: l, n, h => by
    unfold tot
    split
    · have := tot_le (n := n + x) fun y hy => h y (List.mem_cons_of_mem _ hy)
      have := h x (by simp)
      omega
    · exact Int.le_refl _
theorem tsz_pos (s : List Int) (l : List (BitVec 32)) : 1 ≤ tsz s l := by unfold tsz; split <;> omega
theorem tsz_few {a : T4} (h : fewT a) : tsz a.s a.l ≤ 4503599627370496 := by have h1 := h.1; have h2 := h.2; unfold tsz; split <;> omega
theorem tot_drop {l : List Int} {i : Nat} {n : Int} (hi : i < l.length) : tot n (l.drop i) = if n ≤ 1048576 then tot (n + l.getD i default) (l.drop (i + 1)) else n := by
  rw [List.drop_eq_getElem_cons hi]
  simp only [tot, List.getD_eq_getElem?_getD, List.getElem?_eq_getElem hi, Option.getD_some]
theorem tsizes_c (v : Value) (ts : List T4) (w : World) (h : Tens w v ts) (hl : ts.length ≤ 1125899906842624) (hf : ∀ t ∈ ts, fewT t) : Fnc Tryz.prog 23 [v] w (fun r w' => r = .int .i64 (tot (ts.length : Int) (ts.map fun t => tsz t.s t.l)) ∧ Below w.heap.size w w') := by
  have sv := h.1
  have lv := sv.le
  obtain ⟨T, hT⟩ : ∃ T, T = tot (ts.length : Int) (ts.map fun t => tsz t.s t.l) := ⟨_, rfl⟩
  rw [← hT]
  refine Fnc.enter (n := 25) Tryz.func23 (by kernel_rfl) rfl rfl rfl ?_
  refine Cw.seq ?_
  refine Cw.region ?_
  refine Lw.val (Ex.assign rfl) rfl ?_
  refine Lw.nil ?_
  refine Pw.thenN (Cw.out ?_)
  refine Cw.seq ?_
  refine Cw.region ?_
  refine Lw.val (Ex.move rfl) rfl ?_
  refine Lw.val (Ex.lenS st_25 rfl (by assumption)) rfl ?_
  refine Lw.val (Ex.assign rfl) rfl ?_
  refine Lw.nil ?_
  refine Pw.thenN (Cw.out ?_)
  refine Cw.seq ?_
  refine Cw.seq ?_
  refine Cw.region ?_
  refine Lw.val (Ex.assign rfl) rfl ?_
  refine Lw.nil ?_
  refine Pw.thenN (Cw.out ?_)
  refine Cw.block ?_
  refine Cw.loop (S := (Nat × Int)) (fun p => [(0, v), (3, .int .i64 p.2), (4, .int .i64 (p.1 : Int))]) (fun p w' => p.1 ≤ ts.length ∧ 0 ≤ p.2 ∧ p.2 ≤ 1125899906842624 + 4503599627370496 + 1048576 ∧ tot p.2 ((ts.map fun t => tsz t.s t.l).drop p.1) = T ∧ Below w.heap.size w w') (fun p => ts.length - p.1) ((0, (ts.length : Int))) ⟨rfl, rfl, rfl, trivial⟩ ?_ ?_
  · exact ⟨Nat.zero_le _, by simp only; omega, by simp only; omega, hT.symm, Below.refl _ _⟩
  rintro ⟨i, n⟩ w1 ⟨hi, h0, h1, hE, hB⟩
  replace hi : i ≤ ts.length := hi
  replace h0 : 0 ≤ n := h0
  replace h1 : n ≤ 1125899906842624 + 4503599627370496 + 1048576 := h1
  replace hE : tot n ((ts.map fun t => tsz t.s t.l).drop i) = T := hE
  have sv := sv.bs hB
  refine Cw.seq ?_
  refine Cw.seq ?_
  refine Cw.region ?_
  refine Lw.val (Ex.move rfl) rfl ?_
  refine Lw.val (Ex.move rfl) rfl ?_
  refine Lw.val (Ex.lenS st_25 rfl (by assumption)) rfl ?_
  refine Lw.val (Ex.lss rfl rfl) rfl ?_
  refine Lw.val (Ex.move rfl) rfl ?_
  refine Lw.part 11 rfl ?_ ?_
  · intro g
    have hi' : i < ts.length := by have := of_decide_eq_true g; omega
    have e1 := tot_drop (n := n) (l := ts.map fun t => tsz t.s t.l) (i := i) (by rw [List.length_map]; exact hi')
    obtain ⟨a, ha⟩ : ∃ a, a = ts[i] := ⟨_, rfl⟩
    have e2 : (ts.map fun t => tsz t.s t.l).getD i default = tsz a.s a.l := by rw [List.getD_eq_getElem?_getD, List.getElem?_map, List.getElem?_eq_getElem hi', ← ha]; rfl
    have hm : a ∈ ts := ha ▸ List.getElem_mem hi'
    have hfa := hf a hm
    have b1 := tsz_pos a.s a.l
    have b2 := tsz_few hfa
    have hcs := ten_cells hi'
    rw [← ha] at hcs
    rw [e1, e2] at hE
    refine Lw.take (dj := 11) rfl rfl ?_
    refine Lw.val (Ex.move rfl) rfl ?_
    refine Lw.take (dj := 11) rfl rfl ?_
    refine Lw.val (Ex.leq rfl rfl) rfl ?_
    refine Lw.val (Ex.pickT rfl rfl) rfl ?_
    refine Lw.nil ?_
    refine Pw.thenN (Cw.out ?_)
    refine Cw.cond rfl ?_ ?_
    · intro g2
      have g2 : n ≤ 1048576 := of_decide_eq_true g2
      rw [if_pos g2] at hE
      refine Cw.skip ?_
      refine Pw.thenN (Cw.out ?_)
      refine Cw.seq ?_
      refine Cw.block ?_
      refine Cw.region ?_
      refine Lw.val (Ex.move rfl) rfl ?_
      refine Lw.val (Ex.move rfl) rfl ?_
      refine Lw.val (Ex.move rfl) rfl ?_
      refine Lw.val (Ex.idx st_25 rfl rfl sv i rfl hi') rfl ?_
      refine Lw.val (Ex.ldE (cs := [a.x, a.y]) (ag_29 _) (sz_29 _) rfl sv rfl (by decide) hcs) rfl ?_
      refine Lw.callF rfl rfl (tsize_c a w1 ((h.2 a hm).bs hB) hfa.1 hfa.2) ?_
      rintro _ w2 ⟨rfl, hn⟩
      refine Lw.val (Ex.addI rfl rfl (by omega)) rfl ?_
      refine Lw.val (Ex.assign rfl) rfl ?_
      refine Lw.nil ?_
      refine Pw.blkN ?_
      refine Pw.thenN (Cw.out ?_)
      refine Cw.region ?_
      refine Lw.val (Ex.move rfl) rfl ?_
      refine Lw.val (Ex.addI rfl rfl (by omega)) rfl ?_
      refine Lw.val (Ex.assign rfl) rfl ?_
      refine Lw.nil ?_
      exact Pw.thenN (Pw.next ((i + 1, n + tsz a.s a.l)) ⟨rfl, rfl, rfl, trivial⟩ (⟨hi', by simp only; omega, by simp only; omega, hE, bt hB hn⟩) (by simp only; omega))
    intro g2
    have g2 : ¬ n ≤ 1048576 := of_decide_eq_false g2
    rw [if_neg g2] at hE
    refine Cw.exit ?_
    refine Pw.thenE ?_
    refine Pw.thenE ?_
    refine Pw.blkHit ?_
    refine Pw.thenN (Cw.out ?_)
    refine Cw.seq ?_
    refine Cw.region ?_
    refine Lw.val (Ex.move rfl) rfl ?_
    refine Lw.val (Ex.assign rfl) rfl ?_
    refine Lw.nil ?_
    refine Pw.thenN (Cw.out ?_)
    refine Cw.ret ?_
    refine Pw.ret1 rfl rfl ?_
    exact ⟨by rw [← hE], hB⟩
  intro g
  have hi' : i = ts.length := by have := of_decide_eq_false g; omega
  have hE2 : n = T := by
    rw [hi', List.drop_of_length_le (by simp)] at hE; exact hE
  refine Lw.pass (dj := 11) rfl rfl rfl rfl ?_
  refine Lw.pass (dj := 11) rfl rfl rfl rfl ?_
  refine Lw.val (Ex.pickF rfl rfl) rfl ?_
  refine Lw.nil ?_
  refine Pw.thenN (Cw.out ?_)
  refine Cw.condF rfl ?_
  refine Cw.exit ?_
  refine Pw.thenE ?_
  refine Pw.thenE ?_
  refine Pw.blkHit ?_
  refine Pw.thenN (Cw.out ?_)
  refine Cw.seq ?_
  refine Cw.region ?_
  refine Lw.val (Ex.move rfl) rfl ?_
  refine Lw.val (Ex.assign rfl) rfl ?_
  refine Lw.nil ?_
  refine Pw.thenN (Cw.out ?_)
  refine Cw.ret ?_
  refine Pw.ret1 rfl rfl ?_
  exact ⟨by rw [hE2], hB⟩
def nsz (a : N5) : Int := if 1 + (a.i.length : Int) ≤ 1048576 then 1 + (a.i.length : Int) + (a.s.length : Int) else 1 + (a.i.length : Int)
theorem nsz_le {a : N5} {m : Int} (h : nsz a ≤ m) (hm : m ≤ 1048576) : (a.i.length : Int) + a.s.length + 1 ≤ m := by unfold nsz at h; split at h <;> omega
theorem nsize_c (a : N5) (w : World) (ha : N5.at w a) (hf : a.few) : Fnc Tryz.prog 22 [a.v] w (fun r w' => r = .int .i64 (nsz a) ∧ Below w.heap.size w w') := by
  have hB := Below.refl w.heap.size w
  have h_i := ha.i
  have h_s := ha.s
  have f_i := hf.i
  have f_s := hf.s
  refine Fnc.enter (n := 19) Tryz.func22 (by kernel_rfl) rfl rfl rfl ?_
  refine Cw.seq ?_
  refine Cw.region ?_
  refine Lw.boxV (cs := a.cells) rfl rfl rfl ?_
  rintro A_n w eA_n b_n hn -
  replace hB := hB.bs hn
  replace h_i := h_i.bs hn
  replace h_s := h_s.bs hn
  clear hn
  refine Lw.val (Ex.assign rfl) rfl ?_
  refine Lw.nil ?_
  refine Pw.thenN (Cw.out ?_)
  refine Cw.seq ?_
  refine Cw.region ?_
  refine Lw.val (Ex.assign rfl) rfl ?_
  refine Lw.nil ?_
  refine Pw.thenN (Cw.out ?_)
  refine Cw.seq ?_
  refine Cw.seq ?_
  refine Cw.region ?_
  refine Lw.val (Ex.move rfl) rfl ?_
  refine Lw.val (Ex.leq rfl rfl) rfl ?_
  refine Lw.nil ?_
  refine Pw.thenN (Cw.out ?_)
  refine Cw.condB rfl true (by decide) ?_
  refine Cw.region ?_
  refine Lw.val (Ex.move rfl) rfl ?_
  refine Lw.val (Ex.fieldAddr (q := 0) Tryz.underlying45 rfl (sz_26 _) rfl) rfl ?_
  refine Lw.val (Ex.ldB (ag_26 _) rfl (by assumption) rfl) rfl ?_
  refine Lw.callF rfl rfl (intsSize_c a.x a.i _ h_i) ?_
  rintro _ w2 ⟨rfl, hn⟩
  replace hB := hB.bs hn
  replace h_i := h_i.bs hn
  replace h_s := h_s.bs hn
  replace b_n := b_n.bs hn
  refine Lw.val (Ex.addI rfl rfl (by omega)) rfl ?_
  refine Lw.val (Ex.assign rfl) rfl ?_
  refine Lw.nil ?_
  refine Pw.thenN (Cw.out ?_)
  refine Cw.seq ?_
  refine Cw.seq ?_
  refine Cw.region ?_
  refine Lw.val (Ex.move rfl) rfl ?_
  refine Lw.val (Ex.leq rfl rfl) rfl ?_
  refine Lw.nil ?_
  refine Pw.thenN (Cw.out ?_)
  refine Cw.cond rfl ?_ ?_
  · intro g
    have g' := of_decide_eq_true g
    refine Cw.region ?_
    refine Lw.val (Ex.move rfl) rfl ?_
    refine Lw.val (Ex.fieldAddr (q := 0) Tryz.underlying45 rfl (sz_26 _) rfl) rfl ?_
    refine Lw.val (Ex.ldB (ag_26 _) rfl (by assumption) rfl) rfl ?_
    refine Lw.callF rfl rfl (intsSize_c a.y a.s w2 h_s) ?_
    rintro _ w3 ⟨rfl, hn⟩
    replace hB := hB.bs hn
    replace h_i := h_i.bs hn
    replace h_s := h_s.bs hn
    replace b_n := b_n.bs hn
    refine Lw.val (Ex.addI rfl rfl (by omega)) rfl ?_
    refine Lw.val (Ex.assign rfl) rfl ?_
    refine Lw.nil ?_
    refine Pw.thenN (Cw.out ?_)
    refine Cw.seq ?_
    refine Cw.region ?_
    refine Lw.val (Ex.move rfl) rfl ?_
    refine Lw.val (Ex.assign rfl) rfl ?_
    refine Lw.nil ?_
    refine Pw.thenN (Cw.out ?_)
    refine Cw.ret ?_
    refine Pw.ret1 rfl rfl ?_
    exact ⟨by rw [nsz, if_pos g'], hB⟩
  · intro g
    have g' := of_decide_eq_false g
    refine Cw.skip ?_
    refine Pw.thenN (Cw.out ?_)
    refine Cw.seq ?_
    refine Cw.region ?_
    refine Lw.val (Ex.move rfl) rfl ?_
    refine Lw.val (Ex.assign rfl) rfl ?_
    refine Lw.nil ?_
    refine Pw.thenN (Cw.out ?_)
    refine Cw.ret ?_
    refine Pw.ret1 rfl rfl ?_
    exact ⟨by rw [nsz, if_neg g'], hB⟩
end Go.Proofs.YtmipoeanpnnjoaaGreat

/-! Contract: a node's twin, in memory of its own. -/
namespace Go.Proofs.YtmipoeanpnnjoaaGreat
open Go Go.Dd Go.RowKit
set_option maxRecDepth 100000

theorem own : ownKnob Tryz.prog.godebug = none := by kernel_rfl
theorem laidOut : laidOutB Tryz.prog = true := by kernel_rfl
theorem twn_mono {α : Type} {w : World} {B B' : Nat} {T : TypeId} {enc : α → Value} {mark v : Value} {l : List α} (h : Go.Dd.Twn w B T enc mark v l) (hb : B' ≤ B) : Go.Dd.Twn w B' T enc mark v l := by
  obtain ⟨b, cap, e, ho⟩ := h
  exact ⟨b, cap, e, own_mono ho hb⟩
theorem twn_by {α : Type} {w w' : World} {B : Nat} {r : Option Nat} {T : TypeId} {enc : α → Value} {mark v : Value} {l : List α} (h : Go.Dd.Twn w B T enc mark v l) (hg : w.grownBy w' r) (hr : v.ownBlock ≠ r) : Go.Dd.Twn w' B T enc mark v l := by
  obtain ⟨b, cap, rfl, ho⟩ := h
  exact ⟨b, cap, rfl, ho.kept hg (.inr fun e => hr e)⟩
abbrev tI (w : World) (B : Nat) (v : Value) (l : List Int) : Prop := Go.Dd.Twn w B 3 (Value.int .i64) (Value.int .i64 77) v l
/-- A node's lists, twinned. -/
structure TwinN (w : World) (lo hi : Nat) (x y : Value) (a : N5) : Prop where
  tx : tI w lo x a.i
  ty : tI w lo y a.s
  bx : ∀ b, x.ownBlock = some b → lo ≤ b ∧ b < hi
  by' : ∀ b, y.ownBlock = some b → lo ≤ b ∧ b < hi
  apart : ∀ b, x.ownBlock = some b → y.ownBlock ≠ some b
theorem TwinN.bs {w w' : World} {lo hi : Nat} {x y : Value} {a : N5} (h : TwinN w lo hi x y a) (g : Below w.heap.size w w') : TwinN w' lo hi x y a := ⟨h.tx.bs g, h.ty.bs g, h.bx, h.by', h.apart⟩
theorem TwinN.ne {w : World} {lo hi : Nat} {x y : Value} {a : N5} (h : TwinN w lo hi x y a) : y.ownBlock ≠ x.ownBlock := by
  obtain ⟨b, cap, rfl, -⟩ := h.tx
  exact fun e => h.apart b rfl e
theorem TwinN.at {w : World} {lo hi : Nat} {x y : Value} {a : N5} (h : TwinN w lo hi x y a) (k : BitVec 8) (n p : Int) : N5.at w ⟨k, x, y, a.i, a.s, n, p⟩ := ⟨h.tx.sl, h.ty.sl⟩
theorem TwinN.by {w w' : World} {lo hi r : Nat} {x y : Value} {a : N5} (h : TwinN w lo hi x y a) (g : w.grownBy w' (some r)) (hr : hi ≤ r) : TwinN w' lo hi x y a :=
  ⟨twn_by h.tx g fun e => by have := h.bx _ e; omega, twn_by h.ty g fun e => by have := h.by' _ e; omega, h.bx, h.by', h.apart⟩
theorem bt_node5 (k : BitVec 8) (x y : Value) (n p : Int) (hx : x.cells = [x].toArray) (hy : y.cells = [y].toArray) : Tryz.prog.built nodeT [(0, b8 k), (1, x), (2, y), (3, .int .i64 n), (4, .int .i64 p)] = some [b8 k, x, y, .int .i64 n, .int .i64 p].toArray := by
  have h1 : Tryz.prog.info? nodeT = some Tryz.t45 := by kernel_rfl
  have h2 : Tryz.prog.info? 3 = some Tryz.t3 := by kernel_rfl
  have h3 : Tryz.prog.info? 43 = some Tryz.t43 := by kernel_rfl
  have h4 : Tryz.prog.info? 26 = some Tryz.t26 := by kernel_rfl
  simp [Program.built, h1, Tryz.underlying45, h2, h3, h4, Instr.fill, hx, hy]
  rfl
theorem twinNode_c (a : N5) (W : World) (ha : N5.at W a) (hi : a.i.length ≤ 4194304) (hs : a.s.length ≤ 4194304) :
    Fnc Tryz.prog 24 [a.v] W (fun r w' => Below W.heap.size W w' ∧ ∃ x y, r = (N5.mk a.k x y a.i a.s a.n a.p).v ∧ TwinN w' W.heap.size w'.heap.size x y a) := by
  have hB := Below.refl W.heap.size W
  have h_i := ha.i
  have h_s := ha.s
  refine Fnc.enter (n := 16) Tryz.func24 (by kernel_rfl) rfl rfl rfl ?_
  refine Cw.seq ?_
  refine Cw.region ?_
  refine Lw.boxV (cs := a.cells) rfl rfl rfl ?_
  rintro A_x w eA_x b_x hn -
  replace hB := hB.bs hn
  replace h_i := h_i.bs hn
  replace h_s := h_s.bs hn
  clear hn
  have yx := blk_lt b_x
  have z1 := below_size hB
  refine Lw.newA it_45 rfl ?_
  rintro A_r w0 eA_r b_r hn zhn
  replace hB := hB.bs hn
  replace h_i := h_i.bs hn
  replace h_s := h_s.bs hn
  replace b_x := b_x.bs hn
  clear hn
  have z0 := below_size hB
  have yr := blk_lt b_r
  refine Lw.nil ?_
  refine Pw.thenN (Cw.out ?_)
  refine Cw.seq ?_
  refine Cw.any mixed (fun w hD _ => ?_)
  have b_x := b_x.bs hD
  refine Aw.cls (fun w' => Blk w' A_x nodeT a.cells) (fun hC => ?_) (b_x)
  have b_r0 := b_r
  refine AwC.take (i := 0) (NoP.thn NoP.ret) rfl (by kernel_rfl) (by kernel_rfl) (by kernel_rfl) (fun w1 hc => Ex.fieldAddr (q := 0) Tryz.underlying45 rfl (sz_43 _) rfl) rfl ?_
  refine AwC.take (i := 1) (NoP.thn NoP.ret) rfl (by kernel_rfl) (by kernel_rfl) (by kernel_rfl) (fun w1 hc => Ex.ldB (ag_43 _) rfl hc rfl) rfl ?_
  refine AwC.take (i := 2) (NoP.thn NoP.ret) rfl (by kernel_rfl) (by kernel_rfl) (by kernel_rfl) (fun w1 hc => Ex.fieldAddr (q := 0) Tryz.underlying45 rfl (sz_26 _) rfl) rfl ?_
  refine AwC.take (i := 3) (NoP.thn NoP.ret) rfl (by kernel_rfl) (by kernel_rfl) (by kernel_rfl) (fun w1 hc => Ex.ldB (ag_26 _) rfl hc rfl) rfl ?_
  refine AwC.take (i := 5) (NoP.thn NoP.ret) rfl (by kernel_rfl) (by kernel_rfl) (by kernel_rfl) (fun w1 hc => Ex.fieldAddr (q := 0) Tryz.underlying45 rfl (sz_26 _) rfl) rfl ?_
  refine AwC.take (i := 6) (NoP.thn NoP.ret) rfl (by kernel_rfl) (by kernel_rfl) (by kernel_rfl) (fun w1 hc => Ex.ldB (ag_26 _) rfl hc rfl) rfl ?_
  refine AwC.take (i := 8) (NoP.thn NoP.ret) rfl (by kernel_rfl) (by kernel_rfl) (by kernel_rfl) (fun w1 hc => Ex.fieldAddr (q := 0) Tryz.underlying45 rfl (sz_3 _) rfl) rfl ?_
  refine AwC.take (i := 9) (NoP.thn NoP.ret) rfl (by kernel_rfl) (by kernel_rfl) (by kernel_rfl) (fun w1 hc => Ex.ldB (ag_3 _) rfl hc rfl) rfl ?_
  refine AwC.take (i := 10) (NoP.thn NoP.ret) rfl (by kernel_rfl) (by kernel_rfl) (by kernel_rfl) (fun w1 hc => Ex.fieldAddr (q := 0) Tryz.underlying45 rfl (sz_3 _) rfl) rfl ?_
  refine AwC.take (i := 11) (NoP.thn NoP.ret) rfl (by kernel_rfl) (by kernel_rfl) (by kernel_rfl) (fun w1 hc => Ex.ldB (ag_3 _) rfl hc rfl) rfl ?_
  refine AwC.only (by assumption) (i := 4) (by kernel_rfl) rfl ?_
  refine Lw.callF rfl rfl (twinInts_c a.x a.i w (h_i.bs hD) hi) ?_
  rintro x w1 ⟨t_x, hn⟩
  have zc := hD.size
  have hD := bt hD hn
  have b_x := b_x.bs hn
  have n_x := fun b hb => own_block t_x.own b hb
  clear hn
  refine AwC.back ?_
  refine AwC.only (by assumption) (i := 7) (by kernel_rfl) rfl ?_
  refine Lw.callF rfl rfl (twinInts_c a.y a.s w1 (h_s.bs hD) hs) ?_
  rintro y w2 ⟨t_y, hn⟩
  have zc1 := hD.size
  have t_x := t_x.bs hn
  have z12 := hn.size
  have hD := bt hD hn
  have b_x := b_x.bs hn
  have zc2 := hD.size
  have n_y := fun b hb => own_block t_y.own b hb
  clear hn
  refine AwC.back ?_
  refine AwC.take (i := 12) (NoP.thn NoP.ret) rfl (by kernel_rfl) (by kernel_rfl) (by kernel_rfl) (fun w1 hc => Ex.build (cs := [b8 a.k, x, y, .int .i64 a.n, .int .i64 a.p]) rfl (bt_node5 a.k x y a.n a.p t_x.sl.one t_y.sl.one)) rfl ?_
  refine AwC.only (by assumption) (i := 13) (by kernel_rfl) rfl ?_
  refine Lw.unit (Xu.stA (cs := [b8 a.k, x, y, .int .i64 a.n, .int .i64 a.p]) (k := 5) (by kernel_rfl) rfl rfl rfl (by rw [List.all_cons, List.all_cons, List.all_cons, t_x.sl.one', t_y.sl.one']; rfl) (b_r0.bs hD) rfl) ?_
  rintro w3 ⟨b_r3, hg, hz⟩
  have hF := (bt hB hD).grown hg (below_size (bt hB hD)) (by rintro _ ⟨⟩; omega)
  have zf := hg.size
  have b_x := b_x.by hg (by rintro ⟨⟩; omega)
  have t_x := twn_by t_x hg fun e => by have := n_x A_r e; omega
  have t_y := twn_by t_y hg fun e => by have := n_y A_r e; omega
  have hT : TwinN w3 W.heap.size w3.heap.size x y a := ⟨twn_mono t_x (by omega), twn_mono t_y (by omega), fun b e => by have := n_x b e; omega, fun b e => by have := n_y b e; omega, fun b e e2 => by have := n_x b e; have := n_y b e2; omega⟩
  refine AwC.back ?_
  refine AwC.done (by assumption) (by kernel_rfl) ?_
  refine Pw.thenN (Cw.out ?_)
  refine Cw.ret ?_
  refine Pw.retC rfl rfl (by assumption) (Tryz.underlying45) rfl rfl rfl ?_
  exact ⟨hF, x, y, rfl, hT⟩
end Go.Proofs.YtmipoeanpnnjoaaGreat
