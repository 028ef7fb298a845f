/- Some tensors joined, as the document has it: for any tensors, any direction; no condition. -/
import Derived.Test.YtkhndfaampkbnaaGreatDoorRefJoin
import Derived.Test.YtkhndfaampkbnaaGreatDoorBookIn
import Derived.Test.YtkhndfaampkbnaaGreatDoorTensArg
import Derived.Test.YtkhndfaampkbnaaGreatDoorBookArg
import Derived.Test.YtkhndfaampkbnaaGreatDoorAnsGives
namespace Go.Proofs.YtkhndfaampkbnaaGreatDoor
open Go Go.Dd Go.RowKit Go.ChangeShapes Go.WideShapes Go.ChangeAt
set_option maxRecDepth 100000

/-! ### Joining asks for shapes and numbers alone -/
def nv (p : List Int × List (BitVec 32)) : T4 := ⟨.slice none 0 0, .slice none 0 0, p.1, p.2⟩
def nr (t : T4) : T4 := nv (vl t)
theorem jsum_nr (k : Nat) : ∀ ts : List T4, jsum k (ts.map nr) = jsum k ts
  | [] => rfl
  | t :: ts => by show t.s.getD k default + jsum k (ts.map nr) = t.s.getD k default + jsum k ts; rw [jsum_nr k ts]
theorem jv_nr (k : Nat) : ∀ (ts : List T4) (p : List Int), jv k (ts.map nr) p = jv k ts p
  | [], _ => rfl
  | t :: ts, p => by
    show (if p.getD k default < t.s.getD k default then tatV t.s t.l p else jv k (ts.map nr) _) = if p.getD k default < t.s.getD k default then tatV t.s t.l p else jv k ts _
    rw [jv_nr k ts]; rfl
theorem s0T_nr (ts : List T4) : s0T (ts.map nr) = s0T ts := by cases ts <;> rfl
theorem badT_nr (ts : List T4) : badT (ts.map nr) = badT ts := by unfold badT; rw [List.any_map]; rfl
theorem jn_nr (ts : List T4) (al : Int) : jnE (ts.map nr) al = jnE ts al ∧ (∀ k, jnS (ts.map nr) k = jnS ts k) ∧ ∀ k, jnL (ts.map nr) k = jnL ts k := by
  have h1 : ∀ k, jnS (ts.map nr) k = jnS ts k := fun k => by unfold jnS; rw [s0T_nr, jsum_nr]
  refine ⟨?_, h1, fun k => ?_⟩
  · have h2 : jnA (ts.map nr) al = jnA ts al := by unfold jnA; rw [s0T_nr, badT_nr, List.length_map]
    unfold jnE
    rw [h2, h1, List.all_map, s0T_nr]; rfl
  · unfold jnL
    rw [h1]
    exact List.map_congr_left fun i _ => jv_nr k ts _
theorem jn_congr {us ts : List T4} (h : us.map vl = ts.map vl) (al : Int) : jnE us al = jnE ts al ∧ (∀ k, jnS us k = jnS ts k) ∧ ∀ k, jnL us k = jnL ts k := by
  have e : us.map nr = ts.map nr := by
    have := congrArg (List.map nv) h
    rwa [List.map_map, List.map_map] at this
  obtain ⟨a1, a2, a3⟩ := jn_nr us al
  obtain ⟨b1, b2, b3⟩ := jn_nr ts al
  rw [e] at a1 a2 a3
  exact ⟨a1.symm.trans b1, fun k => (a2 k).symm.trans (b2 k), fun k => (a3 k).symm.trans (b3 k)⟩
theorem join_g (v : Value) (us ts : List T4) (al : Int) (W : World) (h : Tens W v us) (e : us.map vl = ts.map vl) : Fnc Tryz.prog 8 [v, .int .i64 al] W (fun r w' => Below W.heap.size W w' ∧ Gives W w' r (jnE ts al) (jnS ts al.toNat) (jnL ts al.toNat)) := by
  obtain ⟨e1, e2, e3⟩ := jn_congr e al
  have := mjoin_c v us al W h
  rw [e1, e2, e3] at this
  exact this.mono fun _ _ ⟨h1, h2⟩ => ⟨h1, h2.gives⟩
theorem rjoin_g (v : Value) (ts : List T4) (al : Int) (W : World) (h : Tens W v ts) : Fnc Tryz.prog 9 [v, .int .i64 al] W (fun r w' => Below W.heap.size W w' ∧ Gives W w' r (jnE ts al) (jnS ts al.toNat) (jnL ts al.toNat)) :=
  (rjoin_c v ts al W h).mono fun _ _ ⟨h1, h2⟩ => ⟨h1, h2.gives⟩
theorem jnS_few {ts : List T4} {al : Int} (h : jnE ts al = 0) : (jnS ts al.toNat).length ≤ 4 := by
  have hal : 0 ≤ al := by
    rcases Int.lt_or_le al 0 with h0 | h0
    · rw [jnE_bad (by unfold jnA; rw [decide_eq_true h0]; simp)] at h; cases h
    · exact h0
  obtain ⟨k, rfl⟩ : ∃ k : Nat, al = (k : Int) := ⟨al.toNat, by omega⟩
  have J := jnE_iff.1 h
  have := ((Shapes.ok_iff _).1 J.oks).1.2
  rw [Int.toNat_natCast, J.S]; exact this
theorem few_ans2 {e : Int} {s s1 : List Int} {l l1 : List (BitVec 32)} (a0 : e ≠ 0 → s1 = [] ∧ l1 = []) (a1 : e = 0 → s1 = s ∧ l1 = l) (hs : e = 0 → s.length ≤ 16777216) (hl : e = 0 → l.length ≤ 16777216) : s1.length ≤ 16777216 ∧ l1.length ≤ 16777216 := by
  by_cases h : e = 0
  · rw [(a1 h).1, (a1 h).2]; exact ⟨hs h, hl h⟩
  · rw [(a0 h).1, (a0 h).2]; simp
theorem tens_low2 {w : World} {lo hi B : Nat} {r : Value} {us : List T4} (h : TwinTs w lo hi r us) (hB : hi ≤ B) : (∀ b, r.ownBlock = some b → b < B) ∧ ∀ t ∈ us, t.low B :=
  ⟨fun b e => by have := h.rb b e; omega, fun t m => ⟨fun b e => by have := (h.tw t m).held.bx b e; omega, fun b e => by have := (h.tw t m).held.by' b e; omega⟩⟩
set_option maxHeartbeats 2000000 in
theorem movesJoin_w (v : Value) (ts : List T4) (al : Int) (W : World) (h : Tens W v ts) (hl : ts.length ≤ 1125899906842624) (hf : ∀ t ∈ ts, fewT t) :
    Fnc Tryz.prog 3 [v, .int .i64 al] W (fun r w' => r = .bool true ∧ Below W.heap.size W w') := by
  have hB := Below.refl W.heap.size W
  obtain ⟨T, hT⟩ : ∃ T, T = tot (ts.length : Int) (ts.map fun t => tsz t.s t.l) := ⟨_, rfl⟩
  have tp : ∀ x ∈ ts.map fun t => tsz t.s t.l, 0 ≤ x := fun x hx => by
    obtain ⟨a, _, rfl⟩ := List.mem_map.1 hx
    have := tsz_pos a.s a.l; omega
  have T0 := tot_le (n := (ts.length : Int)) tp
  have T1 := tot_hi (l := ts.map fun t => tsz t.s t.l) (n := (ts.length : Int)) (m := 4503599626321920) (fun x hx => by
    obtain ⟨a, ha, rfl⟩ := List.mem_map.1 hx
    have h1 := (hf a ha).1
    have h2 := (hf a ha).2
    unfold tsz; split <;> omega) (by decide)
  rw [← hT] at T0 T1
  have hTb : ∀ x ∈ [T], 0 ≤ x ∧ x ≤ 4503599627370496 := fun x hx => by rw [List.mem_singleton.1 hx]; omega
  refine Fnc.enter (n := 50) Tryz.func3 (by kernel_rfl) rfl rfl rfl ?_
  refine Cw.seq ?_
  refine Cw.region ?_
  refine Lw.val (Ex.assign rfl) rfl ?_
  refine Lw.nil ?_
  refine Pw.thenN (Cw.out ?_)
  refine Cw.seq ?_
  refine Cw.seq ?_
  refine Cw.region ?_
  refine Lw.val (Ex.move rfl) rfl ?_
  refine Lw.callF rfl rfl (tsizes_c v ts _ h hl hf) ?_
  rintro _ w ⟨rfl, hn⟩
  replace hB := hB.bs hn
  replace h := h.bs hn
  clear hn
  rw [← hT]
  refine Lw.valW (Xw.lit (vs := [T].map (Value.int .i64)) st_26 it_3 rfl rfl rfl rfl rfl) rfl ?_
  rintro g w ⟨ho, -, hn, -⟩
  replace hB := hB.bs hn
  replace h := h.bs hn
  clear hn
  refine Lw.callF rfl rfl (beyond_c g [T] w (own_slT ho) hTb) ?_
  rintro _ w ⟨rfl, hn⟩
  replace hB := hB.bs hn
  replace h := h.bs hn
  clear hn
  refine Lw.nil ?_
  refine Pw.thenN (Cw.out ?_)
  clear ho
  refine Cw.cond rfl ?_ ?_
  · intro _
    refine Cw.seq ?_
    refine Cw.region ?_
    refine Lw.val (Ex.assign rfl) rfl ?_
    refine Lw.nil ?_
    refine Pw.thenN (Cw.out ?_)
    refine Cw.ret ?_
    refine Pw.thenR ?_
    refine Pw.ret1 rfl rfl ?_
    exact ⟨rfl, hB⟩
  intro g1
  have T2 := bey_no (Int.le_refl 0) (fun x hx => (hTb x hx).1) g1 T (by simp)
  rw [hT] at T2 T0
  have te : ∀ t ∈ ts, t.s.length ≤ 4194304 ∧ t.l.length ≤ 4194304 := fun t ht => by
    have h1 := tot_each tp T2 (tsz t.s t.l) (List.mem_map.2 ⟨t, ht, rfl⟩)
    have h2 := tsz_leM (s := t.s) (l := t.l) (m := 1048576) (by omega) (by decide)
    omega
  clear g1 T1 hTb
  have t0 := below_size hB
  refine Cw.skip ?_
  refine Pw.thenN (Cw.out ?_)
  refine Cw.seq ?_
  refine Cw.region ?_
  refine Lw.val (Ex.move rfl) rfl ?_
  refine Lw.callF rfl rfl (twinTs2_c v ts _ h te (by omega)) ?_
  rintro tv w ⟨hn, us, hU, eU⟩
  obtain ⟨tU, htU⟩ : ∃ n, n = w.heap.size := ⟨_, rfl⟩
  rw [← htU] at hU
  have zU := hn.size
  replace hB := hB.bs hn
  replace h := h.bs hn
  clear hn
  have lus : us.length = ts.length := by have := congrArg List.length eU; simpa using this
  have ue : ∀ t ∈ us, t.s.length ≤ 4194304 ∧ t.l.length ≤ 4194304 := fun t ht => by
    have : vl t ∈ ts.map vl := by rw [← eU]; exact List.mem_map_of_mem ht
    obtain ⟨a, ha, e⟩ := List.mem_map.1 this
    have es : a.s = t.s := congrArg Prod.fst e
    have el : a.l = t.l := congrArg Prod.snd e
    rw [← es, ← el]; exact te a ha
  refine Lw.val (Ex.assign rfl) rfl ?_
  refine Lw.nil ?_
  refine Pw.thenN (Cw.out ?_)
  refine Cw.seq ?_
  refine Cw.region ?_
  refine Lw.val (Ex.move rfl) rfl ?_
  refine Lw.val (Ex.move rfl) rfl ?_
  refine Lw.callF rfl rfl (join_g tv us ts al _ hU.tens eU) ?_
  rintro _ w ⟨hn, x, rfl, h_x, n_x, y_x⟩
  have zc_x := hn.size
  replace hB := hB.bs hn
  replace h := h.bs hn
  replace hU := hU.bs hn
  clear hn
  refine Lw.val (Ex.move rfl) rfl ?_
  refine Lw.val (Ex.extract (i := 0) rfl rfl) rfl ?_
  refine Lw.val (Ex.extract (i := 1) rfl rfl) rfl ?_
  have o_x := h_x.at.one
  refine Lw.boxed (cs := [x.x, x.y]) it_29 rfl rfl rfl rfl (fun _ => rfl) (o_x) ?_
  rintro A_x w eA_x b_x hn zhn
  have zb_x := hn.size
  replace hB := hB.bs hn
  replace h := h.bs hn
  replace hU := hU.bs hn
  replace h_x := h_x.bs hn
  clear hn
  refine Lw.val (Ex.assign rfl) rfl ?_
  refine Lw.nil ?_
  refine Pw.thenN (Cw.out ?_)
  refine Cw.seq ?_
  refine Cw.region ?_
  refine Lw.val (Ex.move rfl) rfl ?_
  refine Lw.val (Ex.move rfl) rfl ?_
  have hC := Below.refl w.heap.size w
  refine Lw.callF rfl rfl (rjoin_g v ts al _ h) ?_
  rintro _ w ⟨hn, y, rfl, h_y, n_y, y_y⟩
  have zc_y := hn.size
  replace hB := hB.bs hn
  replace h := h.bs hn
  replace hU := hU.bs hn
  replace h_x := h_x.bs hn
  replace b_x := b_x.bs hn
  replace hC := hC.bs hn
  clear hn
  refine Lw.val (Ex.move rfl) rfl ?_
  refine Lw.val (Ex.extract (i := 0) rfl rfl) rfl ?_
  refine Lw.val (Ex.extract (i := 1) rfl rfl) rfl ?_
  have o_y := h_y.at.one
  refine Lw.boxed (cs := [y.x, y.y]) it_29 rfl rfl rfl rfl (fun _ => rfl) (o_y) ?_
  rintro A_y w eA_y b_y hn zhn
  have zb_y := hn.size
  replace hB := hB.bs hn
  replace h := h.bs hn
  replace hU := hU.bs hn
  replace h_x := h_x.bs hn
  replace b_x := b_x.bs hn
  replace hC := hC.bs hn
  replace h_y := h_y.bs hn
  clear hn
  refine Lw.val (Ex.assign rfl) rfl ?_
  refine Lw.nil ?_
  refine Pw.thenN (Cw.out ?_)
  refine Cw.seq ?_
  refine Cw.seq ?_
  refine Cw.region ?_
  refine Lw.val (Ex.ldA (ag_29 _) (sz_29 _) rfl rfl (by assumption)) rfl ?_
  refine Lw.val (Ex.ldA (ag_29 _) (sz_29 _) rfl rfl (by assumption)) rfl ?_
  refine Lw.callF rfl rfl (sameTensor_c x y _ h_x.at h_y.at) ?_
  rintro _ w ⟨rfl, hn⟩
  replace hB := hB.bs hn
  replace h := h.bs hn
  replace hU := hU.bs hn
  replace h_x := h_x.bs hn
  replace b_x := b_x.bs hn
  replace hC := hC.bs hn
  replace h_y := h_y.bs hn
  replace b_y := b_y.bs hn
  clear hn
  refine Lw.val (Ex.not rfl) rfl ?_
  refine Lw.val (Ex.move rfl) rfl ?_
  refine Lw.know 33 (v' := .bool false) rfl (congrArg Value.bool (same_ans n_x y_x n_y y_y)) ?_
  refine Lw.take (dj := 33) rfl rfl ?_
  refine Lw.val (Ex.move rfl) rfl ?_
  refine Lw.take (dj := 33) rfl rfl ?_
  refine Lw.val (Ex.move rfl) rfl ?_
  refine Lw.take (dj := 33) rfl rfl ?_
  refine Lw.val (Ex.neq rfl rfl) rfl ?_
  refine Lw.val (Ex.pickF rfl rfl) rfl ?_
  refine Lw.val (Ex.move rfl) rfl ?_
  refine Lw.know 38 (v' := .bool false) rfl (congrArg Value.bool (by simp)) ?_
  refine Lw.take (dj := 38) rfl rfl ?_
  refine Lw.val (Ex.move rfl) rfl ?_
  refine Lw.take (dj := 38) rfl rfl ?_
  refine Lw.val (Ex.move rfl) rfl ?_
  refine Lw.take (dj := 38) rfl rfl ?_
  refine Lw.callF rfl rfl (leftTs_c tv v us ts _ _ _ hU h eU) ?_
  rintro _ w ⟨rfl, hn⟩
  replace hB := hB.bs hn
  replace h := h.bs hn
  replace hU := hU.bs hn
  replace h_x := h_x.bs hn
  replace b_x := b_x.bs hn
  replace hC := hC.bs hn
  replace h_y := h_y.bs hn
  replace b_y := b_y.bs hn
  clear hn
  refine Lw.take (dj := 38) rfl rfl ?_
  refine Lw.val (Ex.not rfl) rfl ?_
  refine Lw.val (Ex.pickF rfl rfl) rfl ?_
  refine Lw.nil ?_
  refine Pw.thenN (Cw.out ?_)
  refine Cw.condB rfl false (rfl) ?_
  refine Cw.skip ?_
  refine Pw.thenN (Cw.out ?_)
  refine Cw.seq ?_
  refine Cw.region ?_
  refine Lw.val (Ex.build (vs := []) (cs := [.int .i64 0, .slice none 0 0, .slice none 0 0, .slice none 0 0, .slice none 0 0, .slice none 0 0, .slice none 0 0, .slice none 0 0, .slice none 0 0, .slice none 0 0, .slice none 0 0, .slice none 0 0, .slice none 0 0, .slice none 0 0, .slice none 0 0, .slice none 0 0]) rfl (by kernel_rfl)) rfl ?_
  have few_x : x.s.length ≤ 16777216 ∧ x.l.length ≤ 16777216 := few_ans2 n_x y_x (fun e => by have := jnS_few e; omega) (fun _ => by unfold jnL; rw [List.length_map, List.length_range]; exact Nat.le_trans (size_nat _) (by decide))
  have zx := blk_lt b_x
  have zC := below_size hC
  refine Lw.boxed (cs := .int .i64 0 :: List.replicate 15 (.slice none 0 0)) it_51 rfl rfl rfl rfl (fun _ => rfl) (rfl) ?_
  rintro A_k w eA_k b_k hn zhn
  have zk := hn.size
  replace hB := hB.bs hn
  replace h := h.bs hn
  replace hU := hU.bs hn
  replace h_x := h_x.bs hn
  replace b_x := b_x.bs hn
  replace hC := hC.bs hn
  replace h_y := h_y.bs hn
  replace b_y := b_y.bs hn
  clear hn
  have h_k := bm_new b_k
  have zw := below_size hB
  have hlow := tens_low2 hU (show tU ≤ A_k by omega)
  obtain ⟨kI, kN⟩ := hU.all.kin (n := 0) (Int.le_refl 0) (by omega) fun c hc => by have := ue c hc; omega
  have kT := KIn.one (n := 0 + 2 * (us.length : Int) + 1) (.inl hU.own) (fun b e => (hU.rb b e).2) (by omega) (by omega) (by omega)
  refine Lw.nil ?_
  refine Pw.thenN (Cw.out ?_)
  refine Cw.seq ?_
  refine Cw.region ?_
  refine Lw.val (Ex.move rfl) rfl ?_
  refine Lw.callF rfl rfl (bookTensors_m w A_k A_k _ _ _ _ _ _ _ _ _ _ _ tv us h_k hU.tens hlow.1 hlow.2 (by omega)) ?_
  rintro _ w ⟨rfl, hn, _, _, _, h_k⟩
  have hB := hB.trans (hn.mono (show W.heap.size ≤ A_k by omega))
  have kI := kI.below hn (by omega)
  have kN := kN.below hn (by omega)
  have kT := kT.below hn (by omega)
  have h_x := h_x.below hn (by omega)
  have b_x := b_x.keep (hn.block A_x (by omega))
  refine Lw.nil ?_
  refine Pw.thenN (Cw.out ?_)
  refine Cw.seq ?_
  refine Cw.region ?_
  refine Lw.val (Ex.ldA (ag_29 _) (sz_29 _) rfl rfl (by assumption)) rfl ?_
  refine Lw.callF rfl rfl (bookTensor_m w A_k A_k _ _ _ _ _ _ _ _ _ _ _ x.x x.y _ _ _ _ h_k h_x.rx.sl h_x.ry.sl (fun b e => by have := h_x.by' b e; omega) (by omega)) ?_
  rintro _ w ⟨rfl, hn, _, _, h_k⟩
  have hB := hB.trans (hn.mono (show W.heap.size ≤ A_k by omega))
  have kI := kI.below hn (by omega)
  have kN := kN.below hn (by omega)
  have kT := kT.below hn (by omega)
  have h_x := h_x.below hn (by omega)
  have q1 := KIn.one (n := 0 + 2 * (us.length : Int) + 1 + 1) h_x.rx (fun b e => (h_x.bx b e).2) (by omega) (by omega) few_x.1
  have q2 := KIn.one (n := 0 + 2 * (us.length : Int) + 1 + 2) h_x.ry (fun b e => (h_x.by' b e).2) (by omega) (by omega) few_x.2
  have KI := (kI.app q1 (by omega) (by omega) (by omega)).wide (show W.heap.size ≤ _ by omega) (show _ ≤ A_k by omega)
  have KN := (kN.app q2 (by omega) (by omega) (by omega)).wide (show W.heap.size ≤ _ by omega) (show _ ≤ A_k by omega)
  have KT := kT.wide (show W.heap.size ≤ _ by omega) (show _ ≤ A_k by omega)
  refine Lw.nil ?_
  refine Pw.thenN (Cw.out ?_)
  refine Cw.seq ?_
  refine Cw.region ?_
  refine Lw.callF rfl rfl (apart_in w A_k A_k W.heap.size _ _ _ _ _ _ _ _ _ _ _ h_k (KIn.nil _ _ _ _ _) KI KN KT (KIn.nil _ _ _ _ _) (by omega)) ?_
  rintro _ w ⟨rfl, hn⟩
  refine Lw.val (Ex.assign rfl) rfl ?_
  refine Lw.nil ?_
  refine Pw.thenN (Cw.out ?_)
  refine Cw.ret ?_
  refine Pw.ret1 rfl rfl ?_
  exact ⟨rfl, hB.trans hn⟩

/-! A world for the witness: the settled one, the tables laid. -/
def laidCells : DataW Unit → Array Value
  | .agg l => (l.map fun d => match d with | .lit (.int k n) => Value.int k n | _ => Value.bool false).toArray
  | _ => #[]
noncomputable def laidWorld (os : Os) : World :=
  { World.holding Tryz.prog os ⟨#[], #[], []⟩ with heap := Rows.movesJoinRow.laid.foldl (fun h x => h.modify ((Tryz.prog.globalNamed x.1).getD 0) fun | .cells _ t fz => .cells (laidCells x.2) t fz | o => o) (World.holding Tryz.prog os ⟨#[], #[], []⟩).heap }
theorem laid_met (os : Os) (args : Array Value) : laidMetH Tryz.prog Rows.movesJoinRow.laid ((laidWorld os).forCall (fun _ _ => 0) ⟨#[], args, []⟩).memory :=
  laidMetH_of_parts (laidMet_of_run' 8 (by kernel_rfl) (by kernel_rfl)) (by kernel_rfl)

set_option maxRecDepth 100000 in
set_option maxHeartbeats 2000000 in
theorem movesJoin_lifted (os : Os) (started : os.Started) (H : Type) (enc : TypeId × Value → H) :
    ReturnsInHanded {} Tryz.checked os 3 .any (fun w args => (Rows.movesJoinSpec.pre enc Tryz.prog Tryz.f3 Rows.movesJoinRow.domain false w args ∧ laidMetH Tryz.prog Rows.movesJoinRow.laid w) ∧ sizedMet enc Tryz.prog Tryz.f3 (OpenSpec.ofChange Rows.movesJoinSpec) false w args) (Rows.movesJoinSpec.post enc Tryz.prog Tryz.f3 false true false false) := by
  refine returnsInHanded_of_change_and (C := Tryz.checked) (X := fun w _ => laidMetH Tryz.prog Rows.movesJoinRow.laid w) (fun _ _ _ hh h => h.of_heap hh) own started (by kernel_rfl) Tryz.func3
    (ChangeSpec.witness_at (enc := enc) (C := Tryz.checked) (os := os) (X := fun w _ => laidMetH Tryz.prog Rows.movesJoinRow.laid w) false (laidWorld os) #[.slice none 0 0, .int .i64 0] 8 rfl (by kernel_rfl) (by kernel_rfl) (by kernel_rfl) (by kernel_rfl) (by kernel_rfl) (laid_met os _)) ?_
  intro W base args ds gs before hval0 hW hcnd hsz0 _ _
  have hval : ∀ (j : Nat) t v, Tryz.f3.params[j]? = some t → args[j]? = some v → Value.okWide Tryz.prog W .any base t v := hval0
  have hW' := hW
  obtain ⟨p, q, hA0, hV, rfl, hfz, hnd⟩ := hW
  have hA : DataW.TrodAll enc Tryz.prog W 0 (fun _ => true) true Tryz.f3.params.toList args.toList ds p := hA0
  have hsz : (DataW.weightsEach Tryz.prog (Tryz.f3.params.toList ++ Rows.movesJoinSpec.plain.varTypes Tryz.prog) (ds ++ gs)).all (· ≤ reachBytes) = true := hsz0
  rw [Tryz.params3] at hA hval hsz
  obtain ⟨v0, vs0, d0, ds0, p0, q0, hargs, rfl, rfl, h0, r0⟩ := trodAll_cons hA
  obtain ⟨v1, vs1, d1, ds1, p1, q1, rfl, rfl, rfl, h1, r1⟩ := trodAll_cons r0
  obtain ⟨rfl, rfl, rfl⟩ := trodAll_nil r1
  obtain rfl : args = #[v0, v1] := by cases args; simp_all
  obtain ⟨rfl, rfl⟩ := trodVars_none hV
  have k0 := h0
  have lt0 : ∀ x ∈ p0, x.block < W.heap.size := by obtain ⟨m, hm⟩ := k0; exact DataW.trod_lt m _ _ _ hm
  have i0 := in_of (j := 0) (t := 22) hsz rfl rfl h0
  have o0 := hval 0 22 v0 rfl rfl
  have k1 := h1
  have lt1 : ∀ x ∈ p1, x.block < W.heap.size := by obtain ⟨m, hm⟩ := k1; exact DataW.trod_lt m _ _ _ hm
  have i1 := in_of (j := 1) (t := 3) hsz rfl rfl h1
  have o1 := hval 1 3 v1 rfl rfl
  clear hA0 hval0 hsz0 hsz
  obtain ⟨ts, ht, lts, fts⟩ := arg_tens o0 i0
  obtain ⟨m, rfl, -⟩ := arg_int un_3 o1 i1
  refine (law_calls (movesJoin_w v0 ts m W ht lts fts)).mono fun e W' ⟨he, bel⟩ => ?_
  subst he
  exact ⟨_, rfl, _, _, _, [], _, [], hW', trodAll_mk1 (shut_bool un_4 _), (trodAll_cons_mk (Below.trod laidOut (by kernel_rfl) (of_decide_eq_true (by kernel_rfl)) k0 bel lt0) (trodAll_cons_mk (Below.trod laidOut (by kernel_rfl) (of_decide_eq_true (by kernel_rfl)) k1 bel lt1) trodAll_mk0)), rfl, bel.frame _, fun h => by cases h⟩

/-- The statement. -/
theorem movesJoin_holds : Rows.MovesJoinSaid :=
  OpenClaim.holds_of_wide 3 Tryz.f3 rfl rfl rfl rfl rfl rfl rfl ⟨rfl, rfl, rfl, rfl, rfl⟩ rfl rfl rfl rfl rfl (by kernel_rfl) Tryz.func3 (by kernel_rfl)
    (of_decide_eq_true (by kernel_rfl)) (by unfold Func.isWrapper; first | (rw [if_pos (by decide +kernel)]; kernel_rfl) | (rw [if_neg (by decide +kernel)]; exact ⟨rfl, rfl⟩))
    (fun os started H enc _ => movesJoin_lifted os started H enc)
/-- The card. -/
theorem movesJoin_proved : Rows.MovesJoinCardSaid :=
  Claim7.holds_tied_plain_at .later [] [.data, .data, .data] true (true, "be97d0136d3698b2f6b7e916e1623318bba926cc5f820086381b3c84f1dcd1a2") false
    movesJoin_holds (fun _ h => by cases h) (by kernel_rfl) (fun _ h => by cases h) movesJoin_row_tie rfl ⟨rfl, rfl⟩ (by kernel_rfl) rfl
    (fun f fn hf hfn => by
      obtain rfl : f = 3 := Option.some.inj ((show Tryz.prog.funcNamed "drydock/drydocklaw09.MovesJoin" = some 3 by kernel_rfl).symm.trans hf) |>.symm
      obtain rfl : fn = Tryz.f3 := (Option.some.inj (Tryz.func3.symm.trans hfn)).symm
      refine ⟨by kernel_rfl, fun j t ht => ?_⟩
      rw [Tryz.params3] at ht
      have h3 : t ∈ [22, 3] := List.mem_of_getElem? (by simpa using ht)
      have h4 : ([22, 3] : List TypeId).all (fun t => Tryz.prog.wantsStandIn t == false) = true := by kernel_rfl
      exact eq_of_beq (List.all_eq_true.1 h4 t h3))
    (by kernel_rfl)
#print axioms movesJoin_proved
end Go.Proofs.YtkhndfaampkbnaaGreatDoor
