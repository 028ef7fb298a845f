/- Each node of a graph comes to what it makes of those that it takes in, and has the shape that the graph tells; the input and the weights are what they are; the last one is the run's. For every graph that is not too much work, and all tensors. -/
import Derived.Test.YtmipoeanpnnjoaaGreatPk7
namespace Go.Proofs.YtmipoeanpnnjoaaGreat
open Go Go.Dd Go.RowKit Go.ChangeShapes Go.WideShapes Go.ChangeAt
set_option maxRecDepth 100000

theorem gshapes_any (v : Value) (ls : List N5) (W : World) (h : GN W v ls) : Fnc Tryz.prog 12 [.agg [v].toArray] W (fun r w' => (∃ u n, r = .tuple #[u, .int .i64 n]) ∧ Below W.heap.size W w') :=
 (gshapes_c v ls W h).mono fun r w' ⟨hB, hr⟩ => by
  cases e : gsh ls with
  | none => rw [e] at hr; exact ⟨⟨_, _, hr⟩, hB⟩
  | some ss => rw [e] at hr; obtain ⟨u, ps, hr, -, -⟩ := hr; exact ⟨⟨_, _, hr⟩, hB⟩
/-- What a node takes in, out of some tensors. -/
def insT (ts : List T4) (x : N5) : List T4 := x.i.map fun j => ts.getD j.toNat default
theorem getD_pv (ts : List T4) (n : Nat) : (ts.map pv).getD n ([], []) = pv (ts.getD n default) := by
 rw [List.getD_eq_getElem?_getD, List.getElem?_map, List.getD_eq_getElem?_getD]
 cases ts[n]? with
 | none => rfl
 | some a => rfl
theorem insT_norm (ts : List T4) (x : N5) : (insT ts x).map norm = insP (ts.map pv) x := by
 unfold insT insP
 rw [List.map_map]
 refine List.map_congr_left fun j _ => ?_
 show tv (pv (ts.getD j.toNat default)) = _
 rw [getD_pv]
theorem do_insT {ts : List T4} {x : N5} (h : doE x (insP (ts.map pv) x) = 0) : doE x (insT ts x) = 0 ∧ actS x.k x (insT ts x) = actS x.k x (insP (ts.map pv) x) ∧ actL x.k x (insT ts x) = actL x.k x (insP (ts.map pv) x) := by
 have := do_norm x (insT ts x)
 rw [insT_norm] at this
 have e : doE x (insT ts x) = 0 := by rw [← this.1]; exact h
 exact ⟨e, (this.2 e).1.symm, (this.2 e).2.symm⟩
theorem wtsN_succ {ls : List N5} {i : Nat} {x : N5} (hi : i < ls.length) (hx : x = ls[i]) : wtsN (ls.take (i + 1)) = if x.k = 2#8 then wtsN (ls.take i) + 1 else wtsN (ls.take i) := by
 rw [List.take_succ_eq_append_getElem hi, ← hx]
 unfold wtsN
 rw [List.filter_append, List.length_append]
 by_cases e : x.k = 2#8
 ·rw [if_pos e, List.filter_cons, decide_eq_true e]; rfl
 ·rw [if_neg e, List.filter_cons, decide_eq_false e]; rfl
set_option maxHeartbeats 1000000 in
theorem meansSteps_w (v u : Value) (ls : List N5) (ws : List T4) (t : T4) (W : World) (h : GN W v ls) (hl : ls.length ≤ 1125899906842624) (hf : ∀ t ∈ ls, t.few) (hw : Tens W u ws) (lw : ws.length ≤ 1125899906842624) (fw : ∀ t ∈ ws, fewT t) (ht : t.at W) (ft : fewT t) :
  Fnc Tryz.prog 3 [.agg [v, u, t.x, t.y].toArray] W (fun r w' => r = .bool true ∧ Below W.heap.size W w') := by
 have hB := Below.refl W.heap.size W
 refine Fnc.enter (n := 179) Tryz.func3 (by kernel_rfl) rfl rfl rfl <| Cw.seq <| Cw.region <| Lw.boxV (cs := [v, u, t.x, t.y]) rfl rfl rfl ?_
 rintro A_z w eA_z b_z hn -
 replace hB := hB.bs hn
 replace h := h.bs hn
 replace hw := hw.bs hn
 replace ht := ht.bs hn
 clear hn
 refine Lw.val (Ex.assign rfl) rfl <| Lw.nil ?_
 refine Pw.thenN (Cw.out ?_)
 refine Cw.seq <| Cw.seq <| Cw.region <| Lw.callF rfl rfl (alive_c _) ?_
 rintro _ w ⟨rfl, hn⟩
 replace hB := hB.bs hn
 replace h := h.bs hn
 replace hw := hw.bs hn
 replace ht := ht.bs hn
 replace b_z := b_z.bs hn
 clear hn
 refine Lw.val (Ex.not rfl) rfl <| Lw.val (Ex.move rfl) rfl <| Lw.know 19 (v' := .bool false) rfl (congrArg Value.bool (rfl)) <| Lw.take (dj := 19) rfl rfl <| Lw.val (Ex.ldA (ag_31 _) (sz_31 _) rfl rfl (by assumption)) rfl ?_
 refine Lw.take (dj := 19) rfl rfl <| Lw.callF rfl rfl (great_c v u ls ws t w h hl hf hw lw fw ht ft) ?_
 rintro _ w ⟨⟨b, rfl, -⟩, hn⟩
 replace hB := hB.bs hn
 replace h := h.bs hn
 replace hw := hw.bs hn
 replace ht := ht.bs hn
 replace b_z := b_z.bs hn
 clear hn
 refine Lw.val (Ex.pickF rfl rfl) rfl <| Lw.nil ?_
 refine Pw.thenN (Cw.out ?_)
 refine Cw.cond rfl ?_ ?_
 ·intro g
  refine Cw.seq <| Cw.region <| Lw.callF rfl rfl (alive_c _) ?_
  rintro _ w ⟨rfl, hn⟩
  replace hB := hB.bs hn
  replace h := h.bs hn
  replace hw := hw.bs hn
  replace ht := ht.bs hn
  replace b_z := b_z.bs hn
  clear hn
  refine Lw.val (Ex.assign rfl) rfl <| Lw.nil ?_
  refine Pw.thenN (Cw.out ?_)
  refine Cw.ret <| Pw.thenR <| Pw.ret1 rfl rfl ?_
  exact ⟨rfl, hB⟩
 intro g
 obtain ⟨R, hR⟩ : ∃ R, R = allG ls (ws.map pv) (pv t) := ⟨_, rfl⟩
 refine Cw.skip ?_
 refine Pw.thenN (Cw.out ?_)
 refine Cw.seq <| Cw.region <| Lw.val (Ex.fieldAddr (q := 0) Tryz.underlying31 rfl (sz_24 _) rfl) rfl <| Lw.val (Ex.ldAt (ds := [v]) (ag_24 _) (sz_24 _) rfl rfl (by assumption) rfl) rfl ?_
 refine Lw.val (Ex.fieldAddr (q := 0) Tryz.underlying31 rfl (sz_25 _) rfl) rfl <| Lw.val (Ex.ldB (ag_25 _) rfl (by assumption) rfl) rfl ?_
 refine Lw.val (Ex.fieldAddr (q := 1) Tryz.underlying31 rfl (sz_29 _) rfl) rfl <| Lw.val (Ex.ldAt (ds := [t.x, t.y]) (ag_29 _) (sz_29 _) rfl rfl (by assumption) rfl) rfl ?_
 refine Lw.callF rfl rfl (all_c v ls u ws t w h hw ht) ?_
 rintro _ w ⟨hn, hr⟩
 rw [← hR] at hr
 replace hB := hB.bs hn
 replace h := h.bs hn
 replace hw := hw.bs hn
 replace ht := ht.bs hn
 replace b_z := b_z.bs hn
 clear hn
 cases eR : R with
 | none =>
  rw [eR] at hr
  obtain rfl := hr
  refine Lw.val (Ex.move rfl) rfl <| Lw.val (Ex.extract (i := 0) rfl rfl) rfl <| Lw.val (Ex.extract (i := 1) rfl rfl) rfl <| Lw.val (Ex.assign rfl) rfl <| Lw.val (Ex.assign rfl) rfl <| Lw.nil ?_
  refine Pw.thenN (Cw.out ?_)
  refine Cw.seq <| Cw.region <| Lw.val (Ex.fieldAddr (q := 0) Tryz.underlying31 rfl (sz_24 _) rfl) rfl <| Lw.val (Ex.ldAt (ds := [v]) (ag_24 _) (sz_24 _) rfl rfl (by assumption) rfl) rfl ?_
  refine Lw.val (Ex.fieldAddr (q := 0) Tryz.underlying31 rfl (sz_25 _) rfl) rfl <| Lw.val (Ex.ldB (ag_25 _) rfl (by assumption) rfl) rfl ?_
  refine Lw.val (Ex.fieldAddr (q := 1) Tryz.underlying31 rfl (sz_29 _) rfl) rfl <| Lw.val (Ex.ldAt (ds := [t.x, t.y]) (ag_29 _) (sz_29 _) rfl rfl (by assumption) rfl) rfl ?_
  refine Lw.callF rfl rfl (run_c v ls u ws t _ h hw ht) ?_
  rintro _ w ⟨hn, hr⟩
  rw [← hR, eR] at hr
  obtain rfl := hr
  replace hB := hB.bs hn
  replace h := h.bs hn
  replace hw := hw.bs hn
  replace ht := ht.bs hn
  replace b_z := b_z.bs hn
  clear hn
  refine Lw.val (Ex.move rfl) rfl <| Lw.val (Ex.extract (i := 0) rfl rfl) rfl <| Lw.val (Ex.extract (i := 1) rfl rfl) rfl <| Lw.boxed (cs := [.slice none 0 0, .slice none 0 0]) it_29 rfl rfl rfl rfl (fun _ => rfl) (rfl) ?_
  rintro A_a w eA_a b_a hn -
  replace hB := hB.bs hn
  replace h := h.bs hn
  replace hw := hw.bs hn
  replace ht := ht.bs hn
  replace b_z := b_z.bs hn
  clear hn
  refine Lw.val (Ex.assign rfl) rfl <| Lw.nil ?_
  refine Pw.thenN (Cw.out ?_)
  refine Cw.seq <| Cw.region <| Lw.val (Ex.fieldAddr (q := 0) Tryz.underlying31 rfl (sz_24 _) rfl) rfl <| Lw.val (Ex.ldAt (ds := [v]) (ag_24 _) (sz_24 _) rfl rfl (by assumption) rfl) rfl ?_
  refine Lw.callF rfl rfl (gshapes_any v ls _ h) ?_
  rintro _ w ⟨⟨p, n, rfl⟩, hn⟩
  replace hB := hB.bs hn
  replace h := h.bs hn
  replace hw := hw.bs hn
  replace ht := ht.bs hn
  replace b_z := b_z.bs hn
  replace b_a := b_a.bs hn
  clear hn
  have s_n : Sl w 1 (.slice none 0 0) 0 [] := Sl.nil _ _
  have s_n2 : Sl w 2 (.slice none 0 0) 0 [] := Sl.nil _ _
  refine Lw.val (Ex.move rfl) rfl <| Lw.val (Ex.extract (i := 0) rfl rfl) rfl <| Lw.val (Ex.extract (i := 1) rfl rfl) rfl <| Lw.val (Ex.assign rfl) rfl <| Lw.val (Ex.assign rfl) rfl <| Lw.nil ?_
  refine Pw.thenN (Cw.out ?_)
  refine Cw.seq <| Cw.seq <| Cw.region <| Lw.val (Ex.move rfl) rfl <| Lw.val (Ex.neq rfl rfl) rfl <| Lw.nil ?_
  refine Pw.thenN (Cw.out ?_)
  refine Cw.condB rfl true (rfl) <| Cw.seq <| Cw.region <| Lw.val (Ex.move rfl) rfl <| Lw.val (Ex.eql rfl rfl) rfl <| Lw.val (Ex.move rfl) rfl <| Lw.know 54 (v' := .bool true) rfl (congrArg Value.bool (rfl)) <| Lw.take (dj := 54) rfl rfl <| Lw.val (Ex.move rfl) rfl <| Lw.take (dj := 54) rfl rfl <| Lw.val (Ex.move rfl) rfl <| Lw.take (dj := 54) rfl rfl <| Lw.val (Ex.eql rfl rfl) rfl <| Lw.val (Ex.pickT rfl rfl) rfl <| Lw.val (Ex.move rfl) rfl <| Lw.know 59 (v' := .bool true) rfl (congrArg Value.bool (rfl)) <| Lw.take (dj := 59) rfl rfl <| Lw.val (Ex.move rfl) rfl <| Lw.take (dj := 59) rfl rfl <| Lw.val (Ex.lenS st_25 rfl (by assumption)) rfl ?_
  refine Lw.take (dj := 59) rfl rfl <| Lw.val (Ex.eql rfl rfl) rfl <| Lw.val (Ex.pickT rfl rfl) rfl <| Lw.val (Ex.move rfl) rfl <| Lw.know 64 (v' := .bool true) rfl (congrArg Value.bool (rfl)) <| Lw.take (dj := 64) rfl rfl <| Lw.val (Ex.fieldAddr (q := 0) Tryz.underlying29 rfl (sz_27 _) rfl) rfl <| Lw.take (dj := 64) rfl rfl <| Lw.val (Ex.ldB (ag_27 _) rfl (by assumption) rfl) rfl ?_
  refine Lw.take (dj := 64) rfl rfl <| Lw.val (Ex.lenS st_27 rfl (by assumption)) rfl ?_
  refine Lw.take (dj := 64) rfl rfl <| Lw.val (Ex.eql rfl rfl) rfl <| Lw.val (Ex.pickT rfl rfl) rfl <| Lw.val (Ex.assign rfl) rfl <| Lw.nil ?_
  refine Pw.thenN (Cw.out ?_)
  refine Cw.ret <| Pw.thenR <| Pw.ret1 rfl rfl ?_
  exact ⟨rfl, hB⟩
 | some vs =>
  rw [eR] at hr
  obtain ⟨q, ts, rfl, hT, -, hpv⟩ := hr
  obtain ⟨ss, hss, RN⟩ := ran_of (hR.symm.trans eR)
  refine Lw.val (Ex.move rfl) rfl <| Lw.val (Ex.extract (i := 0) rfl rfl) rfl <| Lw.val (Ex.extract (i := 1) rfl rfl) rfl <| Lw.val (Ex.assign rfl) rfl <| Lw.val (Ex.assign rfl) rfl <| Lw.nil ?_
  refine Pw.thenN (Cw.out ?_)
  refine Cw.seq <| Cw.region <| Lw.val (Ex.fieldAddr (q := 0) Tryz.underlying31 rfl (sz_24 _) rfl) rfl <| Lw.val (Ex.ldAt (ds := [v]) (ag_24 _) (sz_24 _) rfl rfl (by assumption) rfl) rfl ?_
  refine Lw.val (Ex.fieldAddr (q := 0) Tryz.underlying31 rfl (sz_25 _) rfl) rfl <| Lw.val (Ex.ldB (ag_25 _) rfl (by assumption) rfl) rfl ?_
  refine Lw.val (Ex.fieldAddr (q := 1) Tryz.underlying31 rfl (sz_29 _) rfl) rfl <| Lw.val (Ex.ldAt (ds := [t.x, t.y]) (ag_29 _) (sz_29 _) rfl rfl (by assumption) rfl) rfl ?_
  refine Lw.callF rfl rfl (run_c v ls u ws t _ h hw ht) ?_
  rintro _ w ⟨hn, hr⟩
  rw [← hR, eR] at hr
  obtain ⟨c, rfl, hc, pc⟩ := hr
  replace hc := hc.at
  replace hB := hB.bs hn
  replace h := h.bs hn
  replace hw := hw.bs hn
  replace ht := ht.bs hn
  replace b_z := b_z.bs hn
  replace hT := hT.bs hn
  clear hn
  refine Lw.val (Ex.move rfl) rfl <| Lw.val (Ex.extract (i := 0) rfl rfl) rfl <| Lw.val (Ex.extract (i := 1) rfl rfl) rfl <| Lw.boxed (cs := [c.x, c.y]) it_29 rfl rfl rfl rfl (fun _ => rfl) (hc.one) ?_
  rintro A_c w eA_c b_c hn -
  replace hB := hB.bs hn
  replace h := h.bs hn
  replace hw := hw.bs hn
  replace ht := ht.bs hn
  replace b_z := b_z.bs hn
  replace hT := hT.bs hn
  replace hc := hc.bs hn
  clear hn
  refine Lw.val (Ex.assign rfl) rfl <| Lw.nil ?_
  refine Pw.thenN (Cw.out ?_)
  refine Cw.seq <| Cw.region <| Lw.val (Ex.fieldAddr (q := 0) Tryz.underlying31 rfl (sz_24 _) rfl) rfl <| Lw.val (Ex.ldAt (ds := [v]) (ag_24 _) (sz_24 _) rfl rfl (by assumption) rfl) rfl ?_
  refine Lw.callF rfl rfl (gshapes_c v ls _ h) ?_
  rintro _ w ⟨hn, hr⟩
  rw [hss] at hr
  obtain ⟨p, ps, rfl, hL, eps⟩ := hr
  replace hB := hB.bs hn
  replace h := h.bs hn
  replace hw := hw.bs hn
  replace ht := ht.bs hn
  replace b_z := b_z.bs hn
  replace hT := hT.bs hn
  replace hc := hc.bs hn
  replace b_c := b_c.bs hn
  clear hn
  have lts : ts.length = ls.length := by rw [← RN.lvs, ← hpv, List.length_map]
  have lps : ps.length = ls.length := by rw [← RN.lss, ← eps, List.length_map]
  have l1 := RN.ls1
  have sq := hT.1
  have sp := hL.sl
  have h_v := h.sl
  have hlt : ts.length - 1 < ts.length := by omega
  obtain ⟨d, hd⟩ : ∃ d, d = ts[ts.length - 1] := ⟨_, rfl⟩
  have hdm := hT.2 d (hd ▸ List.getElem_mem hlt)
  have hcc := ten_cells hlt
  rw [← hd] at hcc
  have pd : pv d = pv c := by
   rw [pc]; unfold lastV
   rw [← hpv, getD_pv, List.length_map, List.getD_eq_getElem?_getD, List.getElem?_eq_getElem hlt, ← hd]; rfl
  have pd1 : d.s = c.s := congrArg Prod.fst pd
  have pd2 : d.l = c.l := congrArg Prod.snd pd
  rename World => w0
  refine Lw.val (Ex.move rfl) rfl <| Lw.val (Ex.extract (i := 0) rfl rfl) rfl <| Lw.val (Ex.extract (i := 1) rfl rfl) rfl <| Lw.val (Ex.assign rfl) rfl <| Lw.val (Ex.assign rfl) rfl <| Lw.nil ?_
  refine Pw.thenN (Cw.out ?_)
  refine Cw.seq <| Cw.seq <| Cw.region <| Lw.val (Ex.move rfl) rfl <| Lw.val (Ex.neq rfl rfl) rfl <| Lw.nil ?_
  refine Pw.thenN (Cw.out ?_)
  refine Cw.condB rfl false (rfl) <| Cw.skip ?_
  refine Pw.thenN (Cw.out ?_)
  refine Cw.seq <| Cw.seq <| Cw.quiet mixed (by kernel_rfl) <| Qw.val (fun w1 hq => Ex.move rfl) rfl <| Qw.val (fun w1 hq => Ex.neq rfl rfl) rfl <| Qw.val (fun w1 hq => Ex.move rfl) rfl <| Qw.know 72 (v' := .bool false) rfl (congrArg Value.bool (rfl)) <| Qw.take (dj := 72) rfl rfl <| Qw.val (fun w1 hq => Ex.move rfl) rfl <| Qw.take (dj := 72) rfl rfl <| Qw.val (fun w1 hq => Ex.lenS st_25 rfl (Sl.bs (by assumption) hq)) rfl ?_
  refine Qw.take (dj := 72) rfl rfl <| Qw.val (fun w1 hq => Ex.fieldAddr (q := 0) Tryz.underlying31 rfl (sz_24 _) rfl) rfl <| Qw.take (dj := 72) rfl rfl <| Qw.val (fun w1 hq => Ex.fieldAddr (q := 0) Tryz.underlying24 rfl (sz_22 _) rfl) rfl <| Qw.take (dj := 72) rfl rfl <| Qw.val (fun w1 hq => Ex.ldB (ag_22 _) rfl (Blk.bs (by assumption) hq) rfl) rfl ?_
  refine Qw.take (dj := 72) rfl rfl <| Qw.val (fun w1 hq => Ex.lenS st_22 rfl (Sl.bs (by assumption) hq)) rfl ?_
  refine Qw.take (dj := 72) rfl rfl <| Qw.val (fun w1 hq => Ex.neq rfl rfl) rfl <| Qw.val (fun w1 hq => Ex.pickF rfl rfl) rfl <| Qw.val (fun w1 hq => Ex.move rfl) rfl <| Qw.know 81 (v' := .bool false) rfl (congrArg Value.bool ((by rw [lts]; simp))) <| Qw.take (dj := 81) rfl rfl <| Qw.val (fun w1 hq => Ex.move rfl) rfl <| Qw.take (dj := 81) rfl rfl <| Qw.val (fun w1 hq => Ex.lenS st_39 rfl (Sl.bs (by assumption) hq)) rfl ?_
  refine Qw.take (dj := 81) rfl rfl <| Qw.val (fun w1 hq => Ex.move rfl) rfl <| Qw.take (dj := 81) rfl rfl <| Qw.val (fun w1 hq => Ex.lenS st_25 rfl (Sl.bs (by assumption) hq)) rfl ?_
  refine Qw.take (dj := 81) rfl rfl <| Qw.val (fun w1 hq => Ex.neq rfl rfl) rfl <| Qw.val (fun w1 hq => Ex.pickF rfl rfl) rfl <| Qw.val (fun w1 hq => Ex.move rfl) rfl <| Qw.know 88 (v' := .bool false) rfl (congrArg Value.bool ((by rw [lts, lps]; simp))) <| Qw.take (dj := 88) rfl rfl <| Qw.val (fun w1 hq => Ex.move rfl) rfl <| Qw.take (dj := 88) rfl rfl <| Qw.val (fun w1 hq => Ex.move rfl) rfl <| Qw.take (dj := 88) rfl rfl <| Qw.val (fun w1 hq => Ex.lenS st_25 rfl (Sl.bs (by assumption) hq)) rfl ?_
  refine Qw.take (dj := 88) rfl rfl <| Qw.val (fun w1 hq => Ex.as (Ex.subI rfl rfl (by omega)) (congrArg (Value.int .i64) (show (ts.length : Int) - 1 = ((ts.length - 1 : Nat) : Int) by omega))) rfl <| Qw.take (dj := 88) rfl rfl <| Qw.val (fun w1 hq => Ex.idx st_25 rfl rfl (sq.bs hq) (ts.length - 1) rfl hlt) rfl <| Qw.take (dj := 88) rfl rfl <| Qw.val (fun w1 hq => Ex.ldE (cs := [d.x, d.y]) (ag_29 _) (sz_29 _) rfl (sq.bs hq) rfl (by decide) hcc) rfl <| Qw.take (dj := 88) rfl rfl <| Qw.val (fun w1 hq => Ex.ldA (k := 2) (ag_29 _) (sz_29 _) rfl rfl (b_c.bs hq)) rfl <| Qw.take (dj := 88) rfl rfl <| Qw.callF rfl rfl (fun w1 hq => (same_c d.x d.y c.x c.y d.s c.s d.l c.l _ (hdm.bs hq).1 (hdm.bs hq).2 (hc.bs hq).1 (hc.bs hq).2).q hq) <| Qw.take (dj := 88) rfl rfl <| Qw.val (fun w1 hq => Ex.not rfl) rfl <| Qw.val (fun w1 hq => Ex.pickF rfl rfl) rfl ?_
  refine Qw.nil (fun w1 hq => ?_)
  refine Pw.thenN (Cw.out ?_)
  refine Cw.condB rfl false ((by rw [pd1, pd2]; simp)) <| Cw.skip ?_
  refine Pw.thenN (Cw.out ?_)
  refine Cw.seq <| Cw.region <| Lw.val (Ex.assign rfl) rfl <| Lw.nil ?_
  refine Pw.thenN (Cw.out ?_)
  refine Cw.seq <| Cw.seq <| Cw.region <| Lw.val (Ex.assign rfl) rfl <| Lw.nil ?_
  refine Pw.thenN (Cw.out ?_)
  refine Cw.block ?_
  replace hL := hL.bs hq
  replace hB := hB.bs hq
  replace h := h.bs hq
  replace hw := hw.bs hq
  replace ht := ht.bs hq
  replace b_z := b_z.bs hq
  replace hT := hT.bs hq
  replace hc := hc.bs hq
  replace b_c := b_c.bs hq
  clear hq sq sp h_v hdm hcc
  have sq := hT.1
  have sp := hL.sl
  have ad : ∃ ad c k, q = .slice (some ad) c k := by
   obtain ⟨_, ao, cap, e, d1, d2, d3, _⟩ := sq
   cases ao with
   | none => have := d3 rfl; omega
   | some ad => exact ⟨ad, _, _, e⟩
  refine Cw.loop (S := (Nat × Nat)) (fun z => [(1, .pointer (some ⟨A_z, 0, none⟩)), (3, q), (7, p), (9, .int .i64 (z.2 : Int)), (10, .int .i64 (z.1 : Int))]) (fun z w' => z.1 ≤ ls.length ∧ z.2 = wtsN (ls.take z.1) ∧ Below w1.heap.size w1 w') (fun z => ls.length - z.1) ((0, 0)) ⟨rfl, rfl, rfl, rfl, rfl, trivial⟩ ?_ ?_
  ·exact ⟨Nat.zero_le _, rfl, Below.refl _ _⟩
  rintro ⟨i, wt⟩ w2 ⟨hi, hwt, hB2⟩
  replace hi : i ≤ ls.length := hi
  replace hwt : wt = wtsN (ls.take i) := hwt
  have sq2 := sq.bs hB2
  have b_z2 := b_z.bs hB2
  refine Cw.seq <| Cw.seq <| Cw.region <| Lw.val (Ex.move rfl) rfl <| Lw.val (Ex.move rfl) rfl <| Lw.val (Ex.lenS st_25 rfl (by assumption)) rfl ?_
  refine Lw.val (Ex.lss rfl rfl) rfl <| Lw.nil ?_
  refine Pw.thenN (Cw.out ?_)
  refine Cw.cond rfl ?_ ?_
  ·intro g
   have hi' : i < ls.length := by have := of_decide_eq_true g; omega
   have hit : i < ts.length := by omega
   have hip : i < ps.length := by omega
   obtain ⟨x, hxd⟩ : ∃ x, x = ls[i] := ⟨_, rfl⟩
   have hx := (h.each x (hxd ▸ List.getElem_mem hi')).bs hB2
   have hcl := h.cells hi'
   rw [← hxd] at hcl
   have IA := ran_node RN hi'
   have NA := node_at RN.sh hi'
   rw [← hxd] at IA NA
   have h_v2 := h.sl.bs hB2
   obtain ⟨d, hd⟩ : ∃ d, d = ts[i] := ⟨_, rfl⟩
   have hdm := hT.2 d (hd ▸ List.getElem_mem hit)
   have hcc := ten_cells hit
   rw [← hd] at hcc
   have pd : vs.getD i ([], []) = pv d := by rw [← hpv, getD_pv, List.getD_eq_getElem?_getD, List.getElem?_eq_getElem hit, ← hd]; rfl
   have tk : tok d.s d.l = true := by have := IA.ok; rw [pd] at this; exact this
   have ei : (ps.getD i default).2 = ss.getD i [] := by rw [← eps]; simp [ints2, List.getD_eq_getElem?_getD, hip]
   have s_i := hL.each (ps.getD i default) (by rw [List.getD_eq_getElem?_getD, List.getElem?_eq_getElem hip]; exact List.getElem_mem hip)
   have shd : d.s = (ps.getD i default).2 := by rw [ei, ← IA.sh, pd]; rfl
   refine Cw.skip ?_
   refine Pw.thenN (Cw.out ?_)
   refine Cw.seq <| Cw.block <| Cw.seq <| Cw.region <| Lw.val (Ex.fieldAddr (q := 0) Tryz.underlying31 rfl (sz_24 _) rfl) rfl <| Lw.val (Ex.fieldAddr (q := 0) Tryz.underlying24 rfl (sz_22 _) rfl) rfl <| Lw.val (Ex.ldB (ag_22 _) rfl (by assumption) rfl) rfl ?_
   refine Lw.val (Ex.move rfl) rfl <| Lw.val (Ex.idx st_22 rfl rfl h_v2 i rfl hi') rfl <| Lw.val (Ex.ldE (cs := x.cells) (ag_45 _) (sz_45 _) rfl h_v2 rfl (by decide) hcl) rfl <| Lw.boxed (cs := x.cells) it_45 rfl rfl rfl rfl (fun _ => rfl) (hx.ones) ?_
   rintro A_x w3 eA_x b_x hn zhn
   have hB3 := bt hB2 hn
   have hx3 := hx.bs hn
   have b_z3 := b_z2.bs hn
   clear hn
   have sq3 := sq.bs hB3
   have sp3 := sp.bs hB3
   have hd3 := hdm.bs hB3
   have s_i3 := s_i.bs hB3
   have ck : (cellsOf ts)[i * 2 + 0]? = some d.x := by
    have := (cells_at hit).1
    rw [← hd] at this
    exact this
   refine Lw.nil ?_
   refine Pw.thenN (Cw.out ?_)
   refine Cw.seq <| Cw.seq <| Cw.quiet mixed (by kernel_rfl) <| Qw.val (fun w1 hq => Ex.move rfl) rfl <| Qw.val (fun w1 hq => Ex.move rfl) rfl <| Qw.val (fun w1 hq => Ex.idx st_25 rfl rfl (sq3.bs hq) i rfl hit) rfl <| Qw.val (fun w1 hq => Ex.ldE (cs := [d.x, d.y]) (ag_29 _) (sz_29 _) rfl (sq3.bs hq) rfl (by decide) hcc) rfl <| Qw.callF rfl rfl (fun w1 hq => (tcheck_c d.x d.y d.s d.l _ (hd3.bs hq).1 (hd3.bs hq).2).q hq) <| Qw.val (fun w1 hq => Ex.not rfl) rfl <| Qw.val (fun w1 hq => Ex.move rfl) rfl <| Qw.know 117 (v' := .bool false) rfl (congrArg Value.bool ((by rw [tk]; rfl))) <| Qw.take (dj := 117) rfl rfl <| Qw.val (fun w1 hq => Ex.move rfl) rfl <| Qw.take (dj := 117) rfl rfl <| Qw.val (fun w1 hq => Ex.move rfl) rfl <| Qw.take (dj := 117) rfl rfl <| Qw.val (fun w1 hq => Ex.idx st_25 rfl rfl (sq3.bs hq) i rfl hit) rfl <| Qw.take (dj := 117) rfl rfl <| Qw.val (fun w1 hq => Ex.fieldAddrE (q := 0) Tryz.underlying29 rfl (sz_26 _) rfl ad) rfl <| Qw.take (dj := 117) rfl rfl <| Qw.val (fun w1 hq => Ex.ld (ag_26 _) rfl (sq3.bs hq) ck) rfl <| Qw.take (dj := 117) rfl rfl <| Qw.val (fun w1 hq => Ex.move rfl) rfl <| Qw.take (dj := 117) rfl rfl <| Qw.val (fun w1 hq => Ex.move rfl) rfl <| Qw.take (dj := 117) rfl rfl <| Qw.val (fun w1 hq => Ex.idxT st_39 rfl rfl (sp3.bs hq) i rfl hip) rfl <| Qw.take (dj := 117) rfl rfl <| Qw.val (fun w1 hq => Ex.ldT (ag_26 _) rfl (sp3.bs hq) hip) rfl <| Qw.take (dj := 117) rfl rfl <| Qw.callF rfl rfl (fun w1 hq => (sameInts_c d.x (ps.getD i default).1 d.s (ps.getD i default).2 _ (hd3.bs hq).1 (s_i3.bs hq)).q hq) <| Qw.take (dj := 117) rfl rfl <| Qw.val (fun w1 hq => Ex.not rfl) rfl ?_
   refine Qw.val (fun w1 hq => Ex.pickF rfl rfl) rfl ?_
   refine Qw.nil (fun w4 hq => ?_)
   refine Pw.thenN (Cw.out ?_)
   have hB4 := bt hB3 hq
   have hx4 := hx3.bs hq
   have b_z4 := b_z3.bs hq
   have b_x4 := b_x.bs hq
   have ht4 := ht.bs hB4
   clear hq
   refine Cw.condB rfl false ((by rw [shd]; simp)) <| Cw.skip ?_
   refine Pw.thenN (Cw.out ?_)
   refine Cw.seq <| Cw.region <| Lw.val (Ex.fieldAddr (q := 1) Tryz.underlying31 rfl (sz_29 _) rfl) rfl <| Lw.val (Ex.ldAt (ds := [t.x, t.y]) (ag_29 _) (sz_29 _) rfl rfl (by assumption) rfl) rfl ?_
   refine Lw.boxed (cs := [t.x, t.y]) it_29 rfl rfl rfl rfl (fun _ => rfl) (ht4.one) ?_
   rintro A_w w5 eA_w b_w hn zhn
   have hB5 := bt hB4 hn
   have hx5 := hx4.bs hn
   have b_z5 := b_z4.bs hn
   have b_x5 := b_x4.bs hn
   have ht5 := ht4.bs hn
   have yw : w1.heap.size ≤ A_w := by have := hB4.size; omega
   have nxw : A_x ≠ A_w := by have := blk_lt b_x4; omega
   have nzw : A_z ≠ A_w := by have := blk_lt b_z4; omega
   clear hn
   refine Lw.nil ?_
   refine Pw.thenN (Cw.out ?_)
   refine Cw.seq <| Cw.seq <| Cw.region <| Lw.val (Ex.fieldAddr (q := 0) Tryz.underlying45 rfl (sz_43 _) rfl) rfl <| Lw.val (Ex.ldB (ag_43 _) rfl (by assumption) rfl) rfl ?_
   refine Lw.val (Ex.eql8 rfl (show _ = some (b8 (2#8)) from rfl)) rfl <| Lw.nil ?_
   refine Pw.thenN (Cw.out ?_)
   refine Cw.midS (St := (T4 × Nat)) (fun z => [(1, .pointer (some ⟨A_z, 0, none⟩)), (3, q), (7, p), (9, .int .i64 (z.2 : Int)), (10, .int .i64 (i : Int)), (12, .pointer (some ⟨A_w, 0, none⟩))]) (fun z w' => Below w1.heap.size w1 w' ∧ Blk w' A_w tenT [z.1.x, z.1.y] ∧ z.1.at w' ∧ pv z.1 = pv d ∧ z.2 = wtsN (ls.take (i + 1))) ?_ ?_
   ·refine Cw.cond rfl ?_ ?_
    ·intro q2
     have q2 := of_decide_eq_true q2
     have hw2 := IA.wt q2
     rw [← hwt, List.getElem?_map] at hw2
     obtain ⟨g, hg1, hg2⟩ := Option.map_eq_some_iff.1 hw2
     have hgl := (List.getElem?_eq_some_iff.1 hg1).1
     have hgm : g ∈ ws := List.mem_of_getElem? hg1
     have hge : g = ws[wt] := (List.getElem?_eq_some_iff.1 hg1).2.symm
     have hw5 := hw.bs hB5
     have hgc := ten_cells hgl
     rw [← hge] at hgc
     have g5 := hw5.2 g hgm
     have lw1 := hw5.1.le
     refine Cw.seq <| Cw.region <| Lw.val (Ex.fieldAddr (q := 0) Tryz.underlying31 rfl (sz_25 _) rfl) rfl <| Lw.val (Ex.ldB (ag_25 _) rfl (by assumption) rfl) rfl ?_
     refine Lw.val (Ex.move rfl) rfl <| Lw.val (Ex.idx st_25 rfl rfl hw5.1 wt rfl hgl) rfl <| Lw.val (Ex.ldE (cs := [g.x, g.y]) (ag_29 _) (sz_29 _) rfl hw5.1 rfl (by decide) hgc) rfl <| Lw.unit (Xu.stA (cs := [g.x, g.y]) (k := 2) (by kernel_rfl) rfl rfl rfl g5.one b_w rfl) ?_
     rintro w6 ⟨b_w6, hg6, -⟩
     have hB6 := hB5.grown hg6 hB5.size (fun b e => by cases e; exact yw)
     refine Lw.nil ?_
     refine Pw.thenN (Cw.out ?_)
     refine Cw.region <| Lw.val (Ex.move rfl) rfl <| Lw.val ((Ex.addI rfl rfl (by omega)).as (congrArg (Value.int .i64) (show (wt : Int) + 1 = ((wt + 1 : Nat) : Int) by omega))) rfl <| Lw.val (Ex.assign rfl) rfl <| Lw.nil ?_
     exact Pw.midS ((g, wt + 1)) ⟨rfl, rfl, rfl, rfl, rfl, rfl, trivial⟩ (⟨hB6, b_w6, (hw.2 g hgm).bs hB6, hg2.trans pd, by show wt + 1 = _; rw [wtsN_succ hi' hxd, if_pos q2, hwt]⟩)
    intro q2
    have q2 := of_decide_eq_false q2
    have ewt : wt = wtsN (ls.take (i + 1)) := by rw [wtsN_succ hi' hxd, if_neg q2, hwt]
    refine Cw.seq <| Cw.region <| Lw.val (Ex.fieldAddr (q := 0) Tryz.underlying45 rfl (sz_43 _) rfl) rfl <| Lw.val (Ex.ldB (ag_43 _) rfl (by assumption) rfl) rfl ?_
    refine Lw.val (Ex.neq8 rfl (show _ = some (b8 (1#8)) from rfl)) rfl <| Lw.nil ?_
    refine Pw.thenN (Cw.out ?_)
    refine Cw.cond rfl ?_ ?_
    ·intro q1
     have q1 : ¬ x.k = 1#8 := by simpa using q1
     obtain ⟨dz, dv⟩ := IA.deed q1 q2
     rw [← hpv] at dz
     obtain ⟨i0, i1, i2⟩ := do_insT dz
     rw [pd, ← hpv, ← i1, ← i2] at dv
     have h_i5 := hx5.i
     have li := kindF_len NA.kind
     refine Cw.seq <| Cw.region <| Lw.val (Ex.assign rfl) rfl <| Lw.nil ?_
     refine Pw.thenN (Cw.out ?_)
     refine Cw.seq <| Cw.seq <| Cw.region <| Lw.val (Ex.assign rfl) rfl <| Lw.nil ?_
     refine Pw.thenN (Cw.out ?_)
     refine Cw.block ?_
     refine Cw.loop (S := (Nat × Value)) (fun y => [(1, .pointer (some ⟨A_z, 0, none⟩)), (3, q), (7, p), (9, .int .i64 (wt : Int)), (10, .int .i64 (i : Int)), (11, .pointer (some ⟨A_x, 0, none⟩)), (12, .pointer (some ⟨A_w, 0, none⟩)), (13, y.2), (14, .int .i64 (y.1 : Int))]) (fun y w' => y.1 ≤ x.i.length ∧ Below w5.heap.size w5 w' ∧ w'.ownsRow w5.heap.size tenT 2 y.2 y.1 (cellsOf ((x.i.take y.1).map fun j => ts.getD j.toNat default))) (fun y => x.i.length - y.1) ((0, .slice none 0 0)) ⟨rfl, rfl, rfl, rfl, rfl, rfl, rfl, rfl, rfl, trivial⟩ ?_ ?_
     ·exact ⟨Nat.zero_le _, Below.refl _ _, ⟨rfl, .inl ⟨rfl, rfl⟩⟩⟩
     rintro ⟨k, q2v⟩ w6 ⟨hk, hB6, o_q⟩
     replace hk : k ≤ x.i.length := hk
     replace o_q : w6.ownsRow w5.heap.size tenT 2 q2v k (cellsOf ((x.i.take k).map fun j => ts.getD j.toNat default)) := o_q
     have h_i6 := h_i5.bs hB6
     have b_x6 := b_x5.bs hB6
     have hB16 := bt hB5 hB6
     have sq6 := sq.bs hB16
     have z6 := hB6.size
     refine Cw.seq <| Cw.seq <| Cw.region <| Lw.val (Ex.move rfl) rfl <| Lw.val (Ex.fieldAddr (q := 0) Tryz.underlying45 rfl (sz_26 _) rfl) rfl <| Lw.val (Ex.ldB (ag_26 _) rfl (by assumption) rfl) rfl ?_
     refine Lw.val (Ex.lenS st_26 rfl (by assumption)) rfl ?_
     refine Lw.val (Ex.lss rfl rfl) rfl <| Lw.nil ?_
     refine Pw.thenN (Cw.out ?_)
     refine Cw.cond rfl ?_ ?_
     ·intro g
      have hk' : k < x.i.length := by have := of_decide_eq_true g; omega
      obtain ⟨j, hj⟩ : ∃ j, j = x.i.getD k default := ⟨_, rfl⟩
      have hjb := NA.ins j (hj ▸ getD_mem hk')
      have hjt : j.toNat < ts.length := by omega
      obtain ⟨f, hfd⟩ : ∃ f, f = ts[j.toNat] := ⟨_, rfl⟩
      have hfc := ten_cells hjt
      rw [← hfd] at hfc
      have hfm := hT.2 f (hfd ▸ List.getElem_mem hjt)
      have f6 := hfm.bs hB16
      refine Cw.skip ?_
      refine Pw.thenN (Cw.out ?_)
      refine Cw.seq <| Cw.block <| Cw.region <| Lw.val (Ex.move rfl) rfl <| Lw.val (Ex.move rfl) rfl <| Lw.val (Ex.fieldAddr (q := 0) Tryz.underlying45 rfl (sz_26 _) rfl) rfl <| Lw.val (Ex.ldB (ag_26 _) rfl (by assumption) rfl) rfl ?_
      refine Lw.val (Ex.move rfl) rfl <| Lw.val (Ex.idxT st_26 rfl rfl h_i6 k rfl hk') rfl <| Lw.val ((Ex.ldT (ag_3 _) rfl h_i6 hk').as (congrArg (Value.int .i64) (show _ = ((j.toNat : Nat) : Int) by rw [← hj]; omega))) rfl <| Lw.val (Ex.idx st_25 rfl rfl sq6 j.toNat rfl hjt) rfl <| Lw.val (Ex.ldE (cs := [f.x, f.y]) (ag_29 _) (sz_29 _) rfl sq6 rfl (by decide) hfc) rfl <| Lw.valW (Xw.litA1 (cs := [f.x, f.y]) st_25 it_29 rfl rfl (by decide) (by decide)) rfl ?_
      rintro y w7 ⟨o_y, -, hn, -⟩
      have hB7 := bt hB6 hn
      have o_q := own_bs o_q hn
      clear hn
      refine Lw.valW (Xw.append2 (base := w5.heap.size) st_25 it_29 rfl (by decide) rfl rfl o_q (own_sl o_y) f6.one (by omega) (by omega) hB7.size) rfl ?_
      rintro q3 w8 ⟨o_q3, hn, -, -⟩
      have hB8 := hB7.trans hn
      have e1 : cellsOf ((x.i.take (k + 1)).map fun j => ts.getD j.toNat default) = cellsOf ((x.i.take k).map fun j => ts.getD j.toNat default) ++ [f.x, f.y] := by
       rw [List.take_succ_eq_append_getElem hk', List.map_append, cellsOf_app]
       have : x.i[k] = j := by rw [hj]; simp [hk']
       rw [List.map_singleton, this, List.getD_eq_getElem?_getD, List.getElem?_eq_getElem hjt, ← hfd]; rfl
      rw [← e1] at o_q3
      refine Lw.val (Ex.assign rfl) rfl <| Lw.nil <| Pw.blkN ?_
      refine Pw.thenN (Cw.out ?_)
      refine Cw.region <| Lw.val (Ex.move rfl) rfl <| Lw.val (Ex.addI rfl rfl (by omega)) rfl <| Lw.val (Ex.assign rfl) rfl <| Lw.nil ?_
      exact Pw.thenN (Pw.next ((k + 1, q3)) ⟨rfl, rfl, rfl, rfl, rfl, rfl, rfl, rfl, rfl, trivial⟩ (⟨hk', hB8, o_q3⟩) (by simp only; omega))
     intro g
     have hk' : k = x.i.length := by have := of_decide_eq_false g; omega
     subst hk'
     rw [List.take_length] at o_q
     have hTq : Tens w6 q2v (insT ts x) := ⟨by have := own_sl o_q; rw [show x.i.length = (insT ts x).length from (List.length_map ..).symm] at this; exact this, fun c hc => by
      unfold insT at hc
      obtain ⟨j, hj, rfl⟩ := List.mem_map.1 hc
      have hjb := NA.ins j hj
      have hjt : j.toNat < ts.length := by omega
      rw [List.getD_eq_getElem?_getD, List.getElem?_eq_getElem hjt]
      exact (hT.2 _ (List.getElem_mem hjt)).bs hB16⟩
     refine Cw.exit <| Pw.thenE <| Pw.thenE <| Pw.blkHit ?_
     refine Pw.thenN (Cw.out ?_)
     refine Cw.seq <| Cw.region <| Lw.val (Ex.ldA (ag_45 _) (sz_45 _) rfl rfl (by assumption)) rfl ?_
     refine Lw.val (Ex.move rfl) rfl <| Lw.callF rfl rfl (do_c x q2v (insT ts x) w6 (hx5.bs hB6) hTq) ?_
     rintro _ w7 ⟨hn, hA⟩
     rw [i0] at hA
     obtain ⟨f, rfl, -, -, hfy⟩ := hA
     obtain ⟨fs, fl, hfm⟩ := hfy rfl
     have hB7 := bt hB16 hn
     have b_w7 := (b_w.bs hB6).bs hn
     clear hn
     refine Lw.val (Ex.move rfl) rfl <| Lw.val (Ex.extract (i := 0) rfl rfl) rfl <| Lw.val (Ex.extract (i := 1) rfl rfl) rfl <| Lw.boxed (cs := [f.x, f.y]) it_29 rfl rfl rfl rfl (fun _ => rfl) (hfm.at.one) ?_
     rintro A_f w8 eA_f b_f hn zhn
     have hB8 := bt hB7 hn
     have b_w8 := b_w7.bs hn
     have hfm := hfm.bs hn
     clear hn
     refine Lw.val (Ex.assign rfl) rfl <| Lw.nil ?_
     refine Pw.thenN (Cw.out ?_)
     refine Cw.seq <| Cw.seq <| Cw.region <| Lw.val (Ex.move rfl) rfl <| Lw.val (Ex.neq rfl rfl) rfl <| Lw.nil ?_
     refine Pw.thenN (Cw.out ?_)
     refine Cw.condB rfl false (rfl) <| Cw.skip ?_
     refine Pw.thenN (Cw.out ?_)
     refine Cw.region <| Lw.val (Ex.ldA (ag_29 _) (sz_29 _) rfl rfl (by assumption)) rfl ?_
     refine Lw.unit (Xu.stA (cs := [f.x, f.y]) (k := 2) (by kernel_rfl) rfl rfl rfl hfm.at.one b_w8 rfl) ?_
     rintro w9 ⟨b_w9, hg9, -⟩
     have hB9 := hB8.grown hg9 hB8.size (fun b e => by cases e; exact yw)
     have hfm := hfm.ty hg9 (fun b e => by cases e; exact ⟨_, b_w8⟩) (by decide) (by decide)
     have pf : pv f = pv d := by rw [dv]; exact Prod.ext fs fl
     refine Lw.nil ?_
     exact Pw.midS ((f, wt)) ⟨rfl, rfl, rfl, rfl, rfl, rfl, trivial⟩ (⟨hB9, b_w9, ⟨fs ▸ hfm.at.1, fl ▸ hfm.at.2⟩, pf, ewt⟩)
    intro q1
    have q1 : x.k = 1#8 := by simpa using q1
    refine Cw.skip ?_
    exact Pw.midS ((t, wt)) ⟨rfl, rfl, rfl, rfl, rfl, rfl, trivial⟩ (⟨hB5, b_w, ht5, (IA.inp q1).symm.trans pd, ewt⟩)
   rintro ⟨c2, wt2⟩ w6 ⟨hB6, b_w6, hc6, pc6, hwt2⟩
   replace b_w6 : Blk w6 A_w tenT [c2.x, c2.y] := b_w6
   replace hc6 : c2.at w6 := hc6
   replace pc6 : pv c2 = pv d := pc6
   replace hwt2 : wt2 = wtsN (ls.take (i + 1)) := hwt2
   refine Cw.out ?_
   have sq6 := sq.bs hB6
   have hd6 := hdm.bs hB6
   have e1 : d.s = c2.s := congrArg Prod.fst pc6.symm
   have e2 : d.l = c2.l := congrArg Prod.snd pc6.symm
   refine Cw.seq <| Cw.quiet mixed (by kernel_rfl) <| Qw.val (fun w1 hq => Ex.move rfl) rfl <| Qw.val (fun w1 hq => Ex.move rfl) rfl <| Qw.val (fun w1 hq => Ex.idx st_25 rfl rfl (sq6.bs hq) i rfl hit) rfl <| Qw.val (fun w1 hq => Ex.ldE (cs := [d.x, d.y]) (ag_29 _) (sz_29 _) rfl (sq6.bs hq) rfl (by decide) hcc) rfl <| Qw.val (fun w1 hq => Ex.ldA (k := 2) (ag_29 _) (sz_29 _) rfl rfl (b_w6.bs hq)) rfl <| Qw.callF rfl rfl (fun w1 hq => (same_c d.x d.y c2.x c2.y d.s c2.s d.l c2.l _ (hd6.bs hq).1 (hd6.bs hq).2 (hc6.bs hq).1 (hc6.bs hq).2).q hq) <| Qw.val (fun w1 hq => Ex.not rfl) rfl ?_
   refine Qw.nil (fun w7 hq => ?_)
   refine Pw.thenN (Cw.out ?_)
   refine Cw.condB rfl false ((by rw [e1, e2]; simp)) <| Cw.skip <| Pw.blkN ?_
   refine Pw.thenN (Cw.out ?_)
   refine Cw.region <| Lw.val (Ex.move rfl) rfl <| Lw.val (Ex.addI rfl rfl (by omega)) rfl <| Lw.val (Ex.assign rfl) rfl <| Lw.nil ?_
   exact Pw.thenN (Pw.next ((i + 1, wt2)) ⟨rfl, rfl, rfl, rfl, rfl, trivial⟩ (⟨hi', hwt2, bt hB6 hq⟩) (by simp only; omega))
  intro g
  refine Cw.exit <| Pw.thenE <| Pw.thenE <| Pw.blkHit ?_
  refine Pw.thenN (Cw.out ?_)
  refine Cw.seq <| Cw.region <| Lw.val (Ex.assign rfl) rfl <| Lw.nil ?_
  refine Pw.thenN (Cw.out ?_)
  refine Cw.ret <| Pw.ret1 rfl rfl ?_
  exact ⟨rfl, bt hB hB2⟩
set_option maxRecDepth 100000 in
set_option maxHeartbeats 2000000 in
theorem meansSteps_lifted (os : Os) (started : os.Started) (H : Type) (enc : TypeId × Value → H) :
  ReturnsInHanded {} Tryz.checked os 3 .any (Rows.meansStepsSpec.pre6 enc Tryz.prog Tryz.f3 Rows.meansStepsRow.domain false) (Rows.meansStepsSpec.post enc Tryz.prog Tryz.f3 false true false false) := by
 refine returnsInHanded_of_change_sized (C := Tryz.checked) own started (by kernel_rfl) Tryz.func3
  (ChangeSpec.witness6 (enc := enc) (C := Tryz.checked) false ⟨#[], #[.agg #[.slice none 0 0, .slice none 0 0, .slice none 0 0, .slice none 0 0]], []⟩ 8 (by kernel_rfl) (by kernel_rfl) (by kernel_rfl) (by kernel_rfl)) ?_
 intro W base args ds gs before hval0 hW hcnd hsz0 _
 have hval : ∀ (j : Nat) t v, Tryz.f3.params[j]? = some t → args[j]? = some v → Value.okWide Tryz.prog W .any base t v := hval0
 have hW' := hW
 obtain ⟨p, q, hA0, hV, rfl, hfz, hnd⟩ := hW
 have hA : DataW.TrodAll enc Tryz.prog W 0 (fun _ => true) true Tryz.f3.params.toList args.toList ds p := hA0
 have hsz : (DataW.weightsEach Tryz.prog (Tryz.f3.params.toList ++ Rows.meansStepsSpec.plain.varTypes Tryz.prog) (ds ++ gs)).all (· ≤ reachBytes) = true := hsz0
 rw [Tryz.params3] at hA hval hsz
 obtain ⟨v0, vs0, d0, ds0, p0, q0, hargs, rfl, rfl, h0, r0⟩ := trodAll_cons hA
 obtain ⟨rfl, rfl, rfl⟩ := trodAll_nil r0
 obtain rfl : args = #[v0] := by cases args; simp_all
 obtain ⟨rfl, rfl⟩ := trodVars_none hV
 have k0 := h0
 have lt0 : ∀ x ∈ p0, x.block < W.heap.size := by obtain ⟨m, hm⟩ := k0; exact DataW.trod_lt m _ _ _ hm
 have i0 := in_of (j := 0) (t := 31) hsz rfl rfl h0
 have o0 := hval 0 31 v0 rfl rfl
 clear hA0 hval0 hsz0 hsz
 obtain ⟨v, u, ls, ws, t, rfl, h, hl, hf, hw, lw, fw, ht, ft⟩ := arg_given o0 i0
 refine (law_calls (meansSteps_w v u ls ws t W h hl hf hw lw fw ht ft)).mono fun e W' ⟨he, bel⟩ => ?_
 subst he
 exact ⟨_, rfl, _, _, _, [], _, [], hW', trodAll_mk1 (shut_bool un_4 _), (trodAll_cons_mk (Below.trod laidOut (by kernel_rfl) (of_decide_eq_true (by kernel_rfl)) k0 bel lt0) trodAll_mk0), rfl, bel.frame _, fun h => by cases h⟩

/-- The statement. -/
theorem meansSteps_proved : Rows.MeansStepsSaid :=
 OpenClaim.holds_of_wide 3 Tryz.f3 rfl rfl rfl rfl rfl rfl rfl ⟨rfl, rfl, rfl, rfl, rfl⟩ rfl rfl rfl rfl rfl (by kernel_rfl) Tryz.func3 (by kernel_rfl)
  (of_decide_eq_true (by kernel_rfl)) (by unfold Func.isWrapper; first | (rw [if_pos (by decide +kernel)]; kernel_rfl) | (rw [if_neg (by decide +kernel)]; exact ⟨rfl, rfl⟩))
  (fun os started H enc _ => meansSteps_lifted os started H enc)
#print axioms meansSteps_proved
end Go.Proofs.YtmipoeanpnnjoaaGreat
