/- A graph with a node more comes to what that one makes of any node; all nodes ahead come to what they did. For every graph that is not too much work, of 31 nodes at most, all tensors, and any two nodes. -/
import Derived.Test.YtmipoeanpnnjoaaGreatPk7
namespace Go.Proofs.YtmipoeanpnnjoaaGreat
open Go Go.Dd Go.RowKit Go.ChangeShapes Go.WideShapes Go.ChangeAt
set_option maxRecDepth 100000

def mulN (z : Value) (i k : Int) : N5 := ⟨4#8, z, .slice none 0 0, [i, k], [], 0, 0⟩
theorem mulN_ones {z : Value} {i k : Int} (h : z.oneCell' = true) : (mulN z i k).cells.all (·.oneCell') = true := by
 show List.all [b8 4#8, z, .slice none 0 0, .int .i64 0, .int .i64 0] (·.oneCell') = true
 rw [List.all_cons, List.all_cons, h]; rfl
theorem mul_do (z : Value) (i k : Int) (a b : PV) : doE (mulN z i k) [tv a, tv b] = e2 a.1 a.2 b.1 b.2 := by kernel_rfl
theorem more_yes {ls : List N5} {ws vs : List PV} {t : PV} {ss : List (List Int)} (h : Ran ls ws t ss vs) (h31 : ls.length ≤ 31) (z : Value) {i k : Nat} (hi : i < ls.length) (hk : k < ls.length) (e : e2 (vs.getD i ([], [])).1 (vs.getD i ([], [])).2 (vs.getD k ([], [])).1 (vs.getD k ([], [])).2 = 0) :
  allG (ls ++ [mulN z i k]) ws t = some (vs ++ [((vs.getD i ([], [])).1, z2 (· * ·) (vs.getD i ([], [])).1 (vs.getD i ([], [])).2 (vs.getD k ([], [])).2)]) := by
 rw [allG_more h [mulN z i k] (fun x hx => by rw [List.mem_singleton.1 hx]; show (4#8 ≠ 1#8 ∧ 4#8 ≠ 2#8); decide) (by simp; omega) (by simp)]
 have ei : insP vs (mulN z i k) = [tv (vs.getD i ([], [])), tv (vs.getD k ([], []))] := by
  show [tv (vs.getD ((i : Int).toNat) ([], [])), tv (vs.getD ((k : Int).toNat) ([], []))] = _
  rw [Int.toNat_natCast, Int.toNat_natCast]
 have hd : doE (mulN z i k) (insP vs (mulN z i k)) = 0 := by rw [ei, mul_do]; exact e
 have hs := stp_do (agree h) (x := mulN z i k) (by kernel_rfl) (fun j hj => by
  have := h.lss
  rcases List.mem_cons.1 hj with rfl | hj
  ·omega
  ·rw [List.mem_singleton.1 hj]; omega) hd
 have hg : (gshR ss [mulN z i k]).isSome = true := by
  show (match stp ss (mulN z i k) with | some s => gshR (ss ++ [s]) [] | none => none).isSome = true
  rw [hs]; rfl
 rw [if_pos hg]
 have n1 : ¬ (mulN z i k).k = 1#8 := by show ¬ (4#8 = 1#8); decide
 have n2 : ¬ (mulN z i k).k = 2#8 := by show ¬ (4#8 = 2#8); decide
 rw [allR_cons, if_neg n1, if_neg n2, if_pos hd, ei]
 rfl
theorem more_no {ls : List N5} {ws vs : List PV} {t : PV} {ss : List (List Int)} (h : Ran ls ws t ss vs) (h31 : ls.length ≤ 31) (z : Value) {i k : Nat} (hi : i < ls.length) (hk : k < ls.length) (e : e2 (vs.getD i ([], [])).1 (vs.getD i ([], [])).2 (vs.getD k ([], [])).1 (vs.getD k ([], [])).2 ≠ 0) :
  allG (ls ++ [mulN z i k]) ws t = none := by
 rw [allG_more h [mulN z i k] (fun x hx => by rw [List.mem_singleton.1 hx]; show (4#8 ≠ 1#8 ∧ 4#8 ≠ 2#8); decide) (by simp; omega) (by simp)]
 have t1 := (ran_node h hi)
 have t2 := (ran_node h hk)
 have hne : ¬ ss.getD i [] = ss.getD k [] := fun hs => by
  refine e ?_
  have o1 := t1.ok
  have o2 := t2.ok
  unfold e2
  rw [o1, o2, Bool.and_self, if_pos rfl, if_pos (by rw [t1.sh, t2.sh, hs])]
 have hst : stp ss (mulN z i k) = none := by
  unfold stp
  have hG : gshN (mulN z i k).k (mulN z i k).s (mulN z i k).n (mulN z i k).p ((mulN z i k).i.map fun j => ss.getD j.toNat []) = [] := by
   show (if ss.getD (i : Int).toNat [] = ss.getD (k : Int).toNat [] then ss.getD (i : Int).toNat [] else []) = []
   rw [Int.toNat_natCast, Int.toNat_natCast, if_neg hne]
  rw [hG, show Shapes.ok [] = false by decide, Bool.and_false]; rfl
 have hg : (gshR ss [mulN z i k]).isSome = false := by
  show (match stp ss (mulN z i k) with | some s => gshR (ss ++ [s]) [] | none => none).isSome = false
  rw [hst]; rfl
 rw [hg]; rfl
theorem Tens.head {w : World} {v : Value} {ts : List T4} {n : Nat} (h : Tens w v ts) (hn : n ≤ ts.length) : Tens w (cut v 2 0 n) (ts.take n) := by
 refine ⟨?_, fun q hq => h.2 q (List.mem_of_mem_take hq)⟩
 have := Sl.cut (i := 0) (j := n) h.1 (by omega) hn
 rw [Nat.sub_zero, Nat.zero_mul, List.drop_zero] at this
 have e : ∀ (l : List T4) (m : Nat), m ≤ l.length → (cellsOf l).take (m * 2) = cellsOf (l.take m) := by
  intro l
  induction l with
  | nil => intro m hm; simp [cellsOf]
  | cons a l ih =>
   intro m hm
   cases m with
   | zero => simp [cellsOf]
   | succ m =>
    rw [List.take_succ_cons, cellsOf, cellsOf, show (m + 1) * 2 = m * 2 + 1 + 1 by omega, List.take_succ_cons, List.take_succ_cons, ih m (by simpa using hm)]
 rw [e ts n hn] at this
 rw [List.length_take, Nat.min_eq_left hn]
 exact this
theorem gn_ones {w : World} {v : Value} {ls : List N5} (h : GN w v ls) : (flw N5.cells ls).all (·.oneCell') = true := by
 have : ∀ (l : List N5), (∀ t ∈ l, N5.at w t) → (flw N5.cells l).all (·.oneCell') = true := by
  intro l
  induction l with
  | nil => intro _; rfl
  | cons t l ih =>
   intro hl
   rw [show flw N5.cells (t :: l) = t.cells ++ flw N5.cells l by simp [flw], List.all_append, (hl t (by simp)).ones, ih fun x hx => hl x (List.mem_cons_of_mem _ hx)]; rfl
 exact this ls h.each
theorem flw_app (a b : List N5) : flw N5.cells (a ++ b) = flw N5.cells a ++ flw N5.cells b := by simp [flw]
theorem app_lo2 {q : Value} {k b : Nat} (h : q.ownBlock = (Value.slice none 0 0).ownBlock ∨ q.ownBlock = some k) (e : q.ownBlock = some b) : k ≤ b := by
 rcases h with h | h
 ·rw [e] at h; cases h
 ·rw [e] at h; cases h; exact Nat.le_refl _
/-- An answer whose numbers stay when another block is written. -/
def GotM (W w : World) (E : Int) (p : T4) : Prop := p.at w ∧ (E ≠ 0 → p.s = [] ∧ p.l = []) ∧ (E = 0 → MadeK W w p.x p.y p.s p.l)
theorem GotM.bs {W w w' : World} {E : Int} {p : T4} (h : GotM W w E p) (g : Below w.heap.size w w') : GotM W w' E p := ⟨h.1.bs g, h.2.1, fun e => (h.2.2 e).bs g⟩
theorem GotM.ty {W w w' : World} {E : Int} {p : T4} {T : TypeId} {r : Option Nat} (h : GotM W w E p) (g : w.grownBy w' r) (hr : ∀ b, r = some b → ∃ cs, Blk w b T cs) (h1 : 3 ≠ T) (h2 : 21 ≠ T) : p.at w' := by
 by_cases e : E = 0
 ·exact ((h.2.2 e).ty g hr h1 h2).at
 ·obtain ⟨e1, e2⟩ := h.2.1 e
  exact ⟨Sl.stay h.1.1 fun b _ hne => absurd (by rw [e1]; rfl) hne, Sl.stay h.1.2 fun b _ hne => absurd (by rw [e2]; rfl) hne⟩
theorem gn_snoc {w : World} {v z m : Value} {ls : List N5} {ii kk : Int} {B : Nat} (h : GN w v ls) (o : w.ownsRow B nodeT 5 m (ls.length + 1) (flw N5.cells ls ++ (mulN z ii kk).cells)) (s : SlT (Value.int .i64) w z [ii, kk]) : GN w m (ls ++ [mulN z ii kk]) :=
 ⟨by have := own_sl o; rw [flw_app, List.length_append, show flw N5.cells [mulN z ii kk] = (mulN z ii kk).cells from by simp [flw]]; exact this, fun x hx => by
  rcases List.mem_append.1 hx with hx | hx
  ·exact h.each x hx
  ·rw [List.mem_singleton.1 hx]
   exact ⟨s, Sl.nil _ _⟩⟩
set_option maxHeartbeats 1000000 in
theorem meansMore_w (v u : Value) (ls : List N5) (ws : List T4) (t : T4) (da db : BitVec 8) (W : World) (h : GN W v ls) (hl : ls.length ≤ 1125899906842624) (hf : ∀ t ∈ ls, t.few) (hw : Tens W u ws) (lw : ws.length ≤ 1125899906842624) (fw : ∀ t ∈ ws, fewT t) (ht : t.at W) (ft : fewT t) :
  Fnc Tryz.prog 4 [.agg [v, u, t.x, t.y].toArray, b8 da, b8 db] W (fun r w' => r = .bool true ∧ Below W.heap.size W w') := by
 have hB := Below.refl W.heap.size W
 have h_v := h.sl
 refine Fnc.enter (n := 122) Tryz.func4 (by kernel_rfl) rfl rfl rfl <| Cw.seq <| Cw.region <| Lw.boxV (cs := [v, u, t.x, t.y]) rfl rfl rfl ?_
 rintro A_z w eA_z b_z hn -
 replace hB := hB.bs hn
 replace h := h.bs hn
 replace hw := hw.bs hn
 replace ht := ht.bs hn
 replace h_v := h_v.bs hn
 clear hn
 refine Lw.val (Ex.assign rfl) rfl <| Lw.nil ?_
 refine Pw.thenN (Cw.out ?_)
 refine Cw.seq <| Cw.seq <| Cw.region <| Lw.callF rfl rfl (alive_c _) ?_
 rintro _ w ⟨rfl, hn⟩
 replace hB := hB.bs hn
 replace h := h.bs hn
 replace hw := hw.bs hn
 replace ht := ht.bs hn
 replace h_v := h_v.bs hn
 replace b_z := b_z.bs hn
 clear hn
 refine Lw.val (Ex.not rfl) rfl <| Lw.val (Ex.move rfl) rfl <| Lw.know 19 (v' := .bool false) rfl (congrArg Value.bool (rfl)) <| Lw.take (dj := 19) rfl rfl <| Lw.val (Ex.ldA (ag_31 _) (sz_31 _) rfl rfl (by assumption)) rfl ?_
 refine Lw.take (dj := 19) rfl rfl <| Lw.callF rfl rfl (great_c v u ls ws t w h hl hf hw lw fw ht ft) ?_
 rintro _ w ⟨⟨b, rfl, -⟩, hn⟩
 replace hB := hB.bs hn
 replace h := h.bs hn
 replace hw := hw.bs hn
 replace ht := ht.bs hn
 replace h_v := h_v.bs hn
 replace b_z := b_z.bs hn
 clear hn
 refine Lw.val (Ex.pickF rfl rfl) rfl <| Lw.val (Ex.move rfl) rfl ?_
 refine Lw.part 23 rfl ?_ ?_
 ·intro g
  refine Lw.pass (dj := 23) rfl rfl rfl rfl <| Lw.pass (dj := 23) rfl rfl rfl rfl <| Lw.pass (dj := 23) rfl rfl rfl rfl <| Lw.pass (dj := 23) rfl rfl rfl rfl <| Lw.pass (dj := 23) rfl rfl rfl rfl <| Lw.val (Ex.pickT rfl rfl) rfl <| Lw.nil ?_
  refine Pw.thenN (Cw.out ?_)
  refine Cw.condT rfl <| Cw.seq <| Cw.region <| Lw.callF rfl rfl (alive_c _) ?_
  rintro _ w ⟨rfl, hn⟩
  replace hB := hB.bs hn
  replace h := h.bs hn
  replace hw := hw.bs hn
  replace ht := ht.bs hn
  replace h_v := h_v.bs hn
  replace b_z := b_z.bs hn
  clear hn
  refine Lw.val (Ex.assign rfl) rfl <| Lw.nil ?_
  refine Pw.thenN (Cw.out ?_)
  refine Cw.ret <| Pw.thenR <| Pw.ret1 rfl rfl ?_
  exact ⟨rfl, hB⟩
 intro g
 refine Lw.take (dj := 23) rfl rfl <| Lw.val (Ex.fieldAddr (q := 0) Tryz.underlying31 rfl (sz_24 _) rfl) rfl <| Lw.take (dj := 23) rfl rfl <| Lw.val (Ex.fieldAddr (q := 0) Tryz.underlying24 rfl (sz_22 _) rfl) rfl <| Lw.take (dj := 23) rfl rfl <| Lw.val (Ex.ldB (ag_22 _) rfl (by assumption) rfl) rfl ?_
 refine Lw.take (dj := 23) rfl rfl <| Lw.val (Ex.lenS st_22 rfl (by assumption)) rfl ?_
 refine Lw.take (dj := 23) rfl rfl <| Lw.val (Ex.gtr rfl rfl) rfl <| Lw.val (Ex.pickF rfl rfl) rfl <| Lw.nil ?_
 refine Pw.thenN (Cw.out ?_)
 refine Cw.cond rfl ?_ ?_
 ·intro g31
  refine Cw.seq <| Cw.region <| Lw.callF rfl rfl (alive_c _) ?_
  rintro _ w ⟨rfl, hn⟩
  replace hB := hB.bs hn
  replace h := h.bs hn
  replace hw := hw.bs hn
  replace ht := ht.bs hn
  replace h_v := h_v.bs hn
  replace b_z := b_z.bs hn
  clear hn
  refine Lw.val (Ex.assign rfl) rfl <| Lw.nil ?_
  refine Pw.thenN (Cw.out ?_)
  refine Cw.ret <| Pw.thenR <| Pw.ret1 rfl rfl ?_
  exact ⟨rfl, hB⟩
 intro g31
 have g31 : ls.length ≤ 31 := by have := of_decide_eq_false g31; omega
 clear h_v
 obtain ⟨R, hR⟩ : ∃ R, R = allG ls (ws.map pv) (pv t) := ⟨_, rfl⟩
 refine Cw.skip ?_
 refine Pw.thenN (Cw.out ?_)
 refine Cw.seq <| Cw.region <| Lw.val (Ex.fieldAddr (q := 0) Tryz.underlying31 rfl (sz_24 _) rfl) rfl <| Lw.val (Ex.ldAt (ds := [v]) (ag_24 _) (sz_24 _) rfl rfl (by assumption) rfl) rfl ?_
 refine Lw.val (Ex.fieldAddr (q := 0) Tryz.underlying31 rfl (sz_25 _) rfl) rfl <| Lw.val (Ex.ldB (ag_25 _) rfl (by assumption) rfl) rfl ?_
 refine Lw.val (Ex.fieldAddr (q := 1) Tryz.underlying31 rfl (sz_29 _) rfl) rfl <| Lw.val (Ex.ldAt (ds := [t.x, t.y]) (ag_29 _) (sz_29 _) rfl rfl (by assumption) rfl) rfl ?_
 refine Lw.callF rfl rfl (all_c v ls u ws t w h hw ht) ?_
 rintro _ w ⟨hn, hr⟩
 rw [← hR] at hr
 replace hB := hB.bs hn
 replace h := h.bs hn
 replace hw := hw.bs hn
 replace ht := ht.bs hn
 replace b_z := b_z.bs hn
 clear hn
 cases eR : R with
 | none =>
  rw [eR] at hr
  obtain rfl := hr
  refine Lw.val (Ex.move rfl) rfl <| Lw.val (Ex.extract (i := 0) rfl rfl) rfl <| Lw.val (Ex.extract (i := 1) rfl rfl) rfl <| Lw.val (Ex.assign rfl) rfl <| Lw.val (Ex.assign rfl) rfl <| Lw.nil ?_
  refine Pw.thenN (Cw.out ?_)
  refine Cw.seq <| Cw.seq <| Cw.region <| Lw.val (Ex.move rfl) rfl <| Lw.val (Ex.neq rfl rfl) rfl <| Lw.nil ?_
  refine Pw.thenN (Cw.out ?_)
  refine Cw.condB rfl true (rfl) <| Cw.seq <| Cw.region <| Lw.val (Ex.assign rfl) rfl <| Lw.nil ?_
  refine Pw.thenN (Cw.out ?_)
  refine Cw.ret <| Pw.thenR <| Pw.ret1 rfl rfl ?_
  exact ⟨rfl, hB⟩
 | some vs =>
  rw [eR] at hr
  obtain ⟨q, ts, rfl, hT, -, hpv⟩ := hr
  obtain ⟨ss, hss, RN⟩ := ran_of (hR.symm.trans eR)
  have lts : ts.length = ls.length := by rw [← RN.lvs, ← hpv, List.length_map]
  have l1 := RN.ls1
  have sq := hT.1
  obtain ⟨ii, hii⟩ : ∃ i : Nat, i = da.toNat % ts.length := ⟨_, rfl⟩
  obtain ⟨kk, hkk⟩ : ∃ i : Nat, i = db.toNat % ts.length := ⟨_, rfl⟩
  have li : ii < ts.length := hii ▸ Nat.mod_lt _ (by omega)
  have lk : kk < ts.length := hkk ▸ Nat.mod_lt _ (by omega)
  refine Lw.val (Ex.move rfl) rfl <| Lw.val (Ex.extract (i := 0) rfl rfl) rfl <| Lw.val (Ex.extract (i := 1) rfl rfl) rfl <| Lw.val (Ex.assign rfl) rfl <| Lw.val (Ex.assign rfl) rfl <| Lw.nil ?_
  refine Pw.thenN (Cw.out ?_)
  refine Cw.seq <| Cw.seq <| Cw.region <| Lw.val (Ex.move rfl) rfl <| Lw.val (Ex.neq rfl rfl) rfl <| Lw.nil ?_
  refine Pw.thenN (Cw.out ?_)
  refine Cw.condB rfl false (rfl) <| Cw.skip ?_
  refine Pw.thenN (Cw.out ?_)
  refine Cw.seq <| Cw.region <| Lw.val (Ex.move rfl) rfl <| Lw.val (Ex.conv8_I us_5 un_3 rfl) rfl <| Lw.val (Ex.move rfl) rfl <| Lw.val (Ex.lenS st_25 rfl (by assumption)) rfl ?_
  refine Lw.val ((Ex.remI rfl rfl (by omega) (by omega)).as (congrArg (Value.int .i64) (show (da.toNat : Int) % (ts.length : Int) = (ii : Int) by rw [hii]; omega))) rfl <| Lw.val (Ex.assign rfl) rfl <| Lw.nil ?_
  refine Pw.thenN (Cw.out ?_)
  refine Cw.seq <| Cw.region <| Lw.val (Ex.move rfl) rfl <| Lw.val (Ex.conv8_I us_5 un_3 rfl) rfl <| Lw.val (Ex.move rfl) rfl <| Lw.val (Ex.lenS st_25 rfl (by assumption)) rfl ?_
  refine Lw.val ((Ex.remI rfl rfl (by omega) (by omega)).as (congrArg (Value.int .i64) (show (db.toNat : Int) % (ts.length : Int) = (kk : Int) by rw [hkk]; omega))) rfl <| Lw.val (Ex.assign rfl) rfl <| Lw.nil ?_
  refine Pw.thenN (Cw.out ?_)
  refine Cw.seq <| Cw.region <| Lw.val (Ex.move rfl) rfl <| Lw.val (Ex.move rfl) rfl ?_
  clear sq
  refine Lw.valW (Xw.lit (vs := [(ii : Int), (kk : Int)].map (Value.int .i64)) st_26 it_3 rfl rfl rfl rfl rfl) rfl ?_
  rintro z w ⟨o_z, -, hn, -⟩
  replace hB := hB.bs hn
  replace h := h.bs hn
  replace hw := hw.bs hn
  replace ht := ht.bs hn
  replace b_z := b_z.bs hn
  replace hT := hT.bs hn
  clear hn
  refine Lw.val (Ex.build (cs := (mulN z ii kk).cells) rfl (bt_nodeI 4#8 z (sl_form (own_sl o_z)))) rfl <| Lw.boxed (cs := (mulN z ii kk).cells) it_45 rfl rfl rfl rfl (fun _ => rfl) ((mulN_ones (own_sl o_z).one')) ?_
  rintro A_x w0 eA_x b_x hn zhn
  replace hB := hB.bs hn
  replace h := h.bs hn
  replace hw := hw.bs hn
  replace ht := ht.bs hn
  replace b_z := b_z.bs hn
  replace hT := hT.bs hn
  replace o_z := o_z.bs hn
  clear hn
  refine Lw.nil ?_
  refine Pw.thenN (Cw.out ?_)
  refine Cw.seq ?_
  refine Cw.midS (St := Nat × Value) (fun s => [(3, .pointer (some ⟨A_z, 0, none⟩)), (7, q), (9, .int .i64 (ii : Int)), (10, .int .i64 (kk : Int)), (12, .pointer (some ⟨s.1, 0, none⟩))]) (fun s w' => Below w0.heap.size w0 w' ∧ Blk w' s.1 24 [s.2] ∧ GN w' s.2 (ls ++ [mulN z ii kk])) ?_ ?_
  ·refine Cw.any mixed (fun w hC _ => ?_)
   refine Aw.cls (fun w' => Below w0.heap.size w0 w') (fun hC => ?_) (hC)
   refine AwC.take (i := 0) NoP.midS rfl (by kernel_rfl) (by kernel_rfl) (by kernel_rfl) (fun w1 hc => Ex.fieldAddr (q := 0) Tryz.underlying31 rfl (sz_24 _) rfl) rfl <| AwC.take (i := 1) NoP.midS rfl (by kernel_rfl) (by kernel_rfl) (by kernel_rfl) (fun w1 hc => Ex.fieldAddr (q := 0) Tryz.underlying24 rfl (sz_22 _) rfl) rfl <| AwC.take (i := 2) NoP.midS rfl (by kernel_rfl) (by kernel_rfl) (by kernel_rfl) (fun w1 hc => Ex.ldB (ag_22 _) rfl (Blk.bs (by assumption) hc) rfl) rfl ?_
   refine AwC.take (i := 4) NoP.midS rfl (by kernel_rfl) (by kernel_rfl) (by kernel_rfl) (fun w1 hc => Ex.ldA (ag_45 _) (sz_45 _) rfl rfl (Blk.bs (by assumption) hc)) rfl ?_
   refine AwC.three (by assumption) (i0 := 3) (i1 := 5) (i2 := 8) (by kernel_rfl) rfl rfl rfl ?_ ?_ ?_
   have zc := hC.size
   have h_v0 := h.bs hC
   refine Lw.valW (Xw.append2 (base := w0.heap.size) st_22 it_45 rfl (by decide) rfl rfl (World.ownsRow_nil _ _ _ _) h_v0.sl (gn_ones h_v0) (by omega) (by omega) zc) rfl ?_
   rintro q9 w ⟨o_q, -, hg, hqv⟩
   rw [List.nil_append, Nat.zero_add] at o_q
   have n_q := fun b (e : q9.ownBlock = some b) => And.intro (app_lo2 hqv e) (own_block o_q b e).2
   have hn := grown_below hg (Nat.le_refl _) fun _ e => by cases e
   have zz := hn.size
   replace hC := hC.bs hn
   clear hn hg zc hqv h_v0
   refine AwC.back ?_
   refine AwC.two (by assumption) (i := 5) (j := 8) (by kernel_rfl) rfl rfl ?_ ?_
   refine Lw.valW (Xw.litA1 (cs := (mulN z ii kk).cells) st_22 it_45 rfl rfl (by decide) (by decide)) rfl ?_
   rintro p9 w ⟨o_p, -, hn, -⟩
   have zz := hn.size
   replace hC := hC.bs hn
   replace o_q := o_q.bs hn
   clear hn
   refine AwC.back ?_
   refine AwC.two (by assumption) (i := 6) (j := 8) (by kernel_rfl) rfl rfl ?_ ?_
   have zc := hC.size
   refine Lw.valW (Xw.append2 (base := w0.heap.size) st_22 it_45 rfl (by decide) rfl rfl o_q (own_sl o_p) (mulN_ones (own_sl o_z).one') (by omega) (by omega) zc) rfl ?_
   rintro m w ⟨o_m, hn, hg, -⟩
   have hC := hC.trans hn
   try replace b_g := b_g.by hg (fun e => by have := n_q _ e.symm; omega)
   have zz := hg.size
   clear hn hg zc
   refine AwC.back <| AwC.take (i := 7) NoP.midS rfl (by kernel_rfl) (by kernel_rfl) (by kernel_rfl) (fun w1 hc => Ex.build (vs := [(0, m)]) (cs := [m]) rfl (bt_graph m (sl_form (own_sl o_m)))) rfl <| AwC.only (by assumption) (i := 8) (by kernel_rfl) rfl ?_
   have zc := hC.size
   refine Lw.newA it_24 rfl ?_
   rintro A_g w eA_g b_g hn -
   replace hC := hC.bs hn
   replace o_m := o_m.bs hn
   clear hn
   refine AwC.back <| AwC.only (by assumption) (i := 9) (by kernel_rfl) rfl ?_
   have yg : w0.heap.size ≤ A_g := by omega
   have yb := blk_lt b_g
   clear zc
   refine Lw.unit (Xu.stA (cs := [m]) (k := 1) (by kernel_rfl) rfl rfl rfl (by rw [List.all_cons, (own_sl o_m).one']; rfl) b_g rfl) ?_
   rintro w' ⟨b_g', hg, hz⟩
   have hC' := hC.grown hg hC.size (by rintro _ e; have := Option.some.inj e; omega)
   have hG' := gn_snoc (h.bs hC') (own_apart o_m b_g (by decide) hg) ((own_slT o_z).bs hC')
   refine AwC.back <| AwC.done (by assumption) (by kernel_rfl) ?_
   exact Pw.midS ((A_g, m)) ⟨rfl, rfl, rfl, rfl, rfl, trivial⟩ (⟨hC', b_g', hG'⟩)
   have zc := hC.size
   refine Lw.newA it_24 rfl ?_
   rintro A_g w eA_g b_g hn -
   replace hC := hC.bs hn
   replace o_q := o_q.bs hn
   replace o_p := o_p.bs hn
   clear hn
   refine AwC.back <| AwC.only (by assumption) (i := 6) (by kernel_rfl) rfl ?_
   have yg : w0.heap.size ≤ A_g := by omega
   have yb := blk_lt b_g
   clear zc
   have zc := hC.size
   refine Lw.valW (Xw.append2 (base := w0.heap.size) st_22 it_45 rfl (by decide) rfl rfl o_q (own_sl o_p) (mulN_ones (own_sl o_z).one') (by omega) (by omega) zc) rfl ?_
   rintro m w ⟨o_m, hn, hg, -⟩
   have hC := hC.trans hn
   try replace b_g := b_g.by hg (fun e => by have := n_q _ e.symm; omega)
   have zz := hg.size
   clear hn hg zc
   refine AwC.back <| AwC.take (i := 7) NoP.midS rfl (by kernel_rfl) (by kernel_rfl) (by kernel_rfl) (fun w1 hc => Ex.build (vs := [(0, m)]) (cs := [m]) rfl (bt_graph m (sl_form (own_sl o_m)))) rfl <| AwC.only (by assumption) (i := 9) (by kernel_rfl) rfl ?_
   refine Lw.unit (Xu.stA (cs := [m]) (k := 1) (by kernel_rfl) rfl rfl rfl (by rw [List.all_cons, (own_sl o_m).one']; rfl) b_g rfl) ?_
   rintro w' ⟨b_g', hg, hz⟩
   have hC' := hC.grown hg hC.size (by rintro _ e; have := Option.some.inj e; omega)
   have hG' := gn_snoc (h.bs hC') (own_apart o_m b_g (by decide) hg) ((own_slT o_z).bs hC')
   refine AwC.back <| AwC.done (by assumption) (by kernel_rfl) ?_
   exact Pw.midS ((A_g, m)) ⟨rfl, rfl, rfl, rfl, rfl, trivial⟩ (⟨hC', b_g', hG'⟩)
   have zc := hC.size
   refine Lw.newA it_24 rfl ?_
   rintro A_g w eA_g b_g hn -
   replace hC := hC.bs hn
   replace o_q := o_q.bs hn
   clear hn
   refine AwC.back <| AwC.only (by assumption) (i := 5) (by kernel_rfl) rfl ?_
   have yg : w0.heap.size ≤ A_g := by omega
   have yb := blk_lt b_g
   clear zc
   refine Lw.valW (Xw.litA1 (cs := (mulN z ii kk).cells) st_22 it_45 rfl rfl (by decide) (by decide)) rfl ?_
   rintro p9 w ⟨o_p, -, hn, -⟩
   have zz := hn.size
   replace hC := hC.bs hn
   replace o_q := o_q.bs hn
   replace b_g := b_g.bs hn
   clear hn
   refine AwC.back <| AwC.only (by assumption) (i := 6) (by kernel_rfl) rfl ?_
   have zc := hC.size
   refine Lw.valW (Xw.append2 (base := w0.heap.size) st_22 it_45 rfl (by decide) rfl rfl o_q (own_sl o_p) (mulN_ones (own_sl o_z).one') (by omega) (by omega) zc) rfl ?_
   rintro m w ⟨o_m, hn, hg, -⟩
   have hC := hC.trans hn
   try replace b_g := b_g.by hg (fun e => by have := n_q _ e.symm; omega)
   have zz := hg.size
   clear hn hg zc
   refine AwC.back <| AwC.take (i := 7) NoP.midS rfl (by kernel_rfl) (by kernel_rfl) (by kernel_rfl) (fun w1 hc => Ex.build (vs := [(0, m)]) (cs := [m]) rfl (bt_graph m (sl_form (own_sl o_m)))) rfl <| AwC.only (by assumption) (i := 9) (by kernel_rfl) rfl ?_
   refine Lw.unit (Xu.stA (cs := [m]) (k := 1) (by kernel_rfl) rfl rfl rfl (by rw [List.all_cons, (own_sl o_m).one']; rfl) b_g rfl) ?_
   rintro w' ⟨b_g', hg, hz⟩
   have hC' := hC.grown hg hC.size (by rintro _ e; have := Option.some.inj e; omega)
   have hG' := gn_snoc (h.bs hC') (own_apart o_m b_g (by decide) hg) ((own_slT o_z).bs hC')
   refine AwC.back <| AwC.done (by assumption) (by kernel_rfl) ?_
   exact Pw.midS ((A_g, m)) ⟨rfl, rfl, rfl, rfl, rfl, trivial⟩ (⟨hC', b_g', hG'⟩)
   refine Lw.valW (Xw.litA1 (cs := (mulN z ii kk).cells) st_22 it_45 rfl rfl (by decide) (by decide)) rfl ?_
   rintro p9 w ⟨o_p, -, hn, -⟩
   have zz := hn.size
   replace hC := hC.bs hn
   clear hn
   refine AwC.back ?_
   refine AwC.two (by assumption) (i := 3) (j := 8) (by kernel_rfl) rfl rfl ?_ ?_
   have zc := hC.size
   have h_v0 := h.bs hC
   refine Lw.valW (Xw.append2 (base := w0.heap.size) st_22 it_45 rfl (by decide) rfl rfl (World.ownsRow_nil _ _ _ _) h_v0.sl (gn_ones h_v0) (by omega) (by omega) zc) rfl ?_
   rintro q9 w ⟨o_q, -, hg, hqv⟩
   rw [List.nil_append, Nat.zero_add] at o_q
   have n_q := fun b (e : q9.ownBlock = some b) => And.intro (app_lo2 hqv e) (own_block o_q b e).2
   have hn := grown_below hg (Nat.le_refl _) fun _ e => by cases e
   have zz := hn.size
   replace hC := hC.bs hn
   replace o_p := o_p.bs hn
   clear hn hg zc hqv h_v0
   refine AwC.back ?_
   refine AwC.two (by assumption) (i := 6) (j := 8) (by kernel_rfl) rfl rfl ?_ ?_
   have zc := hC.size
   refine Lw.valW (Xw.append2 (base := w0.heap.size) st_22 it_45 rfl (by decide) rfl rfl o_q (own_sl o_p) (mulN_ones (own_sl o_z).one') (by omega) (by omega) zc) rfl ?_
   rintro m w ⟨o_m, hn, hg, -⟩
   have hC := hC.trans hn
   try replace b_g := b_g.by hg (fun e => by have := n_q _ e.symm; omega)
   have zz := hg.size
   clear hn hg zc
   refine AwC.back <| AwC.take (i := 7) NoP.midS rfl (by kernel_rfl) (by kernel_rfl) (by kernel_rfl) (fun w1 hc => Ex.build (vs := [(0, m)]) (cs := [m]) rfl (bt_graph m (sl_form (own_sl o_m)))) rfl <| AwC.only (by assumption) (i := 8) (by kernel_rfl) rfl ?_
   have zc := hC.size
   refine Lw.newA it_24 rfl ?_
   rintro A_g w eA_g b_g hn -
   replace hC := hC.bs hn
   replace o_m := o_m.bs hn
   clear hn
   refine AwC.back <| AwC.only (by assumption) (i := 9) (by kernel_rfl) rfl ?_
   have yg : w0.heap.size ≤ A_g := by omega
   have yb := blk_lt b_g
   clear zc
   refine Lw.unit (Xu.stA (cs := [m]) (k := 1) (by kernel_rfl) rfl rfl rfl (by rw [List.all_cons, (own_sl o_m).one']; rfl) b_g rfl) ?_
   rintro w' ⟨b_g', hg, hz⟩
   have hC' := hC.grown hg hC.size (by rintro _ e; have := Option.some.inj e; omega)
   have hG' := gn_snoc (h.bs hC') (own_apart o_m b_g (by decide) hg) ((own_slT o_z).bs hC')
   refine AwC.back <| AwC.done (by assumption) (by kernel_rfl) ?_
   exact Pw.midS ((A_g, m)) ⟨rfl, rfl, rfl, rfl, rfl, trivial⟩ (⟨hC', b_g', hG'⟩)
   have zc := hC.size
   refine Lw.newA it_24 rfl ?_
   rintro A_g w eA_g b_g hn -
   replace hC := hC.bs hn
   replace o_p := o_p.bs hn
   replace o_q := o_q.bs hn
   clear hn
   refine AwC.back <| AwC.only (by assumption) (i := 6) (by kernel_rfl) rfl ?_
   have yg : w0.heap.size ≤ A_g := by omega
   have yb := blk_lt b_g
   clear zc
   have zc := hC.size
   refine Lw.valW (Xw.append2 (base := w0.heap.size) st_22 it_45 rfl (by decide) rfl rfl o_q (own_sl o_p) (mulN_ones (own_sl o_z).one') (by omega) (by omega) zc) rfl ?_
   rintro m w ⟨o_m, hn, hg, -⟩
   have hC := hC.trans hn
   try replace b_g := b_g.by hg (fun e => by have := n_q _ e.symm; omega)
   have zz := hg.size
   clear hn hg zc
   refine AwC.back <| AwC.take (i := 7) NoP.midS rfl (by kernel_rfl) (by kernel_rfl) (by kernel_rfl) (fun w1 hc => Ex.build (vs := [(0, m)]) (cs := [m]) rfl (bt_graph m (sl_form (own_sl o_m)))) rfl <| AwC.only (by assumption) (i := 9) (by kernel_rfl) rfl ?_
   refine Lw.unit (Xu.stA (cs := [m]) (k := 1) (by kernel_rfl) rfl rfl rfl (by rw [List.all_cons, (own_sl o_m).one']; rfl) b_g rfl) ?_
   rintro w' ⟨b_g', hg, hz⟩
   have hC' := hC.grown hg hC.size (by rintro _ e; have := Option.some.inj e; omega)
   have hG' := gn_snoc (h.bs hC') (own_apart o_m b_g (by decide) hg) ((own_slT o_z).bs hC')
   refine AwC.back <| AwC.done (by assumption) (by kernel_rfl) ?_
   exact Pw.midS ((A_g, m)) ⟨rfl, rfl, rfl, rfl, rfl, trivial⟩ (⟨hC', b_g', hG'⟩)
   have zc := hC.size
   refine Lw.newA it_24 rfl ?_
   rintro A_g w eA_g b_g hn -
   replace hC := hC.bs hn
   replace o_p := o_p.bs hn
   clear hn
   refine AwC.back <| AwC.only (by assumption) (i := 3) (by kernel_rfl) rfl ?_
   have yg : w0.heap.size ≤ A_g := by omega
   have yb := blk_lt b_g
   clear zc
   have zc := hC.size
   have h_v0 := h.bs hC
   refine Lw.valW (Xw.append2 (base := w0.heap.size) st_22 it_45 rfl (by decide) rfl rfl (World.ownsRow_nil _ _ _ _) h_v0.sl (gn_ones h_v0) (by omega) (by omega) zc) rfl ?_
   rintro q9 w ⟨o_q, -, hg, hqv⟩
   rw [List.nil_append, Nat.zero_add] at o_q
   have n_q := fun b (e : q9.ownBlock = some b) => And.intro (app_lo2 hqv e) (own_block o_q b e).2
   have hn := grown_below hg (Nat.le_refl _) fun _ e => by cases e
   have zz := hn.size
   replace hC := hC.bs hn
   replace o_p := o_p.bs hn
   replace b_g := b_g.bs hn
   clear hn hg zc hqv h_v0
   refine AwC.back <| AwC.only (by assumption) (i := 6) (by kernel_rfl) rfl ?_
   have zc := hC.size
   refine Lw.valW (Xw.append2 (base := w0.heap.size) st_22 it_45 rfl (by decide) rfl rfl o_q (own_sl o_p) (mulN_ones (own_sl o_z).one') (by omega) (by omega) zc) rfl ?_
   rintro m w ⟨o_m, hn, hg, -⟩
   have hC := hC.trans hn
   try replace b_g := b_g.by hg (fun e => by have := n_q _ e.symm; omega)
   have zz := hg.size
   clear hn hg zc
   refine AwC.back <| AwC.take (i := 7) NoP.midS rfl (by kernel_rfl) (by kernel_rfl) (by kernel_rfl) (fun w1 hc => Ex.build (vs := [(0, m)]) (cs := [m]) rfl (bt_graph m (sl_form (own_sl o_m)))) rfl <| AwC.only (by assumption) (i := 9) (by kernel_rfl) rfl ?_
   refine Lw.unit (Xu.stA (cs := [m]) (k := 1) (by kernel_rfl) rfl rfl rfl (by rw [List.all_cons, (own_sl o_m).one']; rfl) b_g rfl) ?_
   rintro w' ⟨b_g', hg, hz⟩
   have hC' := hC.grown hg hC.size (by rintro _ e; have := Option.some.inj e; omega)
   have hG' := gn_snoc (h.bs hC') (own_apart o_m b_g (by decide) hg) ((own_slT o_z).bs hC')
   refine AwC.back <| AwC.done (by assumption) (by kernel_rfl) ?_
   exact Pw.midS ((A_g, m)) ⟨rfl, rfl, rfl, rfl, rfl, trivial⟩ (⟨hC', b_g', hG'⟩)
   have zc := hC.size
   refine Lw.newA it_24 rfl ?_
   rintro A_g w eA_g b_g hn -
   replace hC := hC.bs hn
   clear hn
   refine AwC.back ?_
   have yg : w0.heap.size ≤ A_g := by omega
   have yb := blk_lt b_g
   clear zc
   refine AwC.two (by assumption) (i := 3) (j := 5) (by kernel_rfl) rfl rfl ?_ ?_
   have zc := hC.size
   have h_v0 := h.bs hC
   refine Lw.valW (Xw.append2 (base := w0.heap.size) st_22 it_45 rfl (by decide) rfl rfl (World.ownsRow_nil _ _ _ _) h_v0.sl (gn_ones h_v0) (by omega) (by omega) zc) rfl ?_
   rintro q9 w ⟨o_q, -, hg, hqv⟩
   rw [List.nil_append, Nat.zero_add] at o_q
   have n_q := fun b (e : q9.ownBlock = some b) => And.intro (app_lo2 hqv e) (own_block o_q b e).2
   have hn := grown_below hg (Nat.le_refl _) fun _ e => by cases e
   have zz := hn.size
   replace hC := hC.bs hn
   replace b_g := b_g.bs hn
   clear hn hg zc hqv h_v0
   refine AwC.back <| AwC.only (by assumption) (i := 5) (by kernel_rfl) rfl ?_
   refine Lw.valW (Xw.litA1 (cs := (mulN z ii kk).cells) st_22 it_45 rfl rfl (by decide) (by decide)) rfl ?_
   rintro p9 w ⟨o_p, -, hn, -⟩
   have zz := hn.size
   replace hC := hC.bs hn
   replace b_g := b_g.bs hn
   replace o_q := o_q.bs hn
   clear hn
   refine AwC.back <| AwC.only (by assumption) (i := 6) (by kernel_rfl) rfl ?_
   have zc := hC.size
   refine Lw.valW (Xw.append2 (base := w0.heap.size) st_22 it_45 rfl (by decide) rfl rfl o_q (own_sl o_p) (mulN_ones (own_sl o_z).one') (by omega) (by omega) zc) rfl ?_
   rintro m w ⟨o_m, hn, hg, -⟩
   have hC := hC.trans hn
   try replace b_g := b_g.by hg (fun e => by have := n_q _ e.symm; omega)
   have zz := hg.size
   clear hn hg zc
   refine AwC.back <| AwC.take (i := 7) NoP.midS rfl (by kernel_rfl) (by kernel_rfl) (by kernel_rfl) (fun w1 hc => Ex.build (vs := [(0, m)]) (cs := [m]) rfl (bt_graph m (sl_form (own_sl o_m)))) rfl <| AwC.only (by assumption) (i := 9) (by kernel_rfl) rfl ?_
   refine Lw.unit (Xu.stA (cs := [m]) (k := 1) (by kernel_rfl) rfl rfl rfl (by rw [List.all_cons, (own_sl o_m).one']; rfl) b_g rfl) ?_
   rintro w' ⟨b_g', hg, hz⟩
   have hC' := hC.grown hg hC.size (by rintro _ e; have := Option.some.inj e; omega)
   have hG' := gn_snoc (h.bs hC') (own_apart o_m b_g (by decide) hg) ((own_slT o_z).bs hC')
   refine AwC.back <| AwC.done (by assumption) (by kernel_rfl) ?_
   exact Pw.midS ((A_g, m)) ⟨rfl, rfl, rfl, rfl, rfl, trivial⟩ (⟨hC', b_g', hG'⟩)
   refine Lw.valW (Xw.litA1 (cs := (mulN z ii kk).cells) st_22 it_45 rfl rfl (by decide) (by decide)) rfl ?_
   rintro p9 w ⟨o_p, -, hn, -⟩
   have zz := hn.size
   replace hC := hC.bs hn
   replace b_g := b_g.bs hn
   clear hn
   refine AwC.back <| AwC.only (by assumption) (i := 3) (by kernel_rfl) rfl ?_
   have zc := hC.size
   have h_v0 := h.bs hC
   refine Lw.valW (Xw.append2 (base := w0.heap.size) st_22 it_45 rfl (by decide) rfl rfl (World.ownsRow_nil _ _ _ _) h_v0.sl (gn_ones h_v0) (by omega) (by omega) zc) rfl ?_
   rintro q9 w ⟨o_q, -, hg, hqv⟩
   rw [List.nil_append, Nat.zero_add] at o_q
   have n_q := fun b (e : q9.ownBlock = some b) => And.intro (app_lo2 hqv e) (own_block o_q b e).2
   have hn := grown_below hg (Nat.le_refl _) fun _ e => by cases e
   have zz := hn.size
   replace hC := hC.bs hn
   replace b_g := b_g.bs hn
   replace o_p := o_p.bs hn
   clear hn hg zc hqv h_v0
   refine AwC.back <| AwC.only (by assumption) (i := 6) (by kernel_rfl) rfl ?_
   have zc := hC.size
   refine Lw.valW (Xw.append2 (base := w0.heap.size) st_22 it_45 rfl (by decide) rfl rfl o_q (own_sl o_p) (mulN_ones (own_sl o_z).one') (by omega) (by omega) zc) rfl ?_
   rintro m w ⟨o_m, hn, hg, -⟩
   have hC := hC.trans hn
   try replace b_g := b_g.by hg (fun e => by have := n_q _ e.symm; omega)
   have zz := hg.size
   clear hn hg zc
   refine AwC.back <| AwC.take (i := 7) NoP.midS rfl (by kernel_rfl) (by kernel_rfl) (by kernel_rfl) (fun w1 hc => Ex.build (vs := [(0, m)]) (cs := [m]) rfl (bt_graph m (sl_form (own_sl o_m)))) rfl <| AwC.only (by assumption) (i := 9) (by kernel_rfl) rfl ?_
   refine Lw.unit (Xu.stA (cs := [m]) (k := 1) (by kernel_rfl) rfl rfl rfl (by rw [List.all_cons, (own_sl o_m).one']; rfl) b_g rfl) ?_
   rintro w' ⟨b_g', hg, hz⟩
   have hC' := hC.grown hg hC.size (by rintro _ e; have := Option.some.inj e; omega)
   have hG' := gn_snoc (h.bs hC') (own_apart o_m b_g (by decide) hg) ((own_slT o_z).bs hC')
   refine AwC.back <| AwC.done (by assumption) (by kernel_rfl) ?_
   exact Pw.midS ((A_g, m)) ⟨rfl, rfl, rfl, rfl, rfl, trivial⟩ (⟨hC', b_g', hG'⟩)
  rintro ⟨A_g, m⟩ w1 ⟨hC, b_g, hG⟩
  replace b_g : Blk w1 A_g 24 [m] := b_g
  replace hG : GN w1 m (ls ++ [mulN z ii kk]) := hG
  replace hB := hB.bs hC
  replace h := h.bs hC
  replace hw := hw.bs hC
  replace ht := ht.bs hC
  replace b_z := b_z.bs hC
  replace hT := hT.bs hC
  replace o_z := o_z.bs hC
  replace b_x := b_x.bs hC
  clear hC o_z b_x
  refine Cw.out ?_
  obtain ⟨R2, hR2⟩ : ∃ R, R = allG (ls ++ [mulN z ii kk]) (ws.map pv) (pv t) := ⟨_, rfl⟩
  obtain ⟨a, had⟩ : ∃ a, a = ts[ii] := ⟨_, rfl⟩
  obtain ⟨c, hcd⟩ : ∃ c, c = ts[kk] := ⟨_, rfl⟩
  have va : vs.getD ii ([], []) = pv a := by rw [← hpv, getD_pv, List.getD_eq_getElem?_getD, List.getElem?_eq_getElem li, ← had]; rfl
  have vc : vs.getD kk ([], []) = pv c := by rw [← hpv, getD_pv, List.getD_eq_getElem?_getD, List.getElem?_eq_getElem lk, ← hcd]; rfl
  have yes := more_yes RN g31 z (i := ii) (k := kk) (by omega) (by omega)
  have no := more_no RN g31 z (i := ii) (k := kk) (by omega) (by omega)
  rw [va, vc, ← hR2] at yes no
  replace yes : e2 a.s a.l c.s c.l = 0 → R2 = some (vs ++ [(a.s, z2 (· * ·) a.s a.l c.l)]) := yes
  replace no : e2 a.s a.l c.s c.l ≠ 0 → R2 = none := no
  refine Cw.seq <| Cw.region <| Lw.val (Ex.ldA (ag_24 _) (sz_24 _) rfl rfl (by assumption)) rfl ?_
  refine Lw.val (Ex.fieldAddr (q := 0) Tryz.underlying31 rfl (sz_25 _) rfl) rfl <| Lw.val (Ex.ldB (ag_25 _) rfl (by assumption) rfl) rfl ?_
  refine Lw.val (Ex.fieldAddr (q := 1) Tryz.underlying31 rfl (sz_29 _) rfl) rfl <| Lw.val (Ex.ldAt (ds := [t.x, t.y]) (ag_29 _) (sz_29 _) rfl rfl (by assumption) rfl) rfl ?_
  refine Lw.callF rfl rfl (all_c m _ u ws t _ hG hw ht) ?_
  rintro r3 w2 ⟨hn, hr⟩
  rw [← hR2] at hr
  replace hB := hB.bs hn
  replace hw := hw.bs hn
  replace ht := ht.bs hn
  replace b_z := b_z.bs hn
  replace hT := hT.bs hn
  replace b_g := b_g.bs hn
  replace hG := hG.bs hn
  clear hn
  obtain ⟨E, hE⟩ : ∃ E, E = e2 a.s a.l c.s c.l := ⟨_, rfl⟩
  rw [← hE] at yes no
  obtain ⟨m2, f, rfl, y2, n2⟩ : ∃ m2 f, r3 = .tuple #[m2, .int .i64 f] ∧ (E = 0 → f = 0 ∧ ∃ ts2, Tens w2 m2 ts2 ∧ ts2.map pv = vs ++ [(a.s, z2 (· * ·) a.s a.l c.l)]) ∧ (E ≠ 0 → f = 1 ∧ m2 = .slice none 0 0) := by
   by_cases e0 : E = 0
   ·rw [yes e0] at hr
    obtain ⟨m2, ts2, rfl, hT2, -, e⟩ := hr
    exact ⟨m2, 0, rfl, fun _ => ⟨rfl, ts2, hT2, e⟩, fun h => absurd e0 h⟩
   ·rw [no e0] at hr
    exact ⟨_, 1, hr, fun h => absurd h e0, fun _ => ⟨rfl, rfl⟩⟩
  clear hr yes no
  have sq := hT.1
  have a_at := hT.2 a (had ▸ List.getElem_mem li)
  have c_at := hT.2 c (hcd ▸ List.getElem_mem lk)
  have acc := ten_cells li
  rw [← had] at acc
  have ccc := ten_cells lk
  rw [← hcd] at ccc
  obtain ⟨w3, hw3⟩ : ∃ w3, w3 = w2 := ⟨_, rfl⟩
  rw [← hw3] at sq a_at c_at hB hT b_z y2
  rw [← hw3]
  refine Lw.val (Ex.move rfl) rfl <| Lw.val (Ex.extract (i := 0) rfl rfl) rfl <| Lw.val (Ex.extract (i := 1) rfl rfl) rfl <| Lw.val (Ex.assign rfl) rfl <| Lw.val (Ex.assign rfl) rfl <| Lw.nil ?_
  refine Pw.thenN (Cw.out ?_)
  refine Cw.seq ?_
  refine Cw.midS (St := Nat × T4) (fun s => [(7, q), (13, m2), (14, .int .i64 f), (15, .pointer (some ⟨s.1, 0, none⟩)), (16, .int .i64 E)]) (fun s w' => Below w3.heap.size w3 w' ∧ Blk w' s.1 tenT [s.2.x, s.2.y] ∧ s.2.at w' ∧ (E = 0 → pv s.2 = (a.s, z2 (· * ·) a.s a.l c.l))) ?_ ?_
  ·refine Cw.any mixed (fun w hC _ => ?_)
   refine Aw.cls (fun w' => Below w3.heap.size w3 w') (fun hC => ?_) (hC)
   refine AwC.take (i := 0) NoP.midS rfl (by kernel_rfl) (by kernel_rfl) (by kernel_rfl) (fun w1 hc => Ex.move rfl) rfl <| AwC.take (i := 1) NoP.midS rfl (by kernel_rfl) (by kernel_rfl) (by kernel_rfl) (fun w1 hc => Ex.move rfl) rfl <| AwC.take (i := 2) NoP.midS rfl (by kernel_rfl) (by kernel_rfl) (by kernel_rfl) (fun w1 hc => Ex.idx st_25 rfl rfl (sq.bs hc) ii rfl li) rfl <| AwC.take (i := 3) NoP.midS rfl (by kernel_rfl) (by kernel_rfl) (by kernel_rfl) (fun w1 hc => Ex.ldE (cs := [a.x, a.y]) (ag_29 _) (sz_29 _) rfl (sq.bs hc) rfl (by decide) acc) rfl <| AwC.take (i := 4) NoP.midS rfl (by kernel_rfl) (by kernel_rfl) (by kernel_rfl) (fun w1 hc => Ex.move rfl) rfl <| AwC.take (i := 5) NoP.midS rfl (by kernel_rfl) (by kernel_rfl) (by kernel_rfl) (fun w1 hc => Ex.move rfl) rfl <| AwC.take (i := 6) NoP.midS rfl (by kernel_rfl) (by kernel_rfl) (by kernel_rfl) (fun w1 hc => Ex.idx st_25 rfl rfl (sq.bs hc) kk rfl lk) rfl <| AwC.take (i := 7) NoP.midS rfl (by kernel_rfl) (by kernel_rfl) (by kernel_rfl) (fun w1 hc => Ex.ldE (cs := [c.x, c.y]) (ag_29 _) (sz_29 _) rfl (sq.bs hc) rfl (by decide) ccc) rfl ?_
   refine AwC.two (by assumption) (i := 8) (j := 12) (by kernel_rfl) rfl rfl ?_ ?_
   refine Lw.callF rfl rfl (mul_p a c w (a_at.bs hC) (c_at.bs hC)) ?_
   rintro _ w ⟨hn, hg8⟩
   replace hC := hC.bs hn
   clear hn
   rw [← hE] at hg8
   obtain ⟨p, rfl, q1, q2, q3⟩ := hg8
   have g_p : GotM _ w E p := ⟨q1, q2, fun e => by
    obtain ⟨z1, z2, z3⟩ := q3 e
    rw [z1, z2]; exact z3.k⟩
   have p_p : E = 0 → pv p = (a.s, z2 (· * ·) a.s a.l c.l) := fun e => Prod.ext (q3 e).1 (q3 e).2.1
   clear q1 q2 q3
   refine AwC.back <| AwC.take (i := 9) NoP.midS rfl (by kernel_rfl) (by kernel_rfl) (by kernel_rfl) (fun w1 hc => Ex.move rfl) rfl <| AwC.take (i := 10) NoP.midS rfl (by kernel_rfl) (by kernel_rfl) (by kernel_rfl) (fun w1 hc => Ex.extract (i := 0) rfl rfl) rfl <| AwC.take (i := 11) NoP.midS rfl (by kernel_rfl) (by kernel_rfl) (by kernel_rfl) (fun w1 hc => Ex.extract (i := 1) rfl rfl) rfl <| AwC.only (by assumption) (i := 12) (by kernel_rfl) rfl ?_
   have zc := hC.size
   refine Lw.newA it_29 rfl ?_
   rintro A_t w eA_t b_t hn -
   replace hC := hC.bs hn
   replace g_p := g_p.bs hn
   clear hn
   refine AwC.back <| AwC.only (by assumption) (i := 13) (by kernel_rfl) rfl ?_
   have yt : w3.heap.size ≤ A_t := by omega
   clear zc
   refine Lw.unit (Xu.stA (cs := [p.x, p.y]) (k := 2) (by kernel_rfl) rfl rfl rfl g_p.1.one b_t rfl) ?_
   rintro w' ⟨b_t', hg, hz⟩
   have hC' := hC.grown hg hC.size (by rintro _ e; have := Option.some.inj e; omega)
   have a_p := g_p.ty hg (fun b e => by cases e; exact ⟨_, b_t⟩) (by decide) (by decide)
   refine AwC.back <| AwC.take (i := 14) NoP.midS rfl (by kernel_rfl) (by kernel_rfl) (by kernel_rfl) (fun w1 hc => Ex.assign rfl) rfl <| AwC.done (by assumption) (by kernel_rfl) ?_
   exact Pw.midS ((A_t, p)) ⟨rfl, rfl, rfl, rfl, rfl, trivial⟩ (⟨hC', b_t', a_p, p_p⟩)
   have zc := hC.size
   refine Lw.newA it_29 rfl ?_
   rintro A_t w eA_t b_t hn -
   replace hC := hC.bs hn
   clear hn
   refine AwC.back <| AwC.only (by assumption) (i := 8) (by kernel_rfl) rfl ?_
   have yt : w3.heap.size ≤ A_t := by omega
   clear zc
   refine Lw.callF rfl rfl (mul_p a c w (a_at.bs hC) (c_at.bs hC)) ?_
   rintro _ w ⟨hn, hg8⟩
   replace hC := hC.bs hn
   replace b_t := b_t.bs hn
   clear hn
   rw [← hE] at hg8
   obtain ⟨p, rfl, q1, q2, q3⟩ := hg8
   have g_p : GotM _ w E p := ⟨q1, q2, fun e => by
    obtain ⟨z1, z2, z3⟩ := q3 e
    rw [z1, z2]; exact z3.k⟩
   have p_p : E = 0 → pv p = (a.s, z2 (· * ·) a.s a.l c.l) := fun e => Prod.ext (q3 e).1 (q3 e).2.1
   clear q1 q2 q3
   refine AwC.back <| AwC.take (i := 9) NoP.midS rfl (by kernel_rfl) (by kernel_rfl) (by kernel_rfl) (fun w1 hc => Ex.move rfl) rfl <| AwC.take (i := 10) NoP.midS rfl (by kernel_rfl) (by kernel_rfl) (by kernel_rfl) (fun w1 hc => Ex.extract (i := 0) rfl rfl) rfl <| AwC.take (i := 11) NoP.midS rfl (by kernel_rfl) (by kernel_rfl) (by kernel_rfl) (fun w1 hc => Ex.extract (i := 1) rfl rfl) rfl <| AwC.only (by assumption) (i := 13) (by kernel_rfl) rfl ?_
   refine Lw.unit (Xu.stA (cs := [p.x, p.y]) (k := 2) (by kernel_rfl) rfl rfl rfl g_p.1.one b_t rfl) ?_
   rintro w' ⟨b_t', hg, hz⟩
   have hC' := hC.grown hg hC.size (by rintro _ e; have := Option.some.inj e; omega)
   have a_p := g_p.ty hg (fun b e => by cases e; exact ⟨_, b_t⟩) (by decide) (by decide)
   refine AwC.back <| AwC.take (i := 14) NoP.midS rfl (by kernel_rfl) (by kernel_rfl) (by kernel_rfl) (fun w1 hc => Ex.assign rfl) rfl <| AwC.done (by assumption) (by kernel_rfl) ?_
   exact Pw.midS ((A_t, p)) ⟨rfl, rfl, rfl, rfl, rfl, trivial⟩ (⟨hC', b_t', a_p, p_p⟩)
  rintro ⟨A_t, p⟩ w4 ⟨hC, b_t, p_at, p_v⟩
  replace b_t : Blk w4 A_t tenT [p.x, p.y] := b_t
  replace p_at : p.at w4 := p_at
  replace p_v : E = 0 → pv p = (a.s, z2 (· * ·) a.s a.l c.l) := p_v
  refine Cw.out ?_
  have hB4 := bt hB hC
  have hT4 := hT.bs hC
  clear hw3 hE
  refine Cw.seq <| Cw.seq <| Cw.region <| Lw.val (Ex.move rfl) rfl <| Lw.val (Ex.neq rfl rfl) rfl <| Lw.nil ?_
  refine Pw.thenN (Cw.out ?_)
  refine Cw.cond rfl ?_ ?_
  ·intro q0
   have q0 : E ≠ 0 := by simpa using q0
   obtain ⟨rfl, rfl⟩ := n2 q0
   have s_n2 : Sl w4 2 (.slice none 0 0) 0 [] := Sl.nil _ _
   refine Cw.seq <| Cw.region <| Lw.val (Ex.move rfl) rfl <| Lw.val (Ex.eql rfl rfl) rfl <| Lw.val (Ex.move rfl) rfl <| Lw.know 90 (v' := .bool true) rfl (congrArg Value.bool (rfl)) <| Lw.take (dj := 90) rfl rfl <| Lw.val (Ex.move rfl) rfl <| Lw.take (dj := 90) rfl rfl <| Lw.val (Ex.lenS st_25 rfl (by assumption)) rfl ?_
   refine Lw.take (dj := 90) rfl rfl <| Lw.val (Ex.eql rfl rfl) rfl <| Lw.val (Ex.pickT rfl rfl) rfl <| Lw.val (Ex.assign rfl) rfl <| Lw.nil ?_
   refine Pw.thenN (Cw.out ?_)
   refine Cw.ret <| Pw.thenR <| Pw.ret1 rfl rfl ?_
   exact ⟨rfl, hB4⟩
  intro q0
  have q0 : E = 0 := by simpa using q0
  obtain ⟨rfl, ts2, hT2, e2v⟩ := y2 q0
  replace hT2 := hT2.bs hC
  have p_v := p_v q0
  have lt2 : ts2.length = ts.length + 1 := by
   have := congrArg List.length e2v
   rw [List.length_map, List.length_append, List.length_singleton, ← hpv, List.length_map] at this
   exact this
  have lx : ts.length < ts2.length := by omega
  obtain ⟨d, hd⟩ : ∃ d, d = ts2[ts.length] := ⟨_, rfl⟩
  have hdc := ten_cells lx
  rw [← hd] at hdc
  have d_at := hT2.2 d (hd ▸ List.getElem_mem lx)
  have pd : pv d = pv p := by
   rw [p_v]
   have := congrArg (fun l : List PV => l[ts.length]?) e2v
   simp only [List.getElem?_map, List.getElem?_eq_getElem lx, ← hd] at this
   rw [List.getElem?_append_right (by rw [← hpv, List.length_map]; exact Nat.le_refl _), ← hpv, List.length_map, Nat.sub_self] at this
   exact Option.some.inj this
  have pd1 : d.s = p.s := congrArg Prod.fst pd
  have pd2 : d.l = p.l := congrArg Prod.snd pd
  have ehd : (ts2.take ts.length).map pv = ts.map pv := by
   rw [List.map_take, e2v, List.take_append_of_le_length (by rw [← hpv, List.length_map]; exact Nat.le_refl _), hpv, List.take_of_length_le (by rw [← hpv, List.length_map]; exact Nat.le_refl _)]
  have sq := hT4.1
  have sm := hT2.1
  have hh := hT2.head (n := ts.length) (by omega)
  refine Cw.skip ?_
  refine Pw.thenN (Cw.out ?_)
  refine Cw.seq <| Cw.quiet mixed (by kernel_rfl) <| Qw.val (fun w1 hq => Ex.move rfl) rfl <| Qw.val (fun w1 hq => Ex.eql rfl rfl) rfl <| Qw.val (fun w1 hq => Ex.move rfl) rfl <| Qw.know 97 (v' := .bool true) rfl (congrArg Value.bool (rfl)) <| Qw.take (dj := 97) rfl rfl <| Qw.val (fun w1 hq => Ex.move rfl) rfl <| Qw.take (dj := 97) rfl rfl <| Qw.val (fun w1 hq => Ex.lenS st_25 rfl (Sl.bs (by assumption) hq)) rfl ?_
  refine Qw.take (dj := 97) rfl rfl <| Qw.val (fun w1 hq => Ex.move rfl) rfl <| Qw.take (dj := 97) rfl rfl <| Qw.val (fun w1 hq => Ex.lenS st_25 rfl (Sl.bs (by assumption) hq)) rfl ?_
  refine Qw.take (dj := 97) rfl rfl <| Qw.val (fun w1 hq => Ex.addI rfl rfl (by omega)) rfl <| Qw.take (dj := 97) rfl rfl <| Qw.val (fun w1 hq => Ex.eql rfl rfl) rfl <| Qw.val (fun w1 hq => Ex.pickT rfl rfl) rfl <| Qw.val (fun w1 hq => Ex.move rfl) rfl <| Qw.know 105 (v' := .bool true) rfl (congrArg Value.bool ((by rw [lt2]; simp))) <| Qw.take (dj := 105) rfl rfl <| Qw.val (fun w1 hq => Ex.move rfl) rfl <| Qw.take (dj := 105) rfl rfl <| Qw.val (fun w1 hq => Ex.move rfl) rfl <| Qw.take (dj := 105) rfl rfl <| Qw.val (fun w1 hq => Ex.lenS st_25 rfl (Sl.bs (by assumption) hq)) rfl ?_
  refine Qw.take (dj := 105) rfl rfl <| Qw.val (fun w1 hq => Ex.cutH (j := ts.length) st_25 rfl rfl (sm.bs hq) (by omega)) rfl <| Qw.take (dj := 105) rfl rfl <| Qw.val (fun w1 hq => Ex.move rfl) rfl <| Qw.take (dj := 105) rfl rfl <| Qw.callF rfl rfl (fun w1 hq => (sameTs_c (cut m2 2 0 ts.length) q (ts2.take ts.length) ts _ (hh.bs hq) (hT4.bs hq)).q hq) <| Qw.val (fun w1 hq => Ex.pickT rfl rfl) rfl <| Qw.val (fun w1 hq => Ex.move rfl) rfl <| Qw.know 113 (v' := .bool true) rfl (congrArg Value.bool ((by rw [ehd]; simp))) <| Qw.take (dj := 113) rfl rfl <| Qw.val (fun w1 hq => Ex.move rfl) rfl <| Qw.take (dj := 113) rfl rfl <| Qw.val (fun w1 hq => Ex.move rfl) rfl <| Qw.take (dj := 113) rfl rfl <| Qw.val (fun w1 hq => Ex.lenS st_25 rfl (Sl.bs (by assumption) hq)) rfl ?_
  refine Qw.take (dj := 113) rfl rfl <| Qw.val (fun w1 hq => Ex.idx st_25 rfl rfl (sm.bs hq) ts.length rfl lx) rfl <| Qw.take (dj := 113) rfl rfl <| Qw.val (fun w1 hq => Ex.ldE (cs := [d.x, d.y]) (ag_29 _) (sz_29 _) rfl (sm.bs hq) rfl (by decide) hdc) rfl <| Qw.take (dj := 113) rfl rfl <| Qw.val (fun w1 hq => Ex.ldA (k := 2) (ag_29 _) (sz_29 _) rfl rfl (b_t.bs hq)) rfl <| Qw.take (dj := 113) rfl rfl <| Qw.callF rfl rfl (fun w1 hq => (same_c d.x d.y p.x p.y d.s p.s d.l p.l _ (d_at.bs hq).1 (d_at.bs hq).2 (p_at.bs hq).1 (p_at.bs hq).2).q hq) <| Qw.val (fun w1 hq => Ex.pickT rfl rfl) rfl <| Qw.val (fun w1 hq => Ex.assign rfl) rfl ?_
  refine Qw.nil (fun w5 hq => ?_)
  refine Pw.thenN (Cw.out ?_)
  refine Cw.ret <| Pw.ret1 rfl rfl ?_
  exact ⟨by rw [pd1, pd2]; simp, bt hB4 hq⟩
set_option maxRecDepth 100000 in
set_option maxHeartbeats 2000000 in
theorem meansMore_lifted (os : Os) (started : os.Started) (H : Type) (enc : TypeId × Value → H) :
  ReturnsInHanded {} Tryz.checked os 4 .any (Rows.meansMoreSpec.pre6 enc Tryz.prog Tryz.f4 Rows.meansMoreRow.domain false) (Rows.meansMoreSpec.post enc Tryz.prog Tryz.f4 false true false false) := by
 refine returnsInHanded_of_change_sized (C := Tryz.checked) own started (by kernel_rfl) Tryz.func4
  (ChangeSpec.witness6 (enc := enc) (C := Tryz.checked) false ⟨#[], #[.agg #[.slice none 0 0, .slice none 0 0, .slice none 0 0, .slice none 0 0], .int .u8 0, .int .u8 0], []⟩ 8 (by kernel_rfl) (by kernel_rfl) (by kernel_rfl) (by kernel_rfl)) ?_
 intro W base args ds gs before hval0 hW hcnd hsz0 _
 have hval : ∀ (j : Nat) t v, Tryz.f4.params[j]? = some t → args[j]? = some v → Value.okWide Tryz.prog W .any base t v := hval0
 have hW' := hW
 obtain ⟨p, q, hA0, hV, rfl, hfz, hnd⟩ := hW
 have hA : DataW.TrodAll enc Tryz.prog W 0 (fun _ => true) true Tryz.f4.params.toList args.toList ds p := hA0
 have hsz : (DataW.weightsEach Tryz.prog (Tryz.f4.params.toList ++ Rows.meansMoreSpec.plain.varTypes Tryz.prog) (ds ++ gs)).all (· ≤ reachBytes) = true := hsz0
 rw [Tryz.params4] at hA hval hsz
 obtain ⟨v0, vs0, d0, ds0, p0, q0, hargs, rfl, rfl, h0, r0⟩ := trodAll_cons hA
 obtain ⟨v1, vs1, d1, ds1, p1, q1, rfl, rfl, rfl, h1, r1⟩ := trodAll_cons r0
 obtain ⟨v2, vs2, d2, ds2, p2, q2, rfl, rfl, rfl, h2, r2⟩ := trodAll_cons r1
 obtain ⟨rfl, rfl, rfl⟩ := trodAll_nil r2
 obtain rfl : args = #[v0, v1, v2] := by cases args; simp_all
 obtain ⟨rfl, rfl⟩ := trodVars_none hV
 have k0 := h0
 have lt0 : ∀ x ∈ p0, x.block < W.heap.size := by obtain ⟨m, hm⟩ := k0; exact DataW.trod_lt m _ _ _ hm
 have i0 := in_of (j := 0) (t := 31) hsz rfl rfl h0
 have o0 := hval 0 31 v0 rfl rfl
 have k1 := h1
 have lt1 : ∀ x ∈ p1, x.block < W.heap.size := by obtain ⟨m, hm⟩ := k1; exact DataW.trod_lt m _ _ _ hm
 have i1 := in_of (j := 1) (t := 5) hsz rfl rfl h1
 have o1 := hval 1 5 v1 rfl rfl
 have k2 := h2
 have lt2 : ∀ x ∈ p2, x.block < W.heap.size := by obtain ⟨m, hm⟩ := k2; exact DataW.trod_lt m _ _ _ hm
 have i2 := in_of (j := 2) (t := 5) hsz rfl rfl h2
 have o2 := hval 2 5 v2 rfl rfl
 clear hA0 hval0 hsz0 hsz
 obtain ⟨v, u, ls, ws, t, rfl, h, hl, hf, hw, lw, fw, ht, ft⟩ := arg_given o0 i0
 obtain ⟨da, rfl⟩ := arg_num (BitVec.ofInt 8) b8 (fun _ h => wf_u8 h) un_5 o1 i1
 obtain ⟨db, rfl⟩ := arg_num (BitVec.ofInt 8) b8 (fun _ h => wf_u8 h) un_5 o2 i2
 refine (law_calls (meansMore_w v u ls ws t da db W h hl hf hw lw fw ht ft)).mono fun e W' ⟨he, bel⟩ => ?_
 subst he
 exact ⟨_, rfl, _, _, _, [], _, [], hW', trodAll_mk1 (shut_bool un_4 _), (trodAll_cons_mk (Below.trod laidOut (by kernel_rfl) (of_decide_eq_true (by kernel_rfl)) k0 bel lt0) (trodAll_cons_mk (Below.trod laidOut (by kernel_rfl) (of_decide_eq_true (by kernel_rfl)) k1 bel lt1) (trodAll_cons_mk (Below.trod laidOut (by kernel_rfl) (of_decide_eq_true (by kernel_rfl)) k2 bel lt2) trodAll_mk0))), rfl, bel.frame _, fun h => by cases h⟩

/-- The statement. -/
theorem meansMore_proved : Rows.MeansMoreSaid :=
 OpenClaim.holds_of_wide 4 Tryz.f4 rfl rfl rfl rfl rfl rfl rfl ⟨rfl, rfl, rfl, rfl, rfl⟩ rfl rfl rfl rfl rfl (by kernel_rfl) Tryz.func4 (by kernel_rfl)
  (of_decide_eq_true (by kernel_rfl)) (by unfold Func.isWrapper; first | (rw [if_pos (by decide +kernel)]; kernel_rfl) | (rw [if_neg (by decide +kernel)]; exact ⟨rfl, rfl⟩))
  (fun os started H enc _ => meansMore_lifted os started H enc)
#print axioms meansMore_proved
end Go.Proofs.YtmipoeanpnnjoaaGreat
