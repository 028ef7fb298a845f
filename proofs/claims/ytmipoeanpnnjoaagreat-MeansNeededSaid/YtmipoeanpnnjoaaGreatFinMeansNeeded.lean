/- Other numbers of a weight change what a graph comes to only where the last node needs that weight, and never the shape. For every graph that is not too much work, all tensors. -/
import Derived.Test.YtmipoeanpnnjoaaGreatPk8
namespace Go.Proofs.YtmipoeanpnnjoaaGreat
open Go Go.Dd Go.RowKit Go.ChangeShapes Go.WideShapes Go.ChangeAt
set_option maxRecDepth 100000

theorem wtsG_at (ls : List N5) : ∀ m, m ≤ ls.length → ∀ k, k < wtsN (ls.take m) → ∃ n, ∃ hn : n < ls.length, (wtsG (ls.take m))[k]? = some (n : Int) ∧ ls[n].k = 2#8 ∧ wtsN (ls.take n) = k
 | 0, _, k, hk => by exact absurd hk (Nat.not_lt_zero _)
 | m + 1, hm, k, hk => by
  have hl := wtsG_len (ls.take m)
  have h2 := wtsG_len (ls.take (m + 1))
  rw [wtsG_succ ls m hm] at h2 ⊢
  have ei : ls.getD m default = ls[m] := by rw [List.getD_eq_getElem?_getD, List.getElem?_eq_getElem hm]; rfl
  rw [ei] at h2 ⊢
  rw [List.length_append, hl] at h2
  by_cases h : k < wtsN (ls.take m)
  ·obtain ⟨n, hn, q1, q2, q3⟩ := wtsG_at ls m (by omega) k h
   exact ⟨n, hn, by rw [List.getElem?_append_left (by rw [hl]; exact h)]; exact q1, q2, q3⟩
  ·have hk2 : ls[m].k = 2#8 := by
    by_cases e : ls[m].k = 2#8
    ·exact e
    ·rw [if_neg e, List.length_nil] at h2; omega
   rw [if_pos hk2] at h2 ⊢
   rw [List.length_singleton] at h2
   have ek : k = wtsN (ls.take m) := by omega
   exact ⟨m, hm, by rw [List.getElem?_append_right (by rw [hl]; omega), hl, ek, Nat.sub_self]; rfl, hk2, ek.symm⟩
theorem cellsOf_set (ts : List T4) (k : Nat) (hk : k < ts.length) (l : List (BitVec 32)) : cellsOf (ts.set k ⟨ts[k].x, ts[k].y, ts[k].s, l⟩) = cellsOf ts := by
 induction ts generalizing k with
 | nil => rfl
 | cons t ts ih =>
  cases k with
  | zero => rfl
  | succ k => simp only [List.set_cons_succ, cellsOf, List.getElem_cons_succ, ih k (by simpa using hk)]
/-- The first i numbers turned by b. -/
def xorT (b : BitVec 32) (l : List (BitVec 32)) (i : Nat) : List (BitVec 32) := (l.take i).map (· ^^^ b) ++ l.drop i
theorem xorT_len (b : BitVec 32) (l : List (BitVec 32)) (i : Nat) : (xorT b l i).length = l.length := by
 unfold xorT; rw [List.length_append, List.length_map, ← List.length_append, List.take_append_drop]
theorem xorT_at (b : BitVec 32) {l : List (BitVec 32)} {i : Nat} (hi : i < l.length) : (xorT b l i).getD i default = l[i] := by
 have ht : ((l.take i).map (· ^^^ b)).length = i := by rw [List.length_map, List.length_take]; omega
 unfold xorT
 rw [List.getD_eq_getElem?_getD, List.getElem?_append_right (by rw [ht]; exact Nat.le_refl _), ht, Nat.sub_self, List.getElem?_drop, Nat.add_zero, List.getElem?_eq_getElem hi]; rfl
theorem xorT_succ (b : BitVec 32) {l : List (BitVec 32)} {i : Nat} (hi : i < l.length) : (xorT b l i).set i (l[i] ^^^ b) = xorT b l (i + 1) := by
 have ht : ((l.take i).map (· ^^^ b)).length = i := by rw [List.length_map, List.length_take]; omega
 unfold xorT
 rw [List.set_append_right _ _ (by rw [ht]; exact Nat.le_refl _), ht, Nat.sub_self, List.drop_eq_getElem_cons hi, List.set_cons_zero, List.take_succ_eq_append_getElem hi, List.map_append, List.append_assoc]; rfl
theorem sim_set {ws : List PV} {k : Nat} {p : PV} (hk : k < ws.length) (h : shP p = shP ws[k]) : ws.map shP = (ws.set k p).map shP := by
 rw [List.map_set, h]
 refine List.ext_getElem? fun j => ?_
 rw [List.getElem?_set]
 split
 ·rename_i e
  subst e
  rw [if_pos (by rw [List.length_map]; exact hk), List.getElem?_map, List.getElem?_eq_getElem hk]; rfl
 ·rfl
theorem TwC.apart {w w' : World} {lo m : Nat} {c : T4} {q : Value} {ys : List Value} (h : TwC w lo c) (k : w.ownsRow lo 21 1 q m ys) (hap : Apt q c.y) (g : w.grownBy w' q.ownBlock) : TwC w' lo c := ⟨krow_awayT h.x k (by decide) g, hap.keep h.y g⟩
set_option maxHeartbeats 1000000 in
theorem meansNeeded_w (v u : Value) (ls : List N5) (ws : List T4) (t : T4) (da : BitVec 8) (db : BitVec 32) (W : World) (h : GN W v ls) (hl : ls.length ≤ 1125899906842624) (hf : ∀ t ∈ ls, t.few) (hw : Tens W u ws) (lw : ws.length ≤ 1125899906842624) (fw : ∀ t ∈ ws, fewT t) (ht : t.at W) (ft : fewT t) :
    Fnc Tryz.prog 5 [.agg [v, u, t.x, t.y].toArray, b8 da, i32 db] W (fun r w' => r = .bool true ∧ Below W.heap.size W w') := by
  have hB := Below.refl W.heap.size W
  have h_v := h.sl
  have h_u := hw.1
  refine Fnc.enter (n := 115) Tryz.func5 (by kernel_rfl) rfl rfl rfl <| Cw.seq <| Cw.region <| Lw.boxV (cs := [v, u, t.x, t.y]) rfl rfl rfl ?_
  rintro A_z w eA_z b_z hn -
  replace hB := hB.bs hn
  replace h := h.bs hn
  replace hw := hw.bs hn
  replace ht := ht.bs hn
  replace h_v := h_v.bs hn
  replace h_u := h_u.bs hn
  clear hn
  refine Lw.val (Ex.assign rfl) rfl <| Lw.nil <| Pw.thenN <| Cw.out <| Cw.seq <| Cw.seq <| Cw.region <| Lw.callF rfl rfl (alive_c _) ?_
  rintro _ w ⟨rfl, hn⟩
  replace hB := hB.bs hn
  replace h := h.bs hn
  replace hw := hw.bs hn
  replace ht := ht.bs hn
  replace h_v := h_v.bs hn
  replace h_u := h_u.bs hn
  replace b_z := b_z.bs hn
  clear hn
  refine Lw.val (Ex.not rfl) rfl <| Lw.val (Ex.move rfl) rfl <| Lw.know 17 (v' := .bool false) rfl (congrArg Value.bool (rfl)) <| Lw.take (dj := 17) rfl rfl <| Lw.val (Ex.ldA (ag_31 _) (sz_31 _) rfl rfl (by assumption)) rfl ?_
  refine Lw.take (dj := 17) rfl rfl <| Lw.callF rfl rfl (great_c v u ls ws t w h hl hf hw lw fw ht ft) ?_
  rintro _ w ⟨⟨b, rfl, hng⟩, hn⟩
  replace hB := hB.bs hn
  replace h := h.bs hn
  replace hw := hw.bs hn
  replace ht := ht.bs hn
  replace h_v := h_v.bs hn
  replace h_u := h_u.bs hn
  replace b_z := b_z.bs hn
  clear hn
  refine Lw.val (Ex.pickF rfl rfl) rfl <| Lw.val (Ex.move rfl) rfl ?_
  refine Lw.part 21 rfl ?_ ?_
  · intro g
    refine Lw.pass (dj := 21) rfl rfl rfl rfl <| Lw.pass (dj := 21) rfl rfl rfl rfl <| Lw.pass (dj := 21) rfl rfl rfl rfl <| Lw.pass (dj := 21) rfl rfl rfl rfl <| Lw.val (Ex.pickT rfl rfl) rfl <| Lw.nil <| Pw.thenN <| Cw.out <| Cw.condT rfl <| Cw.seq <| Cw.region <| Lw.callF rfl rfl (alive_c _) ?_
    rintro _ w ⟨rfl, hn⟩
    replace hB := hB.bs hn
    replace h := h.bs hn
    replace hw := hw.bs hn
    replace ht := ht.bs hn
    replace h_v := h_v.bs hn
    replace h_u := h_u.bs hn
    replace b_z := b_z.bs hn
    clear hn
    refine Lw.val (Ex.assign rfl) rfl <| Lw.nil <| Pw.thenN <| Cw.out <| Cw.ret <| Pw.thenR <| Pw.ret1 rfl rfl ?_
    exact ⟨rfl, hB⟩
  intro g
  replace hng := hng g
  refine Lw.take (dj := 21) rfl rfl <| Lw.val (Ex.fieldAddr (q := 0) Tryz.underlying31 rfl (sz_25 _) rfl) rfl <| Lw.take (dj := 21) rfl rfl <| Lw.val (Ex.ldB (ag_25 _) rfl (by assumption) rfl) rfl ?_
  refine Lw.take (dj := 21) rfl rfl <| Lw.val (Ex.lenS st_25 rfl (by assumption)) rfl ?_
  refine Lw.take (dj := 21) rfl rfl <| Lw.val (Ex.eql rfl rfl) rfl <| Lw.val (Ex.pickF rfl rfl) rfl <| Lw.nil <| Pw.thenN <| Cw.out <| Cw.cond rfl ?_ ?_
  · intro g0
    refine Cw.seq <| Cw.region <| Lw.callF rfl rfl (alive_c _) ?_
    rintro _ w ⟨rfl, hn⟩
    replace hB := hB.bs hn
    replace h := h.bs hn
    replace hw := hw.bs hn
    replace ht := ht.bs hn
    replace h_v := h_v.bs hn
    replace h_u := h_u.bs hn
    replace b_z := b_z.bs hn
    clear hn
    refine Lw.val (Ex.assign rfl) rfl <| Lw.nil <| Pw.thenN <| Cw.out <| Cw.ret <| Pw.thenR <| Pw.ret1 rfl rfl ?_
    exact ⟨rfl, hB⟩
  intro g0
  have lw0 : 1 ≤ ws.length := by have : ¬ (ws.length : Int) = 0 := by simpa using g0
                                 omega
  obtain ⟨R, hR⟩ : ∃ R, R = allG ls (ws.map pv) (pv t) := ⟨_, rfl⟩
  refine Cw.skip <| Pw.thenN <| Cw.out <| Cw.seq <| Cw.region <| Lw.val (Ex.fieldAddr (q := 0) Tryz.underlying31 rfl (sz_24 _) rfl) rfl <| Lw.val (Ex.ldAt (ds := [v]) (ag_24 _) (sz_24 _) rfl rfl (by assumption) rfl) rfl ?_
  refine Lw.val (Ex.fieldAddr (q := 0) Tryz.underlying31 rfl (sz_25 _) rfl) rfl <| Lw.val (Ex.ldB (ag_25 _) rfl (by assumption) rfl) rfl ?_
  refine Lw.val (Ex.fieldAddr (q := 1) Tryz.underlying31 rfl (sz_29 _) rfl) rfl <| Lw.val (Ex.ldAt (ds := [t.x, t.y]) (ag_29 _) (sz_29 _) rfl rfl (by assumption) rfl) rfl ?_
  refine Lw.callF rfl rfl (run_c v ls u ws t w h hw ht) ?_
  rintro _ w ⟨hn, hr⟩
  rw [← hR] at hr
  replace hB := hB.bs hn
  replace h := h.bs hn
  replace hw := hw.bs hn
  replace ht := ht.bs hn
  replace h_v := h_v.bs hn
  replace h_u := h_u.bs hn
  replace b_z := b_z.bs hn
  clear hn
  cases eR : R with
  | none =>
    rw [eR] at hr
    obtain rfl := hr
    refine Lw.val (Ex.move rfl) rfl <| Lw.val (Ex.extract (i := 0) rfl rfl) rfl <| Lw.val (Ex.extract (i := 1) rfl rfl) rfl <| Lw.boxed (cs := [.slice none 0 0, .slice none 0 0]) it_29 rfl rfl rfl rfl (fun _ => rfl) (rfl) ?_
    rintro A_a w eA_a b_a hn -
    replace hB := hB.bs hn
    replace h := h.bs hn
    replace hw := hw.bs hn
    replace ht := ht.bs hn
    replace h_v := h_v.bs hn
    replace h_u := h_u.bs hn
    replace b_z := b_z.bs hn
    clear hn
    refine Lw.val (Ex.assign rfl) rfl <| Lw.nil <| Pw.thenN <| Cw.out <| Cw.seq <| Cw.seq <| Cw.region <| Lw.val (Ex.move rfl) rfl <| Lw.val (Ex.neq rfl rfl) rfl <| Lw.nil <| Pw.thenN <| Cw.out <| Cw.condB rfl true (rfl) <| Cw.seq <| Cw.region <| Lw.val (Ex.assign rfl) rfl <| Lw.nil <| Pw.thenN <| Cw.out <| Cw.ret <| Pw.thenR <| Pw.ret1 rfl rfl ?_
    exact ⟨rfl, hB⟩
  | some vs =>
    rw [eR] at hr
    obtain ⟨c, rfl, hc, pc⟩ := hr
    have eG := hR.symm.trans eR
    obtain ⟨ss, hss, RN⟩ := ran_of eG
    replace hc := hc.at
    have l1 := RN.ls1
    refine Lw.val (Ex.move rfl) rfl <| Lw.val (Ex.extract (i := 0) rfl rfl) rfl <| Lw.val (Ex.extract (i := 1) rfl rfl) rfl <| Lw.boxed (cs := [c.x, c.y]) it_29 rfl rfl rfl rfl (fun _ => rfl) (hc.one) ?_
    rintro A_a w eA_a b_a hn -
    replace hB := hB.bs hn
    replace h := h.bs hn
    replace hw := hw.bs hn
    replace ht := ht.bs hn
    replace h_v := h_v.bs hn
    replace h_u := h_u.bs hn
    replace b_z := b_z.bs hn
    replace hc := hc.bs hn
    clear hn
    refine Lw.val (Ex.assign rfl) rfl <| Lw.nil <| Pw.thenN <| Cw.out <| Cw.seq <| Cw.seq <| Cw.region <| Lw.val (Ex.move rfl) rfl <| Lw.val (Ex.neq rfl rfl) rfl <| Lw.nil <| Pw.thenN <| Cw.out <| Cw.condB rfl false (rfl) <| Cw.skip <| Pw.thenN <| Cw.out <| Cw.seq <| Cw.region <| Lw.val (Ex.fieldAddr (q := 0) Tryz.underlying31 rfl (sz_24 _) rfl) rfl <| Lw.val (Ex.ldAt (ds := [v]) (ag_24 _) (sz_24 _) rfl rfl (by assumption) rfl) rfl ?_
    refine Lw.callF rfl rfl (gweights_c v ls _ h (by omega)) ?_
    rintro r_n w ⟨hn, s_n⟩
    replace hB := hB.bs hn
    replace h := h.bs hn
    replace hw := hw.bs hn
    replace ht := ht.bs hn
    replace h_v := h_v.bs hn
    replace h_u := h_u.bs hn
    replace b_z := b_z.bs hn
    replace hc := hc.bs hn
    replace b_a := b_a.bs hn
    clear hn
    replace s_n : SlT (Value.int .i64) w r_n (wtsG ls) := s_n
    have lws : ws.length = wtsN ls := by have := RN.lws; rwa [List.length_map] at this
    have lwg := wtsG_len ls
    obtain ⟨k, hk⟩ : ∃ k : Nat, k = da.toNat % ws.length := ⟨_, rfl⟩
    have hkl : k < ws.length := hk ▸ Nat.mod_lt _ (by omega)
    obtain ⟨n, hn, en, k2, hwn⟩ := wtsG_at ls ls.length (Nat.le_refl _) k (by rw [List.take_length]; omega)
    rw [List.take_length] at en
    refine Lw.val (Ex.assign rfl) rfl <| Lw.nil <| Pw.thenN <| Cw.out <| Cw.seq <| Cw.region <| Lw.val (Ex.move rfl) rfl <| Lw.val (Ex.conv8_I us_5 un_3 rfl) rfl <| Lw.val (Ex.move rfl) rfl <| Lw.val ((Ex.lenS st_26 rfl s_n).as (congrArg (fun x : Nat => Value.int .i64 (x : Int)) (show (wtsG ls).length = ws.length by omega))) rfl <| Lw.val ((Ex.remN rfl rfl (by omega)).as (congrArg (fun x : Nat => Value.int .i64 (x : Int)) hk.symm)) rfl <| Lw.val (Ex.assign rfl) rfl <| Lw.nil <| Pw.thenN <| Cw.out <| Cw.seq <| Cw.region <| Lw.val (Ex.fieldAddr (q := 0) Tryz.underlying31 rfl (sz_25 _) rfl) rfl <| Lw.val (Ex.ldB (ag_25 _) rfl (by assumption) rfl) rfl ?_
    have tp : ∀ x ∈ ws.map (fun t => tsz t.s t.l), 0 ≤ x := fun x hx => by
      obtain ⟨a, -, rfl⟩ := List.mem_map.1 hx
      have := tsz_pos a.s a.l; omega
    have tl := tot_le (n := (ws.length : Int)) tp
    have tb : tot (ws.length : Int) (ws.map fun t => tsz t.s t.l) ≤ 1048576 := bey_no (Int.le_refl 0) (fun x hx => by
      have := tsz_pos t.s t.l
      rcases List.mem_cons.1 hx with rfl | hx
      · omega
      · rw [List.mem_singleton.1 hx]; omega) hng.2 _ (by simp)
    have bw : ∀ t ∈ ws, t.s.length ≤ 4194304 ∧ t.l.length ≤ 4194304 := fun x hx => by
      have h1 := tot_each (n := (ws.length : Int)) tp tb (tsz x.s x.l) (List.mem_map.2 ⟨x, hx, rfl⟩)
      have h2 := tsz_le (s := x.s) (l := x.l) (m := 1048576) (by omega) (by decide)
      omega
    have bl : ws.length ≤ 2097152 := by omega
    clear tp tl tb
    rename World => w0
    refine Lw.callF rfl rfl (twinTs_c u ws w0 hw bw bl) ?_
    rintro r w1 ⟨hn1, us, hT, hU, hpu, hty⟩
    have lu : us.length = ws.length := by have := congrArg List.length hpu; simpa using this
    have hku : k < us.length := by omega
    obtain ⟨a, ha⟩ : ∃ a, a = us[k] := ⟨_, rfl⟩
    have pa : pv a = pv ws[k] := by
      have := congrArg (fun l : List PV => l[k]?) hpu
      simp only [List.getElem?_map, List.getElem?_eq_getElem hku, List.getElem?_eq_getElem hkl, ← ha] at this
      exact Option.some.inj this
    have hAr : Apt a.y r := fun b e1 e2 => by
      obtain ⟨cs, h1⟩ := hty b e2
      obtain ⟨ds, h2⟩ := own_ty (hU.each a (ha ▸ List.getElem_mem hku)).y e1
      exact absurd (blk_ty h1 h2) (by decide)
    have hAp : ∀ j (hj : j < us.length), j ≠ k → Apt a.y us[j].y := fun j hj e => by
      have := List.pairwise_iff_getElem.1 hU.apart
      rw [ha]
      rcases Nat.lt_or_gt_of_ne e with e | e
      · exact Apt.symm (this j k hj hku e)
      · exact this k j hku hj e
    have ck : (cellsOf us)[k * 2 + 1]? = some a.y := by rw [ha]; exact (cells_at hku).2
    refine Lw.val (Ex.assign rfl) rfl <| Lw.nil <| Pw.thenN <| Cw.out <| Cw.seq <| Cw.seq <| Cw.region <| Lw.val (Ex.assign rfl) rfl <| Lw.nil <| Pw.thenN <| Cw.out <| Cw.block ?_
    refine Cw.loop (S := Nat) (fun i => [(2, i32 db), (3, .pointer (some ⟨A_z, 0, none⟩)), (7, .pointer (some ⟨A_a, 0, none⟩)), (9, r_n), (10, .int .i64 (k : Int)), (11, r), (12, .int .i64 (i : Int))]) (fun i w' => i ≤ a.l.length ∧ Below w0.heap.size w0 w' ∧ Sl w' 2 r us.length (cellsOf us) ∧ (∀ j (hj : j < us.length), j ≠ k → TwC w' w0.heap.size us[j]) ∧ TwC w' w0.heap.size ⟨a.x, a.y, a.s, xorT db a.l i⟩) (fun i => a.l.length - i) (0) ⟨rfl, rfl, rfl, rfl, rfl, rfl, rfl, trivial⟩ ?_ ?_
    · exact ⟨Nat.zero_le _, hn1, hT.1, fun j hj _ => hU.each _ (List.getElem_mem hj), ha ▸ hU.each _ (List.getElem_mem hku)⟩
    rintro i w2 ⟨hi, hX, sr, hO, hA⟩
    have ad : ∃ ad c k, r = .slice (some ad) c k := by
      obtain ⟨_, ao, cap, e, d1, d2, d3, _⟩ := sr
      cases ao with
      | none => have := d3 rfl; omega
      | some ad => exact ⟨ad, _, _, e⟩
    have lx := xorT_len db a.l i
    have sy : Sl w2 1 a.y a.l.length ((xorT db a.l i).map i32) := by have := hA.y; rw [← lx]; exact own_sl this
    have lyle := sy.le
    have ty : SlT i32 w2 a.y (xorT db a.l i) := own_slT hA.y
    refine Cw.seq <| Cw.seq <| Cw.region <| Lw.val (Ex.move rfl) rfl <| Lw.val (Ex.move rfl) rfl <| Lw.val (Ex.move rfl) rfl <| Lw.val (Ex.idx st_25 rfl rfl sr k rfl hku) rfl <| Lw.val (Ex.fieldAddrE (q := 0) Tryz.underlying29 rfl (sz_27 _) rfl ad) rfl <| Lw.val (Ex.ld (ag_27 _) rfl sr ck) rfl <| Lw.val (Ex.lenS st_27 rfl (by assumption)) rfl ?_
    refine Lw.val (Ex.lss rfl rfl) rfl <| Lw.nil <| Pw.thenN <| Cw.out <| Cw.cond rfl ?_ ?_
    · intro g
      have hi' : i < a.l.length := by have := of_decide_eq_true g; omega
      refine Cw.skip <| Pw.thenN <| Cw.out <| Cw.seq <| Cw.block <| Cw.tail 17 mixed (by kernel_rfl) <| Qw.val (fun w1 hq => Ex.move rfl) rfl <| Qw.val (fun w1 hq => Ex.move rfl) rfl <| Qw.val (fun w1 hq => Ex.idx st_25 rfl rfl (sr.bs hq) k rfl hku) rfl <| Qw.val (fun w1 hq => Ex.fieldAddrE (q := 0) Tryz.underlying29 rfl (sz_27 _) rfl ad) rfl <| Qw.val (fun w1 hq => Ex.ld (ag_27 _) rfl (sr.bs hq) ck) rfl <| Qw.val (fun w1 hq => Ex.move rfl) rfl <| Qw.val (fun w1 hq => Ex.move rfl) rfl <| Qw.val (fun w1 hq => Ex.move rfl) rfl <| Qw.val (fun w1 hq => Ex.idx st_25 rfl rfl (sr.bs hq) k rfl hku) rfl <| Qw.val (fun w1 hq => Ex.fieldAddrE (q := 0) Tryz.underlying29 rfl (sz_27 _) rfl ad) rfl <| Qw.val (fun w1 hq => Ex.ld (ag_27 _) rfl (sr.bs hq) ck) rfl <| Qw.val (fun w1 hq => Ex.move rfl) rfl <| Qw.val (fun w1 hq => Ex.idxT st_27 rfl rfl (ty.bs hq) i rfl (by omega)) rfl <| Qw.val (fun w1 hq => (Ex.ldT (ag_21 _) rfl (ty.bs hq) (by omega)).as (congrArg i32 (xorT_at db hi'))) rfl <| Qw.val (fun w1 hq => Ex.move rfl) rfl <| Qw.val (fun w1 hq => Ex.xori32 rfl rfl) rfl <| Qw.val (fun w1 hq => Ex.idxT st_27 rfl rfl (ty.bs hq) i rfl (by omega)) rfl ?_
      refine Qw.done (fun w3 hq => ?_)
      have hX3 := bt hX hq
      have hA3 := hA.bs hq
      have sr3 := sr.bs hq
      have hO3 : ∀ j (hj : j < us.length), j ≠ k → TwC w3 w0.heap.size us[j] := fun j hj e => (hO j hj e).bs hq
      refine Lw.unit (Xu.stO (sz_21 _) rfl rfl rfl hA3.y (by rw [List.length_map]; show i < (xorT db a.l i).length; omega)) ?_
      rintro w4 ⟨o_y, hg, -⟩
      have hX4 := hX3.grown hg hX3.size (fun b e => (own_block hA3.y b e).1)
      have sr4 : Sl w4 2 r us.length (cellsOf us) := sr3.by hg (by
        cases e : r.ownBlock with
        | none => exact .inl rfl
        | some b => exact .inr fun e2 => hAr b e2.symm e)
      have hO4 : ∀ j (hj : j < us.length), j ≠ k → TwC w4 w0.heap.size us[j] := fun j hj e => (hO3 j hj e).apart hA3.y (hAp j hj e) hg
      have o_y2 : w4.ownsRow w0.heap.size 21 1 a.y (xorT db a.l (i + 1)).length ((xorT db a.l (i + 1)).map i32) := by
        rw [xorT_len, ← xorT_succ db hi', List.map_set]
        rw [show (T4.mk a.x a.y a.s (xorT db a.l i)).l.length = a.l.length from xorT_len db a.l i] at o_y
        exact o_y
      refine Lw.nil <| Pw.blkN <| Pw.thenN <| Cw.out <| Cw.region <| Lw.val (Ex.move rfl) rfl <| Lw.val (Ex.addI rfl rfl (by omega)) rfl <| Lw.val (Ex.assign rfl) rfl <| Lw.nil ?_
      exact Pw.thenN (Pw.next (i + 1) ⟨rfl, rfl, rfl, rfl, rfl, rfl, rfl, trivial⟩ (⟨hi', hX4, sr4, hO4, ⟨krow_awayT hA3.x hA3.y (by decide) hg, o_y2⟩⟩) (by omega))
    intro g
    have hi' : i = a.l.length := by have := of_decide_eq_false g; omega
    subst hi'
    obtain ⟨l', hl'⟩ : ∃ l', l' = xorT db a.l a.l.length := ⟨_, rfl⟩
    rw [← hl'] at hA lx
    obtain ⟨us', hus'⟩ : ∃ us', us' = us.set k ⟨a.x, a.y, a.s, l'⟩ := ⟨_, rfl⟩
    have lu' : us'.length = us.length := by rw [hus', List.length_set]
    have hT' : Tens w2 r us' := by
      refine ⟨?_, fun x hx => ?_⟩
      · rw [lu', hus', ha, cellsOf_set us k hku]; exact sr
      · obtain ⟨j, hj, rfl⟩ := List.mem_iff_getElem.1 hx
        subst hus'
        rw [List.getElem_set]
        split
        · exact hA.at
        · rename_i e; exact (hO j (by rw [List.length_set] at hj; exact hj) (Ne.symm e)).at
    obtain ⟨ws', hws'⟩ : ∃ ws', ws' = us'.map pv := ⟨_, rfl⟩
    have ews : ws' = (ws.map pv).set k (a.s, l') := by rw [hws', hus', List.map_set, hpu]; rfl
    have hkm : k < (ws.map pv).length := by rw [List.length_map]; exact hkl
    have esim : (ws.map pv).map shP = ws'.map shP := by
      rw [ews]
      refine sim_set hkm ?_
      rw [List.getElem_map, ← pa]
      show (a.s, l'.length) = (a.s, a.l.length)
      rw [lx]
    obtain ⟨vs', ev, -⟩ := allG_sim eG esim
    obtain ⟨ss', hss', RN'⟩ := ran_of ev
    have es : ss' = ss := Option.some.inj (hss'.symm.trans hss)
    subst es
    have TR : TwoRuns ls (ws.map pv) ws' (pv t) ss' vs vs' n k := ⟨RN, RN', hn, k2, hwn, fun j hj => by rw [ews, List.getElem?_set_ne (Ne.symm hj)]⟩
    have hge : ∀ i (hi : i < ls.length), ls[i].i.length ≤ 4 ∧ ∀ a ∈ ls[i].i, 0 ≤ a ∧ a < (i : Int) := fun i hi => ⟨kindF_len (node_at RN.sh hi).kind, (node_at RN.sh hi).ins⟩
    have last : ls.length - 1 < ls.length := by omega
    have sh1 := (ran_node RN last).sh
    have sh2 := (ran_node RN' last).sh
    have abv := TR.above (ls.length - 1 - n + 1) (ls.length - 1 - n) (by omega) (by omega)
    rw [show n + (ls.length - 1 - n) = ls.length - 1 by omega] at abv
    have lv1 : lastV vs = vs.getD (ls.length - 1) ([], []) := by unfold lastV; rw [RN.lvs]
    have lv2 : lastV vs' = vs'.getD (ls.length - 1) ([], []) := by unfold lastV; rw [RN'.lvs]
    rw [← lv1, ← pc] at sh1 abv
    rw [← lv2] at sh2 abv
    clear hO hA sr lyle sy ty hl' lx ad hT hU hpu hAr hAp ck pa
    replace hB := hB.bs hX
    replace h := h.bs hX
    replace hw := hw.bs hX
    replace ht := ht.bs hX
    replace h_v := h_v.bs hX
    replace h_u := h_u.bs hX
    replace b_z := b_z.bs hX
    replace hc := hc.bs hX
    replace b_a := b_a.bs hX
    replace s_n := s_n.bs hX
    clear hX hn1
    rw [hws'] at ev
    refine Cw.exit <| Pw.thenE <| Pw.thenE <| Pw.blkHit <| Pw.thenN <| Cw.out <| Cw.seq <| Cw.region <| Lw.val (Ex.fieldAddr (q := 0) Tryz.underlying31 rfl (sz_24 _) rfl) rfl <| Lw.val (Ex.ldAt (ds := [v]) (ag_24 _) (sz_24 _) rfl rfl (by assumption) rfl) rfl ?_
    refine Lw.val (Ex.move rfl) rfl <| Lw.val (Ex.fieldAddr (q := 1) Tryz.underlying31 rfl (sz_29 _) rfl) rfl <| Lw.val (Ex.ldAt (ds := [t.x, t.y]) (ag_29 _) (sz_29 _) rfl rfl (by assumption) rfl) rfl ?_
    refine Lw.callF rfl rfl (run_c v ls r us' t _ h hT' ht) ?_
    rintro _ w ⟨hn5, hr⟩
    rw [ev] at hr
    obtain ⟨d, rfl, hd, pd⟩ := hr
    replace hd := hd.at
    replace hB := hB.bs hn5
    replace h := h.bs hn5
    replace hw := hw.bs hn5
    replace ht := ht.bs hn5
    replace h_v := h_v.bs hn5
    replace h_u := h_u.bs hn5
    replace b_z := b_z.bs hn5
    replace hc := hc.bs hn5
    replace b_a := b_a.bs hn5
    replace s_n := s_n.bs hn5
    replace hT' := hT'.bs hn5
    clear hn5 ev
    rw [← pd] at sh2 abv
    refine Lw.val (Ex.move rfl) rfl <| Lw.val (Ex.extract (i := 0) rfl rfl) rfl <| Lw.val (Ex.extract (i := 1) rfl rfl) rfl <| Lw.boxed (cs := [d.x, d.y]) it_29 rfl rfl rfl rfl (fun _ => rfl) (hd.one) ?_
    rintro A_b w eA_b b_b hn -
    replace hB := hB.bs hn
    replace h := h.bs hn
    replace hw := hw.bs hn
    replace ht := ht.bs hn
    replace h_v := h_v.bs hn
    replace h_u := h_u.bs hn
    replace b_z := b_z.bs hn
    replace hc := hc.bs hn
    replace b_a := b_a.bs hn
    replace s_n := s_n.bs hn
    replace hT' := hT'.bs hn
    replace hd := hd.bs hn
    clear hn
    refine Lw.val (Ex.assign rfl) rfl <| Lw.nil <| Pw.thenN <| Cw.out <| Cw.seq ?_
    have esh : c.s = d.s := sh1.trans sh2.symm
    have need : ¬ (c.s = d.s ∧ c.l = d.l) → (ndL ls n (ls.length - 1 - n + 1)).getD (ls.length - 1 - n) 0 = 1 := fun hne => by
      refine Classical.byContradiction fun hc => hne ?_
      have := abv hc
      exact ⟨congrArg (fun p : PV => p.1) this, congrArg (fun p : PV => p.2) this⟩
    have egd : (wtsG ls).getD k default = (n : Int) := by rw [List.getD_eq_getElem?_getD, en]; rfl
    have hkg : k < (wtsG ls).length := by omega
    refine Cw.quiet mixed (by kernel_rfl) <| Qw.val (fun w1 hq => Ex.move rfl) rfl <| Qw.val (fun w1 hq => Ex.eql rfl rfl) rfl <| Qw.val (fun w1 hq => Ex.move rfl) rfl <| Qw.know 89 (v' := .bool true) rfl (congrArg Value.bool (rfl)) <| Qw.take (dj := 89) rfl rfl <| Qw.val (fun w1 hq => Ex.ldA (k := 2) (ag_29 _) (sz_29 _) rfl rfl (b_a.bs hq)) rfl <| Qw.take (dj := 89) rfl rfl <| Qw.val (fun w1 hq => Ex.ldA (k := 2) (ag_29 _) (sz_29 _) rfl rfl (b_b.bs hq)) rfl <| Qw.take (dj := 89) rfl rfl <| Qw.callF rfl rfl (fun w1 hq => (same_c c.x c.y d.x d.y c.s d.s c.l d.l _ (hc.bs hq).1 (hc.bs hq).2 (hd.bs hq).1 (hd.bs hq).2).q hq) <| Qw.take (dj := 89) rfl rfl <| Qw.val (fun w1 hq => Ex.move rfl) rfl ?_
    refine Qw.part 93 rfl ?_ ?_
    · intro g
      refine Qw.pass (dj := 93) rfl rfl rfl rfl <| Qw.pass (dj := 93) rfl rfl rfl rfl <| Qw.pass (dj := 93) rfl rfl rfl rfl <| Qw.pass (dj := 93) rfl rfl rfl rfl <| Qw.pass (dj := 93) rfl rfl rfl rfl <| Qw.pass (dj := 93) rfl rfl rfl rfl <| Qw.pass (dj := 93) rfl rfl rfl rfl <| Qw.pass (dj := 93) rfl rfl rfl rfl <| Qw.pass (dj := 93) rfl rfl rfl rfl <| Qw.pass (dj := 93) rfl rfl rfl rfl <| Qw.pass (dj := 93) rfl rfl rfl rfl <| Qw.pass (dj := 93) rfl rfl rfl rfl <| Qw.take (dj := 89) rfl rfl <| Qw.val (fun w1 hq => Ex.pickT rfl rfl) rfl <| Qw.val (fun w1 hq => Ex.pickT rfl rfl) rfl <| Qw.val (fun w1 hq => Ex.move rfl) rfl <| Qw.take (dj := 108) rfl rfl <| Qw.val (fun w1 hq => Ex.fieldAddr (q := 0) Tryz.underlying29 rfl (sz_26 _) rfl) rfl <| Qw.take (dj := 108) rfl rfl <| Qw.val (fun w1 hq => Ex.ldB (ag_26 _) rfl (Blk.bs (by assumption) hq) rfl) rfl ?_
      refine Qw.take (dj := 108) rfl rfl <| Qw.val (fun w1 hq => Ex.fieldAddr (q := 0) Tryz.underlying29 rfl (sz_26 _) rfl) rfl <| Qw.take (dj := 108) rfl rfl <| Qw.val (fun w1 hq => Ex.ldB (ag_26 _) rfl (Blk.bs (by assumption) hq) rfl) rfl ?_
      refine Qw.take (dj := 108) rfl rfl <| Qw.know 108 (v' := .bool true) rfl (congrArg Value.bool (rfl)) <| Qw.callF rfl rfl (fun w1 hq => (sameInts_c c.x d.x c.s d.s _ (hc.bs hq).1 (hd.bs hq).1).q hq) <| Qw.val (fun w1 hq => Ex.pickT rfl rfl) rfl <| Qw.val (fun w1 hq => Ex.assign rfl) rfl ?_
      refine Qw.nil (fun w5 hq => ?_)
      refine Pw.thenN <| Cw.out <| Cw.ret <| Pw.ret1 rfl rfl ?_
      exact ⟨by rw [esh]; simp, bt hB hq⟩
    intro g
    have e1 := need (by simpa using g)
    refine Qw.take (dj := 93) rfl rfl <| Qw.val (fun w1 hq => Ex.fieldAddr (q := 0) Tryz.underlying31 rfl (sz_24 _) rfl) rfl <| Qw.take (dj := 93) rfl rfl <| Qw.val (fun w1 hq => Ex.ldAt (ds := [v]) (ag_24 _) (sz_24 _) rfl rfl (Blk.bs (by assumption) hq) rfl) rfl ?_
    refine Qw.take (dj := 93) rfl rfl <| Qw.val (fun w1 hq => Ex.fieldAddr (q := 0) Tryz.underlying31 rfl (sz_24 _) rfl) rfl <| Qw.take (dj := 93) rfl rfl <| Qw.val (fun w1 hq => Ex.fieldAddr (q := 0) Tryz.underlying24 rfl (sz_22 _) rfl) rfl <| Qw.take (dj := 93) rfl rfl <| Qw.val (fun w1 hq => Ex.ldB (ag_22 _) rfl (Blk.bs (by assumption) hq) rfl) rfl ?_
    refine Qw.take (dj := 93) rfl rfl <| Qw.val (fun w1 hq => Ex.lenS st_22 rfl (Sl.bs (by assumption) hq)) rfl ?_
    refine Qw.take (dj := 93) rfl rfl <| Qw.val (fun w1 hq => (Ex.subI rfl rfl (by omega)).as (congrArg (Value.int .i64) (show (ls.length : Int) - 1 = ((ls.length - 1 : Nat) : Int) by omega))) rfl <| Qw.take (dj := 93) rfl rfl <| Qw.val (fun w1 hq => Ex.move rfl) rfl <| Qw.take (dj := 93) rfl rfl <| Qw.val (fun w1 hq => Ex.move rfl) rfl <| Qw.take (dj := 93) rfl rfl <| Qw.val (fun w1 hq => Ex.idxT st_26 rfl rfl (s_n.bs hq) k rfl hkg) rfl <| Qw.take (dj := 93) rfl rfl <| Qw.val (fun w1 hq => (Ex.ldT (ag_3 _) rfl (s_n.bs hq) hkg).as (congrArg (Value.int .i64) egd)) rfl <| Qw.take (dj := 93) rfl rfl <| Qw.callF rfl rfl (fun w1 hq => (needs_c v ls (ls.length - 1) n _ (h.bs hq) (by omega) (by omega) hge (by omega)).q hq) <| Qw.take (dj := 89) rfl rfl <| Qw.val (fun w1 hq => Ex.pickF rfl rfl) rfl <| Qw.val (fun w1 hq => Ex.pickT rfl rfl) rfl <| Qw.val (fun w1 hq => Ex.move rfl) rfl <| Qw.know 108 (v' := .bool true) rfl (congrArg Value.bool ((by rw [e1]; rfl))) <| Qw.take (dj := 108) rfl rfl <| Qw.val (fun w1 hq => Ex.fieldAddr (q := 0) Tryz.underlying29 rfl (sz_26 _) rfl) rfl <| Qw.take (dj := 108) rfl rfl <| Qw.val (fun w1 hq => Ex.ldB (ag_26 _) rfl (Blk.bs (by assumption) hq) rfl) rfl ?_
    refine Qw.take (dj := 108) rfl rfl <| Qw.val (fun w1 hq => Ex.fieldAddr (q := 0) Tryz.underlying29 rfl (sz_26 _) rfl) rfl <| Qw.take (dj := 108) rfl rfl <| Qw.val (fun w1 hq => Ex.ldB (ag_26 _) rfl (Blk.bs (by assumption) hq) rfl) rfl ?_
    refine Qw.take (dj := 108) rfl rfl <| Qw.callF rfl rfl (fun w1 hq => (sameInts_c c.x d.x c.s d.s _ (hc.bs hq).1 (hd.bs hq).1).q hq) <| Qw.val (fun w1 hq => Ex.pickT rfl rfl) rfl <| Qw.val (fun w1 hq => Ex.assign rfl) rfl ?_
    refine Qw.nil (fun w5 hq => ?_)
    refine Pw.thenN <| Cw.out <| Cw.ret <| Pw.ret1 rfl rfl ?_
    exact ⟨by rw [esh]; simp, bt hB hq⟩
set_option maxRecDepth 100000 in
set_option maxHeartbeats 2000000 in
theorem meansNeeded_lifted (os : Os) (started : os.Started) (H : Type) (enc : TypeId × Value → H) :
  ReturnsInHanded {} Tryz.checked os 5 .any (Rows.meansNeededSpec.pre6 enc Tryz.prog Tryz.f5 Rows.meansNeededRow.domain false) (Rows.meansNeededSpec.post enc Tryz.prog Tryz.f5 false true false false) := by
 refine returnsInHanded_of_change_sized (C := Tryz.checked) own started (by kernel_rfl) Tryz.func5
  (ChangeSpec.witness6 (enc := enc) (C := Tryz.checked) false ⟨#[], #[.agg #[.slice none 0 0, .slice none 0 0, .slice none 0 0, .slice none 0 0], .int .u8 0, .int .i32 0], []⟩ 8 (by kernel_rfl) (by kernel_rfl) (by kernel_rfl) (by kernel_rfl)) ?_
 intro W base args ds gs before hval0 hW hcnd hsz0 _
 have hval : ∀ (j : Nat) t v, Tryz.f5.params[j]? = some t → args[j]? = some v → Value.okWide Tryz.prog W .any base t v := hval0
 have hW' := hW
 obtain ⟨p, q, hA0, hV, rfl, hfz, hnd⟩ := hW
 have hA : DataW.TrodAll enc Tryz.prog W 0 (fun _ => true) true Tryz.f5.params.toList args.toList ds p := hA0
 have hsz : (DataW.weightsEach Tryz.prog (Tryz.f5.params.toList ++ Rows.meansNeededSpec.plain.varTypes Tryz.prog) (ds ++ gs)).all (· ≤ reachBytes) = true := hsz0
 rw [Tryz.params5] at hA hval hsz
 obtain ⟨v0, vs0, d0, ds0, p0, q0, hargs, rfl, rfl, h0, r0⟩ := trodAll_cons hA
 obtain ⟨v1, vs1, d1, ds1, p1, q1, rfl, rfl, rfl, h1, r1⟩ := trodAll_cons r0
 obtain ⟨v2, vs2, d2, ds2, p2, q2, rfl, rfl, rfl, h2, r2⟩ := trodAll_cons r1
 obtain ⟨rfl, rfl, rfl⟩ := trodAll_nil r2
 obtain rfl : args = #[v0, v1, v2] := by cases args; simp_all
 obtain ⟨rfl, rfl⟩ := trodVars_none hV
 have k0 := h0
 have lt0 : ∀ x ∈ p0, x.block < W.heap.size := by obtain ⟨m, hm⟩ := k0; exact DataW.trod_lt m _ _ _ hm
 have i0 := in_of (j := 0) (t := 31) hsz rfl rfl h0
 have o0 := hval 0 31 v0 rfl rfl
 have k1 := h1
 have lt1 : ∀ x ∈ p1, x.block < W.heap.size := by obtain ⟨m, hm⟩ := k1; exact DataW.trod_lt m _ _ _ hm
 have i1 := in_of (j := 1) (t := 5) hsz rfl rfl h1
 have o1 := hval 1 5 v1 rfl rfl
 have k2 := h2
 have lt2 : ∀ x ∈ p2, x.block < W.heap.size := by obtain ⟨m, hm⟩ := k2; exact DataW.trod_lt m _ _ _ hm
 have i2 := in_of (j := 2) (t := 21) hsz rfl rfl h2
 have o2 := hval 2 21 v2 rfl rfl
 clear hA0 hval0 hsz0 hsz
 obtain ⟨v, u, ls, ws, t, rfl, h, hl, hf, hw, lw, fw, ht, ft⟩ := arg_given o0 i0
 obtain ⟨da, rfl⟩ := arg_num (BitVec.ofInt 8) b8 (fun _ h => wf_u8 h) un_5 o1 i1
 obtain ⟨db, rfl⟩ := arg_num (BitVec.ofInt 32) i32 (fun _ h => wf_i32 h) un_21 o2 i2
 refine (law_calls (meansNeeded_w v u ls ws t da db W h hl hf hw lw fw ht ft)).mono fun e W' ⟨he, bel⟩ => ?_
 subst he
 exact ⟨_, rfl, _, _, _, [], _, [], hW', trodAll_mk1 (shut_bool un_4 _), (trodAll_cons_mk (Below.trod laidOut (by kernel_rfl) (of_decide_eq_true (by kernel_rfl)) k0 bel lt0) (trodAll_cons_mk (Below.trod laidOut (by kernel_rfl) (of_decide_eq_true (by kernel_rfl)) k1 bel lt1) (trodAll_cons_mk (Below.trod laidOut (by kernel_rfl) (of_decide_eq_true (by kernel_rfl)) k2 bel lt2) trodAll_mk0))), rfl, bel.frame _, fun h => by cases h⟩

/-- The statement. -/
theorem meansNeeded_proved : Rows.MeansNeededSaid :=
 OpenClaim.holds_of_wide 5 Tryz.f5 rfl rfl rfl rfl rfl rfl rfl ⟨rfl, rfl, rfl, rfl, rfl⟩ rfl rfl rfl rfl rfl (by kernel_rfl) Tryz.func5 (by kernel_rfl)
  (of_decide_eq_true (by kernel_rfl)) (by unfold Func.isWrapper; first | (rw [if_pos (by decide +kernel)]; kernel_rfl) | (rw [if_neg (by decide +kernel)]; exact ⟨rfl, rfl⟩))
  (fun os started H enc _ => meansNeeded_lifted os started H enc)
#print axioms meansNeeded_proved
end Go.Proofs.YtmipoeanpnnjoaaGreat
