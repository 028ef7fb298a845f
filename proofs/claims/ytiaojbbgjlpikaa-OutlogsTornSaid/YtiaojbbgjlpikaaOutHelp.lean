/- Contracts over what a log holds: added, told, cut, opened, failed. -/
import Derived.Test.YtiaojbbgjlpikaaOutPlain
import Derived.Test.YtiaojbbgjlpikaaTensorsLaw
namespace Go.Proofs.Ytiaojbbgjlpikaa
open Go Go.Dd Go.RowKit
set_option maxRecDepth 100000

/-- A log and what is on its disk. -/
structure LogIs (w : World) (S : Nat → Prop) (L A : Nat) (l : List By) (ls : List Nums) : Prop where
  log : LogAt w S L A ⟨l, l, []⟩ (esOf ls)
  on : OnDisk l ls
theorem LogIs.bs {w w' : World} {S : Nat → Prop} {L A : Nat} {l : List By} {ls : List Nums} (h : LogIs w S L A l ls) (g : Below w.heap.size w w') : LogIs w' S L A l ls := ⟨h.log.bs g, h.on⟩
theorem LogIs.chg {w w' : World} {S T : Nat → Prop} {L A : Nat} {l : List By} {ls : List Nums} (h : LogIs w S L A l ls) (g : Chg T w w') (hT : ∀ b, S b → ¬ T b) : LogIs w' S L A l ls := ⟨h.log.chg g hT, h.on⟩
theorem LogIs.wide {w : World} {S T : Nat → Prop} {L A : Nat} {l : List By} {ls : List Nums} (h : LogIs w S L A l ls) (h1 : ∀ b, S b → T b) (h2 : ∀ b, T b → b < w.heap.size) : LogIs w T L A l ls := ⟨h.log.wide h1 h2, h.on⟩
/-- Lists of numbers, in memory. -/
structure LL (w : World) (v : Value) (ps : List (Value × Nums)) : Prop where
  sl : SlT (fun p : Value × Nums => p.1) w v ps
  each : ∀ p ∈ ps, SlT i32 w p.1 p.2
theorem LL.bs {w w' : World} {v : Value} {ps : List (Value × Nums)} (h : LL w v ps) (g : Below w.heap.size w w') : LL w' v ps := ⟨h.sl.bs g, fun p hp => (h.each p hp).bs g⟩
abbrev nums2 (ps : List (Value × Nums)) : List Nums := ps.map (·.2)
theorem ofInt_ofNat (n : Nat) : BitVec.ofInt 32 (n : Int) = BitVec.ofNat 32 n := by simp
theorem small_c (v : Value) (x : Nums) (w : World) (hv : SlT i32 w v x) : Fnc Try.prog 12 [v] w (fun r w' => Below w.heap.size w w' ∧ ∃ s, r = .agg [s, v].toArray ∧ SlT (Value.int .i64) w' s [(x.length : Int)] ∧ ∀ k, s.ownBlock = some k → w.heap.size ≤ k) := by
  have hB := Below.refl w.heap.size w
  refine Fnc.enter (n := 8) Try.func12 (by kernel_rfl) rfl rfl rfl ?_
  refine Cw.seq ?_
  refine Cw.region ?_
  refine Lw.newA it_36 rfl ?_
  rintro A_r w eA_r b_r hn -
  replace hB := hB.bs hn
  replace hv := hv.bs hn
  clear hn
  refine Lw.nil ?_
  refine Pw.thenN (Cw.out ?_)
  refine Cw.seq ?_
  refine Cw.region ?_
  refine Lw.val (Ex.move rfl) rfl ?_
  refine Lw.val (Ex.lenS st_34 rfl (by assumption)) rfl ?_
  have z0 := below_size hB
  have yr := blk_lt b_r
  refine Lw.valW (Xw.lit (vs := [(x.length : Int)].map (Value.int .i64)) st_33 it_3 rfl rfl rfl rfl rfl) rfl ?_
  rintro s w1 ⟨o_s, -, hn, -⟩
  replace hB := hB.bs hn
  replace hv := hv.bs hn
  replace b_r := b_r.bs hn
  clear hn
  have sb := own_block o_s
  have s_v := hv
  refine Lw.val (Ex.move rfl) rfl ?_
  refine Lw.val (Ex.build (vs := [(0, s), (1, v)]) (cs := [s, v]) rfl (bt_ten _ _ (own_sl o_s).one hv.one)) rfl ?_
  refine Lw.unit (Xu.stA (cs := [s, v]) rfl rfl rfl rfl (by simp [(own_sl o_s).one', hv.one']) b_r rfl) ?_
  rintro w2 ⟨b_r2, hg, hz⟩
  have hB2 := hB.grown hg (below_size hB) (by rintro _ ⟨⟩; omega)
  have o_s2 := own_heap o_s (fun k e => hg.block k (sb k e).2 (by intro e2; cases e2; have := sb _ e; omega))
  refine Lw.nil ?_
  refine Pw.thenN (Cw.out ?_)
  refine Cw.ret ?_
  refine Pw.retC rfl rfl (by assumption) (Try.underlying36) rfl rfl rfl ?_
  exact ⟨hB2, s, rfl, own_slT o_s2, fun k e => by have := sb k e; omega⟩
theorem add1_c (L A : Nat) (S : Nat → Prop) (l : List By) (ls : List Nums) (s v : Value) (x : Nums) (w : World) (h : LogIs w S L A l ls) (hs : SlT (Value.int .i64) w s [(x.length : Int)]) (hv : SlT i32 w v x) (hx : okN x) (hm : ls.length + 1 ≤ 100) :
    Fnc Try.prog 13 [.pointer (some ⟨L, 0, none⟩), .agg [u32 (BitVec.ofNat 32 ls.length), s, v].toArray] w (fun r w' =>
      (l.length < stN ls + nR x ∧ r = .int .i64 6 ∧ Below w.heap.size w w') ∨
      (stN ls + nR x ≤ l.length ∧ r = .int .i64 0 ∧ Chg S w w' ∧ LogIs w' (gro S w w') L A (addL l ls x) (ls ++ [x]))) := by
  have hb := stN_bd h.on.okl
  have hp := stN_pos ls
  refine (add_c L A S ⟨l, l, []⟩ (esOf ls) (BitVec.ofNat 32 ls.length) ⟨s, v, [(x.length : Int)], x⟩ w h.log rfl ⟨hs, hv⟩ (by rw [endN_all]; omega) (by rw [esOf_len]; omega)).mono fun r w' hr => ?_
  have ei : BitVec.ofNat 32 ls.length = BitVec.ofInt 32 ((esOf ls).length : Int) := by rw [esOf_len]; exact (ofInt_ofNat _).symm
  have en : nSec (recBy (BitVec.ofNat 32 ls.length) [(x.length : Int)] x) = nR x := nSec_rB _ _
  rcases hr with ⟨h1, -, -⟩ | ⟨-, -, h3, h4, h5⟩ | ⟨-, -, h3, h4, h5, F, rfl, h6⟩
  · exfalso
    rcases h1 with h1 | h1
    · rw [okN_tok hx] at h1; cases h1
    · exact h1 ei
  · rw [endN_all] at h3
    simp only [en] at h3
    exact .inl ⟨h3, h4, h5⟩
  · rw [endN_all] at h3 h6
    simp only [en] at h3 h6
    rw [esOf_len] at h6
    refine .inr ⟨h3, h4, h5, ⟨?_, h.on.add hx h3 hm⟩⟩
    rw [esOf_app]
    exact h6
theorem addedG_c (L A : Nat) (S : Nat → Prop) (l : List By) (ls : List Nums) (v : Value) (ps : List (Value × Nums)) (w : World) (h : LogIs w S L A l ls) (hl : ∀ w', Chg S w w' → LL w' v ps) (hx : ∀ p ∈ ps, okN p.2) (hm : ls.length + ps.length ≤ 100) (hf : stN (ls ++ nums2 ps) ≤ l.length) :
    Fnc Try.prog 15 [.pointer (some ⟨L, 0, none⟩), .int .i64 (ls.length : Int), v] w (fun r w' => r = .bool true ∧ Chg S w w' ∧ ∃ l', LogIs w' (gro S w w') L A l' (ls ++ nums2 ps) ∧ l'.length = l.length ∧ ∀ i, 1 ≤ i → i < stN ls → l'.getD i [] = l.getD i []) := by
  have ltS := h.log.lt
  refine Fnc.enter (n := 27) Try.func15 (by kernel_rfl) rfl rfl rfl ?_
  refine Cw.seq ?_
  refine Cw.region ?_
  refine Lw.val (Ex.assign rfl) rfl ?_
  refine Lw.nil ?_
  refine Pw.thenN (Cw.out ?_)
  refine Cw.seq ?_
  refine Cw.seq ?_
  refine Cw.region ?_
  refine Lw.val (Ex.assign rfl) rfl ?_
  refine Lw.nil ?_
  refine Pw.thenN (Cw.out ?_)
  refine Cw.block ?_
  refine Cw.loop (S := (Nat × List By)) (fun z => [(0, .pointer (some ⟨L, 0, none⟩)), (1, .int .i64 (ls.length : Int)), (2, v), (7, .int .i64 (z.1 : Int))]) (fun z w' => z.1 ≤ ps.length ∧ Chg S w w' ∧ LogIs w' (gro S w w') L A z.2 (ls ++ nums2 (ps.take z.1)) ∧ z.2.length = l.length ∧ (∀ i, 1 ≤ i → i < stN ls → z.2.getD i [] = l.getD i [])) (fun z => ps.length - z.1) ((0, l)) ⟨rfl, rfl, rfl, rfl, trivial⟩ ?_ ?_
  · exact ⟨Nat.zero_le _, Chg.refl _ _, by simpa using h.wide (fun b e => .inl e) (gro_lt ltS (Nat.le_refl _)), rfl, fun _ _ _ => rfl⟩
  rintro ⟨i, l'⟩ w1 ⟨hi, hC, hL, hll, hag⟩
  dsimp only at hi hC hL hll hag ⊢
  have hLL := hl w1 hC
  have s_v := hLL.sl
  have z1 := hC.size
  refine Cw.seq ?_
  refine Cw.seq ?_
  refine Cw.region ?_
  refine Lw.val (Ex.move rfl) rfl ?_
  refine Lw.val (Ex.move rfl) rfl ?_
  refine Lw.val (Ex.lenS st_22 rfl (by assumption)) rfl ?_
  refine Lw.val (Ex.lss rfl rfl) rfl ?_
  refine Lw.nil ?_
  refine Pw.thenN (Cw.out ?_)
  refine Cw.cond rfl ?_ ?_
  · intro g
    have hi' : i < ps.length := by have := of_decide_eq_true g; omega
    obtain ⟨p, hp⟩ : ∃ p, p = ps[i] := ⟨_, rfl⟩
    have hpm : p ∈ ps := by rw [hp]; exact List.getElem_mem hi'
    have s_p := hLL.each p hpm
    have hxp := hx p hpm
    have eg : (ps.getD i default).1 = p.1 := by rw [hp, List.getD_eq_getElem?_getD, List.getElem?_eq_getElem hi']; rfl
    have et : nums2 (ps.take (i + 1)) = nums2 (ps.take i) ++ [p.2] := by unfold nums2; rw [List.take_succ_eq_append_getElem hi', List.map_append, hp]; rfl
    have ll : (ls ++ nums2 (ps.take i)).length = ls.length + i := by simp [nums2]; omega
    refine Cw.skip ?_
    refine Pw.thenN (Cw.out ?_)
    refine Cw.seq ?_
    refine Cw.block ?_
    refine Cw.seq ?_
    refine Cw.region ?_
    refine Lw.val (Ex.move rfl) rfl ?_
    refine Lw.val (Ex.move rfl) rfl ?_
    refine Lw.val (Ex.move rfl) rfl ?_
    refine Lw.val (Ex.addI rfl rfl (by omega)) rfl ?_
    refine Lw.val (Ex.as (Ex.conv32 us_3 un_32 rfl) (congrArg u32 (show BitVec.ofInt 32 ((ls.length : Int) + (i : Int)) = BitVec.ofNat 32 (ls ++ nums2 (ps.take i)).length by rw [ll, ← ofInt_ofNat]; congr 1))) rfl ?_
    refine Lw.val (Ex.move rfl) rfl ?_
    refine Lw.val (Ex.move rfl) rfl ?_
    refine Lw.val (Ex.idxT st_22 rfl rfl (by assumption) _ rfl (by omega)) rfl ?_
    refine Lw.val (Ex.as (Ex.ldT (ag_34 _) rfl s_v (by omega)) eg) rfl ?_
    refine Lw.callF rfl rfl (small_c p.1 p.2 w1 s_p) ?_
    rintro _ w2 ⟨hn, s, rfl, s_s, -⟩
    have hL2 := hL.bs hn
    have hC2 := hC.below hn
    have s_p2 := s_p.bs hn
    refine Lw.val (Ex.build (vs := [(0, u32 (BitVec.ofNat 32 (ls ++ nums2 (ps.take i)).length)), (1, .agg [s, p.1].toArray)]) (cs := [u32 (BitVec.ofNat 32 (ls ++ nums2 (ps.take i)).length), s, p.1]) rfl (bt_rec _ _ _)) rfl ?_
    refine Lw.callF rfl rfl (add1_c L A (gro S w w1) l' (ls ++ nums2 (ps.take i)) s p.1 p.2 w2 hL2 s_s s_p2 hxp (by rw [ll]; omega)) ?_
    rintro _ w3 hr
    have hst : stN (ls ++ nums2 (ps.take i)) + nR p.2 ≤ l'.length := by
      have h1 := stN_app (ls ++ nums2 (ps.take i)) [p.2]
      rw [stN_one, List.append_assoc, ← et] at h1
      have h2 := stN_app (ls ++ nums2 (ps.take (i + 1))) (nums2 (ps.drop (i + 1)))
      rw [List.append_assoc, show nums2 (ps.take (i + 1)) ++ nums2 (ps.drop (i + 1)) = nums2 ps by unfold nums2; rw [← List.map_append, List.take_append_drop]] at h2
      have := stN_pos (nums2 (ps.drop (i + 1)))
      omega
    rcases hr with ⟨h1, -, -⟩ | ⟨-, rfl, hC3, hL3⟩
    · omega
    have z2 := hn.size
    have z3 := hC3.size
    have hC' : Chg S w w3 := hC2.into hC3 (gro_into (Nat.le_refl _))
    have hL' : LogIs w3 (gro S w w3) L A (addL l' (ls ++ nums2 (ps.take i)) p.2) (ls ++ nums2 (ps.take (i + 1))) := by
      rw [et, ← List.append_assoc]
      exact hL3.wide (fun b e => e.elim (fun e => e.elim .inl (fun e => .inr (by omega))) (fun e => .inr (by omega))) (gro_lt ltS (by omega))
    refine Lw.val (Ex.neq rfl rfl) rfl ?_
    refine Lw.nil ?_
    refine Pw.thenN (Cw.out ?_)
    refine Cw.condB rfl false (rfl) ?_
    refine Cw.skip ?_
    refine Pw.blkN ?_
    refine Pw.thenN (Cw.out ?_)
    refine Cw.region ?_
    refine Lw.val (Ex.move rfl) rfl ?_
    refine Lw.val (Ex.addI rfl rfl (by omega)) rfl ?_
    refine Lw.val (Ex.assign rfl) rfl ?_
    refine Lw.nil ?_
    exact Pw.thenN (Pw.next ((i + 1, addL l' (ls ++ nums2 (ps.take i)) p.2)) ⟨rfl, rfl, rfl, rfl, trivial⟩ (⟨hi', hC', hL', by simp only; rw [addL_len]; exact hll, fun q q1 q2 => by simp only; rw [addL_get hst q1, if_neg (by have := stN_app ls (nums2 (ps.take i)); have := stN_pos (nums2 (ps.take i)); omega)]; exact hag q q1 q2⟩) (by simp only; omega))
  intro g
  have hi' : i = ps.length := by have := of_decide_eq_false g; omega
  subst hi'
  rw [List.take_length] at hL
  refine Cw.exit ?_
  refine Pw.thenE ?_
  refine Pw.thenE ?_
  refine Pw.blkHit ?_
  refine Pw.thenN (Cw.out ?_)
  refine Cw.seq ?_
  refine Cw.region ?_
  refine Lw.val (Ex.assign rfl) rfl ?_
  refine Lw.nil ?_
  refine Pw.thenN (Cw.out ?_)
  refine Cw.ret ?_
  refine Pw.ret1 rfl rfl ?_
  exact ⟨rfl, hC, l', hL, hll, hag⟩
theorem added_c (L A : Nat) (S : Nat → Prop) (l : List By) (ls : List Nums) (v : Value) (ps : List (Value × Nums)) (W w : World) (h : LogIs w S L A l ls) (hl : LL W v ps) (hW : Below W.heap.size W w) (hS : ∀ b, S b → W.heap.size ≤ b) (hx : ∀ p ∈ ps, okN p.2) (hm : ls.length + ps.length ≤ 100) (hf : stN (ls ++ nums2 ps) ≤ l.length) :
    Fnc Try.prog 15 [.pointer (some ⟨L, 0, none⟩), .int .i64 (ls.length : Int), v] w (fun r w' => r = .bool true ∧ Chg S w w' ∧ ∃ l', LogIs w' (gro S w w') L A l' (ls ++ nums2 ps) ∧ l'.length = l.length ∧ ∀ i, 1 ≤ i → i < stN ls → l'.getD i [] = l.getD i []) :=
  addedG_c L A S l ls v ps w h (fun _ hC => hl.bs (hW.trans (hC.to_below hS hW.size))) hx hm hf

theorem twoC {xs : List Value} {o : Nat} {x y : Value} (h1 : xs[o]? = some x) (h2 : xs[o + 1]? = some y) : ∀ i, i < 2 → ∃ q, [x, y][i]? = some q ∧ xs[o + i]? = some q := fun i hi => by
  rcases (show i = 0 ∨ i = 1 by omega) with rfl | rfl
  · exact ⟨_, rfl, h1⟩
  · exact ⟨_, rfl, h2⟩
theorem told_c (L A : Nat) (S : Nat → Prop) (l : List By) (ls : List Nums) (v : Value) (ps : List (Value × Nums)) (w : World) (h : LogIs w S L A l ls) (hl : LL w v ps) :
    Fnc Try.prog 14 [.pointer (some ⟨L, 0, none⟩), v] w (fun r w' => r = .bool (decide (ls = nums2 ps)) ∧ Below w.heap.size w w') := by
  obtain ⟨rs, hrs⟩ : ∃ rs : List (BitVec 32 × List Int × List (BitVec 32)), rs = (List.range ls.length).map fun k => (BitVec.ofNat 32 k, [((ls.getD k []).length : Int)], ls.getD k []) := ⟨_, rfl⟩
  have lrs : rs.length = ls.length := by rw [hrs]; simp
  have grs : ∀ k, k < ls.length → rs.getD k default = (BitVec.ofNat 32 k, [((ls.getD k []).length : Int)], ls.getD k []) := fun k hk => by
    rw [hrs, List.getD_eq_getElem?_getD, List.getElem?_map, List.getElem?_range hk]; rfl
  have gls : ∀ k (hk : k < ls.length), ls.getD k [] = ls[k] := fun k hk => by rw [List.getD_eq_getElem?_getD, List.getElem?_eq_getElem hk]; rfl
  have few := h.on.few
  have hle := hl.sl.le
  have hrd : ∀ k, k < (esOf ls).length → ∃ nx, RdOk l (endN (esOf ls) k) (rs.getD k default).1 (rs.getD k default).2.1 (rs.getD k default).2.2 nx := fun k hk => by
    rw [esOf_len] at hk
    rw [grs k hk, gls k hk]
    exact ⟨_, rd_of h.on hk⟩
  have hB := Below.refl w.heap.size w
  refine Fnc.enter (n := 57) Try.func14 (by kernel_rfl) rfl rfl rfl ?_
  refine Cw.seq ?_
  refine Cw.region ?_
  refine Lw.val (Ex.assign rfl) rfl ?_
  refine Lw.nil ?_
  refine Pw.thenN (Cw.out ?_)
  refine Cw.seq ?_
  refine Cw.region ?_
  refine Lw.val (Ex.move rfl) rfl ?_
  refine Lw.callF rfl rfl (records_c L A S ⟨l, l, []⟩ (esOf ls) rs w h.log (by rw [lrs, esOf_len]) (by rw [esOf_len]; omega) (ends_bd h.on) hrd) ?_
  rintro _ w1 ⟨hn, r, qs, rfl, s_r, hat, hqs⟩
  have lq : qs.length = ls.length := by have := congrArg List.length hqs; rw [List.length_map, lrs] at this; exact this
  have hl1 := hl.bs hn
  have s_v := hl1.sl
  refine Lw.val (Ex.move rfl) rfl ?_
  refine Lw.val (Ex.extract (i := 0) rfl rfl) rfl ?_
  refine Lw.val (Ex.extract (i := 1) rfl rfl) rfl ?_
  refine Lw.val (Ex.assign rfl) rfl ?_
  refine Lw.val (Ex.assign rfl) rfl ?_
  refine Lw.nil ?_
  refine Pw.thenN (Cw.out ?_)
  refine Cw.seq ?_
  refine Cw.seq ?_
  refine Cw.region ?_
  refine Lw.val (Ex.move rfl) rfl ?_
  refine Lw.val (Ex.neq rfl rfl) rfl ?_
  refine Lw.val (Ex.move rfl) rfl ?_
  refine Lw.know 15 (v' := .bool false) rfl (congrArg Value.bool (rfl)) ?_
  refine Lw.take (dj := 15) rfl rfl ?_
  refine Lw.val (Ex.move rfl) rfl ?_
  refine Lw.take (dj := 15) rfl rfl ?_
  refine Lw.val (Ex.lenS st_66 rfl (by assumption)) rfl ?_
  refine Lw.take (dj := 15) rfl rfl ?_
  refine Lw.val (Ex.move rfl) rfl ?_
  refine Lw.take (dj := 15) rfl rfl ?_
  refine Lw.val (Ex.lenS st_22 rfl (by assumption)) rfl ?_
  refine Lw.take (dj := 15) rfl rfl ?_
  refine Lw.val (Ex.neq rfl rfl) rfl ?_
  refine Lw.val (Ex.pickF rfl rfl) rfl ?_
  refine Lw.val (Ex.move rfl) rfl ?_
  refine Lw.part 22 rfl ?_ ?_
  · intro g
    have hne : ¬ ls = nums2 ps := fun e => by
      have := congrArg List.length e
      rw [List.length_map] at this
      simp at g; omega
    refine Lw.pass (dj := 22) rfl rfl rfl rfl ?_
    refine Lw.pass (dj := 22) rfl rfl rfl rfl ?_
    refine Lw.pass (dj := 22) rfl rfl rfl rfl ?_
    refine Lw.pass (dj := 22) rfl rfl rfl rfl ?_
    refine Lw.pass (dj := 22) rfl rfl rfl rfl ?_
    refine Lw.val (Ex.pickT rfl rfl) rfl ?_
    refine Lw.nil ?_
    refine Pw.thenN (Cw.out ?_)
    refine Cw.condT rfl ?_
    refine Cw.seq ?_
    refine Cw.region ?_
    refine Lw.val (Ex.assign rfl) rfl ?_
    refine Lw.nil ?_
    refine Pw.thenN (Cw.out ?_)
    refine Cw.ret ?_
    refine Pw.thenR ?_
    refine Pw.ret1 rfl rfl ?_
    exact ⟨by rw [decide_eq_false hne], hn⟩
  intro g
  have hlen : ls.length = ps.length := by simp at g; omega
  refine Lw.take (dj := 22) rfl rfl ?_
  refine Lw.val (Ex.move rfl) rfl ?_
  refine Lw.take (dj := 22) rfl rfl ?_
  refine Lw.callF rfl rfl (olen_c L A S _ (esOf ls) w1 (h.log.bs hn)) ?_
  rintro _ w1 ⟨rfl, rfl⟩
  rw [esOf_len, hlen]
  refine Lw.take (dj := 22) rfl rfl ?_
  refine Lw.val (Ex.move rfl) rfl ?_
  refine Lw.take (dj := 22) rfl rfl ?_
  refine Lw.val (Ex.lenS st_22 rfl (by assumption)) rfl ?_
  refine Lw.take (dj := 22) rfl rfl ?_
  refine Lw.val (Ex.neq rfl rfl) rfl ?_
  refine Lw.val (Ex.pickF rfl rfl) rfl ?_
  refine Lw.nil ?_
  refine Pw.thenN (Cw.out ?_)
  refine Cw.condB rfl false ((by simp)) ?_
  refine Cw.skip ?_
  refine Pw.thenN (Cw.out ?_)
  refine Cw.seq ?_
  refine Cw.seq ?_
  refine Cw.region ?_
  refine Lw.val (Ex.assign rfl) rfl ?_
  refine Lw.nil ?_
  refine Pw.thenN (Cw.out ?_)
  refine Cw.block ?_
  refine Cw.loop (S := Nat) (fun i => [(0, .pointer (some ⟨L, 0, none⟩)), (1, v), (5, r), (7, .int .i64 (i : Int))]) (fun i w' => i ≤ ps.length ∧ ls.take i = nums2 (ps.take i) ∧ Below w.heap.size w w' ∧ Below w1.heap.size w1 w') (fun i => ps.length - i) (0) ⟨rfl, rfl, rfl, rfl, trivial⟩ ?_ ?_
  · exact ⟨Nat.zero_le _, rfl, hn, Below.refl _ _⟩
  rintro i w2 ⟨hi, hpre, hB2, hB12⟩
  have s_r2 := s_r.bs hB12
  have hl2 := hl1.bs hB12
  have s_v2 := hl2.sl
  have hat2 := fun q hq => (hat q hq).bs hB12
  refine Cw.seq ?_
  refine Cw.seq ?_
  refine Cw.region ?_
  refine Lw.val (Ex.move rfl) rfl ?_
  refine Lw.val (Ex.move rfl) rfl ?_
  refine Lw.val (Ex.lenS st_66 rfl (by assumption)) rfl ?_
  refine Lw.val (Ex.lss rfl rfl) rfl ?_
  refine Lw.nil ?_
  refine Pw.thenN (Cw.out ?_)
  refine Cw.cond rfl ?_ ?_
  · intro g
    have hi' : i < ps.length := by have := of_decide_eq_true g; omega
    have hiq : i < qs.length := by omega
    obtain ⟨q, hq⟩ : ∃ q, q = qs[i] := ⟨_, rfl⟩
    obtain ⟨p, hp⟩ : ∃ p, p = ps[i] := ⟨_, rfl⟩
    have hqv : recV q = (BitVec.ofNat 32 i, [((ls.getD i []).length : Int)], ls.getD i []) := by
      rw [← grs i (by omega), ← hqs, hq, List.getD_eq_getElem?_getD, List.getElem?_map, List.getElem?_eq_getElem hiq]; rfl
    have q1 : q.1 = BitVec.ofNat 32 i := congrArg (·.1) hqv
    have q2 : q.2.s = [((ls.getD i []).length : Int)] := congrArg (·.2.1) hqv
    have q3 : q.2.l = ls.getD i [] := congrArg (·.2.2) hqv
    have cq : ∀ k, k < 3 → (flw recC qs)[i * 3 + k]? = (recC q)[k]? := fun k hk => by rw [flw_get (fun a _ => recC_len a) hiq hk, hq]
    have eg : (ps.getD i default).1 = p.1 := by rw [hp, List.getD_eq_getElem?_getD, List.getElem?_eq_getElem hi']; rfl
    have s_p := hl2.each p (by rw [hp]; exact List.getElem_mem hi')
    have aq := hat2 q (by rw [hq]; exact List.getElem_mem hiq)
    have et : nums2 (ps.take (i + 1)) = nums2 (ps.take i) ++ [p.2] := by unfold nums2; rw [List.take_succ_eq_append_getElem hi', List.map_append, hp]; rfl
    have el : ls.take (i + 1) = ls.take i ++ [ls.getD i []] := by rw [List.take_succ_eq_append_getElem (by omega), gls i (by omega)]
    have ad : ∃ ad c k, r = .slice (some ad) c k := by
      obtain ⟨_, ao, cap, e, c1, c2, c3, _⟩ := s_r2
      cases ao with
      | none => have := c3 rfl; omega
      | some ad => exact ⟨ad, _, _, e⟩
    refine Cw.skip ?_
    refine Pw.thenN (Cw.out ?_)
    refine Cw.seq ?_
    refine Cw.block ?_
    refine Cw.seq ?_
    refine Cw.any mixed (fun w3 hd _ => ?_)
    refine Aw.cls (fun w' => Below w2.heap.size w2 w') (fun hC => ?_) (hd)
    refine AwC.take (i := 0) (NoP.thn (NoP.blk (NoP.thn (NoP.thn (NoP.blk (NoP.thn NoP.ret)))))) rfl (by kernel_rfl) (by kernel_rfl) (by kernel_rfl) (fun w1 hc => Ex.move rfl) rfl ?_
    refine AwC.take (i := 1) (NoP.thn (NoP.blk (NoP.thn (NoP.thn (NoP.blk (NoP.thn NoP.ret)))))) rfl (by kernel_rfl) (by kernel_rfl) (by kernel_rfl) (fun w1 hc => Ex.move rfl) rfl ?_
    refine AwC.take (i := 2) (NoP.thn (NoP.blk (NoP.thn (NoP.thn (NoP.blk (NoP.thn NoP.ret)))))) rfl (by kernel_rfl) (by kernel_rfl) (by kernel_rfl) (fun w1 hc => Ex.idx st_66 rfl rfl (s_r2.bs hc) i rfl hiq) rfl ?_
    refine AwC.take (i := 3) (NoP.thn (NoP.blk (NoP.thn (NoP.thn (NoP.blk (NoP.thn NoP.ret)))))) rfl (by kernel_rfl) (by kernel_rfl) (by kernel_rfl) (fun w1 hc => Ex.fieldAddrE (q := 0) Try.underlying39 rfl (sz_32 _) rfl ad) rfl ?_
    refine AwC.take (i := 4) (NoP.thn (NoP.blk (NoP.thn (NoP.thn (NoP.blk (NoP.thn NoP.ret)))))) rfl (by kernel_rfl) (by kernel_rfl) (by kernel_rfl) (fun w1 hc => Ex.ld (ag_32 _) rfl (s_r2.bs hc) (show (flw recC qs)[i * 3 + 0]? = some (u32 q.1) from cq 0 (by decide))) rfl ?_
    refine AwC.take (i := 5) (NoP.thn (NoP.blk (NoP.thn (NoP.thn (NoP.blk (NoP.thn NoP.ret)))))) rfl (by kernel_rfl) (by kernel_rfl) (by kernel_rfl) (fun w1 hc => Ex.move rfl) rfl ?_
    refine AwC.take (i := 6) (NoP.thn (NoP.blk (NoP.thn (NoP.thn (NoP.blk (NoP.thn NoP.ret)))))) rfl (by kernel_rfl) (by kernel_rfl) (by kernel_rfl) (fun w1 hc => Ex.as (Ex.conv32 us_3 un_32 rfl) (congrArg u32 (show BitVec.ofInt 32 (i : Int) = q.1 by rw [q1]; exact ofInt_ofNat i))) rfl ?_
    refine AwC.take (i := 7) (NoP.thn (NoP.blk (NoP.thn (NoP.thn (NoP.blk (NoP.thn NoP.ret)))))) rfl (by kernel_rfl) (by kernel_rfl) (by kernel_rfl) (fun w1 hc => Ex.neq32 rfl rfl) rfl ?_
    refine AwC.take (i := 8) (NoP.thn (NoP.blk (NoP.thn (NoP.thn (NoP.blk (NoP.thn NoP.ret)))))) rfl (by kernel_rfl) (by kernel_rfl) (by kernel_rfl) (fun w1 hc => Ex.move rfl) rfl ?_
    refine AwC.know 43 (v' := .bool false) rfl (congrArg Value.bool (by simp)) ?_
    refine AwC.takeG (i := 9) (dj := 43) (NoP.thn (NoP.blk (NoP.thn (NoP.thn (NoP.blk (NoP.thn NoP.ret)))))) rfl rfl rfl (by kernel_rfl) (by kernel_rfl) (by kernel_rfl) (fun w1 hc => Ex.move rfl) rfl ?_
    refine AwC.takeG (i := 10) (dj := 43) (NoP.thn (NoP.blk (NoP.thn (NoP.thn (NoP.blk (NoP.thn NoP.ret)))))) rfl rfl rfl (by kernel_rfl) (by kernel_rfl) (by kernel_rfl) (fun w1 hc => Ex.move rfl) rfl ?_
    refine AwC.takeG (i := 11) (dj := 43) (NoP.thn (NoP.blk (NoP.thn (NoP.thn (NoP.blk (NoP.thn NoP.ret)))))) rfl rfl rfl (by kernel_rfl) (by kernel_rfl) (by kernel_rfl) (fun w1 hc => Ex.idx st_66 rfl rfl (s_r2.bs hc) i rfl hiq) rfl ?_
    refine AwC.takeG (i := 12) (dj := 43) (NoP.thn (NoP.blk (NoP.thn (NoP.thn (NoP.blk (NoP.thn NoP.ret)))))) rfl rfl rfl (by kernel_rfl) (by kernel_rfl) (by kernel_rfl) (fun w1 hc => Ex.fieldAddrE (q := 1) Try.underlying39 rfl (sz_36 _) rfl ad) rfl ?_
    refine AwC.takeG (i := 13) (dj := 43) (NoP.thn (NoP.blk (NoP.thn (NoP.thn (NoP.blk (NoP.thn NoP.ret)))))) rfl rfl rfl (by kernel_rfl) (by kernel_rfl) (by kernel_rfl) (fun w1 hc => Ex.ldE (cs := [q.2.x, q.2.y]) (ag_36 _) (sz_36 _) rfl (s_r2.bs hc) rfl (by decide) (twoC (cq 1 (by decide)) (cq 2 (by decide)))) rfl ?_
    refine AwC.takeG (i := 14) (dj := 43) (NoP.thn (NoP.blk (NoP.thn (NoP.thn (NoP.blk (NoP.thn NoP.ret)))))) rfl rfl rfl (by kernel_rfl) (by kernel_rfl) (by kernel_rfl) (fun w1 hc => Ex.move rfl) rfl ?_
    refine AwC.takeG (i := 15) (dj := 43) (NoP.thn (NoP.blk (NoP.thn (NoP.thn (NoP.blk (NoP.thn NoP.ret)))))) rfl rfl rfl (by kernel_rfl) (by kernel_rfl) (by kernel_rfl) (fun w1 hc => Ex.move rfl) rfl ?_
    refine AwC.takeG (i := 16) (dj := 43) (NoP.thn (NoP.blk (NoP.thn (NoP.thn (NoP.blk (NoP.thn NoP.ret)))))) rfl rfl rfl (by kernel_rfl) (by kernel_rfl) (by kernel_rfl) (fun w1 hc => Ex.idxT st_22 rfl rfl (s_v2.bs hc) i rfl hi') rfl ?_
    refine AwC.takeG (i := 17) (dj := 43) (NoP.thn (NoP.blk (NoP.thn (NoP.thn (NoP.blk (NoP.thn NoP.ret)))))) rfl rfl rfl (by kernel_rfl) (by kernel_rfl) (by kernel_rfl) (fun w1 hc => Ex.as (Ex.ldT (ag_34 _) rfl (s_v2.bs hc) hi') eg) rfl ?_
    refine AwC.only (by assumption) (i := 18) (by kernel_rfl) rfl ?_
    refine Lw.take (dj := 43) rfl rfl ?_
    refine Lw.callF rfl rfl (small_c p.1 p.2 w3 (s_p.bs hd)) ?_
    rintro _ w4 ⟨hn4, s, rfl, s_s, -⟩
    have hd4 : Below w2.heap.size w2 w4 := hd.trans (hn4.mono hd.size)
    refine AwC.back ?_
    refine AwC.only (by assumption) (i := 19) (by kernel_rfl) rfl ?_
    refine Lw.take (dj := 43) rfl rfl ?_
    refine Lw.callF rfl rfl (same_c q.2.x q.2.y s p.1 q.2.s [(p.2.length : Int)] q.2.l p.2 w4 (aq.1.bs hd4) (aq.2.bs hd4) s_s (s_p.bs hd4)) ?_
    rintro _ w5 ⟨rfl, hn5⟩
    have hd5 : Below w2.heap.size w2 w5 := hd4.trans (hn5.mono hd4.size)
    refine AwC.back ?_
    refine AwC.takeG (i := 20) (dj := 43) (NoP.thn (NoP.blk (NoP.thn (NoP.thn (NoP.blk (NoP.thn NoP.ret)))))) rfl rfl rfl (by kernel_rfl) (by kernel_rfl) (by kernel_rfl) (fun w1 hc => Ex.not rfl) rfl ?_
    refine AwC.take (i := 21) (NoP.thn (NoP.blk (NoP.thn (NoP.thn (NoP.blk (NoP.thn NoP.ret)))))) rfl (by kernel_rfl) (by kernel_rfl) (by kernel_rfl) (fun w1 hc => Ex.pickF rfl rfl) rfl ?_
    refine AwC.done (by assumption) (by kernel_rfl) ?_
    refine Pw.thenN (Cw.out ?_)
    rw [q2, q3]
    have hB5 : Below w.heap.size w w5 := hB2.trans (hd5.mono (below_size hB2))
    have hB15 : Below w1.heap.size w1 w5 := hB12.trans (hd5.mono (below_size hB12))
    have eqi : (decide ([((ls.getD i []).length : Int)] = [(p.2.length : Int)]) && decide (ls.getD i [] = p.2)) = decide (ls.getD i [] = p.2) := by
      by_cases e : ls.getD i [] = p.2
      · rw [e]; simp
      · rw [decide_eq_false e, Bool.and_false]
    refine Cw.cond rfl ?_ ?_
    · intro g2
      rw [eqi] at g2
      have hne : ¬ ls = nums2 ps := fun e => by
        have e2 : ls.getD i [] = p.2 := by
          rw [e, List.getD_eq_getElem?_getD, List.getElem?_map, List.getElem?_eq_getElem hi', ← hp]; rfl
        rw [decide_eq_true e2] at g2; cases g2
      refine Cw.seq ?_
      refine Cw.region ?_
      refine Lw.val (Ex.assign rfl) rfl ?_
      refine Lw.nil ?_
      refine Pw.thenN (Cw.out ?_)
      refine Cw.ret ?_
      refine Pw.blkR ?_
      refine Pw.thenR ?_
      refine Pw.thenR ?_
      refine Pw.blkR ?_
      refine Pw.thenR ?_
      refine Pw.ret1 rfl rfl ?_
      exact ⟨by rw [decide_eq_false hne], hB5⟩
    intro g2
    rw [eqi] at g2
    have e2 : ls.getD i [] = p.2 := by simpa using g2
    refine Cw.skip ?_
    refine Pw.blkN ?_
    refine Pw.thenN (Cw.out ?_)
    refine Cw.region ?_
    refine Lw.val (Ex.move rfl) rfl ?_
    refine Lw.val (Ex.addI rfl rfl (by omega)) rfl ?_
    refine Lw.val (Ex.assign rfl) rfl ?_
    refine Lw.nil ?_
    exact Pw.thenN (Pw.next (i + 1) ⟨rfl, rfl, rfl, rfl, trivial⟩ (⟨hi', by rw [el, et, hpre, e2], hB5, hB15⟩) (by omega))
  intro g
  have hi' : i = ps.length := by
    have := of_decide_eq_false g
    omega
  subst hi'
  have hE : ls = nums2 ps := by
    rw [List.take_length, ← hlen, List.take_length] at hpre
    exact hpre
  refine Cw.exit ?_
  refine Pw.thenE ?_
  refine Pw.thenE ?_
  refine Pw.blkHit ?_
  refine Pw.thenN (Cw.out ?_)
  refine Cw.seq ?_
  refine Cw.region ?_
  refine Lw.val (Ex.assign rfl) rfl ?_
  refine Lw.nil ?_
  refine Pw.thenN (Cw.out ?_)
  refine Cw.ret ?_
  refine Pw.ret1 rfl rfl ?_
  exact ⟨by rw [decide_eq_true hE], hB2⟩
end Go.Proofs.Ytiaojbbgjlpikaa
