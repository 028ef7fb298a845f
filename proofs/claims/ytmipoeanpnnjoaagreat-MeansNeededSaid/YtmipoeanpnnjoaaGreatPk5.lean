/- Texts of this proof, one behind the other: GraphNode, GraphShapes, MeansCode, MeansDeed, MeansTable, MeansDo, MeansAll, MeansPlain. -/
import Derived.Test.YtmipoeanpnnjoaaGreatPk4
import Derived.Test.YtmipoeanpnnjoaaGreatPk3

/-! Contract: the shape of a node, of those that it takes in. -/
namespace Go.Proofs.YtmipoeanpnnjoaaGreat
open Go Go.Dd Go.RowKit
set_option maxRecDepth 100000

/-- A kind's row. -/
def kdOf (k : BitVec 8) : Option (List Int) := (kdT.find? (fun p => decide (p.2.1 = (k.toNat : Int)))).map (·.2.2)
def kindF (k : BitVec 8) (i s : List Int) (n p : Int) : Bool := match kdOf k with
 | some [a, b, c, d, e, f] => kindB a b c d e f i s n p
 | _ => false
theorem kindB_iff {l m lo hi ar sh : Int} {i s : List Int} {n p : Int} : kindB l m lo hi ar sh i s n p = true ↔ (l ≤ (i.length : Int) ∧ (i.length : Int) ≤ m ∧ lo ≤ n ∧ n ≤ hi ∧ 0 ≤ p ∧ p ≤ ar) ∧ (if sh = 0 then decide (s.length = 0) else if sh = 1 then Shapes.ok s else gord s) = true := by
 unfold kindB
 rw [Bool.and_eq_true, Bool.not_eq_true', Bool.or_eq_false_iff, Bool.or_eq_false_iff, Bool.or_eq_false_iff, Bool.or_eq_false_iff, Bool.or_eq_false_iff]
 simp only [decide_eq_false_iff_not]
 constructor
 ·rintro ⟨⟨⟨⟨⟨⟨h1, h2⟩, h3⟩, h4⟩, h5⟩, h6⟩, h7⟩
  exact ⟨⟨by omega, by omega, by omega, by omega, by omega, by omega⟩, h7⟩
 ·rintro ⟨⟨h1, h2, h3, h4, h5, h6⟩, h7⟩
  exact ⟨⟨⟨⟨⟨⟨by omega, by omega⟩, by omega⟩, by omega⟩, by omega⟩, by omega⟩, h7⟩
def gshN (k : BitVec 8) (s : List Int) (n p : Int) (ins : List (List Int)) : List Int :=
 let a := ins.getD 0 []
 let b := ins.getD 1 []
 if k = 1#8 ∨ k = 2#8 then s else if k = 5#8 ∨ k = 6#8 then a else if k = 3#8 ∨ k = 4#8 then (if a = b then a else [])
 else if k = 10#8 then (if Shapes.size a = Shapes.size s then s else []) else if k = 7#8 then (if pshE a b = 0 then [a.getD 0 default, b.getD 1 default] else [])
 else if k = 8#8 then (if wshE a b n p = 0 then wshS a b n p else []) else if k = 9#8 then (if poolE a n = 0 then pshS a n else [])
 else if k = 11#8 then trnG a s else if k = 12#8 then jnG ins n.toNat else if k = 13#8 then woG a n else []
theorem told_c (v : Value) (ps : List (Value × List Int)) (j : Int) (w : World) (h : LI w v ps) (hj : 0 ≤ j ∧ j < (ps.length : Int)) :
  Fnc Tryz.prog 40 [.agg [v].toArray, .int .i64 j] w (fun r w' => r = (ps.getD j.toNat default).1 ∧ Below w.heap.size w w') := by
 have hB := Below.refl w.heap.size w
 have s_v := h.sl
 refine Fnc.enter (n := 10) Tryz.func40 (by kernel_rfl) rfl rfl rfl <| Cw.seq <| Cw.region <| Lw.boxV (cs := [v]) rfl rfl rfl ?_
 rintro A_t w eA_t b_t hn -
 replace hB := hB.bs hn
 replace s_v := s_v.bs hn
 clear hn
 refine Lw.val (Ex.assign rfl) rfl <| Lw.nil <| Pw.thenN <| Cw.out <| Cw.seq <| Cw.region <| Lw.val (Ex.fieldAddr (q := 0) Tryz.underlying74 rfl (sz_39 _) rfl) rfl <| Lw.val (Ex.ldB (ag_39 _) rfl (by assumption) rfl) rfl ?_
 refine Lw.val (Ex.move rfl) rfl <| Lw.val (Ex.idxT st_39 rfl rfl s_v j.toNat (show j = ((j.toNat : Nat) : Int) by omega) (show j.toNat < ps.length by omega)) rfl <| Lw.val (Ex.as (Ex.ldT (ag_26 _) rfl s_v (show j.toNat < ps.length by omega)) rfl) rfl <| Lw.val (Ex.assign rfl) rfl <| Lw.nil <| Pw.thenN <| Cw.out <| Cw.ret <| Pw.ret1 rfl rfl ?_
 exact ⟨rfl, hB⟩
theorem ok_len {s : List Int} (h : Shapes.ok s = true) : 1 ≤ s.length ∧ s.length ≤ 4 := ((Shapes.ok_iff s).1 h).1
theorem ok_bd {s : List Int} (h : Shapes.ok s = true) : ∀ x ∈ s, 1 ≤ x ∧ x ≤ 64 := ((Shapes.ok_iff s).1 h).2.1
theorem jnR_len {k : Nat} : ∀ (l : List (List Int)) (s s' : List Int), jnR k s l = some s' → s'.length = s.length
 | [], s, s', h => by cases h; rfl
 | x :: l, s, s', h => by
  unfold jnR at h
  cases e : jn1 k s x with
  | none => rw [e] at h; cases h
  | some t =>
   rw [e] at h
   have h1 := jnR_len l t s' h
   unfold jn1 at e
   split at e
   ·cases e; rw [h1, List.length_set]
   ·cases e
theorem jnG_len {l : List (List Int)} {k : Nat} (h : (l.headD []).length ≤ 4) : (jnG l k).length ≤ 4 := by
 unfold jnG
 cases e : jnR k (l.headD []) l.tail with
 | none => simp
 | some s =>
  have := jnR_len _ _ _ e
  simp only
  split
  ·omega
  ·simp
theorem cov_bd {l : List Int} (h : cov l = true) (h4 : l.length ≤ 4) : ∀ k ∈ l, 0 ≤ k ∧ k < (l.length : Int) := by
 rw [cov_iff] at h
 have m : ∀ j, j < l.length → (j : Int) ∈ l := fun j hj => by simpa using h j hj
 match l, h4 with
 | [], _ => intro k hk; cases hk
 | [a], _ =>
  have := m 0 (by simp)
  simp at this ⊢; omega
 | [a, b], _ =>
  have h0 := m 0 (by simp); have h1 := m 1 (by simp)
  simp at h0 h1 ⊢; omega
 | [a, b, c], _ =>
  have h0 := m 0 (by simp); have h1 := m 1 (by simp); have h2 := m 2 (by simp)
  simp at h0 h1 h2 ⊢; omega
 | [a, b, c, d], _ =>
  have h0 := m 0 (by simp); have h1 := m 1 (by simp); have h2 := m 2 (by simp); have h3 := m 3 (by simp)
  simp at h0 h1 h2 h3 ⊢; omega
 | a :: b :: c :: d :: e :: l, h4 => simp at h4
/-- What a node's kind asks of it. -/
theorem kindF_at {k : BitVec 8} {i s : List Int} {n p : Int} (h : kindF k i s n p = true) {a b c d e f : Int} (hk : kdOf k = some [a, b, c, d, e, f]) : (a ≤ (i.length : Int) ∧ (i.length : Int) ≤ b ∧ c ≤ n ∧ n ≤ d ∧ 0 ≤ p ∧ p ≤ e) ∧ (if f = 0 then decide (s.length = 0) else if f = 1 then Shapes.ok s else gord s) = true := by
 unfold kindF at h
 rw [hk] at h
 exact kindB_iff.1 h
theorem kd_1 : kdOf 1#8 = some [0, 0, 0, 0, 0, 1] := by decide
theorem kd_2 : kdOf 2#8 = some [0, 0, 0, 0, 0, 1] := by decide
theorem kd_3 : kdOf 3#8 = some [2, 2, 0, 0, 0, 0] := by decide
theorem kd_4 : kdOf 4#8 = some [2, 2, 0, 0, 0, 0] := by decide
theorem kd_5 : kdOf 5#8 = some [1, 1, 0, 0, 0, 0] := by decide
theorem kd_6 : kdOf 6#8 = some [1, 1, 0, 31, 0, 0] := by decide
theorem kd_7 : kdOf 7#8 = some [2, 2, 0, 0, 0, 0] := by decide
theorem kd_8 : kdOf 8#8 = some [2, 2, 1, 8, 8, 0] := by decide
theorem kd_9 : kdOf 9#8 = some [1, 1, 1, 64, 0, 0] := by decide
theorem kd_10 : kdOf 10#8 = some [1, 1, 0, 0, 0, 1] := by decide
theorem kd_11 : kdOf 11#8 = some [1, 1, 0, 0, 0, 2] := by decide
theorem kd_12 : kdOf 12#8 = some [1, 4, 0, 3, 0, 0] := by decide
theorem kd_13 : kdOf 13#8 = some [1, 1, 0, 3, 0, 0] := by decide
theorem kd_some : ∀ k : BitVec 8, (kdOf k).isSome = true → (k = 1#8 ∨ k = 2#8 ∨ k = 3#8 ∨ k = 4#8 ∨ k = 5#8 ∨ k = 6#8 ∨ k = 7#8 ∨ k = 8#8 ∨ k = 9#8 ∨ k = 10#8 ∨ k = 11#8 ∨ k = 12#8 ∨ k = 13#8) := by decide +kernel
theorem ito_x (n : Int) (h : 0 ≤ n) : (n.toNat : Int) = n := by omega
set_option maxHeartbeats 1000000 in
theorem gshape_c (x : N5) (v : Value) (ps : List (Value × List Int)) (w : World) (hx : N5.at w x) (h : LI w v ps) (hk : kindF x.k x.i x.s x.n x.p = true) (hi : ∀ j ∈ x.i, 0 ≤ j ∧ j < (ps.length : Int)) (hok : ∀ p ∈ ps, Shapes.ok p.2 = true) :
  Fnc Tryz.prog 39 [x.v, .func (.func 40) #[.agg [v].toArray] #[]] w (fun r w' => SlT (Value.int .i64) w' r (gshN x.k x.s x.n x.p (x.i.map fun j => (ps.getD j.toNat default).2)) ∧ Below w.heap.size w w' ∧ ∀ b, r.ownBlock = some b → w.heap.size ≤ b ∧ b < w'.heap.size) := by
 obtain ⟨G, hG⟩ : ∃ G, G = gshN x.k x.s x.n x.p (x.i.map fun j => (ps.getD j.toNat default).2) := ⟨_, rfl⟩
 rw [← hG]
 obtain ⟨W, hW⟩ : ∃ W, W = w := ⟨_, rfl⟩
 have hB := Below.refl W.heap.size W
 have h_i := hx.i
 have h_s := hx.s
 have hli := h_i.le
 obtain ⟨qs, hqs⟩ : ∃ qs, qs = x.i.map fun j => ps.getD j.toNat default := ⟨_, rfl⟩
 have hq2 : ints2 qs = x.i.map fun j => (ps.getD j.toNat default).2 := by rw [hqs]; simp [ints2]
 have lq : qs.length = x.i.length := by rw [hqs, List.length_map]
 have hqm : ∀ p ∈ qs, p ∈ ps := fun p hp => by
  rw [hqs] at hp
  obtain ⟨j, hj, rfl⟩ := List.mem_map.1 hp
  have := hi j hj
  rw [List.getD_eq_getElem?_getD, List.getElem?_eq_getElem (by omega)]
  exact List.getElem_mem _
 have li4 : x.i.length ≤ 4 := by
  unfold kindF at hk
  split at hk
  ·rename_i a b c d e f he
   have h1 := (kindB_iff.1 hk).1
   have h2 : ∀ p ∈ kdT, p.2.2.getD 1 0 ≤ 4 := by decide
   unfold kdOf at he
   cases hf : kdT.find? (fun p => decide (p.2.1 = (x.k.toNat : Int))) with
   | none => rw [hf] at he; cases he
   | some p =>
    rw [hf] at he
    have h3 := h2 p (List.mem_of_find?_eq_some hf)
    have h4 : p.2.2 = [a, b, c, d, e, f] := by simpa using he
    rw [h4] at h3
    simp at h3
    omega
  ·cases hk
 rw [← hW] at hx h h_i h_s
 rw [← hW]
 refine Fnc.enter (n := 124) Tryz.func39 (by kernel_rfl) rfl rfl rfl <| Cw.seq <| Cw.region <| Lw.boxV (cs := x.cells) rfl rfl rfl ?_
 rintro A_x w eA_x b_x hn -
 replace hB := hB.bs hn
 replace h_i := h_i.bs hn
 replace h_s := h_s.bs hn
 clear hn
 refine Lw.val (Ex.assign rfl) rfl <| Lw.nil <| Pw.thenN <| Cw.out <| Cw.seq <| Cw.region <| Lw.val (Ex.assign rfl) rfl <| Lw.nil <| Pw.thenN <| Cw.out <| Cw.seq <| Cw.seq <| Cw.region <| Lw.val (Ex.fieldAddr (q := 0) Tryz.underlying45 rfl (sz_26 _) rfl) rfl <| Lw.val (Ex.ldB (ag_26 _) rfl (by assumption) rfl) rfl ?_
 refine Lw.val (Ex.lenS st_26 rfl (by assumption)) rfl ?_
 refine Lw.val (Ex.move rfl) rfl <| Lw.nil <| Pw.thenN <| Cw.out <| Cw.block ?_
 have zx := blk_lt b_x
 have zW := below_size hB
 obtain ⟨B, hBd⟩ : ∃ B, B = w.heap.size := ⟨_, rfl⟩
 rw [← hBd] at zx zW
 refine Cw.loop (S := (Nat × Value)) (fun z => [(1, .func (.func 40) #[.agg [v].toArray] #[]), (2, .pointer (some ⟨A_x, 0, none⟩)), (4, .slice none 0 0), (5, z.2), (9, x.x), (10, .int .i64 (x.i.length : Int)), (11, .int .i64 (z.1 : Int))]) (fun z w' => z.1 ≤ x.i.length ∧ Below W.heap.size W w' ∧ Blk w' A_x 45 x.cells ∧ w'.ownsRow B 26 1 z.2 z.1 ((qs.take z.1).map (·.1)) ∧ B ≤ w'.heap.size) (fun z => x.i.length - z.1) ((0, .slice none 0 0)) ⟨rfl, rfl, rfl, rfl, rfl, rfl, rfl, trivial⟩ ?_ ?_
 ·exact ⟨Nat.zero_le _, hB, b_x, ⟨rfl, .inl ⟨rfl, rfl⟩⟩, by omega⟩
 rintro ⟨i, u⟩ w1 ⟨hi1, hB, b_x, o_u, hAx⟩
 dsimp only at hi1 hB b_x o_u ⊢
 have h1 := h.bs hB
 have h_i := hx.i.bs hB
 have h_s := hx.s.bs hB
 have zB := below_size hB
 refine Cw.seq <| Cw.region <| Lw.val (Ex.lss rfl rfl) rfl <| Lw.nil <| Pw.thenN <| Cw.out <| Cw.seq <| Cw.cond rfl ?_ ?_
 ·intro g
  have hi' : i < x.i.length := by have := of_decide_eq_true g; omega
  obtain ⟨j, hj⟩ : ∃ j, j = x.i.getD i default := ⟨_, rfl⟩
  have hjm : j ∈ x.i := by rw [hj]; exact getD_mem hi'
  obtain ⟨q, hq⟩ : ∃ q, q = ps.getD j.toNat default := ⟨_, rfl⟩
  have hqi : qs[i]'(by omega) = q := by
   have ej : x.i[i] = j := by rw [hj, List.getD_eq_getElem?_getD, List.getElem?_eq_getElem hi']; rfl
   simp only [hqs, List.getElem_map, ej]; exact hq.symm
  refine Cw.skip <| Pw.thenN <| Cw.out <| Cw.seq <| Cw.block <| Cw.seq <| Cw.region <| Lw.val (Ex.idxT st_26 rfl rfl (by assumption) _ rfl (by omega)) rfl ?_
  refine Lw.val (Ex.as (Ex.ldT (ag_3 _) rfl h_i hi') (congrArg (Value.int .i64) hj.symm)) rfl <| Lw.val (Ex.assign rfl) rfl <| Lw.nil <| Pw.thenN <| Cw.out <| Cw.region <| Lw.val (Ex.move rfl) rfl <| Lw.val (Ex.move rfl) rfl <| Lw.val (Ex.move rfl) rfl <| Lw.callV (p := [.agg [v].toArray]) (q := []) rfl rfl rfl (told_c v ps j w1 h1 (hi j hjm)) ?_
  rintro _ w2 ⟨rfl, hn⟩
  rw [← hq]
  have s_q : SlT (Value.int .i64) w2 q.1 q.2 := (h1.bs hn).each q (hqm q (hqi ▸ List.getElem_mem _))
  have o_u := own_bs o_u hn
  have b_x := b_x.bs hn
  have z2 := hn.size
  refine Lw.valW (Xw.lit (vs := [q.1]) st_39 it_26 rfl rfl rfl (by rw [List.all_cons, s_q.one']; rfl) rfl) rfl ?_
  rintro r w3 ⟨o_r, -, hn3, -⟩
  have o_u := own_bs o_u hn3
  have b_x := b_x.bs hn3
  have z3 := hn3.size
  refine Lw.valW (Xw.append2 (base := B) st_39 it_26 rfl (by decide) rfl rfl o_u (own_sl o_r) (by rw [List.all_cons, s_q.one']; rfl) (by omega) (by omega) (by omega)) rfl ?_
  rintro u' w4 ⟨o_u', hn4, hg4, -⟩
  have ub := own_block o_u
  have b_x := b_x.by hg4 (fun e => by have := ub _ e.symm; omega)
  have e1 : (qs.take i).map (·.1) ++ [q.1] = (qs.take (i + 1)).map (·.1) := by
   rw [List.take_succ_eq_append_getElem (by omega), List.map_append, hqi]; rfl
  rw [e1] at o_u'
  refine Lw.val (Ex.assign rfl) rfl <| Lw.nil <| Pw.blkN <| Pw.thenN <| Cw.out <| Cw.region <| Lw.val (Ex.addI rfl rfl (by omega)) rfl <| Lw.val (Ex.move rfl) rfl <| Lw.nil ?_
  exact Pw.thenN (Pw.next ((i + 1, u')) ⟨rfl, rfl, rfl, rfl, rfl, rfl, rfl, trivial⟩ (⟨hi', ((hB.trans (hn.mono zB)).trans (hn3.mono (by omega))).trans (hn4.mono zW), b_x, o_u', by have := hn4.size; omega⟩) (by simp only; omega))
 intro g
 have hi' : i = x.i.length := by have := of_decide_eq_false g; omega
 subst hi'
 rw [← lq, List.take_length] at o_u
 have hin : LI w1 u qs := ⟨own_slT o_u, fun p hp => h1.each p (hqm p hp)⟩
 have hq4 : ∀ p ∈ qs, p.2.length ≤ 4 ∧ ∀ y ∈ p.2, 0 ≤ y ∧ y ≤ 64 := fun p hp => ⟨(ok_len (hok p (hqm p hp))).2, fun y hy => by have := ok_bd (hok p (hqm p hp)) y hy; omega⟩
 have h0 : ∀ (hl : 0 < qs.length), ∃ q, qs.getD 0 default = q ∧ (ints2 qs).getD 0 [] = q.2 ∧ q ∈ qs := fun hl => ⟨qs[0], by rw [List.getD_eq_getElem?_getD, List.getElem?_eq_getElem hl]; rfl, by rw [List.getD_eq_getElem?_getD, List.getElem?_map, List.getElem?_eq_getElem hl]; rfl, List.getElem_mem hl⟩
 have h1q : ∀ (hl : 1 < qs.length), ∃ q, qs.getD 1 default = q ∧ (ints2 qs).getD 1 [] = q.2 ∧ q ∈ qs := fun hl => ⟨qs[1], by rw [List.getD_eq_getElem?_getD, List.getElem?_eq_getElem hl]; rfl, by rw [List.getD_eq_getElem?_getD, List.getElem?_map, List.getElem?_eq_getElem hl]; rfl, List.getElem_mem hl⟩
 have hql := hin.sl
 rw [← hq2] at hG
 refine Cw.exit <| Pw.thenE <| Pw.thenE <| Pw.blkHit <| Pw.thenN <| Cw.out <| Cw.seq <| Cw.seq <| Cw.region <| Lw.val (Ex.fieldAddr (q := 0) Tryz.underlying45 rfl (sz_43 _) rfl) rfl <| Lw.val (Ex.ldB (ag_43 _) rfl (by assumption) rfl) rfl ?_
 refine Lw.nil <| Pw.thenN <| Cw.out ?_
 refine Cw.midS (St := Value) (fun y => [(4, y)]) (fun y w' => Below W.heap.size W w' ∧ SlT (Value.int .i64) w' y G ∧ G.length ≤ 4) ?_ ?_
 ·refine Cw.block <| Cw.seq <| Cw.seq <| Cw.region <| Lw.val (Ex.eql8 rfl (show _ = some (b8 (1#8)) from rfl)) rfl <| Lw.val (Ex.assign rfl) rfl <| Lw.nil <| Pw.thenN <| Cw.out <| Cw.cond rfl ?_ ?_
  ·intro g
   have g : x.k = 1#8 := of_decide_eq_true g
   refine Cw.know 24 (v' := .bool true) rfl (congrArg Value.bool (decide_eq_true g)) <| Cw.skip <| Pw.thenN <| Cw.out <| Cw.condT rfl <| Cw.region <| Lw.val (Ex.fieldAddr (q := 0) Tryz.underlying45 rfl (sz_26 _) rfl) rfl <| Lw.val (Ex.ldB (ag_26 _) rfl (by assumption) rfl) rfl ?_
   refine Lw.val (Ex.assign rfl) rfl <| Lw.nil <| Pw.blkN ?_
   have k_s : Shapes.ok x.s = true := (kindF_at (by rw [g] at hk; exact hk) kd_1).2
   have eG : G = x.s := by rw [hG, g]; rfl
   exact Pw.midS (x.y) ⟨rfl, trivial⟩ (⟨hB, by rw [eG]; exact h_s, by rw [eG]; exact (ok_len k_s).2⟩)
  intro g1
  have g1 : ¬ x.k = 1#8 := of_decide_eq_false g1
  refine Cw.region <| Lw.val (Ex.eql8 rfl (show _ = some (b8 (2#8)) from rfl)) rfl <| Lw.val (Ex.assign rfl) rfl <| Lw.nil <| Pw.thenN <| Cw.out <| Cw.cond rfl ?_ ?_
  ·intro g
   have g : x.k = 2#8 := of_decide_eq_true g
   refine Cw.region <| Lw.val (Ex.fieldAddr (q := 0) Tryz.underlying45 rfl (sz_26 _) rfl) rfl <| Lw.val (Ex.ldB (ag_26 _) rfl (by assumption) rfl) rfl ?_
   refine Lw.val (Ex.assign rfl) rfl <| Lw.nil <| Pw.blkN ?_
   have k_s : Shapes.ok x.s = true := (kindF_at (by rw [g] at hk; exact hk) kd_2).2
   have eG : G = x.s := by rw [hG, g]; rfl
   exact Pw.midS (x.y) ⟨rfl, trivial⟩ (⟨hB, by rw [eG]; exact h_s, by rw [eG]; exact (ok_len k_s).2⟩)
  intro g2
  have g2 : ¬ x.k = 2#8 := of_decide_eq_false g2
  refine Cw.seq <| Cw.seq <| Cw.region <| Lw.val (Ex.eql8 rfl (show _ = some (b8 (5#8)) from rfl)) rfl <| Lw.val (Ex.assign rfl) rfl <| Lw.nil <| Pw.thenN <| Cw.out <| Cw.cond rfl ?_ ?_
  ·intro g
   have g : x.k = 5#8 := of_decide_eq_true g
   have l1 : 0 < qs.length := by have := (kindF_at (by rw [g] at hk; exact hk) kd_5).1; omega
   obtain ⟨a, ea, ga, ma⟩ := h0 l1
   have s_a := hin.each a ma
   have k_a := hok a (hqm a ma)
   have ea' : (qs.getD 0 default).1 = a.1 := by rw [ea]
   have eG : G = a.2 := by rw [hG, g]; exact ga
   refine Cw.know 29 (v' := .bool true) rfl (congrArg Value.bool (decide_eq_true g)) <| Cw.skip <| Pw.thenN <| Cw.out <| Cw.condT rfl <| Cw.region <| Lw.val (Ex.move rfl) rfl <| Lw.val (Ex.idxT st_39 rfl rfl hql 0 rfl l1) rfl <| Lw.val (Ex.as (Ex.ldT (ag_26 _) rfl hql l1) ea') rfl <| Lw.val (Ex.assign rfl) rfl <| Lw.nil <| Pw.blkN ?_
   exact Pw.midS (a.1) ⟨rfl, trivial⟩ (⟨hB, by rw [eG]; exact s_a, by rw [eG]; exact (ok_len k_a).2⟩)
  intro g5
  have g5 : ¬ x.k = 5#8 := of_decide_eq_false g5
  refine Cw.region <| Lw.val (Ex.eql8 rfl (show _ = some (b8 (6#8)) from rfl)) rfl <| Lw.val (Ex.assign rfl) rfl <| Lw.nil <| Pw.thenN <| Cw.out <| Cw.cond rfl ?_ ?_
  ·intro g
   have g : x.k = 6#8 := of_decide_eq_true g
   have l1 : 0 < qs.length := by have := (kindF_at (by rw [g] at hk; exact hk) kd_6).1; omega
   obtain ⟨a, ea, ga, ma⟩ := h0 l1
   have s_a := hin.each a ma
   have k_a := hok a (hqm a ma)
   have ea' : (qs.getD 0 default).1 = a.1 := by rw [ea]
   have eG : G = a.2 := by rw [hG, g]; exact ga
   refine Cw.region <| Lw.val (Ex.move rfl) rfl <| Lw.val (Ex.idxT st_39 rfl rfl hql 0 rfl l1) rfl <| Lw.val (Ex.as (Ex.ldT (ag_26 _) rfl hql l1) ea') rfl <| Lw.val (Ex.assign rfl) rfl <| Lw.nil <| Pw.blkN ?_
   exact Pw.midS (a.1) ⟨rfl, trivial⟩ (⟨hB, by rw [eG]; exact s_a, by rw [eG]; exact (ok_len k_a).2⟩)
  intro g6
  have g6 : ¬ x.k = 6#8 := of_decide_eq_false g6
  refine Cw.seq <| Cw.seq <| Cw.region <| Lw.val (Ex.eql8 rfl (show _ = some (b8 (3#8)) from rfl)) rfl <| Lw.val (Ex.assign rfl) rfl <| Lw.nil <| Pw.thenN <| Cw.out <| Cw.cond rfl ?_ ?_
  ·intro g
   have g : x.k = 3#8 := of_decide_eq_true g
   refine Cw.know 35 (v' := .bool true) rfl (congrArg Value.bool (decide_eq_true g)) <| Cw.skip <| Pw.thenN <| Cw.out <| Cw.condT rfl <| Cw.seq ?_
   have l1 : 0 < qs.length := by have := (kindF_at (by rw [g] at hk; exact hk) kd_3).1; omega
   obtain ⟨a, ea, ga, ma⟩ := h0 l1
   have s_a := hin.each a ma
   have k_a := hok a (hqm a ma)
   have ea' : (qs.getD 0 default).1 = a.1 := by rw [ea]
   have l2 : 1 < qs.length := by have := (kindF_at (by rw [g] at hk; exact hk) kd_3).1; omega
   obtain ⟨b, eb, gb, mb⟩ := h1q l2
   have s_b := hin.each b mb
   have k_b := hok b (hqm b mb)
   have eb' : (qs.getD 1 default).1 = b.1 := by rw [eb]
   have eG : G = if a.2 = b.2 then a.2 else [] := by rw [hG, g, ← ga, ← gb]; rfl
   refine Cw.any mixed (fun w2 hd _ => ?_)
   refine Aw.cls (fun w' => Below w1.heap.size w1 w') (fun hC => ?_) (hd)
   have hB2 := hB.trans (hd.mono (below_size hB))
   have h_s2 := h_s.bs hd
   have s_a2 := s_a.bs hd
   have s_b2 := s_b.bs hd
   refine AwC.take (i := 0) (NoP.thn (NoP.blk NoP.midS)) rfl (by kernel_rfl) (by kernel_rfl) (by kernel_rfl) (fun w1 hc => Ex.move rfl) rfl <| AwC.take (i := 1) (NoP.thn (NoP.blk NoP.midS)) rfl (by kernel_rfl) (by kernel_rfl) (by kernel_rfl) (fun w1 hc => Ex.idxT st_39 rfl rfl (hql.bs hc) 0 rfl l1) rfl <| AwC.take (i := 2) (NoP.thn (NoP.blk NoP.midS)) rfl (by kernel_rfl) (by kernel_rfl) (by kernel_rfl) (fun w1 hc => Ex.as (Ex.ldT (ag_26 _) rfl (hql.bs hc) l1) ea') rfl <| AwC.take (i := 3) (NoP.thn (NoP.blk NoP.midS)) rfl (by kernel_rfl) (by kernel_rfl) (by kernel_rfl) (fun w1 hc => Ex.move rfl) rfl <| AwC.take (i := 4) (NoP.thn (NoP.blk NoP.midS)) rfl (by kernel_rfl) (by kernel_rfl) (by kernel_rfl) (fun w1 hc => Ex.idxT st_39 rfl rfl (hql.bs hc) 1 rfl l2) rfl <| AwC.take (i := 5) (NoP.thn (NoP.blk NoP.midS)) rfl (by kernel_rfl) (by kernel_rfl) (by kernel_rfl) (fun w1 hc => Ex.as (Ex.ldT (ag_26 _) rfl (hql.bs hc) l2) eb') rfl <| AwC.only (by assumption) (i := 6) (by kernel_rfl) rfl ?_
   refine Lw.callF rfl rfl (equalInts_c a.1 b.1 a.2 b.2 w2 s_a2 s_b2) ?_
   rintro _ w3 ⟨rfl, hn3⟩
   have hd3 : Below w1.heap.size w1 w3 := hd.trans (hn3.mono hd.size)
   have hB3 := hB2.trans (hn3.mono (below_size hB2))
   have hql3 := (hql.bs hd).bs hn3
   refine AwC.back <| AwC.done (by assumption) (by kernel_rfl) ?_
   refine Pw.thenN <| Cw.out <| Cw.cond rfl ?_ ?_
   ·intro e
    have e : a.2 = b.2 := of_decide_eq_true e
    refine Cw.region <| Lw.val (Ex.move rfl) rfl <| Lw.val (Ex.idxT st_39 rfl rfl hql3 0 rfl l1) rfl <| Lw.val (Ex.as (Ex.ldT (ag_26 _) rfl hql3 l1) ea') rfl <| Lw.val (Ex.assign rfl) rfl <| Lw.nil <| Pw.blkN ?_
    exact Pw.midS (a.1) ⟨rfl, trivial⟩ (⟨hB3, by rw [eG, if_pos e]; exact s_a2.bs hn3, by rw [eG, if_pos e]; exact (ok_len k_a).2⟩)
   intro e
   have e : ¬ a.2 = b.2 := of_decide_eq_false e
   refine Cw.skip <| Pw.blkN ?_
   exact Pw.midS ((.slice none 0 0)) ⟨rfl, trivial⟩ (⟨hB3, by rw [eG, if_neg e]; exact Sl.nil _ _, by rw [eG, if_neg e]; exact Nat.zero_le _⟩)
  intro g3
  have g3 : ¬ x.k = 3#8 := of_decide_eq_false g3
  refine Cw.region <| Lw.val (Ex.eql8 rfl (show _ = some (b8 (4#8)) from rfl)) rfl <| Lw.val (Ex.assign rfl) rfl <| Lw.nil <| Pw.thenN <| Cw.out <| Cw.cond rfl ?_ ?_
  ·intro g
   have g : x.k = 4#8 := of_decide_eq_true g
   refine Cw.seq ?_
   have l1 : 0 < qs.length := by have := (kindF_at (by rw [g] at hk; exact hk) kd_4).1; omega
   obtain ⟨a, ea, ga, ma⟩ := h0 l1
   have s_a := hin.each a ma
   have k_a := hok a (hqm a ma)
   have ea' : (qs.getD 0 default).1 = a.1 := by rw [ea]
   have l2 : 1 < qs.length := by have := (kindF_at (by rw [g] at hk; exact hk) kd_4).1; omega
   obtain ⟨b, eb, gb, mb⟩ := h1q l2
   have s_b := hin.each b mb
   have k_b := hok b (hqm b mb)
   have eb' : (qs.getD 1 default).1 = b.1 := by rw [eb]
   have eG : G = if a.2 = b.2 then a.2 else [] := by rw [hG, g, ← ga, ← gb]; rfl
   refine Cw.any mixed (fun w2 hd _ => ?_)
   refine Aw.cls (fun w' => Below w1.heap.size w1 w') (fun hC => ?_) (hd)
   have hB2 := hB.trans (hd.mono (below_size hB))
   have h_s2 := h_s.bs hd
   have s_a2 := s_a.bs hd
   have s_b2 := s_b.bs hd
   refine AwC.take (i := 0) (NoP.thn (NoP.blk NoP.midS)) rfl (by kernel_rfl) (by kernel_rfl) (by kernel_rfl) (fun w1 hc => Ex.move rfl) rfl <| AwC.take (i := 1) (NoP.thn (NoP.blk NoP.midS)) rfl (by kernel_rfl) (by kernel_rfl) (by kernel_rfl) (fun w1 hc => Ex.idxT st_39 rfl rfl (hql.bs hc) 0 rfl l1) rfl <| AwC.take (i := 2) (NoP.thn (NoP.blk NoP.midS)) rfl (by kernel_rfl) (by kernel_rfl) (by kernel_rfl) (fun w1 hc => Ex.as (Ex.ldT (ag_26 _) rfl (hql.bs hc) l1) ea') rfl <| AwC.take (i := 3) (NoP.thn (NoP.blk NoP.midS)) rfl (by kernel_rfl) (by kernel_rfl) (by kernel_rfl) (fun w1 hc => Ex.move rfl) rfl <| AwC.take (i := 4) (NoP.thn (NoP.blk NoP.midS)) rfl (by kernel_rfl) (by kernel_rfl) (by kernel_rfl) (fun w1 hc => Ex.idxT st_39 rfl rfl (hql.bs hc) 1 rfl l2) rfl <| AwC.take (i := 5) (NoP.thn (NoP.blk NoP.midS)) rfl (by kernel_rfl) (by kernel_rfl) (by kernel_rfl) (fun w1 hc => Ex.as (Ex.ldT (ag_26 _) rfl (hql.bs hc) l2) eb') rfl <| AwC.only (by assumption) (i := 6) (by kernel_rfl) rfl ?_
   refine Lw.callF rfl rfl (equalInts_c a.1 b.1 a.2 b.2 w2 s_a2 s_b2) ?_
   rintro _ w3 ⟨rfl, hn3⟩
   have hd3 : Below w1.heap.size w1 w3 := hd.trans (hn3.mono hd.size)
   have hB3 := hB2.trans (hn3.mono (below_size hB2))
   have hql3 := (hql.bs hd).bs hn3
   refine AwC.back <| AwC.done (by assumption) (by kernel_rfl) ?_
   refine Pw.thenN <| Cw.out <| Cw.cond rfl ?_ ?_
   ·intro e
    have e : a.2 = b.2 := of_decide_eq_true e
    refine Cw.region <| Lw.val (Ex.move rfl) rfl <| Lw.val (Ex.idxT st_39 rfl rfl hql3 0 rfl l1) rfl <| Lw.val (Ex.as (Ex.ldT (ag_26 _) rfl hql3 l1) ea') rfl <| Lw.val (Ex.assign rfl) rfl <| Lw.nil <| Pw.blkN ?_
    exact Pw.midS (a.1) ⟨rfl, trivial⟩ (⟨hB3, by rw [eG, if_pos e]; exact s_a2.bs hn3, by rw [eG, if_pos e]; exact (ok_len k_a).2⟩)
   intro e
   have e : ¬ a.2 = b.2 := of_decide_eq_false e
   refine Cw.skip <| Pw.blkN ?_
   exact Pw.midS ((.slice none 0 0)) ⟨rfl, trivial⟩ (⟨hB3, by rw [eG, if_neg e]; exact Sl.nil _ _, by rw [eG, if_neg e]; exact Nat.zero_le _⟩)
  intro g4
  have g4 : ¬ x.k = 4#8 := of_decide_eq_false g4
  refine Cw.seq <| Cw.region <| Lw.val (Ex.eql8 rfl (show _ = some (b8 (10#8)) from rfl)) rfl <| Lw.val (Ex.assign rfl) rfl <| Lw.nil <| Pw.thenN <| Cw.out <| Cw.cond rfl ?_ ?_
  ·intro g
   have g : x.k = 10#8 := of_decide_eq_true g
   refine Cw.seq ?_
   have l1 : 0 < qs.length := by have := (kindF_at (by rw [g] at hk; exact hk) kd_10).1; omega
   obtain ⟨a, ea, ga, ma⟩ := h0 l1
   have s_a := hin.each a ma
   have k_a := hok a (hqm a ma)
   have ea' : (qs.getD 0 default).1 = a.1 := by rw [ea]
   have k_s : Shapes.ok x.s = true := (kindF_at (by rw [g] at hk; exact hk) kd_10).2
   have eG : G = if Shapes.size a.2 = Shapes.size x.s then x.s else [] := by rw [hG, g, ← ga]; rfl
   refine Cw.any mixed (fun w2 hd _ => ?_)
   refine Aw.cls (fun w' => Below w1.heap.size w1 w') (fun hC => ?_) (hd)
   have hB2 := hB.trans (hd.mono (below_size hB))
   have h_s2 := h_s.bs hd
   have s_a2 := s_a.bs hd
   refine AwC.take (i := 0) (NoP.thn (NoP.blk NoP.midS)) rfl (by kernel_rfl) (by kernel_rfl) (by kernel_rfl) (fun w1 hc => Ex.move rfl) rfl <| AwC.take (i := 1) (NoP.thn (NoP.blk NoP.midS)) rfl (by kernel_rfl) (by kernel_rfl) (by kernel_rfl) (fun w1 hc => Ex.idxT st_39 rfl rfl (hql.bs hc) 0 rfl l1) rfl <| AwC.take (i := 2) (NoP.thn (NoP.blk NoP.midS)) rfl (by kernel_rfl) (by kernel_rfl) (by kernel_rfl) (fun w1 hc => Ex.as (Ex.ldT (ag_26 _) rfl (hql.bs hc) l1) ea') rfl <| AwC.take (i := 4) (NoP.thn (NoP.blk NoP.midS)) rfl (by kernel_rfl) (by kernel_rfl) (by kernel_rfl) (fun w1 hc => Ex.fieldAddr (q := 0) Tryz.underlying45 rfl (sz_26 _) rfl) rfl <| AwC.take (i := 5) (NoP.thn (NoP.blk NoP.midS)) rfl (by kernel_rfl) (by kernel_rfl) (by kernel_rfl) (fun w1 hc => Ex.ldB (ag_26 _) rfl (Blk.bs (by assumption) hc) rfl) rfl ?_
   refine AwC.only (by assumption) (i := 3) (by kernel_rfl) rfl ?_
   refine Lw.callF rfl rfl (size_c a.1 a.2 w2 s_a2) ?_
   rintro _ w3 ⟨rfl, hn3⟩
   have hd3 : Below w1.heap.size w1 w3 := hd.trans (hn3.mono hd.size)
   refine AwC.back <| AwC.only (by assumption) (i := 6) (by kernel_rfl) rfl ?_
   refine Lw.callF rfl rfl (size_c x.y x.s w3 (h_s2.bs hn3)) ?_
   rintro _ w4 ⟨rfl, hn4⟩
   have hn34 := hn3.trans (hn4.mono hn3.size)
   have hB4 := hB2.trans (hn34.mono (below_size hB2))
   have hd4 : Below w1.heap.size w1 w4 := hd.trans (hn34.mono hd.size)
   have b_x := (b_x.bs hd).bs hn34
   refine AwC.back <| AwC.take (i := 7) (NoP.thn (NoP.blk NoP.midS)) rfl (by kernel_rfl) (by kernel_rfl) (by kernel_rfl) (fun w1 hc => Ex.eql rfl rfl) rfl <| AwC.done (by assumption) (by kernel_rfl) ?_
   refine Pw.thenN <| Cw.out <| Cw.cond rfl ?_ ?_
   ·intro e
    have e : Shapes.size a.2 = Shapes.size x.s := by have := of_decide_eq_true e; omega
    refine Cw.region <| Lw.val (Ex.fieldAddr (q := 0) Tryz.underlying45 rfl (sz_26 _) rfl) rfl <| Lw.val (Ex.ldB (ag_26 _) rfl (by assumption) rfl) rfl ?_
    refine Lw.val (Ex.assign rfl) rfl <| Lw.nil <| Pw.blkN ?_
    exact Pw.midS (x.y) ⟨rfl, trivial⟩ (⟨hB4, by rw [eG, if_pos e]; exact h_s2.bs hn34, by rw [eG, if_pos e]; exact (ok_len k_s).2⟩)
   intro e
   have e : ¬ Shapes.size a.2 = Shapes.size x.s := by have := of_decide_eq_false e; omega
   refine Cw.skip <| Pw.blkN ?_
   exact Pw.midS ((.slice none 0 0)) ⟨rfl, trivial⟩ (⟨hB4, by rw [eG, if_neg e]; exact Sl.nil _ _, by rw [eG, if_neg e]; exact Nat.zero_le _⟩)
  intro g10
  have g10 : ¬ x.k = 10#8 := of_decide_eq_false g10
  refine Cw.seq <| Cw.region <| Lw.val (Ex.eql8 rfl (show _ = some (b8 (7#8)) from rfl)) rfl <| Lw.val (Ex.assign rfl) rfl <| Lw.nil <| Pw.thenN <| Cw.out <| Cw.cond rfl ?_ ?_
  ·intro g
   have g : x.k = 7#8 := of_decide_eq_true g
   have eG : G = if pshE ((ints2 qs).getD 0 []) ((ints2 qs).getD 1 []) = 0 then [((ints2 qs).getD 0 []).getD 0 default, ((ints2 qs).getD 1 []).getD 1 default] else [] := by rw [hG, g]; rfl
   have l1 : 0 < qs.length := by have := (kindF_at (by rw [g] at hk; exact hk) kd_7).1; omega
   obtain ⟨a, ea, ga, ma⟩ := h0 l1
   have s_a := hin.each a ma
   have k_a := hok a (hqm a ma)
   have ea' : (qs.getD 0 default).1 = a.1 := by rw [ea]
   have l2 : 1 < qs.length := by have := (kindF_at (by rw [g] at hk; exact hk) kd_7).1; omega
   obtain ⟨b, eb, gb, mb⟩ := h1q l2
   have s_b := hin.each b mb
   have k_b := hok b (hqm b mb)
   have eb' : (qs.getD 1 default).1 = b.1 := by rw [eb]
   refine Cw.any mixed (fun w2 hd _ => ?_)
   refine Aw.cls (fun w' => Below w1.heap.size w1 w') (fun hC => ?_) (hd)
   have hB2 := hB.trans (hd.mono (below_size hB))
   have h_s2 := h_s.bs hd
   have s_a2 := s_a.bs hd
   have s_b2 := s_b.bs hd
   refine AwC.take (i := 0) (NoP.blk NoP.midS) rfl (by kernel_rfl) (by kernel_rfl) (by kernel_rfl) (fun w1 hc => Ex.move rfl) rfl <| AwC.take (i := 1) (NoP.blk NoP.midS) rfl (by kernel_rfl) (by kernel_rfl) (by kernel_rfl) (fun w1 hc => Ex.idxT st_39 rfl rfl (hql.bs hc) 0 rfl l1) rfl <| AwC.take (i := 2) (NoP.blk NoP.midS) rfl (by kernel_rfl) (by kernel_rfl) (by kernel_rfl) (fun w1 hc => Ex.as (Ex.ldT (ag_26 _) rfl (hql.bs hc) l1) ea') rfl <| AwC.take (i := 3) (NoP.blk NoP.midS) rfl (by kernel_rfl) (by kernel_rfl) (by kernel_rfl) (fun w1 hc => Ex.move rfl) rfl <| AwC.take (i := 4) (NoP.blk NoP.midS) rfl (by kernel_rfl) (by kernel_rfl) (by kernel_rfl) (fun w1 hc => Ex.idxT st_39 rfl rfl (hql.bs hc) 1 rfl l2) rfl <| AwC.take (i := 5) (NoP.blk NoP.midS) rfl (by kernel_rfl) (by kernel_rfl) (by kernel_rfl) (fun w1 hc => Ex.as (Ex.ldT (ag_26 _) rfl (hql.bs hc) l2) eb') rfl <| AwC.only (by assumption) (i := 6) (by kernel_rfl) rfl ?_
   rw [ga, gb] at eG
   refine Lw.callF rfl rfl (pshape_c a.1 b.1 a.2 b.2 w2 s_a2 s_b2) ?_
   rintro _ w3 ⟨hn3, y, rfl, hy0, hy1⟩
   have hd3 : Below w1.heap.size w1 w3 := hd.trans (hn3.mono hd.size)
   have hB3 := hB2.trans (hn3.mono (below_size hB2))
   have hy : SlT (Value.int .i64) w3 y G ∧ G.length ≤ 4 := by
    by_cases e : pshE a.2 b.2 = 0
    ·rw [eG, if_pos e]; exact ⟨own_slT (hy1 e), by simp⟩
    ·rw [eG, if_neg e, hy0 e]; exact ⟨Sl.nil _ _, by simp⟩
   refine AwC.back <| AwC.take (i := 7) (NoP.blk NoP.midS) rfl (by kernel_rfl) (by kernel_rfl) (by kernel_rfl) (fun w1 hc => Ex.move rfl) rfl <| AwC.take (i := 8) (NoP.blk NoP.midS) rfl (by kernel_rfl) (by kernel_rfl) (by kernel_rfl) (fun w1 hc => Ex.extract (i := 0) rfl rfl) rfl <| AwC.take (i := 9) (NoP.blk NoP.midS) rfl (by kernel_rfl) (by kernel_rfl) (by kernel_rfl) (fun w1 hc => Ex.extract (i := 1) rfl rfl) rfl <| AwC.take (i := 10) (NoP.blk NoP.midS) rfl (by kernel_rfl) (by kernel_rfl) (by kernel_rfl) (fun w1 hc => Ex.assign rfl) rfl <| AwC.done (by assumption) (by kernel_rfl) ?_
   refine Pw.blkN ?_
   exact Pw.midS (y) ⟨rfl, trivial⟩ (⟨hB3, hy.1, hy.2⟩)
  intro g7
  have g7 : ¬ x.k = 7#8 := of_decide_eq_false g7
  refine Cw.seq <| Cw.region <| Lw.val (Ex.eql8 rfl (show _ = some (b8 (8#8)) from rfl)) rfl <| Lw.val (Ex.assign rfl) rfl <| Lw.nil <| Pw.thenN <| Cw.out <| Cw.cond rfl ?_ ?_
  ·intro g
   have g : x.k = 8#8 := of_decide_eq_true g
   have eG : G = if wshE ((ints2 qs).getD 0 []) ((ints2 qs).getD 1 []) x.n x.p = 0 then wshS ((ints2 qs).getD 0 []) ((ints2 qs).getD 1 []) x.n x.p else [] := by rw [hG, g]; rfl
   have l1 : 0 < qs.length := by have := (kindF_at (by rw [g] at hk; exact hk) kd_8).1; omega
   obtain ⟨a, ea, ga, ma⟩ := h0 l1
   have s_a := hin.each a ma
   have k_a := hok a (hqm a ma)
   have ea' : (qs.getD 0 default).1 = a.1 := by rw [ea]
   have l2 : 1 < qs.length := by have := (kindF_at (by rw [g] at hk; exact hk) kd_8).1; omega
   obtain ⟨b, eb, gb, mb⟩ := h1q l2
   have s_b := hin.each b mb
   have k_b := hok b (hqm b mb)
   have eb' : (qs.getD 1 default).1 = b.1 := by rw [eb]
   refine Cw.any mixed (fun w2 hd _ => ?_)
   refine Aw.cls (fun w' => Below w1.heap.size w1 w') (fun hC => ?_) (hd)
   have hB2 := hB.trans (hd.mono (below_size hB))
   have h_s2 := h_s.bs hd
   have s_a2 := s_a.bs hd
   have s_b2 := s_b.bs hd
   refine AwC.take (i := 0) (NoP.blk NoP.midS) rfl (by kernel_rfl) (by kernel_rfl) (by kernel_rfl) (fun w1 hc => Ex.move rfl) rfl <| AwC.take (i := 1) (NoP.blk NoP.midS) rfl (by kernel_rfl) (by kernel_rfl) (by kernel_rfl) (fun w1 hc => Ex.idxT st_39 rfl rfl (hql.bs hc) 0 rfl l1) rfl <| AwC.take (i := 2) (NoP.blk NoP.midS) rfl (by kernel_rfl) (by kernel_rfl) (by kernel_rfl) (fun w1 hc => Ex.as (Ex.ldT (ag_26 _) rfl (hql.bs hc) l1) ea') rfl <| AwC.take (i := 3) (NoP.blk NoP.midS) rfl (by kernel_rfl) (by kernel_rfl) (by kernel_rfl) (fun w1 hc => Ex.move rfl) rfl <| AwC.take (i := 4) (NoP.blk NoP.midS) rfl (by kernel_rfl) (by kernel_rfl) (by kernel_rfl) (fun w1 hc => Ex.idxT st_39 rfl rfl (hql.bs hc) 1 rfl l2) rfl <| AwC.take (i := 5) (NoP.blk NoP.midS) rfl (by kernel_rfl) (by kernel_rfl) (by kernel_rfl) (fun w1 hc => Ex.as (Ex.ldT (ag_26 _) rfl (hql.bs hc) l2) eb') rfl <| AwC.take (i := 6) (NoP.blk NoP.midS) rfl (by kernel_rfl) (by kernel_rfl) (by kernel_rfl) (fun w1 hc => Ex.fieldAddr (q := 0) Tryz.underlying45 rfl (sz_3 _) rfl) rfl <| AwC.take (i := 7) (NoP.blk NoP.midS) rfl (by kernel_rfl) (by kernel_rfl) (by kernel_rfl) (fun w1 hc => Ex.ldB (ag_3 _) rfl (Blk.bs (by assumption) hc) rfl) rfl ?_
   refine AwC.take (i := 8) (NoP.blk NoP.midS) rfl (by kernel_rfl) (by kernel_rfl) (by kernel_rfl) (fun w1 hc => Ex.fieldAddr (q := 0) Tryz.underlying45 rfl (sz_3 _) rfl) rfl <| AwC.take (i := 9) (NoP.blk NoP.midS) rfl (by kernel_rfl) (by kernel_rfl) (by kernel_rfl) (fun w1 hc => Ex.ldB (ag_3 _) rfl (Blk.bs (by assumption) hc) rfl) rfl ?_
   refine AwC.only (by assumption) (i := 10) (by kernel_rfl) rfl ?_
   rw [ga, gb] at eG
   refine Lw.callF rfl rfl (wshape_c a.2 b.2 x.n x.p a.1 b.1 w2 s_a2 s_b2) ?_
   rintro _ w3 ⟨hn3, y, m, rfl, o_y, hy0, hy1⟩
   have hd3 : Below w1.heap.size w1 w3 := hd.trans (hn3.mono hd.size)
   have hB3 := hB2.trans (hn3.mono (below_size hB2))
   have hy : SlT (Value.int .i64) w3 y G ∧ G.length ≤ 4 := by
    by_cases e : wshE a.2 b.2 x.n x.p = 0
    ·rw [eG, if_pos e, ← hy1 e]; exact ⟨own_slT o_y, by rw [hy1 e]; simp [wshS]⟩
    ·rw [eG, if_neg e, (hy0 e).1]; exact ⟨Sl.nil _ _, by simp⟩
   refine AwC.back <| AwC.take (i := 11) (NoP.blk NoP.midS) rfl (by kernel_rfl) (by kernel_rfl) (by kernel_rfl) (fun w1 hc => Ex.move rfl) rfl <| AwC.take (i := 12) (NoP.blk NoP.midS) rfl (by kernel_rfl) (by kernel_rfl) (by kernel_rfl) (fun w1 hc => Ex.extract (i := 0) rfl rfl) rfl <| AwC.take (i := 13) (NoP.blk NoP.midS) rfl (by kernel_rfl) (by kernel_rfl) (by kernel_rfl) (fun w1 hc => Ex.extract (i := 1) rfl rfl) rfl <| AwC.take (i := 14) (NoP.blk NoP.midS) rfl (by kernel_rfl) (by kernel_rfl) (by kernel_rfl) (fun w1 hc => Ex.assign rfl) rfl <| AwC.done (by assumption) (by kernel_rfl) ?_
   refine Pw.blkN ?_
   exact Pw.midS (y) ⟨rfl, trivial⟩ (⟨hB3, hy.1, hy.2⟩)
  intro g8
  have g8 : ¬ x.k = 8#8 := of_decide_eq_false g8
  refine Cw.seq <| Cw.region <| Lw.val (Ex.eql8 rfl (show _ = some (b8 (9#8)) from rfl)) rfl <| Lw.val (Ex.assign rfl) rfl <| Lw.nil <| Pw.thenN <| Cw.out <| Cw.cond rfl ?_ ?_
  ·intro g
   have g : x.k = 9#8 := of_decide_eq_true g
   have eG : G = if poolE ((ints2 qs).getD 0 []) x.n = 0 then pshS ((ints2 qs).getD 0 []) x.n else [] := by rw [hG, g]; rfl
   have l1 : 0 < qs.length := by have := (kindF_at (by rw [g] at hk; exact hk) kd_9).1; omega
   obtain ⟨a, ea, ga, ma⟩ := h0 l1
   have s_a := hin.each a ma
   have k_a := hok a (hqm a ma)
   have ea' : (qs.getD 0 default).1 = a.1 := by rw [ea]
   refine Cw.any mixed (fun w2 hd _ => ?_)
   refine Aw.cls (fun w' => Below w1.heap.size w1 w') (fun hC => ?_) (hd)
   have hB2 := hB.trans (hd.mono (below_size hB))
   have h_s2 := h_s.bs hd
   have s_a2 := s_a.bs hd
   refine AwC.take (i := 0) (NoP.blk NoP.midS) rfl (by kernel_rfl) (by kernel_rfl) (by kernel_rfl) (fun w1 hc => Ex.move rfl) rfl <| AwC.take (i := 1) (NoP.blk NoP.midS) rfl (by kernel_rfl) (by kernel_rfl) (by kernel_rfl) (fun w1 hc => Ex.idxT st_39 rfl rfl (hql.bs hc) 0 rfl l1) rfl <| AwC.take (i := 2) (NoP.blk NoP.midS) rfl (by kernel_rfl) (by kernel_rfl) (by kernel_rfl) (fun w1 hc => Ex.as (Ex.ldT (ag_26 _) rfl (hql.bs hc) l1) ea') rfl <| AwC.take (i := 3) (NoP.blk NoP.midS) rfl (by kernel_rfl) (by kernel_rfl) (by kernel_rfl) (fun w1 hc => Ex.fieldAddr (q := 0) Tryz.underlying45 rfl (sz_3 _) rfl) rfl <| AwC.take (i := 4) (NoP.blk NoP.midS) rfl (by kernel_rfl) (by kernel_rfl) (by kernel_rfl) (fun w1 hc => Ex.ldB (ag_3 _) rfl (Blk.bs (by assumption) hc) rfl) rfl ?_
   refine AwC.only (by assumption) (i := 5) (by kernel_rfl) rfl ?_
   rw [ga] at eG
   refine Lw.callF rfl rfl (wpshape_c a.2 x.n a.1 w2 s_a2) ?_
   rintro _ w3 ⟨hn3, y, m, rfl, o_y, hy0, hy1⟩
   have hd3 : Below w1.heap.size w1 w3 := hd.trans (hn3.mono hd.size)
   have hB3 := hB2.trans (hn3.mono (below_size hB2))
   have hy : SlT (Value.int .i64) w3 y G ∧ G.length ≤ 4 := by
    by_cases e : poolE a.2 x.n = 0
    ·rw [eG, if_pos e, ← hy1 e]; exact ⟨own_slT o_y, by rw [hy1 e]; simp [pshS]⟩
    ·rw [eG, if_neg e, (hy0 e).1]; exact ⟨Sl.nil _ _, by simp⟩
   refine AwC.back <| AwC.take (i := 6) (NoP.blk NoP.midS) rfl (by kernel_rfl) (by kernel_rfl) (by kernel_rfl) (fun w1 hc => Ex.move rfl) rfl <| AwC.take (i := 7) (NoP.blk NoP.midS) rfl (by kernel_rfl) (by kernel_rfl) (by kernel_rfl) (fun w1 hc => Ex.extract (i := 0) rfl rfl) rfl <| AwC.take (i := 8) (NoP.blk NoP.midS) rfl (by kernel_rfl) (by kernel_rfl) (by kernel_rfl) (fun w1 hc => Ex.extract (i := 1) rfl rfl) rfl <| AwC.take (i := 9) (NoP.blk NoP.midS) rfl (by kernel_rfl) (by kernel_rfl) (by kernel_rfl) (fun w1 hc => Ex.assign rfl) rfl <| AwC.done (by assumption) (by kernel_rfl) ?_
   refine Pw.blkN ?_
   exact Pw.midS (y) ⟨rfl, trivial⟩ (⟨hB3, hy.1, hy.2⟩)
  intro g9
  have g9 : ¬ x.k = 9#8 := of_decide_eq_false g9
  refine Cw.seq <| Cw.region <| Lw.val (Ex.eql8 rfl (show _ = some (b8 (11#8)) from rfl)) rfl <| Lw.val (Ex.assign rfl) rfl <| Lw.nil <| Pw.thenN <| Cw.out <| Cw.cond rfl ?_ ?_
  ·intro g
   have g : x.k = 11#8 := of_decide_eq_true g
   have k_s : gord x.s = true := (kindF_at (by rw [g] at hk; exact hk) kd_11).2
   have k_c : cov x.s = true ∧ x.s.length ≤ 4 := by unfold gord at k_s; rw [Bool.and_eq_true] at k_s; exact ⟨k_s.1, of_decide_eq_true k_s.2⟩
   have eG : G = trnG ((ints2 qs).getD 0 []) x.s := by rw [hG, g]; rfl
   have l1 : 0 < qs.length := by have := (kindF_at (by rw [g] at hk; exact hk) kd_11).1; omega
   obtain ⟨a, ea, ga, ma⟩ := h0 l1
   have s_a := hin.each a ma
   have k_a := hok a (hqm a ma)
   have ea' : (qs.getD 0 default).1 = a.1 := by rw [ea]
   refine Cw.any mixed (fun w2 hd _ => ?_)
   refine Aw.cls (fun w' => Below w1.heap.size w1 w') (fun hC => ?_) (hd)
   have hB2 := hB.trans (hd.mono (below_size hB))
   have h_s2 := h_s.bs hd
   have s_a2 := s_a.bs hd
   refine AwC.take (i := 0) (NoP.blk NoP.midS) rfl (by kernel_rfl) (by kernel_rfl) (by kernel_rfl) (fun w1 hc => Ex.move rfl) rfl <| AwC.take (i := 1) (NoP.blk NoP.midS) rfl (by kernel_rfl) (by kernel_rfl) (by kernel_rfl) (fun w1 hc => Ex.idxT st_39 rfl rfl (hql.bs hc) 0 rfl l1) rfl <| AwC.take (i := 2) (NoP.blk NoP.midS) rfl (by kernel_rfl) (by kernel_rfl) (by kernel_rfl) (fun w1 hc => Ex.as (Ex.ldT (ag_26 _) rfl (hql.bs hc) l1) ea') rfl <| AwC.take (i := 3) (NoP.blk NoP.midS) rfl (by kernel_rfl) (by kernel_rfl) (by kernel_rfl) (fun w1 hc => Ex.fieldAddr (q := 0) Tryz.underlying45 rfl (sz_26 _) rfl) rfl <| AwC.take (i := 4) (NoP.blk NoP.midS) rfl (by kernel_rfl) (by kernel_rfl) (by kernel_rfl) (fun w1 hc => Ex.ldB (ag_26 _) rfl (Blk.bs (by assumption) hc) rfl) rfl ?_
   refine AwC.only (by assumption) (i := 5) (by kernel_rfl) rfl ?_
   rw [ga] at eG
   refine Lw.callF rfl rfl (gturned_c a.1 x.y a.2 x.s w2 s_a2 h_s2 (cov_bd k_c.1 k_c.2) (by omega)) ?_
   rintro y w3 ⟨s_y, hn3⟩
   have hd3 : Below w1.heap.size w1 w3 := hd.trans (hn3.mono hd.size)
   have hB3 := hB2.trans (hn3.mono (below_size hB2))
   have lG : G.length ≤ 4 := by rw [eG]; unfold trnG; split; rw [List.length_map]; exact k_c.2; simp
   refine AwC.back <| AwC.take (i := 6) (NoP.blk NoP.midS) rfl (by kernel_rfl) (by kernel_rfl) (by kernel_rfl) (fun w1 hc => Ex.assign rfl) rfl <| AwC.done (by assumption) (by kernel_rfl) ?_
   refine Pw.blkN ?_
   exact Pw.midS (y) ⟨rfl, trivial⟩ (⟨hB3, by rw [eG]; exact s_y, lG⟩)
  intro g11
  have g11 : ¬ x.k = 11#8 := of_decide_eq_false g11
  refine Cw.seq <| Cw.region <| Lw.val (Ex.eql8 rfl (show _ = some (b8 (12#8)) from rfl)) rfl <| Lw.val (Ex.assign rfl) rfl <| Lw.nil <| Pw.thenN <| Cw.out <| Cw.cond rfl ?_ ?_
  ·intro g
   have g : x.k = 12#8 := of_decide_eq_true g
   refine Cw.region <| Lw.val (Ex.move rfl) rfl <| Lw.val (Ex.fieldAddr (q := 0) Tryz.underlying45 rfl (sz_3 _) rfl) rfl <| Lw.val (Ex.ldB (ag_3 _) rfl (by assumption) rfl) rfl ?_
   have l1 : 0 < qs.length := by have := (kindF_at (by rw [g] at hk; exact hk) kd_12).1; omega
   have n0 : 0 ≤ x.n := by have := (kindF_at (by rw [g] at hk; exact hk) kd_12).1; omega
   have eG : G = jnG (ints2 qs) x.n.toNat := by rw [hG, g]; rfl
   have hj := gjoined_c u qs x.n.toNat w1 hin l1 (by omega) hq4
   rw [ito_x x.n n0] at hj
   have lG : G.length ≤ 4 := by
    rw [eG]
    obtain ⟨a, -, ga, ma⟩ := h0 l1
    refine jnG_len ?_
    have : (ints2 qs).headD [] = (ints2 qs).getD 0 [] := by cases ints2 qs <;> rfl
    rw [this, ga]; exact (hq4 a ma).1
   refine Lw.callF rfl rfl (hj) ?_
   rintro y w3 ⟨s_y, hn3⟩
   have hB3 := hB.trans (hn3.mono (below_size hB))
   refine Lw.val (Ex.assign rfl) rfl <| Lw.nil <| Pw.blkN ?_
   exact Pw.midS (y) ⟨rfl, trivial⟩ (⟨hB3, by rw [eG]; exact s_y, lG⟩)
  intro g12
  have g12 : ¬ x.k = 12#8 := of_decide_eq_false g12
  refine Cw.seq <| Cw.region <| Lw.val (Ex.eql8 rfl (show _ = some (b8 (13#8)) from rfl)) rfl <| Lw.val (Ex.assign rfl) rfl <| Lw.nil <| Pw.thenN <| Cw.out <| Cw.cond rfl ?_ ?_
  ·intro g
   have g : x.k = 13#8 := of_decide_eq_true g
   have n0 : 0 ≤ x.n := by have := (kindF_at (by rw [g] at hk; exact hk) kd_13).1; omega
   have eG : G = woG ((ints2 qs).getD 0 []) x.n := by rw [hG, g]; rfl
   have l1 : 0 < qs.length := by have := (kindF_at (by rw [g] at hk; exact hk) kd_13).1; omega
   obtain ⟨a, ea, ga, ma⟩ := h0 l1
   have s_a := hin.each a ma
   have k_a := hok a (hqm a ma)
   have ea' : (qs.getD 0 default).1 = a.1 := by rw [ea]
   refine Cw.any mixed (fun w2 hd _ => ?_)
   refine Aw.cls (fun w' => Below w1.heap.size w1 w') (fun hC => ?_) (hd)
   have hB2 := hB.trans (hd.mono (below_size hB))
   have h_s2 := h_s.bs hd
   have s_a2 := s_a.bs hd
   refine AwC.take (i := 0) (NoP.blk NoP.midS) rfl (by kernel_rfl) (by kernel_rfl) (by kernel_rfl) (fun w1 hc => Ex.move rfl) rfl <| AwC.take (i := 1) (NoP.blk NoP.midS) rfl (by kernel_rfl) (by kernel_rfl) (by kernel_rfl) (fun w1 hc => Ex.idxT st_39 rfl rfl (hql.bs hc) 0 rfl l1) rfl <| AwC.take (i := 2) (NoP.blk NoP.midS) rfl (by kernel_rfl) (by kernel_rfl) (by kernel_rfl) (fun w1 hc => Ex.as (Ex.ldT (ag_26 _) rfl (hql.bs hc) l1) ea') rfl <| AwC.take (i := 3) (NoP.blk NoP.midS) rfl (by kernel_rfl) (by kernel_rfl) (by kernel_rfl) (fun w1 hc => Ex.fieldAddr (q := 0) Tryz.underlying45 rfl (sz_3 _) rfl) rfl <| AwC.take (i := 4) (NoP.blk NoP.midS) rfl (by kernel_rfl) (by kernel_rfl) (by kernel_rfl) (fun w1 hc => Ex.ldB (ag_3 _) rfl (Blk.bs (by assumption) hc) rfl) rfl ?_
   refine AwC.only (by assumption) (i := 5) (by kernel_rfl) rfl ?_
   rw [ga] at eG
   refine Lw.callF rfl rfl (gwithout_c a.1 a.2 x.n w2 s_a2 n0 (by have := (ok_len k_a).2; omega)) ?_
   rintro y w3 ⟨s_y, hn3⟩
   have hd3 : Below w1.heap.size w1 w3 := hd.trans (hn3.mono hd.size)
   have hB3 := hB2.trans (hn3.mono (below_size hB2))
   have lG : G.length ≤ 4 := by
    have := (ok_len k_a).2
    rw [eG]; unfold woG
    split
    ·simp
    ·split
     ·simp
     ·rw [List.length_eraseIdx]; split <;> omega
   refine AwC.back <| AwC.take (i := 6) (NoP.blk NoP.midS) rfl (by kernel_rfl) (by kernel_rfl) (by kernel_rfl) (fun w1 hc => Ex.assign rfl) rfl <| AwC.done (by assumption) (by kernel_rfl) ?_
   refine Pw.blkN ?_
   exact Pw.midS (y) ⟨rfl, trivial⟩ (⟨hB3, by rw [eG]; exact s_y, lG⟩)
  intro g13
  have g13 : ¬ x.k = 13#8 := of_decide_eq_false g13
  exfalso
  have hs : (kdOf x.k).isSome = true := by
   cases e : kdOf x.k with
   | some _ => rfl
   | none => unfold kindF at hk; rw [e] at hk; cases hk
  rcases kd_some x.k hs with e | e | e | e | e | e | e | e | e | e | e | e | e
  ·exact g1 e
  ·exact g2 e
  ·exact g3 e
  ·exact g4 e
  ·exact g5 e
  ·exact g6 e
  ·exact g7 e
  ·exact g8 e
  ·exact g9 e
  ·exact g10 e
  ·exact g11 e
  ·exact g12 e
  ·exact g13 e
 rintro y w2 ⟨hB2, s_y, hG4⟩
 refine Cw.seq <| Cw.region <| Lw.val (Ex.move rfl) rfl <| Lw.callF rfl rfl (clone_c y G w2 s_y (by omega)) ?_
 rintro r w3 ⟨o_r, hn3⟩
 refine Lw.callF rfl rfl (clip_c r G w3 (own_slT o_r)) ?_
 rintro _ w4 ⟨rfl, hn4⟩
 refine Lw.val (Ex.assign rfl) rfl <| Lw.nil <| Pw.thenN <| Cw.out <| Cw.ret <| Pw.ret1 rfl rfl ?_
 have kr := (KRow.clip o_r).bs hn4
 have z2 := below_size hB2
 exact ⟨kr.slT, (hB2.trans (hn3.mono (below_size hB2))).trans (hn4.mono (by have := hn3.size; omega)), fun b e => by have := kr.lt b e; omega⟩
end Go.Proofs.YtmipoeanpnnjoaaGreat

/-! Contracts: the shapes of a graph; may it be; its weights. -/
namespace Go.Proofs.YtmipoeanpnnjoaaGreat
open Go Go.Dd Go.RowKit
set_option maxRecDepth 100000

instance : Inhabited N5 := ⟨⟨0#8, .slice none 0 0, .slice none 0 0, [], [], 0, 0⟩⟩
theorem N5.cells_len (a : N5) : a.cells.length = 5 := rfl
/-- Nodes, in memory. -/
structure GN (w : World) (v : Value) (ls : List N5) : Prop where
 sl : Sl w 5 v ls.length (flw N5.cells ls)
 each : ∀ a ∈ ls, N5.at w a
theorem GN.bs {w w' : World} {v : Value} {ls : List N5} (h : GN w v ls) (g : Below w.heap.size w w') : GN w' v ls := ⟨h.sl.bs g, fun a ha => (h.each a ha).bs g⟩
theorem GN.cells {w : World} {v : Value} {ls : List N5} (_h : GN w v ls) {i : Nat} (hi : i < ls.length) : ∀ k, k < 5 → ∃ q, (ls[i]).cells[k]? = some q ∧ (flw N5.cells ls)[i * 5 + k]? = some q := fun k hk => by
 rw [flw_get (fun a _ => N5.cells_len a) hi hk]
 exact ⟨_, List.getElem?_eq_getElem (by rw [N5.cells_len]; exact hk), List.getElem?_eq_getElem _⟩
def inB (m : Nat) (l : List Int) : Bool := l.any fun n => decide (n < 0) || decide ((m : Int) ≤ n)
def stp (acc : List (List Int)) (x : N5) : Option (List Int) :=
 if kindF x.k x.i x.s x.n x.p && !inB acc.length x.i && Shapes.ok (gshN x.k x.s x.n x.p (x.i.map fun j => acc.getD j.toNat [])) then some (gshN x.k x.s x.n x.p (x.i.map fun j => acc.getD j.toNat [])) else none
def gshR : List (List Int) → List N5 → Option (List (List Int))
 | acc, [] => some acc
 | acc, x :: l => match stp acc x with
  | some s => gshR (acc ++ [s]) l
  | none => none
def lastF (k : BitVec 8) : Bool := match kdOf k with
 | some r => decide (r.getD 1 0 ≠ 0)
 | none => false
def inputs (ls : List N5) : Nat := (ls.filter fun a => decide (a.k = 1#8)).length
def gsh (ls : List N5) : Option (List (List Int)) :=
 if ls.length < 1 ∨ 32 < ls.length then none else match gshR [] ls with
 | some ss => if inputs ls = 1 ∧ lastF (ls.getD (ls.length - 1) default).k = true then some ss else none
 | none => none
theorem sh1_c (n : Int) (A m : Nat) (w : World) (b_A : Blk w A 3 [.int .i64 (m : Int)]) : Fnc Tryz.prog 38 [.int .i64 n, .pointer (some ⟨A, 0, none⟩)] w (fun r w' => r = .bool (decide (n < 0) || decide ((m : Int) ≤ n)) ∧ w' = w) := by
 refine Fnc.enter (n := 11) Tryz.func38 (by kernel_rfl) rfl rfl rfl <| Cw.seq <| Cw.region <| Lw.val (Ex.assign rfl) rfl <| Lw.nil <| Pw.thenN <| Cw.out <| Cw.seq <| Cw.region <| Lw.val (Ex.move rfl) rfl <| Lw.val (Ex.lss rfl rfl) rfl <| Lw.val (Ex.move rfl) rfl ?_
 refine Lw.part 6 rfl ?_ ?_
 ·intro g
  refine Lw.pass (dj := 6) rfl rfl rfl rfl <| Lw.pass (dj := 6) rfl rfl rfl rfl <| Lw.pass (dj := 6) rfl rfl rfl rfl <| Lw.val (Ex.pickT rfl rfl) rfl <| Lw.val (Ex.assign rfl) rfl <| Lw.nil <| Pw.thenN <| Cw.out <| Cw.ret <| Pw.ret1 rfl rfl ?_
  rw [g]
  exact ⟨rfl, rfl⟩
 intro g
 refine Lw.take (dj := 6) rfl rfl <| Lw.val (Ex.move rfl) rfl <| Lw.take (dj := 6) rfl rfl <| Lw.val (Ex.ldB (ag_3 _) rfl (by assumption) rfl) rfl ?_
 refine Lw.take (dj := 6) rfl rfl <| Lw.val (Ex.geq rfl rfl) rfl <| Lw.val (Ex.pickF rfl rfl) rfl <| Lw.val (Ex.assign rfl) rfl <| Lw.nil <| Pw.thenN <| Cw.out <| Cw.ret <| Pw.ret1 rfl rfl ?_
 rw [g]
 exact ⟨rfl, rfl⟩
theorem gidx_c (v : Value) (l : List Int) (A m : Nat) (w : World) (hv : SlT (Value.int .i64) w v l) (b_A : Blk w A 3 [.int .i64 (m : Int)]) : Fnc Tryz.prog 64 [v, .func (.func 38) #[] [.pointer (some ⟨A, 0, none⟩)].toArray] w (fun r w' => (∃ j, r = .int .i64 j ∧ decide (0 ≤ j) = inB m l) ∧ w' = w) := by
 have hle := hv.le
 refine Fnc.enter (n := 19) Tryz.func64 (by kernel_rfl) rfl rfl rfl <| Cw.seq <| Cw.region <| Lw.val (Ex.assign rfl) rfl <| Lw.nil <| Pw.thenN <| Cw.out <| Cw.seq <| Cw.seq <| Cw.region <| Lw.val (Ex.move rfl) rfl <| Lw.val (Ex.lenS st_26 rfl (by assumption)) rfl ?_
 refine Lw.val (Ex.move rfl) rfl <| Lw.nil <| Pw.thenN <| Cw.out <| Cw.block ?_
 refine Cw.loop (S := Nat) (fun i => [(0, v), (1, .func (.func 38) #[] [.pointer (some ⟨A, 0, none⟩)].toArray), (7, .int .i64 (l.length : Int)), (8, .int .i64 (i : Int))]) (fun i w' => i ≤ l.length ∧ inB m (l.take i) = false ∧ w' = w) (fun i => l.length - i) (0) ⟨rfl, rfl, rfl, rfl, trivial⟩ ?_ ?_
 ·exact ⟨Nat.zero_le _, rfl, rfl⟩
 rintro i w1 ⟨hi, hc, rfl⟩
 refine Cw.seq <| Cw.region <| Lw.val (Ex.lss rfl rfl) rfl <| Lw.nil <| Pw.thenN <| Cw.out <| Cw.seq <| Cw.cond rfl ?_ ?_
 ·intro hlt
  have hi' : i < l.length := by have := of_decide_eq_true hlt; omega
  have e1 : inB m (l.take (i + 1)) = (inB m (l.take i) || (decide (l.getD i default < 0) || decide ((m : Int) ≤ l.getD i default))) := by
   unfold inB
   rw [List.take_succ_eq_append_getElem hi', List.any_append]
   simp [hi']
  refine Cw.skip <| Pw.thenN <| Cw.out <| Cw.seq <| Cw.block <| Cw.seq <| Cw.region <| Lw.val (Ex.move rfl) rfl <| Lw.val (Ex.assign rfl) rfl <| Lw.nil <| Pw.thenN <| Cw.out <| Cw.seq <| Cw.region <| Lw.val (Ex.move rfl) rfl <| Lw.val (Ex.move rfl) rfl <| Lw.val (Ex.move rfl) rfl <| Lw.val (Ex.idxT st_26 rfl rfl (by assumption) _ rfl (by omega)) rfl ?_
  refine Lw.val (Ex.ldT (ag_3 _) rfl (by assumption) (by omega)) rfl ?_
  refine Lw.callV (p := []) (q := [.pointer (some ⟨A, 0, none⟩)]) rfl rfl rfl (sh1_c (l.getD i default) A m w1 b_A) ?_
  rintro _ _ ⟨rfl, rfl⟩
  refine Lw.nil <| Pw.thenN <| Cw.out <| Cw.cond rfl ?_ ?_
  ·intro g
   refine Cw.seq <| Cw.region <| Lw.val (Ex.move rfl) rfl <| Lw.val (Ex.assign rfl) rfl <| Lw.nil <| Pw.thenN <| Cw.out <| Cw.ret <| Pw.blkR <| Pw.thenR <| Pw.thenR <| Pw.blkR <| Pw.thenR <| Pw.ret1 rfl rfl ?_
   refine ⟨⟨(i : Int), rfl, ?_⟩, rfl⟩
   have hm : l.getD i default ∈ l := getD_mem hi'
   have : inB m l = true := by unfold inB; exact List.any_eq_true.2 ⟨_, hm, g⟩
   rw [this, decide_eq_true (by omega)]
  intro g
  refine Cw.skip <| Pw.blkN <| Pw.thenN <| Cw.out <| Cw.region <| Lw.val (Ex.addI rfl rfl (by omega)) rfl <| Lw.val (Ex.move rfl) rfl <| Lw.nil ?_
  exact Pw.thenN (Pw.next (i + 1) ⟨rfl, rfl, rfl, rfl, trivial⟩ (⟨hi', by rw [e1, hc, g]; rfl, rfl⟩) (by omega))
 intro hge
 have hi' : i = l.length := by have := of_decide_eq_false hge; omega
 subst hi'
 rw [List.take_length] at hc
 refine Cw.exit <| Pw.thenE <| Pw.thenE <| Pw.blkHit <| Pw.thenN <| Cw.out <| Cw.seq <| Cw.region <| Lw.val (Ex.assign rfl) rfl <| Lw.nil <| Pw.thenN <| Cw.out <| Cw.ret <| Pw.ret1 rfl rfl ?_
 exact ⟨⟨-1, rfl, by rw [hc]; rfl⟩, rfl⟩
theorem ghas_c (v : Value) (l : List Int) (A m : Nat) (w : World) (hv : SlT (Value.int .i64) w v l) (b_A : Blk w A 3 [.int .i64 (m : Int)]) : Fnc Tryz.prog 37 [v, .func (.func 38) #[] [.pointer (some ⟨A, 0, none⟩)].toArray] w (fun r w' => r = .bool (inB m l) ∧ Below w.heap.size w w') := by
 refine Fnc.enter (n := 9) Tryz.func37 (by kernel_rfl) rfl rfl rfl <| Cw.seq <| Cw.region <| Lw.val (Ex.assign rfl) rfl <| Lw.nil <| Pw.thenN <| Cw.out <| Cw.seq <| Cw.region <| Lw.val (Ex.move rfl) rfl <| Lw.val (Ex.move rfl) rfl <| Lw.callF rfl rfl (gidx_c v l A m w hv b_A) ?_
 rintro _ _ ⟨⟨j, rfl, hj⟩, rfl⟩
 refine Lw.val (Ex.geq rfl rfl) rfl <| Lw.val (Ex.assign rfl) rfl <| Lw.nil <| Pw.thenN <| Cw.out <| Cw.ret <| Pw.ret1 rfl rfl ?_
 exact ⟨congrArg Value.bool hj, Below.refl _ _⟩
theorem clipL_c (u : Value) (ps : List (Value × List Int)) (w : World) (hu : SlT (fun p : Value × List Int => p.1) w u ps) : Fnc Tryz.prog 42 [u] w (fun r w' => r = clip u ∧ Below w.heap.size w w') := by
 refine Fnc.enter (n := 9) Tryz.func42 (by kernel_rfl) rfl rfl rfl <| Cw.seq <| Cw.region <| Lw.val (Ex.assign rfl) rfl <| Lw.nil <| Pw.thenN <| Cw.out <| Cw.seq <| Cw.region <| Lw.val (Ex.move rfl) rfl <| Lw.val (Ex.move rfl) rfl <| Lw.val (Ex.lenS st_39 rfl (by assumption)) rfl ?_
 refine Lw.val (Ex.move rfl) rfl <| Lw.val (Ex.lenS st_39 rfl (by assumption)) rfl ?_
 refine Lw.val (Ex.clip st_39 rfl rfl rfl hu.shp) rfl <| Lw.val (Ex.assign rfl) rfl <| Lw.nil <| Pw.thenN <| Cw.out <| Cw.ret <| Pw.ret1 rfl rfl ?_
 exact ⟨rfl, Below.refl _ _⟩
/-- What a row's lookup comes to. -/
theorem kd_look {k : BitVec 8} {r : List Int} (h : kdOf k = some r) : KD (b8 k) (kv r) ∧ (∀ v, KD (b8 k) v → v = kv r) ∧ r.length = 6 := by
 unfold kdOf at h
 cases hf : kdT.find? (fun p => decide (p.2.1 = (k.toNat : Int))) with
 | none => rw [hf] at h; cases h
 | some p =>
  rw [hf] at h
  obtain rfl : p.2.2 = r := by simpa using h
  have hm := List.mem_of_find?_eq_some hf
  have hk : p.2.1 = (k.toNat : Int) := by have := List.find?_some hf; simpa using this
  have hu : ∀ p ∈ kdT, ∀ q ∈ kdT, p.2.1 = q.2.1 → p = q := by decide
  have h6 : ∀ p ∈ kdT, p.2.2.length = 6 := by decide
  refine ⟨⟨p, hm, by rw [hk], rfl⟩, fun v ⟨q, hq, h1, h2⟩ => ?_, h6 p hm⟩
  have : (k.toNat : Int) = q.2.1 := by injection h1
  rw [h2, hu p hm q hq (hk.trans this)]
theorem kd_look_no {k : BitVec 8} (h : kdOf k = none) : ∀ v, ¬ KD (b8 k) v := fun v ⟨q, hq, h1, _⟩ => by
 unfold kdOf at h
 have hf : kdT.find? (fun p => decide (p.2.1 = (k.toNat : Int))) = none := by simpa using h
 have := List.find?_eq_none.1 hf q hq
 have e : (k.toNat : Int) = q.2.1 := by injection h1
 simp [e] at this
theorem six_of {l : List Int} (h : l.length = 6) : ∃ a b c d e f, l = [a, b, c, d, e, f] := by
 match l, h with
 | [a, b, c, d, e, f], _ => exact ⟨a, b, c, d, e, f, rfl⟩
theorem mapIn_by {w w' : World} {M : Nat} {d : TypeDesc} {S : Value → Value → Prop} {r : Option Nat} (h : MapIn w M d S) (g : w.grownBy w' r) (hne : some M ≠ r) : MapIn w' M d S := by
 have hl := h.lt
 obtain ⟨es, c, h, h2⟩ := h
 exact ⟨es, c, by rw [g.block M hl hne]; exact h, h2⟩
abbrev nodeT : TypeId := 45
abbrev kindT : TypeId := 76
/-- Off a list's own block. -/
def offL (B : Nat) (w : World) (u : Value) (ps : List (Value × List Int)) : Prop := ∀ p ∈ ps, SlT (Value.int .i64) w p.1 p.2 ∧ ∀ b, p.1.ownBlock = some b → (B ≤ b ∧ b < w.heap.size) ∧ u.ownBlock ≠ some b
theorem offL.bs {B : Nat} {w w' : World} {u : Value} {ps : List (Value × List Int)} (h : offL B w u ps) (g : Below w.heap.size w w') : offL B w' u ps := fun p hp => ⟨(h p hp).1.bs g, fun b e => ⟨⟨((h p hp).2 b e).1.1, Nat.lt_of_lt_of_le ((h p hp).2 b e).1.2 g.size⟩, ((h p hp).2 b e).2⟩⟩
theorem offL.by {B A : Nat} {w w' : World} {u : Value} {ps : List (Value × List Int)} (h : offL B w u ps) (g : w.grownBy w' (some A)) (hA : A < B) : offL B w' u ps := fun p hp =>
 ⟨(h p hp).1.keep (fun b hb e => g.block b hb (fun e2 => by have := ((h p hp).2 b e).1.1; cases e2; omega)), fun b e => ⟨⟨((h p hp).2 b e).1.1, Nat.lt_of_lt_of_le ((h p hp).2 b e).1.2 g.size⟩, ((h p hp).2 b e).2⟩⟩
theorem offL.grow {B : Nat} {w w' : World} {u u' : Value} {ps : List (Value × List Int)} (h : offL B w u ps) (g : w.grownBy w' u.ownBlock) (hc : u'.ownBlock = u.ownBlock ∨ u'.ownBlock = some w.heap.size) : offL B w' u' ps := fun p hp =>
 ⟨(h p hp).1.keep (fun b hb e => g.block b hb (fun e2 => ((h p hp).2 b e).2 e2.symm)), fun b e => ⟨⟨((h p hp).2 b e).1.1, Nat.lt_of_lt_of_le ((h p hp).2 b e).1.2 g.size⟩, fun e2 => by
  rcases hc with hc | hc
  ·exact ((h p hp).2 b e).2 (hc ▸ e2)
  ·rw [hc] at e2; have := ((h p hp).2 b e).1.2; cases e2; omega⟩⟩
theorem gshR_all : ∀ (ls : List N5) (acc ss : List (List Int)), gshR acc ls = some ss → ∀ x ∈ ls, kindF x.k x.i x.s x.n x.p = true
 | [], _, _, _, x, hx => by cases hx
 | y :: ls, acc, ss, h, x, hx => by
  unfold gshR at h
  cases e : stp acc y with
  | none => rw [e] at h; cases h
  | some s =>
   rw [e] at h
   rcases List.mem_cons.1 hx with rfl | hx
   ·unfold stp at e
    split at e
    ·rename_i hc
     simp only [Bool.and_eq_true] at hc
     exact hc.1.1
    ·cases e
   ·exact gshR_all ls _ _ h x hx
theorem kindF_row {k : BitVec 8} {i s : List Int} {n p : Int} (h : kindF k i s n p = true) : ∃ a b c d e f, kdOf k = some [a, b, c, d, e, f] := by
 unfold kindF at h
 split at h
 ·rename_i a b c d e f he; exact ⟨a, b, c, d, e, f, he⟩
 ·cases h
set_option maxHeartbeats 1000000 in
theorem gshapes_c (v : Value) (ls : List N5) (W : World) (h : GN W v ls) :
  Fnc Tryz.prog 12 [.agg [v].toArray] W (fun r w' => Below W.heap.size W w' ∧ match gsh ls with
   | none => r = .tuple #[.slice none 0 0, .int .i64 1]
   | some ss => ∃ u ps, r = .tuple #[u, .int .i64 0] ∧ LI w' u ps ∧ ints2 ps = ss) := by
 obtain ⟨R, hR⟩ : ∃ R, R = gsh ls := ⟨_, rfl⟩
 rw [← hR]
 have hB := Below.refl W.heap.size W
 have h_v := h.sl
 have hle := h.sl.le
 refine Fnc.enter (n := 92) Tryz.func12 (by kernel_rfl) rfl rfl rfl <| Cw.seq <| Cw.region <| Lw.boxV (cs := [v]) rfl rfl rfl ?_
 rintro A_g w eA_g b_g hn -
 replace hB := hB.bs hn
 replace h_v := h_v.bs hn
 clear hn
 refine Lw.val (Ex.assign rfl) rfl <| Lw.val (Ex.assign rfl) rfl <| Lw.nil <| Pw.thenN <| Cw.out <| Cw.seq <| Cw.region <| Lw.val (Ex.fieldAddr (q := 0) Tryz.underlying24 rfl (sz_22 _) rfl) rfl <| Lw.val (Ex.ldB (ag_22 _) rfl (by assumption) rfl) rfl ?_
 refine Lw.val (Ex.lenS st_22 rfl (by assumption)) rfl ?_
 refine Lw.val (Ex.assign rfl) rfl <| Lw.nil <| Pw.thenN <| Cw.out <| Cw.seq <| Cw.seq <| Cw.region <| Lw.val (Ex.move rfl) rfl <| Lw.val (Ex.lss rfl rfl) rfl <| Lw.val (Ex.move rfl) rfl ?_
 refine Lw.part 19 rfl ?_ ?_
 ·intro g
  have g := of_decide_eq_true g
  refine Lw.pass (dj := 19) rfl rfl rfl rfl <| Lw.pass (dj := 19) rfl rfl rfl rfl <| Lw.val (Ex.pickT rfl rfl) rfl <| Lw.nil <| Pw.thenN <| Cw.out <| Cw.condT rfl <| Cw.seq <| Cw.region <| Lw.val (Ex.assign rfl) rfl <| Lw.val (Ex.assign rfl) rfl <| Lw.nil <| Pw.thenN <| Cw.out <| Cw.ret <| Pw.thenR <| Pw.ret2 rfl rfl rfl ?_
  have hN : R = none := by rw [hR, gsh, if_pos (by omega)]
  rw [hN]
  exact ⟨hB, rfl⟩
 intro g1
 have g1 := of_decide_eq_false g1
 refine Lw.take (dj := 19) rfl rfl <| Lw.val (Ex.move rfl) rfl <| Lw.take (dj := 19) rfl rfl <| Lw.val (Ex.gtr rfl rfl) rfl <| Lw.val (Ex.pickF rfl rfl) rfl <| Lw.nil <| Pw.thenN <| Cw.out <| Cw.cond rfl ?_ ?_
 ·intro g
  have g := of_decide_eq_true g
  refine Cw.seq <| Cw.region <| Lw.val (Ex.assign rfl) rfl <| Lw.val (Ex.assign rfl) rfl <| Lw.nil <| Pw.thenN <| Cw.out <| Cw.ret <| Pw.thenR <| Pw.ret2 rfl rfl rfl ?_
  have hN : R = none := by rw [hR, gsh, if_pos (by omega)]
  rw [hN]
  exact ⟨hB, rfl⟩
 intro g2
 have g2 := of_decide_eq_false g2
 have hgs : gsh ls = match gshR [] ls with | some ss => if inputs ls = 1 ∧ lastF (ls.getD (ls.length - 1) default).k = true then some ss else none | none => none := by rw [gsh, if_neg (by omega)]
 have hRn : gshR [] ls = none → R = none := fun e => by rw [hR, hgs, e]
 have z1 := below_size hB
 have y_g := blk_lt b_g
 refine Cw.skip <| Pw.thenN <| Cw.out <| Cw.seq <| Cw.region <| Lw.callF rfl rfl (kinds_c w) ?_
 rintro _ w1 ⟨hn1, M, rfl, hMl, hM⟩
 have yM := hM.lt
 have b_g := b_g.bs hn1
 have hB := hB.trans (hn1.mono z1)
 have z2 := hn1.size
 refine Lw.val (Ex.build (vs := []) (cs := [.slice none 0 0]) rfl (by kernel_rfl)) rfl <| Lw.valW (Xw.new it_74) rfl ?_
 rintro _ w2 ⟨rfl, b_t, hn2, hz2⟩
 have b_g := b_g.bs hn2
 have hM := hM.bs hn2
 have hB := hB.trans (hn2.mono (by omega))
 obtain ⟨A_t, hAt⟩ : ∃ A_t, A_t = w1.heap.size := ⟨_, rfl⟩
 rw [← hAt] at b_t
 rw [← hAt]
 refine Lw.val (Ex.assign rfl) rfl <| Lw.unit (Xu.stA (cs := [.slice none 0 0]) (k := 1) (by kernel_rfl) rfl rfl rfl rfl b_t rfl) ?_
 rintro w3 ⟨b_t, hg3, hz3⟩
 have b_g := b_g.by hg3 (by rintro ⟨⟩; omega)
 have hM := mapIn_by hM hg3 (by rintro ⟨⟩; omega)
 have hB := hB.grown hg3 (by omega) (by rintro _ ⟨⟩; omega)
 obtain ⟨B, hBd⟩ : ∃ B, B = w3.heap.size := ⟨_, rfl⟩
 have yB : A_g < B ∧ M < B ∧ A_t < B ∧ W.heap.size ≤ B := by omega
 clear h_v
 have h_v := h.sl.bs hB
 refine Lw.val (Ex.assign rfl) rfl <| Lw.nil <| Pw.thenN <| Cw.out <| Cw.seq <| Cw.seq <| Cw.region <| Lw.val (Ex.fieldAddr (q := 0) Tryz.underlying24 rfl (sz_22 _) rfl) rfl <| Lw.val (Ex.ldB (ag_22 _) rfl (by assumption) rfl) rfl ?_
 refine Lw.val (Ex.lenS st_22 rfl (by assumption)) rfl ?_
 refine Lw.val (Ex.move rfl) rfl <| Lw.nil <| Pw.thenN <| Cw.out <| Cw.block ?_
 refine Cw.loop (S := (Nat × Nat × Value × List (Value × List Int))) (fun z => [(1, .pointer (some ⟨A_g, 0, none⟩)), (4, .int .i64 (ls.length : Int)), (5, .map (some M)), (6, .pointer (some ⟨A_t, 0, none⟩)), (7, .int .i64 (z.2.1 : Int)), (26, v), (27, .int .i64 (ls.length : Int)), (28, .int .i64 (z.1 : Int))]) (fun z w' => z.1 ≤ ls.length ∧ Below W.heap.size W w' ∧ B ≤ w'.heap.size ∧ MapIn w' M (.int .u8) KD ∧ Blk w' A_g 24 [v] ∧ Blk w' A_t 74 [z.2.2.1] ∧ w'.ownsRow B 26 1 z.2.2.1 z.1 (z.2.2.2.map (·.1)) ∧ offL B w' z.2.2.1 z.2.2.2 ∧ (∀ p ∈ z.2.2.2, Shapes.ok p.2 = true) ∧ gshR (ints2 z.2.2.2) (ls.drop z.1) = gshR [] ls ∧ z.2.1 = inputs (ls.take z.1) ∧ z.2.2.2.length = z.1 ∧ z.2.1 ≤ z.1) (fun z => ls.length - z.1) ((0, 0, .slice none 0 0, [])) ⟨rfl, rfl, rfl, rfl, rfl, rfl, rfl, rfl, trivial⟩ ?_ ?_
 ·exact ⟨Nat.zero_le _, hB, by omega, hM, b_g, b_t, ⟨rfl, .inl ⟨rfl, rfl⟩⟩, (fun p hp => by cases hp), (fun p hp => by cases hp), rfl, rfl, rfl, Nat.le_refl _⟩
 clear b_g b_t hM h_v
 rintro ⟨i, c, u, ps⟩ w4 ⟨hi, hB, zB, hM, b_g, b_t, o_u, hoff, hok, hrec, hc, lps, hci⟩
 dsimp only at hi hB zB hM b_g b_t o_u hoff hok hrec hc lps hci ⊢
 have h_v := h.sl.bs hB
 have z4 := below_size hB
 have ub := own_block o_u
 have lps2 : (ints2 ps).length = ps.length := List.length_map _
 refine Cw.seq <| Cw.region <| Lw.val (Ex.lss rfl rfl) rfl <| Lw.nil <| Pw.thenN <| Cw.out <| Cw.seq <| Cw.cond rfl ?_ ?_
 ·intro g
  have hi' : i < ls.length := by have := of_decide_eq_true g; omega
  obtain ⟨x, hxd⟩ : ∃ x, x = ls[i] := ⟨_, rfl⟩
  have hx := (h.each x (hxd ▸ List.getElem_mem hi')).bs hB
  have hcl := h.cells hi'
  rw [← hxd] at hcl
  have ed : ls.drop i = x :: ls.drop (i + 1) := by rw [List.drop_eq_getElem_cons hi', ← hxd]
  have hstep : gshR [] ls = match stp (ints2 ps) x with | some s => gshR (ints2 ps ++ [s]) (ls.drop (i + 1)) | none => none := by rw [← hrec, ed]; rfl
  have hno : stp (ints2 ps) x = none → R = none := fun e => hRn (by rw [hstep, e])
  refine Cw.skip <| Pw.thenN <| Cw.out <| Cw.seq <| Cw.block <| Cw.seq <| Cw.region <| Lw.val (Ex.move rfl) rfl <| Lw.val (Ex.idx st_22 rfl rfl h_v i rfl hi') rfl <| Lw.val (Ex.ldE (cs := x.cells) (ag_45 _) (sz_45 _) rfl h_v rfl (by decide) hcl) rfl <| Lw.valW (Xw.new it_3) rfl ?_
  rintro _ w5 ⟨rfl, b_i, hn5, hz5⟩
  refine Lw.valW (Xw.new it_45) rfl ?_
  rintro _ w6 ⟨rfl, b_x, hn6, hz6⟩
  have b_i := b_i.bs hn6
  obtain ⟨A_i, eAi⟩ : ∃ A_i, A_i = w4.heap.size := ⟨_, rfl⟩
  obtain ⟨A_x, eAx⟩ : ∃ A_x, A_x = w5.heap.size := ⟨_, rfl⟩
  rw [← eAi] at b_i
  rw [← eAx] at b_x
  rw [← eAi, ← eAx]
  refine Lw.unit (Xu.stB (u := .int .i64 (i : Int)) (sz_3 _) rfl rfl rfl b_i Nat.zero_lt_one) ?_
  rintro w7 ⟨b_i, hg7, hz7⟩
  have b_x := b_x.by hg7 (by rintro ⟨⟩; omega)
  refine Lw.unit (Xu.stA (cs := x.cells) (k := 5) (by kernel_rfl) rfl rfl rfl hx.ones b_x rfl) ?_
  rintro w8 ⟨b_x, hg8, hz8⟩
  have b_i := b_i.by hg8 (by rintro ⟨⟩; omega)
  have b_i : Blk w8 A_i 3 [.int .i64 (i : Int)] := b_i
  have hn48 : Below w4.heap.size w4 w8 := ((hn5.trans (hn6.mono (by omega))).grown hg7 (by omega) (by rintro _ ⟨⟩; omega)).grown hg8 (by omega) (by rintro _ ⟨⟩; omega)
  clear h_v
  have hB := hB.trans (hn48.mono z4)
  have hM := hM.bs hn48
  have b_g := b_g.bs hn48
  have b_t := b_t.bs hn48
  have o_u := own_bs o_u hn48
  have hoff := hoff.bs hn48
  have hx := hx.bs hn48
  have h_i := hx.i
  have z8 := hn48.size
  cases hkd : kdOf x.k with
  | none =>
   refine Lw.nil <| Pw.thenN <| Cw.out <| Cw.seq <| Cw.region <| Lw.val (Ex.move rfl) rfl <| Lw.val (Ex.fieldAddr (q := 0) Tryz.underlying45 rfl (sz_43 _) rfl) rfl <| Lw.val (Ex.ldB (ag_43 _) rfl (by assumption) rfl) rfl ?_
   refine Lw.val (Ex.look2n Tryz.underlying71 un_43 rfl rfl rfl hM (show Tryz.prog.info? kindT = some Tryz.t76 by kernel_rfl) rfl (kd_look_no hkd)) rfl <| Lw.val (Ex.move rfl) rfl <| Lw.val (Ex.extract (i := 0) rfl rfl) rfl <| Lw.val (Ex.extract (i := 1) rfl rfl) rfl <| Lw.valW (Xw.new it_76) rfl ?_
   rintro _ w9 ⟨rfl, b_k, hn9, hz9⟩
   refine Lw.unit (Xu.stA (cs := [0, 0, 0, 0, 0, 0].map (Value.int .i64)) (k := 6) (by kernel_rfl) rfl rfl rfl rfl b_k rfl) ?_
   rintro w10 ⟨b_k, hg10, hz10⟩
   have hB := (hB.trans (hn9.mono (by omega))).grown hg10 (by omega) (by rintro _ ⟨⟩; omega)
   refine Lw.val (Ex.assign rfl) rfl <| Lw.nil <| Pw.thenN <| Cw.out <| Cw.seq <| Cw.seq <| Cw.region <| Lw.val (Ex.move rfl) rfl <| Lw.val (Ex.not rfl) rfl <| Lw.val (Ex.move rfl) rfl <| Lw.know 42 (v' := .bool true) rfl (congrArg Value.bool (rfl)) <| Lw.pass (dj := 42) rfl rfl rfl rfl <| Lw.pass (dj := 42) rfl rfl rfl rfl <| Lw.pass (dj := 42) rfl rfl rfl rfl <| Lw.pass (dj := 42) rfl rfl rfl rfl <| Lw.val (Ex.pickT rfl rfl) rfl <| Lw.val (Ex.move rfl) rfl <| Lw.pass (dj := 48) rfl rfl rfl rfl <| Lw.pass (dj := 48) rfl rfl rfl rfl <| Lw.pass (dj := 48) rfl rfl rfl rfl <| Lw.pass (dj := 48) rfl rfl rfl rfl <| Lw.val (Ex.pickT rfl rfl) rfl <| Lw.nil <| Pw.thenN <| Cw.out <| Cw.condT rfl <| Cw.seq <| Cw.region <| Lw.val (Ex.assign rfl) rfl <| Lw.val (Ex.assign rfl) rfl <| Lw.nil <| Pw.thenN <| Cw.out <| Cw.ret <| Pw.thenR <| Pw.blkR <| Pw.thenR <| Pw.thenR <| Pw.blkR <| Pw.thenR <| Pw.ret2 rfl rfl rfl ?_
   have hN : R = none := hno (by unfold stp; rw [if_neg]; unfold kindF; rw [hkd]; simp)
   rw [hN]
   exact ⟨hB, rfl⟩
  | some row =>
   obtain ⟨k1, k2, k6⟩ := kd_look hkd
   obtain ⟨ra, rb, rc, rd, re, rf, rfl⟩ := six_of k6
   refine Lw.nil <| Pw.thenN <| Cw.out <| Cw.seq <| Cw.region <| Lw.val (Ex.move rfl) rfl <| Lw.val (Ex.fieldAddr (q := 0) Tryz.underlying45 rfl (sz_43 _) rfl) rfl <| Lw.val (Ex.ldB (ag_43 _) rfl (by assumption) rfl) rfl ?_
   refine Lw.val (Ex.look2 Tryz.underlying71 un_43 rfl rfl rfl hM ⟨_, _, (show Tryz.prog.info? kindT = some Tryz.t76 by kernel_rfl), rfl⟩ k1 k2) rfl <| Lw.val (Ex.move rfl) rfl <| Lw.val (Ex.extract (i := 0) rfl rfl) rfl <| Lw.val (Ex.extract (i := 1) rfl rfl) rfl <| Lw.valW (Xw.new it_76) rfl ?_
   rintro _ w9 ⟨rfl, b_k, hn9, hz9⟩
   refine Lw.unit (Xu.stA (cs := [ra, rb, rc, rd, re, rf].map (Value.int .i64)) (k := 6) (by kernel_rfl) rfl rfl rfl rfl b_k rfl) ?_
   rintro w10 ⟨b_k, hg10, hz10⟩
   have hn810 : Below w8.heap.size w8 w10 := hn9.grown hg10 hn9.size (by rintro _ ⟨⟩; omega)
   have hB := hB.trans (hn810.mono (by omega))
   have hM := hM.bs hn810
   have b_g := b_g.bs hn810
   have b_t := b_t.bs hn810
   have b_x := b_x.bs hn810
   have b_i := b_i.bs hn810
   have o_u := own_bs o_u hn810
   have hoff := hoff.bs hn810
   have hx := hx.bs hn810
   have h_i := hx.i
   have z10 := hn810.size
   refine Lw.val (Ex.assign rfl) rfl <| Lw.nil <| Pw.thenN <| Cw.out <| Cw.seq <| Cw.seq <| Cw.region <| Lw.val (Ex.move rfl) rfl <| Lw.val (Ex.not rfl) rfl <| Lw.val (Ex.move rfl) rfl <| Lw.know 42 (v' := .bool false) rfl (congrArg Value.bool (rfl)) <| Lw.take (dj := 42) rfl rfl <| Lw.val (Ex.ldA (k := 6) (ag_76 _) (sz_76 _) rfl rfl b_k) rfl <| Lw.take (dj := 42) rfl rfl <| Lw.val (Ex.ldA (k := 5) (ag_45 _) (sz_45 _) rfl rfl b_x) rfl <| Lw.take (dj := 42) rfl rfl <| Lw.callF rfl rfl (kindOf_c ra rb rc rd re rf x w10 hx) ?_
   rintro _ w11 ⟨rfl, hn11⟩
   have ekF : kindF x.k x.i x.s x.n x.p = kindB ra rb rc rd re rf x.i x.s x.n x.p := by unfold kindF; rw [hkd]
   have hB := hB.trans (hn11.mono (by omega))
   have hM := hM.bs hn11
   have b_g := b_g.bs hn11
   have b_t := b_t.bs hn11
   have b_x := b_x.bs hn11
   have b_i := b_i.bs hn11
   have o_u := own_bs o_u hn11
   have hoff := hoff.bs hn11
   have hx := hx.bs hn11
   have h_i := hx.i
   have z11 := hn11.size
   rw [← ekF]
   refine Lw.take (dj := 42) rfl rfl <| Lw.val (Ex.not rfl) rfl <| Lw.val (Ex.pickF rfl rfl) rfl <| Lw.val (Ex.move rfl) rfl ?_
   refine Lw.part 48 rfl ?_ ?_
   ·intro gk
    have gk : kindF x.k x.i x.s x.n x.p = false := by simpa using gk
    refine Lw.pass (dj := 48) rfl rfl rfl rfl <| Lw.pass (dj := 48) rfl rfl rfl rfl <| Lw.pass (dj := 48) rfl rfl rfl rfl <| Lw.pass (dj := 48) rfl rfl rfl rfl <| Lw.val (Ex.pickT rfl rfl) rfl <| Lw.nil <| Pw.thenN <| Cw.out <| Cw.condT rfl <| Cw.seq <| Cw.region <| Lw.val (Ex.assign rfl) rfl <| Lw.val (Ex.assign rfl) rfl <| Lw.nil <| Pw.thenN <| Cw.out <| Cw.ret <| Pw.thenR <| Pw.blkR <| Pw.thenR <| Pw.thenR <| Pw.blkR <| Pw.thenR <| Pw.ret2 rfl rfl rfl ?_
    have hN : R = none := hno (by unfold stp; rw [gk]; rfl)
    rw [hN]
    exact ⟨hB, rfl⟩
   intro gk
   have gk : kindF x.k x.i x.s x.n x.p = true := by simpa using gk
   refine Lw.take (dj := 48) rfl rfl <| Lw.val (Ex.fieldAddr (q := 0) Tryz.underlying45 rfl (sz_26 _) rfl) rfl <| Lw.take (dj := 48) rfl rfl <| Lw.val (Ex.ldB (ag_26 _) rfl (by assumption) rfl) rfl ?_
   refine Lw.take (dj := 48) rfl rfl <| Lw.val (Ex.mkFn (vs := []) (us := [.pointer (some ⟨A_i, 0, none⟩)]) rfl rfl) rfl <| Lw.take (dj := 48) rfl rfl <| Lw.callF rfl rfl (ghas_c x.x x.i A_i i w11 h_i b_i) ?_
   rintro _ w12 ⟨rfl, hn12⟩
   have hB := hB.trans (hn12.mono (by omega))
   have hM := hM.bs hn12
   have b_g := b_g.bs hn12
   have b_t := b_t.bs hn12
   have b_x := b_x.bs hn12
   have o_u := own_bs o_u hn12
   have hoff := hoff.bs hn12
   have hx := hx.bs hn12
   have z12 := hn12.size
   refine Lw.val (Ex.pickF rfl rfl) rfl <| Lw.nil <| Pw.thenN <| Cw.out <| Cw.cond rfl ?_ ?_
   ·intro gb
    refine Cw.seq <| Cw.region <| Lw.val (Ex.assign rfl) rfl <| Lw.val (Ex.assign rfl) rfl <| Lw.nil <| Pw.thenN <| Cw.out <| Cw.ret <| Pw.thenR <| Pw.blkR <| Pw.thenR <| Pw.thenR <| Pw.blkR <| Pw.thenR <| Pw.ret2 rfl rfl rfl ?_
    have hN : R = none := hno (by unfold stp; rw [lps2, lps, gb, Bool.not_true, Bool.and_false]; rfl)
    rw [hN]
    exact ⟨hB, rfl⟩
   intro gb
   have hji : ∀ j ∈ x.i, 0 ≤ j ∧ j < (ps.length : Int) := fun j hj => by
    unfold inB at gb
    have := List.any_eq_false.1 gb j hj
    simp at this
    omega
   have hps : LI w12 u ps := ⟨by have := own_slT o_u; exact this, fun p hp => (hoff p hp).1⟩
   refine Cw.skip <| Pw.thenN <| Cw.out <| Cw.seq <| Cw.seq <| Cw.region <| Lw.val (Ex.fieldAddr (q := 0) Tryz.underlying45 rfl (sz_43 _) rfl) rfl <| Lw.val (Ex.ldB (ag_43 _) rfl (by assumption) rfl) rfl ?_
   refine Lw.val (Ex.eql8 rfl (show _ = some (b8 (1#8)) from rfl)) rfl <| Lw.nil <| Pw.thenN <| Cw.out ?_
   refine Cw.midS (St := Nat) (fun c' => [(1, .pointer (some ⟨A_g, 0, none⟩)), (4, .int .i64 (ls.length : Int)), (5, .map (some M)), (6, .pointer (some ⟨A_t, 0, none⟩)), (7, .int .i64 (c' : Int)), (9, .pointer (some ⟨A_x, 0, none⟩)), (26, v), (27, .int .i64 (ls.length : Int)), (28, .int .i64 (i : Int))]) (fun c' w' => w' = w12 ∧ c' = c + (if x.k = 1#8 then 1 else 0)) ?_ ?_
   ·refine Cw.cond rfl ?_ ?_
    ·intro g1
     have g1 : x.k = 1#8 := of_decide_eq_true g1
     refine Cw.region <| Lw.val (Ex.move rfl) rfl <| Lw.val (Ex.addI rfl rfl (by omega)) rfl <| Lw.val (Ex.assign rfl) rfl <| Lw.nil ?_
     exact Pw.midS ((c + 1)) ⟨rfl, rfl, rfl, rfl, (congrArg (fun z => some (Value.int .i64 z)) (by omega)), rfl, rfl, rfl, rfl, trivial⟩ (⟨rfl, by rw [if_pos g1]⟩)
    intro g1
    have g1 : ¬ x.k = 1#8 := of_decide_eq_false g1
    refine Cw.skip ?_
    exact Pw.midS (c) ⟨rfl, rfl, rfl, rfl, rfl, rfl, rfl, rfl, rfl, trivial⟩ (⟨rfl, by rw [if_neg g1, Nat.add_zero]⟩)
   rintro c' w12 ⟨rfl, hc'⟩
   refine Cw.seq <| Cw.region <| Lw.val (Ex.ldA (ag_45 _) (sz_45 _) rfl rfl (by assumption)) rfl ?_
   refine Lw.val (Ex.ldA (ag_74 _) (sz_74 _) rfl rfl (by assumption)) rfl ?_
   refine Lw.val (Ex.mkFn (vs := [.agg [u].toArray]) (us := []) rfl rfl) rfl ?_
   have ub12 := own_block o_u
   refine Lw.callF rfl rfl (gshape_c x u ps w12 hx hps gk hji hok) ?_
   rintro y w13 ⟨s_y, hn13, y_own⟩
   obtain ⟨G, hGd⟩ : ∃ G, G = gshN x.k x.s x.n x.p (x.i.map fun j => (ints2 ps).getD j.toNat []) := ⟨_, rfl⟩
   have eG : gshN x.k x.s x.n x.p (x.i.map fun j => (ps.getD j.toNat default).2) = G := by
    rw [hGd]
    congr 1
    refine List.map_congr_left fun j hj => ?_
    have := hji j hj
    rw [List.getD_eq_getElem?_getD, List.getD_eq_getElem?_getD, List.getElem?_map, List.getElem?_eq_getElem (by omega)]; rfl
   rw [eG] at s_y
   have hB := hB.trans (hn13.mono (by omega))
   have hM := hM.bs hn13
   have b_g := b_g.bs hn13
   have b_t := b_t.bs hn13
   have o_u := own_bs o_u hn13
   have hoff := hoff.bs hn13
   have z13 := hn13.size
   refine Lw.val (Ex.assign rfl) rfl <| Lw.nil <| Pw.thenN <| Cw.out <| Cw.seq <| Cw.seq <| Cw.region <| Lw.val (Ex.move rfl) rfl <| Lw.callF rfl rfl (check_c y G w13 s_y) ?_
   rintro _ w14 ⟨rfl, hn14⟩
   have hB := hB.trans (hn14.mono (by omega))
   have hM := hM.bs hn14
   have b_g := b_g.bs hn14
   have b_t := b_t.bs hn14
   have o_u := own_bs o_u hn14
   have hoff := hoff.bs hn14
   have s_y := s_y.bs hn14
   have z14 := hn14.size
   refine Lw.val (Ex.not rfl) rfl <| Lw.nil <| Pw.thenN <| Cw.out <| Cw.cond rfl ?_ ?_
   ·intro go
    have go : Shapes.ok G = false := by simpa using go
    refine Cw.seq <| Cw.region <| Lw.val (Ex.assign rfl) rfl <| Lw.val (Ex.assign rfl) rfl <| Lw.nil <| Pw.thenN <| Cw.out <| Cw.ret <| Pw.thenR <| Pw.blkR <| Pw.thenR <| Pw.thenR <| Pw.blkR <| Pw.thenR <| Pw.ret2 rfl rfl rfl ?_
    have hN : R = none := hno (by unfold stp; rw [← hGd, go, Bool.and_false]; rfl)
    rw [hN]
    exact ⟨hB, rfl⟩
   intro go
   have go : Shapes.ok G = true := by simpa using go
   have e_st : stp (ints2 ps) x = some G := by
    unfold stp; rw [← hGd, go, gk, lps2, lps]
    have : inB i x.i = false := by simpa using gb
    rw [this]; rfl
   refine Cw.skip <| Pw.thenN <| Cw.out <| Cw.region <| Lw.val (Ex.fieldAddr (q := 0) Tryz.underlying74 rfl (sz_39 _) rfl) rfl <| Lw.val (Ex.ldB (ag_39 _) rfl (by assumption) rfl) rfl ?_
   refine Lw.val (Ex.move rfl) rfl <| Lw.valW (Xw.lit (vs := [y]) st_39 it_26 rfl rfl rfl (by rw [List.all_cons, s_y.one']; rfl) rfl) rfl ?_
   rintro q w15 ⟨o_q, -, hn15, -⟩
   have hB := hB.trans (hn15.mono (by omega))
   have hM := hM.bs hn15
   have b_g := b_g.bs hn15
   have b_t := b_t.bs hn15
   have o_u := own_bs o_u hn15
   have hoff := hoff.bs hn15
   have s_y := s_y.bs hn15
   have z15 := hn15.size
   have ub := own_block o_u
   refine Lw.valW (Xw.append2 (base := B) st_39 it_26 rfl (by decide) rfl rfl o_u (own_sl o_q) (by rw [List.all_cons, s_y.one']; rfl) (by omega) (by omega) (by omega)) rfl ?_
   rintro u' w16 ⟨o_u', hn16, hg16, hcs⟩
   have hM := mapIn_by hM hg16 (fun e => by have := ub _ e.symm; omega)
   have b_g := b_g.by hg16 (fun e => by have := ub _ e.symm; omega)
   have b_t := b_t.by hg16 (fun e => by have := ub _ e.symm; omega)
   have hoff2 : offL B w15 u (ps ++ [(y, G)]) := fun p hp => (List.mem_append.1 hp).elim (hoff p) (fun e => by
    rw [List.mem_singleton.1 e]
    refine ⟨s_y, fun b e => ?_⟩
    have h1 := y_own b e
    exact ⟨⟨by omega, by omega⟩, fun e2 => by have := ub12 b e2; omega⟩)
   have hoff := hoff2.grow hg16 hcs
   have z16 := hg16.size
   have ub' := own_block o_u'
   have e1 : ps.map (·.1) ++ [y] = (ps ++ [(y, G)]).map (·.1) := by rw [List.map_append]; rfl
   rw [e1] at o_u'
   refine Lw.val (Ex.fieldAddr (q := 0) Tryz.underlying74 rfl (sz_39 _) rfl) rfl <| Lw.unit (Xu.stB (u := u') (sz_39 _) rfl rfl (own_sl o_u').one' b_t Nat.zero_lt_one) ?_
   rintro w17 ⟨b_t, hg17, hz17⟩
   have hM := mapIn_by hM hg17 (fun e => by have := Option.some.inj e; omega)
   have b_g := b_g.by hg17 (fun e => by have := Option.some.inj e; omega)
   have hoff := hoff.by hg17 (by omega)
   have o_u' := own_heap o_u' (fun k e => hg17.block k (ub' k e).2 (fun e2 => by have := ub' k e; have := Option.some.inj e2; omega))
   have hBF := (hB.trans (hn16.mono (by omega))).grown hg17 (by have := hn16.size; omega) (by rintro _ e; have := Option.some.inj e; omega)
   have hok' : ∀ p ∈ ps ++ [(y, G)], Shapes.ok p.2 = true := fun p hp => (List.mem_append.1 hp).elim (hok p) (fun e => by rw [List.mem_singleton.1 e]; exact go)
   have hrec' : gshR (ints2 (ps ++ [(y, G)])) (ls.drop (i + 1)) = gshR [] ls := by
    rw [hstep, e_st]
    have : ints2 (ps ++ [(y, G)]) = ints2 ps ++ [G] := by unfold ints2; rw [List.map_append]; rfl
    rw [this]
   have hcc : c' = inputs (ls.take (i + 1)) := by
    rw [hc', hc, List.take_succ_eq_append_getElem hi', ← hxd]
    unfold inputs
    rw [List.filter_append, List.length_append]
    by_cases e : x.k = 1#8
    ·rw [if_pos e, List.filter_cons, decide_eq_true e]; rfl
    ·rw [if_neg e, List.filter_cons, decide_eq_false e]; rfl
   have hci' : c' ≤ i + 1 := by rw [hc']; split <;> omega
   refine Lw.nil <| Pw.blkN <| Pw.thenN <| Cw.out <| Cw.region <| Lw.val (Ex.addI rfl rfl (by omega)) rfl <| Lw.val (Ex.move rfl) rfl <| Lw.nil ?_
   exact Pw.thenN (Pw.next ((i + 1, c', u', ps ++ [(y, G)])) ⟨rfl, rfl, rfl, rfl, rfl, rfl, rfl, rfl, trivial⟩ (⟨hi', hBF, by have := hn16.size; omega, hM, b_g, b_t, o_u', hoff, hok', hrec', hcc, by rw [List.length_append, lps]; rfl, hci'⟩) (by simp only; omega))
 intro g
 have hi' : i = ls.length := by have := of_decide_eq_false g; omega
 subst hi'
 rw [List.drop_length] at hrec
 rw [List.take_length] at hc
 have hgr : gshR [] ls = some (ints2 ps) := by rw [← hrec]; rfl
 have hgf : R = if inputs ls = 1 ∧ lastF (ls.getD (ls.length - 1) default).k = true then some (ints2 ps) else none := by rw [hR, hgs, hgr]
 obtain ⟨x, hxd⟩ : ∃ x, x = ls.getD (ls.length - 1) default := ⟨_, rfl⟩
 rw [← hxd] at hgf
 have hl1 : ls.length - 1 < ls.length := by omega
 have hxm : x = ls[ls.length - 1] := by rw [hxd, List.getD_eq_getElem?_getD, List.getElem?_eq_getElem hl1]; rfl
 have hkx := gshR_all ls [] _ hgr x (hxm ▸ List.getElem_mem hl1)
 obtain ⟨ra, rb, rc, rd, re, rf, hkd⟩ := kindF_row hkx
 obtain ⟨k1, k2, -⟩ := kd_look hkd
 have hlast : lastF x.k = decide (rb ≠ 0) := by unfold lastF; rw [hkd]; rfl
 have ad : ∃ ad c k, v = .slice (some ad) c k := by
  obtain ⟨_, ao, cap, e, d1, d2, d3, _⟩ := h.sl
  cases ao with
  | none => have := d3 rfl; omega
  | some ad => exact ⟨ad, _, _, e⟩
 have ck : (flw N5.cells ls)[(ls.length - 1) * 5 + 0]? = some (b8 x.k) := by
  rw [flw_get (fun a _ => N5.cells_len a) hl1 (by decide), ← hxm]; rfl
 refine Cw.exit <| Pw.thenE <| Pw.thenE <| Pw.blkHit <| Pw.thenN <| Cw.out <| Cw.seq <| Cw.seq <| Cw.region <| Lw.val (Ex.move rfl) rfl <| Lw.val (Ex.fieldAddr (q := 0) Tryz.underlying24 rfl (sz_22 _) rfl) rfl <| Lw.val (Ex.ldB (ag_22 _) rfl (by assumption) rfl) rfl ?_
 refine Lw.val (Ex.move rfl) rfl <| Lw.val (Ex.as (Ex.subI rfl rfl (by omega)) (congrArg (Value.int .i64) (show (ls.length : Int) - 1 = ((ls.length - 1 : Nat) : Int) by omega))) rfl <| Lw.val (Ex.idx st_22 rfl rfl h_v (ls.length - 1) rfl hl1) rfl <| Lw.val (Ex.fieldAddrE (q := 0) Tryz.underlying45 rfl (sz_43 _) rfl ad) rfl <| Lw.val (Ex.ld (ag_43 _) rfl h_v ck) rfl <| Lw.val (Ex.look1 Tryz.underlying71 un_43 rfl rfl rfl hM ⟨_, _, (show Tryz.prog.info? kindT = some Tryz.t76 by kernel_rfl), rfl⟩ k1 k2) rfl <| Lw.valW (Xw.new it_76) rfl ?_
 rintro _ w5 ⟨rfl, b_k, hn5, hz5⟩
 have b_t := b_t.bs hn5
 refine Lw.unit (Xu.stA (cs := [ra, rb, rc, rd, re, rf].map (Value.int .i64)) (k := 6) (by kernel_rfl) rfl rfl rfl rfl b_k rfl) ?_
 rintro w6 ⟨b_k, hg6, hz6⟩
 have hn46 : Below w4.heap.size w4 w6 := hn5.grown hg6 hn5.size (by rintro _ ⟨⟩; omega)
 have b_t := b_t.by hg6 (by rintro ⟨⟩; omega)
 have hB := hB.trans (hn46.mono z4)
 have o_u := own_bs o_u hn46
 have hoff := hoff.bs hn46
 refine Lw.nil <| Pw.thenN <| Cw.out <| Cw.seq <| Cw.region <| Lw.val (Ex.move rfl) rfl <| Lw.val (Ex.neq rfl rfl) rfl <| Lw.val (Ex.move rfl) rfl ?_
 refine Lw.part 84 rfl ?_ ?_
 ·intro gc
  have gc : ¬ inputs ls = 1 := fun e => by rw [← hc] at e; subst e; simp at gc
  refine Lw.pass (dj := 84) rfl rfl rfl rfl <| Lw.pass (dj := 84) rfl rfl rfl rfl <| Lw.pass (dj := 84) rfl rfl rfl rfl <| Lw.val (Ex.pickT rfl rfl) rfl <| Lw.nil <| Pw.thenN <| Cw.out <| Cw.condT rfl <| Cw.seq <| Cw.region <| Lw.val (Ex.assign rfl) rfl <| Lw.val (Ex.assign rfl) rfl <| Lw.nil <| Pw.thenN <| Cw.out <| Cw.ret <| Pw.thenR <| Pw.ret2 rfl rfl rfl ?_
  rw [hgf, if_neg (fun h => gc h.1)]
  exact ⟨hB, rfl⟩
 intro gc
 have gc : inputs ls = 1 := by rw [← hc]; simp at gc; omega
 refine Lw.take (dj := 84) rfl rfl <| Lw.val (Ex.fieldAddr (q := 0) Tryz.underlying76 rfl (sz_3 _) rfl) rfl <| Lw.take (dj := 84) rfl rfl <| Lw.val (Ex.ldB (ag_3 _) rfl b_k rfl) rfl <| Lw.take (dj := 84) rfl rfl <| Lw.val (Ex.eql rfl rfl) rfl <| Lw.val (Ex.pickF rfl rfl) rfl <| Lw.nil <| Pw.thenN <| Cw.out <| Cw.cond rfl ?_ ?_
 ·intro gm
  have gm : rb = 0 := of_decide_eq_true gm
  refine Cw.seq <| Cw.region <| Lw.val (Ex.assign rfl) rfl <| Lw.val (Ex.assign rfl) rfl <| Lw.nil <| Pw.thenN <| Cw.out <| Cw.ret <| Pw.thenR <| Pw.ret2 rfl rfl rfl ?_
  rw [hgf, if_neg (fun h => by rw [hlast, gm] at h; simp at h)]
  exact ⟨hB, rfl⟩
 intro gm
 have gm : rb ≠ 0 := of_decide_eq_false gm
 refine Cw.skip <| Pw.thenN <| Cw.out <| Cw.seq <| Cw.region <| Lw.val (Ex.fieldAddr (q := 0) Tryz.underlying74 rfl (sz_39 _) rfl) rfl <| Lw.val (Ex.ldB (ag_39 _) rfl (by assumption) rfl) rfl ?_
 refine Lw.callF rfl rfl (clipL_c u ps w6 (own_slT o_u)) ?_
 rintro _ w7 ⟨rfl, hn7⟩
 refine Lw.val (Ex.assign rfl) rfl <| Lw.val (Ex.assign rfl) rfl <| Lw.nil <| Pw.thenN <| Cw.out <| Cw.ret <| Pw.ret2 rfl rfl rfl ?_
 rw [hgf, if_pos ⟨gc, by rw [hlast]; exact decide_eq_true gm⟩]
 exact ⟨hB.trans (hn7.mono (below_size hB)), _, ps, rfl, ⟨(Sl.clip (own_slT o_u)).bs hn7, fun p hp => (hoff p hp).1.bs hn7⟩, rfl⟩
theorem gcheck_c (v : Value) (ls : List N5) (W : World) (h : GN W v ls) :
  Fnc Tryz.prog 31 [.agg [v].toArray] W (fun r w' => Below W.heap.size W w' ∧ r = .bool (gsh ls).isSome) := by
 have hB := Below.refl W.heap.size W
 refine Fnc.enter (n := 12) Tryz.func31 (by kernel_rfl) rfl rfl rfl <| Cw.seq <| Cw.region <| Lw.boxV (cs := [v]) rfl rfl rfl ?_
 rintro A_g w eA_g b_g hn -
 replace hB := hB.bs hn
 clear hn
 refine Lw.val (Ex.assign rfl) rfl <| Lw.nil <| Pw.thenN <| Cw.out <| Cw.seq <| Cw.region <| Lw.val (Ex.ldA (ag_24 _) (sz_24 _) rfl rfl (by assumption)) rfl ?_
 refine Lw.callF rfl rfl (gshapes_c v ls w (h.bs hB)) ?_
 rintro r w1 ⟨hn1, hr⟩
 have hB := hB.trans (hn1.mono (below_size hB))
 cases e : gsh ls with
 | none =>
  rw [e] at hr
  obtain rfl := hr
  refine Lw.val (Ex.move rfl) rfl <| Lw.val (Ex.extract (i := 0) rfl rfl) rfl <| Lw.val (Ex.extract (i := 1) rfl rfl) rfl <| Lw.val (Ex.assign rfl) rfl <| Lw.val (Ex.assign rfl) rfl <| Lw.nil <| Pw.thenN <| Cw.out <| Cw.seq <| Cw.region <| Lw.val (Ex.move rfl) rfl <| Lw.val (Ex.eql rfl rfl) rfl <| Lw.val (Ex.assign rfl) rfl <| Lw.nil <| Pw.thenN <| Cw.out <| Cw.ret <| Pw.ret1 rfl rfl ?_
  exact ⟨hB, rfl⟩
 | some ss =>
  rw [e] at hr
  obtain ⟨u, ps, rfl, -, -⟩ := hr
  refine Lw.val (Ex.move rfl) rfl <| Lw.val (Ex.extract (i := 0) rfl rfl) rfl <| Lw.val (Ex.extract (i := 1) rfl rfl) rfl <| Lw.val (Ex.assign rfl) rfl <| Lw.val (Ex.assign rfl) rfl <| Lw.nil <| Pw.thenN <| Cw.out <| Cw.seq <| Cw.region <| Lw.val (Ex.move rfl) rfl <| Lw.val (Ex.eql rfl rfl) rfl <| Lw.val (Ex.assign rfl) rfl <| Lw.nil <| Pw.thenN <| Cw.out <| Cw.ret <| Pw.ret1 rfl rfl ?_
  exact ⟨hB, rfl⟩
/-- The weights' places. -/
def wtsG (ls : List N5) : List Int := ((List.range ls.length).filter fun i => decide ((ls.getD i default).k = 2#8)).map fun i : Nat => (i : Int)
theorem wtsG_succ (ls : List N5) (i : Nat) (hi : i < ls.length) : wtsG (ls.take (i + 1)) = wtsG (ls.take i) ++ (if (ls.getD i default).k = 2#8 then [(i : Int)] else []) := by
 have h1 : ∀ m, m ≤ ls.length → wtsG (ls.take m) = ((List.range m).filter fun i => decide ((ls.getD i default).k = 2#8)).map fun i : Nat => (i : Int) := fun m hm => by
  unfold wtsG
  rw [List.length_take, Nat.min_eq_left hm]
  congr 1
  refine List.filter_congr fun j hj => ?_
  have := List.mem_range.1 hj
  have : (ls.take m).getD j default = ls.getD j default := by rw [List.getD_eq_getElem?_getD, List.getElem?_take, if_pos this, ← List.getD_eq_getElem?_getD]
  rw [this]
 rw [h1 _ hi, h1 _ (Nat.le_of_lt hi), List.range_succ, List.filter_append, List.map_append]
 congr 1
 by_cases e : (ls.getD i default).k = 2#8
 ·rw [if_pos e, List.filter_cons, decide_eq_true e]; rfl
 ·rw [if_neg e, List.filter_cons, decide_eq_false e]; rfl
theorem gweights_c (v : Value) (ls : List N5) (W : World) (h : GN W v ls) (hm : ls.length ≤ 1000000) :
  Fnc Tryz.prog 19 [.agg [v].toArray] W (fun r w' => Below W.heap.size W w' ∧ SlT (Value.int .i64) w' r (wtsG ls)) := by
 have hB := Below.refl W.heap.size W
 have h_v := h.sl
 refine Fnc.enter (n := 23) Tryz.func19 (by kernel_rfl) rfl rfl rfl <| Cw.seq <| Cw.region <| Lw.boxV (cs := [v]) rfl rfl rfl ?_
 rintro A_g w eA_g b_g hn -
 replace hB := hB.bs hn
 replace h_v := h_v.bs hn
 clear hn
 refine Lw.val (Ex.assign rfl) rfl <| Lw.nil <| Pw.thenN <| Cw.out <| Cw.seq <| Cw.seq <| Cw.region <| Lw.val (Ex.fieldAddr (q := 0) Tryz.underlying24 rfl (sz_22 _) rfl) rfl <| Lw.val (Ex.ldB (ag_22 _) rfl (by assumption) rfl) rfl ?_
 refine Lw.val (Ex.lenS st_22 rfl (by assumption)) rfl ?_
 refine Lw.val (Ex.move rfl) rfl <| Lw.nil <| Pw.thenN <| Cw.out <| Cw.block ?_
 have z0 := below_size hB
 refine Cw.loop (S := (Nat × Value)) (fun z => [(2, z.2), (6, v), (7, .int .i64 (ls.length : Int)), (8, .int .i64 (z.1 : Int))]) (fun z w' => z.1 ≤ ls.length ∧ Below W.heap.size W w' ∧ w'.ownsRow W.heap.size 3 1 z.2 (wtsG (ls.take z.1)).length ((wtsG (ls.take z.1)).map (Value.int .i64))) (fun z => ls.length - z.1) ((0, .slice none 0 0)) ⟨rfl, rfl, rfl, rfl, trivial⟩ ?_ ?_
 ·exact ⟨Nat.zero_le _, hB, ⟨rfl, .inl ⟨rfl, rfl⟩⟩⟩
 clear b_g
 rintro ⟨i, u⟩ w1 ⟨hi, hB, o_u⟩
 dsimp only at hi hB o_u ⊢
 have h_v := h.sl.bs hB
 have z1 := below_size hB
 refine Cw.seq <| Cw.region <| Lw.val (Ex.lss rfl rfl) rfl <| Lw.nil <| Pw.thenN <| Cw.out <| Cw.seq <| Cw.cond rfl ?_ ?_
 ·intro g
  have hi' : i < ls.length := by have := of_decide_eq_true g; omega
  obtain ⟨x, hxd⟩ : ∃ x, x = ls[i] := ⟨_, rfl⟩
  have hxg : ls.getD i default = x := by rw [List.getD_eq_getElem?_getD, List.getElem?_eq_getElem hi', hxd]; rfl
  have hx := (h.each x (hxd ▸ List.getElem_mem hi')).bs hB
  have hcl := h.cells hi'
  rw [← hxd] at hcl
  have hws := wtsG_succ ls i hi'
  rw [hxg] at hws
  have lw : (wtsG (ls.take i)).length ≤ i := by
   unfold wtsG
   rw [List.length_map]
   refine Nat.le_trans (List.length_filter_le _ _) ?_
   rw [List.length_range, List.length_take]; omega
  refine Cw.skip <| Pw.thenN <| Cw.out <| Cw.seq <| Cw.block <| Cw.seq <| Cw.region <| Lw.val (Ex.move rfl) rfl <| Lw.val (Ex.idx st_22 rfl rfl h_v i rfl hi') rfl <| Lw.val (Ex.ldE (cs := x.cells) (ag_45 _) (sz_45 _) rfl h_v rfl (by decide) hcl) rfl <| Lw.valW (Xw.new it_45) rfl ?_
  rintro _ w2 ⟨rfl, b_x, hn2, hz2⟩
  refine Lw.val (Ex.assign rfl) rfl <| Lw.unit (Xu.stA (cs := x.cells) (k := 5) (by kernel_rfl) rfl rfl rfl hx.ones b_x rfl) ?_
  rintro w3 ⟨b_x, hg3, hz3⟩
  have hn13 : Below w1.heap.size w1 w3 := hn2.grown hg3 hn2.size (by rintro _ ⟨⟩; omega)
  have hB := hB.trans (hn13.mono z1)
  have o_u := own_bs o_u hn13
  have z3 := hn13.size
  refine Lw.nil <| Pw.thenN <| Cw.out <| Cw.seq <| Cw.region <| Lw.val (Ex.fieldAddr (q := 0) Tryz.underlying45 rfl (sz_43 _) rfl) rfl <| Lw.val (Ex.ldB (ag_43 _) rfl (by assumption) rfl) rfl ?_
  refine Lw.val (Ex.eql8 rfl (show _ = some (b8 (2#8)) from rfl)) rfl <| Lw.nil <| Pw.thenN <| Cw.out <| Cw.cond rfl ?_ ?_
  ·intro g2
   have g2 : x.k = 2#8 := of_decide_eq_true g2
   rw [if_pos g2] at hws
   refine Cw.region <| Lw.val (Ex.move rfl) rfl <| Lw.val (Ex.move rfl) rfl <| Lw.valW (Xw.lit (vs := [(i : Int)].map (Value.int .i64)) st_26 it_3 rfl rfl rfl rfl rfl) rfl ?_
   rintro q w4 ⟨o_q, -, hn4, -⟩
   have o_u := own_bs o_u hn4
   have z4 := hn4.size
   refine Lw.valW (Xw.append (base := W.heap.size) st_26 it_3 rfl (by decide) rfl rfl o_u (own_sl o_q) (one_map (fun _ => rfl) _) (by omega) (by omega) (by omega)) rfl ?_
   rintro u' w5 ⟨o_u', hn5, -⟩
   have el : (wtsG (ls.take i)).length + 1 = (wtsG (ls.take (i + 1))).length := by rw [hws, List.length_append]; rfl
   rw [← List.map_append, ← hws, el] at o_u'
   refine Lw.val (Ex.assign rfl) rfl <| Lw.nil <| Pw.blkN <| Pw.thenN <| Cw.out <| Cw.region <| Lw.val (Ex.addI rfl rfl (by omega)) rfl <| Lw.val (Ex.move rfl) rfl <| Lw.nil ?_
   exact Pw.thenN (Pw.next ((i + 1, u')) ⟨rfl, rfl, rfl, rfl, trivial⟩ (⟨hi', (hB.trans (hn4.mono (by omega))).trans hn5, o_u'⟩) (by simp only; omega))
  intro g2
  have g2 : ¬ x.k = 2#8 := of_decide_eq_false g2
  rw [if_neg g2, List.append_nil] at hws
  refine Cw.skip <| Pw.blkN <| Pw.thenN <| Cw.out <| Cw.region <| Lw.val (Ex.addI rfl rfl (by omega)) rfl <| Lw.val (Ex.move rfl) rfl <| Lw.nil ?_
  exact Pw.thenN (Pw.next ((i + 1, u)) ⟨rfl, rfl, rfl, rfl, trivial⟩ (⟨hi', hB, by rw [hws]; exact o_u⟩) (by simp only; omega))
 intro g
 have hi' : i = ls.length := by have := of_decide_eq_false g; omega
 subst hi'
 rw [List.take_length] at o_u
 refine Cw.exit <| Pw.thenE <| Pw.thenE <| Pw.blkHit <| Pw.thenN <| Cw.out <| Cw.seq <| Cw.region <| Lw.val (Ex.move rfl) rfl <| Lw.callF rfl rfl (clip_c u (wtsG ls) w1 (own_slT o_u)) ?_
 rintro _ w2 ⟨rfl, hn2⟩
 refine Lw.val (Ex.assign rfl) rfl <| Lw.nil <| Pw.thenN <| Cw.out <| Cw.ret <| Pw.ret1 rfl rfl ?_
 exact ⟨hB.trans (hn2.mono z1), (Sl.clip (own_slT o_u)).bs hn2⟩
end Go.Proofs.YtmipoeanpnnjoaaGreat

/-! Contracts: what a kind does. -/
namespace Go.Proofs.YtmipoeanpnnjoaaGreat
open Go Go.Dd Go.RowKit
set_option maxRecDepth 100000

instance : Inhabited T4 := ⟨⟨.slice none 0 0, .slice none 0 0, [], []⟩⟩
theorem MadeK.mono {W W1 w : World} {x y : Value} {s : List Int} {l : List (BitVec 32)} (h : MadeK W1 w x y s l) (hb : W.heap.size ≤ W1.heap.size) : MadeK W w x y s l := ⟨h.row.mono hb, h.col.mono hb, h.apart⟩
/-- An answer: a tensor of one's own, or an empty one. -/
def AnsD (W w : World) (r : Value) (e : Int) (s : List Int) (l : List (BitVec 32)) : Prop :=
 ∃ c : T4, r = .tuple #[c.v, .int .i64 e] ∧ c.at w ∧ (e ≠ 0 → c.s = [] ∧ c.l = []) ∧ (e = 0 → c.s = s ∧ c.l = l ∧ MadeK W w c.x c.y s l)
theorem ansD_no {W w : World} {e : Int} {s : List Int} {l : List (BitVec 32)} (h : e ≠ 0) : AnsD W w (.tuple #[.agg #[.slice none 0 0, .slice none 0 0], .int .i64 e]) e s l := ⟨⟨.slice none 0 0, .slice none 0 0, [], []⟩, rfl, ⟨Sl.nil _ _, Sl.nil _ _⟩, fun _ => ⟨rfl, rfl⟩, fun h0 => absurd h0 h⟩
theorem Gets.d {W w : World} {r : Value} {e : Int} {s : List Int} {l : List (BitVec 32)} (h : Gets W w r e s l) : AnsD W w r e s l := by
 obtain ⟨c, h1, h2, h3, h4⟩ := h
 exact ⟨c, h1, h2, h3, fun he => ⟨(h4 he).1, (h4 he).2.1, (h4 he).2.2.k⟩⟩
theorem AnsK.d {W w : World} {r : Value} {e : Int} {s : List Int} {l : List (BitVec 32)} (h : AnsK W w r e s l) : AnsD W w r e s l := by
 obtain ⟨x, y, rfl, q1, q2⟩ := h
 by_cases he : e = 0
 ·exact ⟨⟨x, y, s, l⟩, rfl, (q2 he).at, fun h => absurd he h, fun _ => ⟨rfl, rfl, q2 he⟩⟩
 ·obtain ⟨rfl, rfl⟩ := q1 he
  exact ansD_no he
theorem AnsD.low {W W1 w : World} {r : Value} {e : Int} {s : List Int} {l : List (BitVec 32)} (h : AnsD W1 w r e s l) (hb : W.heap.size ≤ W1.heap.size) : AnsD W w r e s l := by
 obtain ⟨c, h1, h2, h3, h4⟩ := h
 exact ⟨c, h1, h2, h3, fun he => ⟨(h4 he).1, (h4 he).2.1, (h4 he).2.2.mono hb⟩⟩

/-- What an action comes to. -/
def actE (k : BitVec 8) (x : N5) (ts : List T4) : Int :=
 let a := ts.getD 0 default
 let b := ts.getD 1 default
 if k = 3#8 ∨ k = 4#8 then e2 a.s a.l b.s b.l else if k = 7#8 then prdE a b else if k = 5#8 then e1 a.s a.l else if k = 6#8 then eSh a.s a.l x.n
 else if k = 8#8 then wofE a b x.n x.p else if k = 9#8 then wpoE a x.n else if k = 10#8 then mvE a x.s else if k = 11#8 then tnE a x.s else if k = 12#8 then jnE ts x.n else suE a x.n
def actS (k : BitVec 8) (x : N5) (ts : List T4) : List Int :=
 let a := ts.getD 0 default
 let b := ts.getD 1 default
 if k = 3#8 ∨ k = 4#8 then a.s else if k = 7#8 then [a.s.getD 0 default, b.s.getD 1 default] else if k = 5#8 then a.s else if k = 6#8 then a.s
 else if k = 8#8 then wshS a.s b.s x.n x.p else if k = 9#8 then pshS a.s x.n else if k = 10#8 then x.s else if k = 11#8 then turn a.s x.s else if k = 12#8 then jnS ts x.n.toNat else without a.s x.n.toNat
def actL (k : BitVec 8) (x : N5) (ts : List T4) : List (BitVec 32) :=
 let a := ts.getD 0 default
 let b := ts.getD 1 default
 if k = 3#8 then z2 (· + ·) a.s a.l b.l else if k = 4#8 then z2 (· * ·) a.s a.l b.l else if k = 7#8 then prdL a b else if k = 5#8 then z1 reluB a.s a.l else if k = 6#8 then z1 (shB x.n.toNat) a.s a.l
 else if k = 8#8 then wofL a b x.n x.p else if k = 9#8 then wpoL a x.n else if k = 10#8 then a.l else if k = 11#8 then tuL a.s a.l x.s else if k = 12#8 then jnL ts x.n.toNat else suL a.s a.l x.n.toNat
theorem mord_c (v : Value) (l : List Int) (w : World) (hv : SlT (Value.int .i64) w v l) : Fnc Tryz.prog 92 [v] w (fun r w' => r = .bool (gord l) ∧ Below w.heap.size w w') := by
 have hle := hv.le
 refine Fnc.enter (n := 17) Tryz.func92 (by kernel_rfl) rfl rfl rfl <| Cw.seq <| Cw.region <| Lw.val (Ex.assign rfl) rfl <| Lw.nil <| Pw.thenN <| Cw.out <| Cw.seq <| Cw.seq <| Cw.region <| Lw.val (Ex.move rfl) rfl <| Lw.val (Ex.lenS st_26 rfl (by assumption)) rfl ?_
 refine Lw.val (Ex.move rfl) rfl <| Lw.nil <| Pw.thenN <| Cw.out <| Cw.block ?_
 refine Cw.loop (S := Nat) (fun i => [(0, v), (5, .int .i64 (l.length : Int)), (6, .int .i64 (i : Int))]) (fun i w' => i ≤ l.length ∧ (∀ j, j < i → l.contains (j : Int) = true) ∧ Below w.heap.size w w') (fun i => l.length - i) (0) ⟨rfl, rfl, rfl, trivial⟩ ?_ ?_
 ·exact ⟨Nat.zero_le _, fun _ h => by omega, Below.refl _ _⟩
 rintro i w1 ⟨hi, hC, hB⟩
 have hv1 := hv.bs hB
 refine Cw.seq <| Cw.region <| Lw.val (Ex.lss rfl rfl) rfl <| Lw.nil <| Pw.thenN <| Cw.out <| Cw.seq <| Cw.cond rfl ?_ ?_
 ·intro h
  have hi' : i < l.length := by have := of_decide_eq_true h; omega
  refine Cw.skip <| Pw.thenN <| Cw.out <| Cw.seq <| Cw.block <| Cw.seq <| Cw.region <| Lw.val (Ex.move rfl) rfl <| Lw.val (Ex.assign rfl) rfl <| Lw.nil <| Pw.thenN <| Cw.out <| Cw.seq <| Cw.region <| Lw.val (Ex.move rfl) rfl <| Lw.val (Ex.move rfl) rfl <| Lw.callF rfl rfl (contains_c v l (i : Int) w1 hv1) ?_
  rintro _ w2 ⟨rfl, hn⟩
  have hB2 := hB.trans (hn.mono (below_size hB))
  refine Lw.val (Ex.not rfl) rfl <| Lw.nil <| Pw.thenN <| Cw.out <| Cw.cond rfl ?_ ?_
  ·intro g
   have g1 : l.contains (i : Int) = false := by simpa using g
   refine Cw.seq <| Cw.region <| Lw.val (Ex.assign rfl) rfl <| Lw.nil <| Pw.thenN <| Cw.out <| Cw.ret <| Pw.blkR <| Pw.thenR <| Pw.thenR <| Pw.blkR <| Pw.thenR <| Pw.ret1 rfl rfl ?_
   refine ⟨?_, hB2⟩
   unfold gord; rw [cov_no hi' g1]; rfl
  intro g
  have g1 : l.contains (i : Int) = true := by simpa using g
  refine Cw.skip <| Pw.blkN <| Pw.thenN <| Cw.out <| Cw.region <| Lw.val (Ex.addI rfl rfl (by omega)) rfl <| Lw.val (Ex.move rfl) rfl <| Lw.nil ?_
  exact Pw.thenN (Pw.next (i + 1) ⟨rfl, rfl, rfl, trivial⟩ (⟨hi', fun j hj => (Nat.lt_succ_iff_lt_or_eq.1 hj).elim (hC j) (fun e => e ▸ g1), hB2⟩) (by omega))
 intro h
 have hi' : i = l.length := by have := of_decide_eq_false h; omega
 subst hi'
 have hok : cov l = true := cov_iff.2 hC
 refine Cw.exit <| Pw.thenE <| Pw.thenE <| Pw.blkHit <| Pw.thenN <| Cw.out <| Cw.seq <| Cw.region <| Lw.val (Ex.move rfl) rfl <| Lw.val (Ex.lenS st_26 rfl (by assumption)) rfl ?_
 refine Lw.val (Ex.leq rfl rfl) rfl <| Lw.val (Ex.assign rfl) rfl <| Lw.nil <| Pw.thenN <| Cw.out <| Cw.ret <| Pw.ret1 rfl rfl ?_
 refine ⟨?_, hB⟩
 unfold gord; rw [hok, Bool.true_and]; congr 1; exact decide_eq_decide.2 (by omega)
/-- Has a node the fields of its kind? -/
def fldB (k : BitVec 8) (s : List Int) (p : Int) : Bool := if k = 10#8 then Shapes.ok s && decide (p = 0) else if k = 11#8 then gord s && decide (p = 0) else if k = 8#8 then decide (s.length = 0) && decide (0 ≤ p) && decide (p ≤ 8) else decide (s.length = 0) && decide (p = 0)
theorem len0 {l : List Int} : decide ((l.length : Int) = 0) = decide (l.length = 0) := decide_eq_decide.2 (by omega)
theorem fields_c (x : N5) (w : World) (hx : N5.at w x) : Fnc Tryz.prog 47 [x.v] w (fun r w' => r = .bool (fldB x.k x.s x.p) ∧ Below w.heap.size w w') := by
 have hB := Below.refl w.heap.size w
 have h_s := hx.s
 refine Fnc.enter (n := 50) Tryz.func47 (by kernel_rfl) rfl rfl rfl <| Cw.seq <| Cw.region <| Lw.boxV (cs := x.cells) rfl rfl rfl ?_
 rintro A_x w eA_x b_x hn -
 replace hB := hB.bs hn
 replace h_s := h_s.bs hn
 clear hn
 refine Lw.val (Ex.assign rfl) rfl <| Lw.nil <| Pw.thenN <| Cw.out <| Cw.seq <| Cw.seq <| Cw.region <| Lw.val (Ex.fieldAddr (q := 0) Tryz.underlying45 rfl (sz_43 _) rfl) rfl <| Lw.val (Ex.ldB (ag_43 _) rfl (by assumption) rfl) rfl ?_
 refine Lw.nil <| Pw.thenN <| Cw.out <| Cw.block <| Cw.seq <| Cw.region <| Lw.val (Ex.eql8 rfl (show _ = some (b8 (10#8)) from rfl)) rfl <| Lw.val (Ex.assign rfl) rfl <| Lw.nil <| Pw.thenN <| Cw.out <| Cw.cond rfl ?_ ?_
 ·intro g
  have g : x.k = 10#8 := of_decide_eq_true g
  have e : fldB x.k x.s x.p = (Shapes.ok x.s && decide (x.p = 0)) := by unfold fldB; rw [if_pos g]
  rw [e]
  refine Cw.seq <| Cw.region <| Lw.val (Ex.fieldAddr (q := 0) Tryz.underlying45 rfl (sz_26 _) rfl) rfl <| Lw.val (Ex.ldB (ag_26 _) rfl (by assumption) rfl) rfl ?_
  refine Lw.callF rfl rfl (check_c x.y x.s w h_s) ?_
  rintro _ w1 ⟨rfl, hn1⟩
  have b_x := b_x.bs hn1
  have hB := bt hB hn1
  refine Lw.val (Ex.move rfl) rfl ?_
  refine Lw.part 10 rfl ?_ ?_
  ·intro g2
   refine Lw.take (dj := 10) rfl rfl <| Lw.val (Ex.fieldAddr (q := 0) Tryz.underlying45 rfl (sz_3 _) rfl) rfl <| Lw.take (dj := 10) rfl rfl <| Lw.val (Ex.ldB (ag_3 _) rfl (by assumption) rfl) rfl ?_
   refine Lw.take (dj := 10) rfl rfl <| Lw.val (Ex.eql rfl rfl) rfl <| Lw.val (Ex.pickT rfl rfl) rfl <| Lw.val (Ex.assign rfl) rfl <| Lw.nil <| Pw.thenN <| Cw.out <| Cw.ret <| Pw.blkR <| Pw.thenR <| Pw.ret1 rfl rfl ?_
   rw [g2]
   exact ⟨rfl, hB⟩
  intro g2
  refine Lw.pass (dj := 10) rfl rfl rfl rfl <| Lw.pass (dj := 10) rfl rfl rfl rfl <| Lw.pass (dj := 10) rfl rfl rfl rfl <| Lw.val (Ex.pickF rfl rfl) rfl <| Lw.val (Ex.assign rfl) rfl <| Lw.nil <| Pw.thenN <| Cw.out <| Cw.ret <| Pw.blkR <| Pw.thenR <| Pw.ret1 rfl rfl ?_
  rw [g2]
  exact ⟨rfl, hB⟩
 intro g10
 have g10 : ¬ x.k = 10#8 := of_decide_eq_false g10
 refine Cw.seq <| Cw.region <| Lw.val (Ex.eql8 rfl (show _ = some (b8 (11#8)) from rfl)) rfl <| Lw.val (Ex.assign rfl) rfl <| Lw.nil <| Pw.thenN <| Cw.out <| Cw.cond rfl ?_ ?_
 ·intro g
  have g : x.k = 11#8 := of_decide_eq_true g
  have e : fldB x.k x.s x.p = (gord x.s && decide (x.p = 0)) := by unfold fldB; rw [if_neg g10, if_pos g]
  rw [e]
  refine Cw.seq <| Cw.region <| Lw.val (Ex.fieldAddr (q := 0) Tryz.underlying45 rfl (sz_26 _) rfl) rfl <| Lw.val (Ex.ldB (ag_26 _) rfl (by assumption) rfl) rfl ?_
  refine Lw.callF rfl rfl (mord_c x.y x.s w h_s) ?_
  rintro _ w1 ⟨rfl, hn1⟩
  have b_x := b_x.bs hn1
  have hB := bt hB hn1
  refine Lw.val (Ex.move rfl) rfl ?_
  refine Lw.part 20 rfl ?_ ?_
  ·intro g2
   refine Lw.take (dj := 20) rfl rfl <| Lw.val (Ex.fieldAddr (q := 0) Tryz.underlying45 rfl (sz_3 _) rfl) rfl <| Lw.take (dj := 20) rfl rfl <| Lw.val (Ex.ldB (ag_3 _) rfl (by assumption) rfl) rfl ?_
   refine Lw.take (dj := 20) rfl rfl <| Lw.val (Ex.eql rfl rfl) rfl <| Lw.val (Ex.pickT rfl rfl) rfl <| Lw.val (Ex.assign rfl) rfl <| Lw.nil <| Pw.thenN <| Cw.out <| Cw.ret <| Pw.blkR <| Pw.thenR <| Pw.ret1 rfl rfl ?_
   rw [g2]
   exact ⟨rfl, hB⟩
  intro g2
  refine Lw.pass (dj := 20) rfl rfl rfl rfl <| Lw.pass (dj := 20) rfl rfl rfl rfl <| Lw.pass (dj := 20) rfl rfl rfl rfl <| Lw.val (Ex.pickF rfl rfl) rfl <| Lw.val (Ex.assign rfl) rfl <| Lw.nil <| Pw.thenN <| Cw.out <| Cw.ret <| Pw.blkR <| Pw.thenR <| Pw.ret1 rfl rfl ?_
  rw [g2]
  exact ⟨rfl, hB⟩
 intro g11
 have g11 : ¬ x.k = 11#8 := of_decide_eq_false g11
 refine Cw.seq <| Cw.region <| Lw.val (Ex.eql8 rfl (show _ = some (b8 (8#8)) from rfl)) rfl <| Lw.val (Ex.assign rfl) rfl <| Lw.nil <| Pw.thenN <| Cw.out <| Cw.cond rfl ?_ ?_
 ·intro g
  have g : x.k = 8#8 := of_decide_eq_true g
  have e : fldB x.k x.s x.p = (decide (x.s.length = 0) && decide (0 ≤ x.p) && decide (x.p ≤ 8)) := by unfold fldB; rw [if_neg g10, if_neg g11, if_pos g]
  rw [e, ← len0]
  refine Cw.seq <| Cw.region <| Lw.val (Ex.fieldAddr (q := 0) Tryz.underlying45 rfl (sz_26 _) rfl) rfl <| Lw.val (Ex.ldB (ag_26 _) rfl (by assumption) rfl) rfl ?_
  refine Lw.val (Ex.lenS st_26 rfl (by assumption)) rfl ?_
  refine Lw.val (Ex.eql rfl rfl) rfl <| Lw.val (Ex.move rfl) rfl ?_
  refine Lw.part 31 rfl ?_ ?_
  ·intro g2
   refine Lw.take (dj := 31) rfl rfl <| Lw.val (Ex.fieldAddr (q := 0) Tryz.underlying45 rfl (sz_3 _) rfl) rfl <| Lw.take (dj := 31) rfl rfl <| Lw.val (Ex.ldB (ag_3 _) rfl (by assumption) rfl) rfl ?_
   refine Lw.take (dj := 31) rfl rfl <| Lw.val (Ex.geq rfl rfl) rfl <| Lw.val (Ex.pickT rfl rfl) rfl <| Lw.val (Ex.move rfl) rfl ?_
   refine Lw.part 36 rfl ?_ ?_
   ·intro g3
    refine Lw.take (dj := 36) rfl rfl <| Lw.val (Ex.fieldAddr (q := 0) Tryz.underlying45 rfl (sz_3 _) rfl) rfl <| Lw.take (dj := 36) rfl rfl <| Lw.val (Ex.ldB (ag_3 _) rfl (by assumption) rfl) rfl ?_
    refine Lw.take (dj := 36) rfl rfl <| Lw.val (Ex.leq rfl rfl) rfl <| Lw.val (Ex.pickT rfl rfl) rfl <| Lw.val (Ex.assign rfl) rfl <| Lw.nil <| Pw.thenN <| Cw.out <| Cw.ret <| Pw.blkR <| Pw.thenR <| Pw.ret1 rfl rfl ?_
    rw [g2, g3]
    exact ⟨rfl, hB⟩
   intro g3
   refine Lw.pass (dj := 36) rfl rfl rfl rfl <| Lw.pass (dj := 36) rfl rfl rfl rfl <| Lw.pass (dj := 36) rfl rfl rfl rfl <| Lw.val (Ex.pickF rfl rfl) rfl <| Lw.val (Ex.assign rfl) rfl <| Lw.nil <| Pw.thenN <| Cw.out <| Cw.ret <| Pw.blkR <| Pw.thenR <| Pw.ret1 rfl rfl ?_
   rw [g2, g3]
   exact ⟨rfl, hB⟩
  intro g2
  refine Lw.pass (dj := 31) rfl rfl rfl rfl <| Lw.pass (dj := 31) rfl rfl rfl rfl <| Lw.pass (dj := 31) rfl rfl rfl rfl <| Lw.val (Ex.pickF rfl rfl) rfl <| Lw.val (Ex.move rfl) rfl <| Lw.pass (dj := 36) rfl rfl rfl rfl <| Lw.pass (dj := 36) rfl rfl rfl rfl <| Lw.pass (dj := 36) rfl rfl rfl rfl <| Lw.val (Ex.pickF rfl rfl) rfl <| Lw.val (Ex.assign rfl) rfl <| Lw.nil <| Pw.thenN <| Cw.out <| Cw.ret <| Pw.blkR <| Pw.thenR <| Pw.ret1 rfl rfl ?_
  rw [g2]
  exact ⟨rfl, hB⟩
 intro g8
 have g8 : ¬ x.k = 8#8 := of_decide_eq_false g8
 have e : fldB x.k x.s x.p = (decide (x.s.length = 0) && decide (x.p = 0)) := by unfold fldB; rw [if_neg g10, if_neg g11, if_neg g8]
 rw [e, ← len0]
 refine Cw.skip <| Pw.blkN <| Pw.thenN <| Cw.out <| Cw.seq <| Cw.region <| Lw.val (Ex.fieldAddr (q := 0) Tryz.underlying45 rfl (sz_26 _) rfl) rfl <| Lw.val (Ex.ldB (ag_26 _) rfl (by assumption) rfl) rfl ?_
 refine Lw.val (Ex.lenS st_26 rfl (by assumption)) rfl ?_
 refine Lw.val (Ex.eql rfl rfl) rfl <| Lw.val (Ex.move rfl) rfl ?_
 refine Lw.part 45 rfl ?_ ?_
 ·intro g2
  refine Lw.take (dj := 45) rfl rfl <| Lw.val (Ex.fieldAddr (q := 0) Tryz.underlying45 rfl (sz_3 _) rfl) rfl <| Lw.take (dj := 45) rfl rfl <| Lw.val (Ex.ldB (ag_3 _) rfl (by assumption) rfl) rfl ?_
  refine Lw.take (dj := 45) rfl rfl <| Lw.val (Ex.eql rfl rfl) rfl <| Lw.val (Ex.pickT rfl rfl) rfl <| Lw.val (Ex.assign rfl) rfl <| Lw.nil <| Pw.thenN <| Cw.out <| Cw.ret <| Pw.ret1 rfl rfl ?_
  rw [g2]
  exact ⟨rfl, hB⟩
 intro g2
 refine Lw.pass (dj := 45) rfl rfl rfl rfl <| Lw.pass (dj := 45) rfl rfl rfl rfl <| Lw.pass (dj := 45) rfl rfl rfl rfl <| Lw.val (Ex.pickF rfl rfl) rfl <| Lw.val (Ex.assign rfl) rfl <| Lw.nil <| Pw.thenN <| Cw.out <| Cw.ret <| Pw.ret1 rfl rfl ?_
 rw [g2]
 exact ⟨rfl, hB⟩
end Go.Proofs.YtmipoeanpnnjoaaGreat

/-! Contracts: one, two, and what each kind calls. -/
namespace Go.Proofs.YtmipoeanpnnjoaaGreat
open Go Go.Dd Go.RowKit
set_option maxRecDepth 100000

theorem ten_cells {ts : List T4} {j : Nat} (h : j < ts.length) : ∀ i, i < 2 → ∃ q, [ts[j].x, ts[j].y][i]? = some q ∧ (cellsOf ts)[j * 2 + i]? = some q := fun i hi => by
 obtain ⟨h1, h2⟩ := cells_at h
 rcases (show i = 0 ∨ i = 1 by omega) with rfl | rfl
 ·exact ⟨_, rfl, h1⟩
 ·exact ⟨_, rfl, h2⟩
abbrev tenT : TypeId := 29
theorem sl_none {w w' : World} {sz : Nat} {v : Value} (h : Sl w sz v 0 []) : Sl w' sz v 0 [] := by
 obtain ⟨h1, ao, cap, e, h2, h3, h4, -⟩ := h
 exact ⟨h1, ao, cap, e, h2, h3, h4, fun _ _ j u hu => by simp at hu⟩
/-- A store elsewhere. -/
theorem AnsD.by {W w w' : World} {r : Value} {e : Int} {s : List Int} {l : List (BitVec 32)} {A : Nat} (h : AnsD W w r e s l) (g : w.grownBy w' (some A)) (hA : A < W.heap.size) : AnsD W w' r e s l := by
 obtain ⟨d, h1, h2, h3, h4⟩ := h
 by_cases he : e = 0
 ·obtain ⟨q1, q2, q3⟩ := h4 he
  have m : MadeK W w' d.x d.y s l := ⟨q3.row.heap fun b e => g.block b (q3.row.lt b e).2 (fun e2 => by have := (q3.row.lt b e).1; have := Option.some.inj e2; omega), q3.col.heap fun b e => g.block b (q3.col.lt b e).2 (fun e2 => by have := (q3.col.lt b e).1; have := Option.some.inj e2; omega), q3.apart⟩
  exact ⟨d, h1, by have := m.at; unfold T4.at at this ⊢; rw [q1, q2]; exact this, h3, fun _ => ⟨q1, q2, m⟩⟩
 ·obtain ⟨q1, q2⟩ := h3 he
  refine ⟨d, h1, ?_, h3, fun h0 => absurd h0 he⟩
  unfold T4.at at h2 ⊢
  rw [q1, q2] at h2 ⊢
  exact ⟨sl_none h2.1, sl_none h2.2⟩
theorem AnsD.ones {W w : World} {r : Value} {e : Int} {s : List Int} {l : List (BitVec 32)} (h : AnsD W w r e s l) : ∃ x y, r = .tuple #[.agg [x, y].toArray, .int .i64 e] ∧ [x, y].all (·.oneCell') = true := by
 obtain ⟨d, h1, h2, -⟩ := h
 exact ⟨d.x, d.y, h1, by rw [List.all_cons, List.all_cons, h2.1.one', h2.2.one']; rfl⟩
theorem two1_c (x : N5) (v : Value) (a b : T4) (A : Nat) (f : FuncId) (e : Int) (s : List Int) (l : List (BitVec 32)) (w : World) (b_A : Blk w A 49 [.func (.func f) #[] #[]]) (hx : N5.at w x) (h : Tens w v [a, b])
  (hf : ∀ w1, Below w.heap.size w w1 → Fnc Tryz.prog f [a.v, b.v] w1 (fun r w' => Below w1.heap.size w1 w' ∧ AnsD w1 w' r e s l)) :
  Fnc Tryz.prog 101 [x.v, v, .pointer (some ⟨A, 0, none⟩)] w (fun r w' => Below w.heap.size w w' ∧ AnsD w w' r e s l) := by
 obtain ⟨W, hW⟩ : ∃ W, W = w := ⟨_, rfl⟩
 rw [← hW] at b_A hx h hf
 rw [← hW]
 have hB := Below.refl W.heap.size W
 have h_i := hx.i
 have h_s := hx.s
 have h_v := h.1
 refine Fnc.enter (n := 17) Tryz.func101 (by kernel_rfl) rfl rfl rfl <| Cw.seq <| Cw.region <| Lw.boxV (cs := x.cells) rfl rfl rfl ?_
 rintro A_x w eA_x b_x hn -
 replace hB := hB.bs hn
 clear hn
 have yx := blk_lt b_x
 refine Lw.newA it_29 rfl ?_
 rintro A_r w eA_r b_r hn -
 replace hB := hB.bs hn
 replace b_x := b_x.bs hn
 clear hn
 refine Lw.val (Ex.assign rfl) rfl <| Lw.nil <| Pw.thenN <| Cw.out <| Cw.seq ?_
 have z0 := below_size hB
 have yr := blk_lt b_r
 refine Cw.any mixed (fun w2 hd _ => ?_)
 have hB2 := hB.trans (hd.mono z0)
 refine Aw.cls (fun w' => Below W.heap.size W w') (fun hC => ?_) (hB2)
 refine AwC.take (i := 0) (NoP.thn NoP.ret) rfl (by kernel_rfl) (by kernel_rfl) (by kernel_rfl) (fun w1 hc => Ex.ldB (ag_49 _) rfl (Blk.bs (by assumption) hc) rfl) rfl ?_
 refine AwC.take (i := 1) (NoP.thn NoP.ret) rfl (by kernel_rfl) (by kernel_rfl) (by kernel_rfl) (fun w1 hc => Ex.move rfl) rfl <| AwC.take (i := 2) (NoP.thn NoP.ret) rfl (by kernel_rfl) (by kernel_rfl) (by kernel_rfl) (fun w1 hc => Ex.idx st_25 rfl rfl (h_v.bs hc) 0 rfl (show 0 < 2 by decide)) rfl <| AwC.take (i := 3) (NoP.thn NoP.ret) rfl (by kernel_rfl) (by kernel_rfl) (by kernel_rfl) (fun w1 hc => Ex.ldE (cs := [a.x, a.y]) (ag_29 _) (sz_29 _) rfl (h_v.bs hc) rfl (by decide) (ten_cells (ts := [a, b]) (j := 0) Nat.zero_lt_two)) rfl <| AwC.take (i := 4) (NoP.thn NoP.ret) rfl (by kernel_rfl) (by kernel_rfl) (by kernel_rfl) (fun w1 hc => Ex.move rfl) rfl <| AwC.take (i := 5) (NoP.thn NoP.ret) rfl (by kernel_rfl) (by kernel_rfl) (by kernel_rfl) (fun w1 hc => Ex.idx st_25 rfl rfl (h_v.bs hc) 1 rfl (show 1 < 2 by decide)) rfl <| AwC.take (i := 6) (NoP.thn NoP.ret) rfl (by kernel_rfl) (by kernel_rfl) (by kernel_rfl) (fun w1 hc => Ex.ldE (cs := [b.x, b.y]) (ag_29 _) (sz_29 _) rfl (h_v.bs hc) rfl (by decide) (ten_cells (ts := [a, b]) (j := 1) Nat.one_lt_two)) rfl <| AwC.only (by assumption) (i := 7) (by kernel_rfl) rfl ?_
 refine Lw.callV (p := []) (q := []) rfl rfl rfl (hf w2 hB2) ?_
 rintro r w3 ⟨hn3, hA⟩
 obtain ⟨rx, ry, rfl, r1⟩ := hA.ones
 have z2 := hd.size
 have z3 := hn3.size
 have hB3 := hB2.trans (hn3.mono (by omega))
 have b_r3 := (b_r.bs hd).bs hn3
 refine AwC.back <| AwC.take (i := 8) (NoP.thn NoP.ret) rfl (by kernel_rfl) (by kernel_rfl) (by kernel_rfl) (fun w1 hc => Ex.extract (i := 0) rfl rfl) rfl <| AwC.take (i := 9) (NoP.thn NoP.ret) rfl (by kernel_rfl) (by kernel_rfl) (by kernel_rfl) (fun w1 hc => Ex.extract (i := 1) rfl rfl) rfl <| AwC.only (by assumption) (i := 10) (by kernel_rfl) rfl ?_
 refine Lw.unit (Xu.stA (cs := [rx, ry]) (k := 2) (by kernel_rfl) rfl rfl rfl r1 b_r3 rfl) ?_
 rintro w4 ⟨b_r4, hg4, hz4⟩
 have hA4 := hA.by hg4 (by omega)
 have hB4 := hB3.grown hg4 (by omega) (by rintro _ ⟨⟩; omega)
 refine AwC.back <| AwC.take (i := 11) (NoP.thn NoP.ret) rfl (by kernel_rfl) (by kernel_rfl) (by kernel_rfl) (fun w1 hc => Ex.assign rfl) rfl <| AwC.done (by assumption) (by kernel_rfl) ?_
 refine Pw.thenN <| Cw.out <| Cw.ret <| Pw.retCT rfl rfl rfl (by assumption) (Tryz.underlying29) rfl rfl rfl ?_
 exact ⟨hB4, hA4.low (by omega)⟩
theorem one1_c (x : N5) (v : Value) (a : T4) (A : Nat) (f : FuncId) (e : Int) (s : List Int) (l : List (BitVec 32)) (w : World) (b_A : Blk w A 112 [.func (.func f) #[] #[]]) (hx : N5.at w x) (h : Tens w v [a])
  (hf : ∀ w1, Below w.heap.size w w1 → Fnc Tryz.prog f [x.v, a.v] w1 (fun r w' => Below w1.heap.size w1 w' ∧ AnsD w1 w' r e s l)) :
  Fnc Tryz.prog 104 [x.v, v, .pointer (some ⟨A, 0, none⟩)] w (fun r w' => Below w.heap.size w w' ∧ AnsD w w' r e s l) := by
 obtain ⟨W, hW⟩ : ∃ W, W = w := ⟨_, rfl⟩
 rw [← hW] at b_A hx h hf
 rw [← hW]
 have hB := Below.refl W.heap.size W
 have h_i := hx.i
 have h_s := hx.s
 have h_v := h.1
 refine Fnc.enter (n := 15) Tryz.func104 (by kernel_rfl) rfl rfl rfl <| Cw.seq <| Cw.region <| Lw.boxV (cs := x.cells) rfl rfl rfl ?_
 rintro A_x w eA_x b_x hn -
 replace hB := hB.bs hn
 clear hn
 have yx := blk_lt b_x
 refine Lw.newA it_29 rfl ?_
 rintro A_r w eA_r b_r hn -
 replace hB := hB.bs hn
 replace b_x := b_x.bs hn
 clear hn
 refine Lw.val (Ex.assign rfl) rfl <| Lw.nil <| Pw.thenN <| Cw.out <| Cw.seq ?_
 have z0 := below_size hB
 have yr := blk_lt b_r
 refine Cw.any mixed (fun w2 hd _ => ?_)
 have hB2 := hB.trans (hd.mono z0)
 have b_x2 := b_x.bs hd
 refine Aw.cls (fun w' => Below W.heap.size W w' ∧ Blk w' A_x 45 x.cells) (fun hC => ?_) (⟨hB2, b_x2⟩)
 refine AwC.take (i := 0) (NoP.thn NoP.ret) rfl (by kernel_rfl) (by kernel_rfl) (by kernel_rfl) (fun w1 hc => Ex.ldB (ag_112 _) rfl (b_A.bs hc.1) rfl) rfl <| AwC.take (i := 1) (NoP.thn NoP.ret) rfl (by kernel_rfl) (by kernel_rfl) (by kernel_rfl) (fun w1 hc => Ex.ldA (k := 5) (ag_45 _) (sz_45 _) rfl rfl hc.2) rfl <| AwC.take (i := 2) (NoP.thn NoP.ret) rfl (by kernel_rfl) (by kernel_rfl) (by kernel_rfl) (fun w1 hc => Ex.move rfl) rfl <| AwC.take (i := 3) (NoP.thn NoP.ret) rfl (by kernel_rfl) (by kernel_rfl) (by kernel_rfl) (fun w1 hc => Ex.idx st_25 rfl rfl (h_v.bs hc.1) 0 rfl (show 0 < 1 by decide)) rfl <| AwC.take (i := 4) (NoP.thn NoP.ret) rfl (by kernel_rfl) (by kernel_rfl) (by kernel_rfl) (fun w1 hc => Ex.ldE (cs := [a.x, a.y]) (ag_29 _) (sz_29 _) rfl (h_v.bs hc.1) rfl (by decide) (ten_cells (ts := [a]) (j := 0) Nat.zero_lt_one)) rfl <| AwC.only (by assumption) (i := 5) (by kernel_rfl) rfl ?_
 refine Lw.callV (p := []) (q := []) rfl rfl rfl (hf w2 hB2) ?_
 rintro r w3 ⟨hn3, hA⟩
 obtain ⟨rx, ry, rfl, r1⟩ := hA.ones
 have z2 := hd.size
 have z3 := hn3.size
 have hB3 := hB2.trans (hn3.mono (by omega))
 have b_r3 := (b_r.bs hd).bs hn3
 have b_x3 := b_x2.bs hn3
 have hC3 : Below W.heap.size W w3 ∧ Blk w3 A_x 45 x.cells := ⟨hB3, b_x3⟩
 refine AwC.back <| AwC.take (i := 6) (NoP.thn NoP.ret) rfl (by kernel_rfl) (by kernel_rfl) (by kernel_rfl) (fun w1 hc => Ex.extract (i := 0) rfl rfl) rfl <| AwC.take (i := 7) (NoP.thn NoP.ret) rfl (by kernel_rfl) (by kernel_rfl) (by kernel_rfl) (fun w1 hc => Ex.extract (i := 1) rfl rfl) rfl <| AwC.only (by assumption) (i := 8) (by kernel_rfl) rfl ?_
 refine Lw.unit (Xu.stA (cs := [rx, ry]) (k := 2) (by kernel_rfl) rfl rfl rfl r1 b_r3 rfl) ?_
 rintro w4 ⟨b_r4, hg4, hz4⟩
 have hA4 := hA.by hg4 (by omega)
 have hB4 := hB3.grown hg4 (by omega) (by rintro _ ⟨⟩; omega)
 have hC4 : Below W.heap.size W w4 ∧ Blk w4 A_x 45 x.cells := ⟨hB4, b_x3.by hg4 (fun e => by have := Option.some.inj e; omega)⟩
 refine AwC.back <| AwC.take (i := 9) (NoP.thn NoP.ret) rfl (by kernel_rfl) (by kernel_rfl) (by kernel_rfl) (fun w1 hc => Ex.assign rfl) rfl <| AwC.done (by assumption) (by kernel_rfl) ?_
 refine Pw.thenN <| Cw.out <| Cw.ret <| Pw.retCT rfl rfl rfl (by assumption) (Tryz.underlying29) rfl rfl rfl ?_
 exact ⟨hB4, hA4.low (by omega)⟩
theorem deed1_c (x : N5) (a : T4) (w : World) (hx : N5.at w x) (ha : a.at w) :
  Fnc Tryz.prog 76 [x.v, a.v] w (fun r w' => Below w.heap.size w w' ∧ AnsD w w' r (e1 a.s a.l) (a.s) (z1 reluB a.s a.l)) := by
 obtain ⟨W, hW⟩ : ∃ W, W = w := ⟨_, rfl⟩
 rw [← hW] at hx ha
 rw [← hW]
 have hB := Below.refl W.heap.size W
 have h_s := hx.s
 have h_a := ha
 refine Fnc.enter (n := 10) Tryz.func76 (by kernel_rfl) rfl rfl rfl <| Cw.seq <| Cw.region <| Lw.boxV (cs := x.cells) rfl rfl rfl ?_
 rintro A_x w eA_x b_x hn -
 replace hB := hB.bs hn
 replace h_s := h_s.bs hn
 replace h_a := h_a.bs hn
 clear hn
 have yx := blk_lt b_x
 refine Lw.boxV (cs := [a.x, a.y]) rfl rfl rfl ?_
 rintro A_a w eA_a b_a hn -
 replace hB := hB.bs hn
 replace h_s := h_s.bs hn
 replace h_a := h_a.bs hn
 replace b_x := b_x.bs hn
 clear hn
 have ya := blk_lt b_a
 refine Lw.newA it_29 rfl ?_
 rintro A_r w eA_r b_r hn -
 replace hB := hB.bs hn
 replace h_s := h_s.bs hn
 replace h_a := h_a.bs hn
 replace b_x := b_x.bs hn
 replace b_a := b_a.bs hn
 clear hn
 refine Lw.val (Ex.assign rfl) rfl <| Lw.nil <| Pw.thenN <| Cw.out <| Cw.seq <| Cw.region <| Lw.val (Ex.ldA (ag_29 _) (sz_29 _) rfl rfl (by assumption)) rfl ?_
 have z0 := below_size hB
 have yr := blk_lt b_r
 refine Lw.callF rfl rfl (relu_p a w h_a) ?_
 rintro r w3 ⟨hn3, hA⟩
 have hA := Gets.d hA
 obtain ⟨rx, ry, rfl, r1⟩ := hA.ones
 have z3 := hn3.size
 have hB3 := hB.trans (hn3.mono z0)
 have b_r3 := b_r.bs hn3
 refine Lw.val (Ex.extract (i := 0) rfl rfl) rfl <| Lw.val (Ex.extract (i := 1) rfl rfl) rfl <| Lw.unit (Xu.stA (cs := [rx, ry]) (k := 2) (by kernel_rfl) rfl rfl rfl r1 b_r3 rfl) ?_
 rintro w4 ⟨b_r4, hg4, hz4⟩
 have hA4 := hA.by hg4 yr
 have hB4 := hB3.grown hg4 (by omega) (by rintro _ ⟨⟩; omega)
 refine Lw.val (Ex.assign rfl) rfl <| Lw.nil <| Pw.thenN <| Cw.out <| Cw.ret <| Pw.retCT rfl rfl rfl (by assumption) (Tryz.underlying29) rfl rfl rfl ?_
 exact ⟨hB4, hA4.low z0⟩
theorem deed2_c (x : N5) (a : T4) (w : World) (hx : N5.at w x) (ha : a.at w) :
  Fnc Tryz.prog 78 [x.v, a.v] w (fun r w' => Below w.heap.size w w' ∧ AnsD w w' r (eSh a.s a.l x.n) (a.s) (z1 (shB x.n.toNat) a.s a.l)) := by
 obtain ⟨W, hW⟩ : ∃ W, W = w := ⟨_, rfl⟩
 rw [← hW] at hx ha
 rw [← hW]
 have hB := Below.refl W.heap.size W
 have h_s := hx.s
 have h_a := ha
 refine Fnc.enter (n := 12) Tryz.func78 (by kernel_rfl) rfl rfl rfl <| Cw.seq <| Cw.region <| Lw.boxV (cs := x.cells) rfl rfl rfl ?_
 rintro A_x w eA_x b_x hn -
 replace hB := hB.bs hn
 replace h_s := h_s.bs hn
 replace h_a := h_a.bs hn
 clear hn
 have yx := blk_lt b_x
 refine Lw.boxV (cs := [a.x, a.y]) rfl rfl rfl ?_
 rintro A_a w eA_a b_a hn -
 replace hB := hB.bs hn
 replace h_s := h_s.bs hn
 replace h_a := h_a.bs hn
 replace b_x := b_x.bs hn
 clear hn
 have ya := blk_lt b_a
 refine Lw.newA it_29 rfl ?_
 rintro A_r w eA_r b_r hn -
 replace hB := hB.bs hn
 replace h_s := h_s.bs hn
 replace h_a := h_a.bs hn
 replace b_x := b_x.bs hn
 replace b_a := b_a.bs hn
 clear hn
 refine Lw.val (Ex.assign rfl) rfl <| Lw.nil <| Pw.thenN <| Cw.out <| Cw.seq <| Cw.region <| Lw.val (Ex.ldA (ag_29 _) (sz_29 _) rfl rfl (by assumption)) rfl ?_
 refine Lw.val (Ex.fieldAddr (q := 0) Tryz.underlying45 rfl (sz_3 _) rfl) rfl <| Lw.val (Ex.ldB (ag_3 _) rfl (by assumption) rfl) rfl ?_
 have z0 := below_size hB
 have yr := blk_lt b_r
 refine Lw.callF rfl rfl (shift_p a x.n w h_a) ?_
 rintro r w3 ⟨hn3, hA⟩
 have hA := Gets.d hA
 obtain ⟨rx, ry, rfl, r1⟩ := hA.ones
 have z3 := hn3.size
 have hB3 := hB.trans (hn3.mono z0)
 have b_r3 := b_r.bs hn3
 refine Lw.val (Ex.extract (i := 0) rfl rfl) rfl <| Lw.val (Ex.extract (i := 1) rfl rfl) rfl <| Lw.unit (Xu.stA (cs := [rx, ry]) (k := 2) (by kernel_rfl) rfl rfl rfl r1 b_r3 rfl) ?_
 rintro w4 ⟨b_r4, hg4, hz4⟩
 have hA4 := hA.by hg4 yr
 have hB4 := hB3.grown hg4 (by omega) (by rintro _ ⟨⟩; omega)
 refine Lw.val (Ex.assign rfl) rfl <| Lw.nil <| Pw.thenN <| Cw.out <| Cw.ret <| Pw.retCT rfl rfl rfl (by assumption) (Tryz.underlying29) rfl rfl rfl ?_
 exact ⟨hB4, hA4.low z0⟩
theorem deed3_c (x : N5) (a : T4) (w : World) (hx : N5.at w x) (ha : a.at w) :
  Fnc Tryz.prog 80 [x.v, a.v] w (fun r w' => Below w.heap.size w w' ∧ AnsD w w' r (wpoE a x.n) (pshS a.s x.n) (wpoL a x.n)) := by
 obtain ⟨W, hW⟩ : ∃ W, W = w := ⟨_, rfl⟩
 rw [← hW] at hx ha
 rw [← hW]
 have hB := Below.refl W.heap.size W
 have h_s := hx.s
 have h_a := ha
 refine Fnc.enter (n := 12) Tryz.func80 (by kernel_rfl) rfl rfl rfl <| Cw.seq <| Cw.region <| Lw.boxV (cs := x.cells) rfl rfl rfl ?_
 rintro A_x w eA_x b_x hn -
 replace hB := hB.bs hn
 replace h_s := h_s.bs hn
 replace h_a := h_a.bs hn
 clear hn
 have yx := blk_lt b_x
 refine Lw.boxV (cs := [a.x, a.y]) rfl rfl rfl ?_
 rintro A_a w eA_a b_a hn -
 replace hB := hB.bs hn
 replace h_s := h_s.bs hn
 replace h_a := h_a.bs hn
 replace b_x := b_x.bs hn
 clear hn
 have ya := blk_lt b_a
 refine Lw.newA it_29 rfl ?_
 rintro A_r w eA_r b_r hn -
 replace hB := hB.bs hn
 replace h_s := h_s.bs hn
 replace h_a := h_a.bs hn
 replace b_x := b_x.bs hn
 replace b_a := b_a.bs hn
 clear hn
 refine Lw.val (Ex.assign rfl) rfl <| Lw.nil <| Pw.thenN <| Cw.out <| Cw.seq <| Cw.region <| Lw.val (Ex.ldA (ag_29 _) (sz_29 _) rfl rfl (by assumption)) rfl ?_
 refine Lw.val (Ex.fieldAddr (q := 0) Tryz.underlying45 rfl (sz_3 _) rfl) rfl <| Lw.val (Ex.ldB (ag_3 _) rfl (by assumption) rfl) rfl ?_
 have z0 := below_size hB
 have yr := blk_lt b_r
 refine Lw.callF rfl rfl (wpo_c a x.n w h_a) ?_
 rintro r w3 ⟨hn3, hA⟩
 have hA := Gets.d hA
 obtain ⟨rx, ry, rfl, r1⟩ := hA.ones
 have z3 := hn3.size
 have hB3 := hB.trans (hn3.mono z0)
 have b_r3 := b_r.bs hn3
 refine Lw.val (Ex.extract (i := 0) rfl rfl) rfl <| Lw.val (Ex.extract (i := 1) rfl rfl) rfl <| Lw.unit (Xu.stA (cs := [rx, ry]) (k := 2) (by kernel_rfl) rfl rfl rfl r1 b_r3 rfl) ?_
 rintro w4 ⟨b_r4, hg4, hz4⟩
 have hA4 := hA.by hg4 yr
 have hB4 := hB3.grown hg4 (by omega) (by rintro _ ⟨⟩; omega)
 refine Lw.val (Ex.assign rfl) rfl <| Lw.nil <| Pw.thenN <| Cw.out <| Cw.ret <| Pw.retCT rfl rfl rfl (by assumption) (Tryz.underlying29) rfl rfl rfl ?_
 exact ⟨hB4, hA4.low z0⟩
theorem deed4_c (x : N5) (a : T4) (w : World) (hx : N5.at w x) (ha : a.at w) :
  Fnc Tryz.prog 82 [x.v, a.v] w (fun r w' => Below w.heap.size w w' ∧ AnsD w w' r (mvE a x.s) (x.s) (a.l)) := by
 obtain ⟨W, hW⟩ : ∃ W, W = w := ⟨_, rfl⟩
 rw [← hW] at hx ha
 rw [← hW]
 have hB := Below.refl W.heap.size W
 have h_s := hx.s
 have h_a := ha
 refine Fnc.enter (n := 12) Tryz.func82 (by kernel_rfl) rfl rfl rfl <| Cw.seq <| Cw.region <| Lw.boxV (cs := x.cells) rfl rfl rfl ?_
 rintro A_x w eA_x b_x hn -
 replace hB := hB.bs hn
 replace h_s := h_s.bs hn
 replace h_a := h_a.bs hn
 clear hn
 have yx := blk_lt b_x
 refine Lw.boxV (cs := [a.x, a.y]) rfl rfl rfl ?_
 rintro A_a w eA_a b_a hn -
 replace hB := hB.bs hn
 replace h_s := h_s.bs hn
 replace h_a := h_a.bs hn
 replace b_x := b_x.bs hn
 clear hn
 have ya := blk_lt b_a
 refine Lw.newA it_29 rfl ?_
 rintro A_r w eA_r b_r hn -
 replace hB := hB.bs hn
 replace h_s := h_s.bs hn
 replace h_a := h_a.bs hn
 replace b_x := b_x.bs hn
 replace b_a := b_a.bs hn
 clear hn
 refine Lw.val (Ex.assign rfl) rfl <| Lw.nil <| Pw.thenN <| Cw.out <| Cw.seq <| Cw.region <| Lw.val (Ex.ldA (ag_29 _) (sz_29 _) rfl rfl (by assumption)) rfl ?_
 refine Lw.val (Ex.fieldAddr (q := 0) Tryz.underlying45 rfl (sz_26 _) rfl) rfl <| Lw.val (Ex.ldB (ag_26 _) rfl (by assumption) rfl) rfl ?_
 have z0 := below_size hB
 have yr := blk_lt b_r
 refine Lw.callF rfl rfl (mshape_c a x.y x.s w h_a h_s) ?_
 rintro r w3 ⟨hn3, hA⟩
 have hA := AnsK.d hA
 obtain ⟨rx, ry, rfl, r1⟩ := hA.ones
 have z3 := hn3.size
 have hB3 := hB.trans (hn3.mono z0)
 have b_r3 := b_r.bs hn3
 refine Lw.val (Ex.extract (i := 0) rfl rfl) rfl <| Lw.val (Ex.extract (i := 1) rfl rfl) rfl <| Lw.unit (Xu.stA (cs := [rx, ry]) (k := 2) (by kernel_rfl) rfl rfl rfl r1 b_r3 rfl) ?_
 rintro w4 ⟨b_r4, hg4, hz4⟩
 have hA4 := hA.by hg4 yr
 have hB4 := hB3.grown hg4 (by omega) (by rintro _ ⟨⟩; omega)
 refine Lw.val (Ex.assign rfl) rfl <| Lw.nil <| Pw.thenN <| Cw.out <| Cw.ret <| Pw.retCT rfl rfl rfl (by assumption) (Tryz.underlying29) rfl rfl rfl ?_
 exact ⟨hB4, hA4.low z0⟩
theorem deed5_c (x : N5) (a : T4) (w : World) (hx : N5.at w x) (ha : a.at w) :
  Fnc Tryz.prog 84 [x.v, a.v] w (fun r w' => Below w.heap.size w w' ∧ AnsD w w' r (tnE a x.s) (turn a.s x.s) (tuL a.s a.l x.s)) := by
 obtain ⟨W, hW⟩ : ∃ W, W = w := ⟨_, rfl⟩
 rw [← hW] at hx ha
 rw [← hW]
 have hB := Below.refl W.heap.size W
 have h_s := hx.s
 have h_a := ha
 refine Fnc.enter (n := 12) Tryz.func84 (by kernel_rfl) rfl rfl rfl <| Cw.seq <| Cw.region <| Lw.boxV (cs := x.cells) rfl rfl rfl ?_
 rintro A_x w eA_x b_x hn -
 replace hB := hB.bs hn
 replace h_s := h_s.bs hn
 replace h_a := h_a.bs hn
 clear hn
 have yx := blk_lt b_x
 refine Lw.boxV (cs := [a.x, a.y]) rfl rfl rfl ?_
 rintro A_a w eA_a b_a hn -
 replace hB := hB.bs hn
 replace h_s := h_s.bs hn
 replace h_a := h_a.bs hn
 replace b_x := b_x.bs hn
 clear hn
 have ya := blk_lt b_a
 refine Lw.newA it_29 rfl ?_
 rintro A_r w eA_r b_r hn -
 replace hB := hB.bs hn
 replace h_s := h_s.bs hn
 replace h_a := h_a.bs hn
 replace b_x := b_x.bs hn
 replace b_a := b_a.bs hn
 clear hn
 refine Lw.val (Ex.assign rfl) rfl <| Lw.nil <| Pw.thenN <| Cw.out <| Cw.seq <| Cw.region <| Lw.val (Ex.ldA (ag_29 _) (sz_29 _) rfl rfl (by assumption)) rfl ?_
 refine Lw.val (Ex.fieldAddr (q := 0) Tryz.underlying45 rfl (sz_26 _) rfl) rfl <| Lw.val (Ex.ldB (ag_26 _) rfl (by assumption) rfl) rfl ?_
 have z0 := below_size hB
 have yr := blk_lt b_r
 refine Lw.callF rfl rfl (mturn_c a x.y x.s w h_a h_s) ?_
 rintro r w3 ⟨hn3, hA⟩
 have hA := AnsK.d hA
 obtain ⟨rx, ry, rfl, r1⟩ := hA.ones
 have z3 := hn3.size
 have hB3 := hB.trans (hn3.mono z0)
 have b_r3 := b_r.bs hn3
 refine Lw.val (Ex.extract (i := 0) rfl rfl) rfl <| Lw.val (Ex.extract (i := 1) rfl rfl) rfl <| Lw.unit (Xu.stA (cs := [rx, ry]) (k := 2) (by kernel_rfl) rfl rfl rfl r1 b_r3 rfl) ?_
 rintro w4 ⟨b_r4, hg4, hz4⟩
 have hA4 := hA.by hg4 yr
 have hB4 := hB3.grown hg4 (by omega) (by rintro _ ⟨⟩; omega)
 refine Lw.val (Ex.assign rfl) rfl <| Lw.nil <| Pw.thenN <| Cw.out <| Cw.ret <| Pw.retCT rfl rfl rfl (by assumption) (Tryz.underlying29) rfl rfl rfl ?_
 exact ⟨hB4, hA4.low z0⟩
theorem deed6_c (x : N5) (a : T4) (w : World) (hx : N5.at w x) (ha : a.at w) :
  Fnc Tryz.prog 86 [x.v, a.v] w (fun r w' => Below w.heap.size w w' ∧ AnsD w w' r (suE a x.n) (without a.s x.n.toNat) (suL a.s a.l x.n.toNat)) := by
 obtain ⟨W, hW⟩ : ∃ W, W = w := ⟨_, rfl⟩
 rw [← hW] at hx ha
 rw [← hW]
 have hB := Below.refl W.heap.size W
 have h_s := hx.s
 have h_a := ha
 refine Fnc.enter (n := 12) Tryz.func86 (by kernel_rfl) rfl rfl rfl <| Cw.seq <| Cw.region <| Lw.boxV (cs := x.cells) rfl rfl rfl ?_
 rintro A_x w eA_x b_x hn -
 replace hB := hB.bs hn
 replace h_s := h_s.bs hn
 replace h_a := h_a.bs hn
 clear hn
 have yx := blk_lt b_x
 refine Lw.boxV (cs := [a.x, a.y]) rfl rfl rfl ?_
 rintro A_a w eA_a b_a hn -
 replace hB := hB.bs hn
 replace h_s := h_s.bs hn
 replace h_a := h_a.bs hn
 replace b_x := b_x.bs hn
 clear hn
 have ya := blk_lt b_a
 refine Lw.newA it_29 rfl ?_
 rintro A_r w eA_r b_r hn -
 replace hB := hB.bs hn
 replace h_s := h_s.bs hn
 replace h_a := h_a.bs hn
 replace b_x := b_x.bs hn
 replace b_a := b_a.bs hn
 clear hn
 refine Lw.val (Ex.assign rfl) rfl <| Lw.nil <| Pw.thenN <| Cw.out <| Cw.seq <| Cw.region <| Lw.val (Ex.ldA (ag_29 _) (sz_29 _) rfl rfl (by assumption)) rfl ?_
 refine Lw.val (Ex.fieldAddr (q := 0) Tryz.underlying45 rfl (sz_3 _) rfl) rfl <| Lw.val (Ex.ldB (ag_3 _) rfl (by assumption) rfl) rfl ?_
 have z0 := below_size hB
 have yr := blk_lt b_r
 refine Lw.callF rfl rfl (msum_c a x.n w h_a) ?_
 rintro r w3 ⟨hn3, hA⟩
 have hA := AnsK.d hA
 obtain ⟨rx, ry, rfl, r1⟩ := hA.ones
 have z3 := hn3.size
 have hB3 := hB.trans (hn3.mono z0)
 have b_r3 := b_r.bs hn3
 refine Lw.val (Ex.extract (i := 0) rfl rfl) rfl <| Lw.val (Ex.extract (i := 1) rfl rfl) rfl <| Lw.unit (Xu.stA (cs := [rx, ry]) (k := 2) (by kernel_rfl) rfl rfl rfl r1 b_r3 rfl) ?_
 rintro w4 ⟨b_r4, hg4, hz4⟩
 have hA4 := hA.by hg4 yr
 have hB4 := hB3.grown hg4 (by omega) (by rintro _ ⟨⟩; omega)
 refine Lw.val (Ex.assign rfl) rfl <| Lw.nil <| Pw.thenN <| Cw.out <| Cw.ret <| Pw.retCT rfl rfl rfl (by assumption) (Tryz.underlying29) rfl rfl rfl ?_
 exact ⟨hB4, hA4.low z0⟩
theorem deed7_c (x : N5) (v : Value) (a b : T4) (w : World) (h : Tens w v [a, b]) :
  Fnc Tryz.prog 88 [x.v, v] w (fun r w' => Below w.heap.size w w' ∧ AnsD w w' r (wofE a b x.n x.p) (wshS a.s b.s x.n x.p) (wofL a b x.n x.p)) := by
 obtain ⟨W, hW⟩ : ∃ W, W = w := ⟨_, rfl⟩
 rw [← hW] at h
 rw [← hW]
 have hB := Below.refl W.heap.size W
 have h_v := h.1
 refine Fnc.enter (n := 19) Tryz.func88 (by kernel_rfl) rfl rfl rfl <| Cw.seq <| Cw.region <| Lw.boxV (cs := x.cells) rfl rfl rfl ?_
 rintro A_x w eA_x b_x hn -
 replace hB := hB.bs hn
 clear hn
 have yx := blk_lt b_x
 refine Lw.newA it_29 rfl ?_
 rintro A_r w eA_r b_r hn -
 replace hB := hB.bs hn
 replace b_x := b_x.bs hn
 clear hn
 refine Lw.val (Ex.assign rfl) rfl <| Lw.nil <| Pw.thenN <| Cw.out <| Cw.seq ?_
 have z0 := below_size hB
 have yr := blk_lt b_r
 refine Cw.any mixed (fun w2 hd _ => ?_)
 have hB2 := hB.trans (hd.mono z0)
 have b_x2 := b_x.bs hd
 refine Aw.cls (fun w' => Below W.heap.size W w' ∧ Blk w' A_x 45 x.cells) (fun hC => ?_) (⟨hB2, b_x2⟩)
 refine AwC.take (i := 0) (NoP.thn NoP.ret) rfl (by kernel_rfl) (by kernel_rfl) (by kernel_rfl) (fun w1 hc => Ex.move rfl) rfl <| AwC.take (i := 1) (NoP.thn NoP.ret) rfl (by kernel_rfl) (by kernel_rfl) (by kernel_rfl) (fun w1 hc => Ex.idx st_25 rfl rfl (h_v.bs hc.1) 0 rfl (show 0 < 2 by decide)) rfl <| AwC.take (i := 2) (NoP.thn NoP.ret) rfl (by kernel_rfl) (by kernel_rfl) (by kernel_rfl) (fun w1 hc => Ex.ldE (cs := [a.x, a.y]) (ag_29 _) (sz_29 _) rfl (h_v.bs hc.1) rfl (by decide) (ten_cells (ts := [a, b]) (j := 0) Nat.zero_lt_two)) rfl <| AwC.take (i := 3) (NoP.thn NoP.ret) rfl (by kernel_rfl) (by kernel_rfl) (by kernel_rfl) (fun w1 hc => Ex.move rfl) rfl <| AwC.take (i := 4) (NoP.thn NoP.ret) rfl (by kernel_rfl) (by kernel_rfl) (by kernel_rfl) (fun w1 hc => Ex.idx st_25 rfl rfl (h_v.bs hc.1) 1 rfl (show 1 < 2 by decide)) rfl <| AwC.take (i := 5) (NoP.thn NoP.ret) rfl (by kernel_rfl) (by kernel_rfl) (by kernel_rfl) (fun w1 hc => Ex.ldE (cs := [b.x, b.y]) (ag_29 _) (sz_29 _) rfl (h_v.bs hc.1) rfl (by decide) (ten_cells (ts := [a, b]) (j := 1) Nat.one_lt_two)) rfl <| AwC.take (i := 6) (NoP.thn NoP.ret) rfl (by kernel_rfl) (by kernel_rfl) (by kernel_rfl) (fun w1 hc => Ex.fieldAddr (q := 0) Tryz.underlying45 rfl (sz_3 _) rfl) rfl <| AwC.take (i := 7) (NoP.thn NoP.ret) rfl (by kernel_rfl) (by kernel_rfl) (by kernel_rfl) (fun w1 hc => Ex.ldB (ag_3 _) rfl hc.2 rfl) rfl ?_
 refine AwC.take (i := 8) (NoP.thn NoP.ret) rfl (by kernel_rfl) (by kernel_rfl) (by kernel_rfl) (fun w1 hc => Ex.fieldAddr (q := 0) Tryz.underlying45 rfl (sz_3 _) rfl) rfl <| AwC.take (i := 9) (NoP.thn NoP.ret) rfl (by kernel_rfl) (by kernel_rfl) (by kernel_rfl) (fun w1 hc => Ex.ldB (ag_3 _) rfl hc.2 rfl) rfl <| AwC.only (by assumption) (i := 10) (by kernel_rfl) rfl ?_
 refine Lw.callF rfl rfl (wof_c a b x.n x.p w2 ((h.2 a (by simp)).bs hB2) ((h.2 b (by simp)).bs hB2)) ?_
 rintro r w3 ⟨hn3, hA⟩
 have hA := Gets.d hA
 obtain ⟨rx, ry, rfl, r1⟩ := hA.ones
 have z2 := hd.size
 have z3 := hn3.size
 have hB3 := hB2.trans (hn3.mono (by omega))
 have b_r3 := (b_r.bs hd).bs hn3
 have b_x3 := b_x2.bs hn3
 have hC3 : Below W.heap.size W w3 ∧ Blk w3 A_x 45 x.cells := ⟨hB3, b_x3⟩
 refine AwC.back <| AwC.take (i := 11) (NoP.thn NoP.ret) rfl (by kernel_rfl) (by kernel_rfl) (by kernel_rfl) (fun w1 hc => Ex.extract (i := 0) rfl rfl) rfl <| AwC.take (i := 12) (NoP.thn NoP.ret) rfl (by kernel_rfl) (by kernel_rfl) (by kernel_rfl) (fun w1 hc => Ex.extract (i := 1) rfl rfl) rfl <| AwC.only (by assumption) (i := 13) (by kernel_rfl) rfl ?_
 refine Lw.unit (Xu.stA (cs := [rx, ry]) (k := 2) (by kernel_rfl) rfl rfl rfl r1 b_r3 rfl) ?_
 rintro w4 ⟨b_r4, hg4, hz4⟩
 have hA4 := hA.by hg4 (by omega)
 have hB4 := hB3.grown hg4 (by omega) (by rintro _ ⟨⟩; omega)
 have hC4 : Below W.heap.size W w4 ∧ Blk w4 A_x 45 x.cells := ⟨hB4, b_x3.by hg4 (fun e => by have := Option.some.inj e; omega)⟩
 refine AwC.back <| AwC.take (i := 14) (NoP.thn NoP.ret) rfl (by kernel_rfl) (by kernel_rfl) (by kernel_rfl) (fun w1 hc => Ex.assign rfl) rfl <| AwC.done (by assumption) (by kernel_rfl) ?_
 refine Pw.thenN <| Cw.out <| Cw.ret <| Pw.retCT rfl rfl rfl (by assumption) (Tryz.underlying29) rfl rfl rfl ?_
 exact ⟨hB4, hA4.low (by omega)⟩
theorem deed8_c (x : N5) (v : Value) (ts : List T4) (w : World) (h : Tens w v ts) :
  Fnc Tryz.prog 90 [x.v, v] w (fun r w' => Below w.heap.size w w' ∧ AnsD w w' r (jnE ts x.n) (jnS ts x.n.toNat) (jnL ts x.n.toNat)) := by
 obtain ⟨W, hW⟩ : ∃ W, W = w := ⟨_, rfl⟩
 rw [← hW] at h
 rw [← hW]
 have hB := Below.refl W.heap.size W
 refine Fnc.enter (n := 12) Tryz.func90 (by kernel_rfl) rfl rfl rfl <| Cw.seq <| Cw.region <| Lw.boxV (cs := x.cells) rfl rfl rfl ?_
 rintro A_x w eA_x b_x hn -
 replace hB := hB.bs hn
 clear hn
 have yx := blk_lt b_x
 refine Lw.newA it_29 rfl ?_
 rintro A_r w eA_r b_r hn -
 replace hB := hB.bs hn
 replace b_x := b_x.bs hn
 clear hn
 refine Lw.val (Ex.assign rfl) rfl <| Lw.nil <| Pw.thenN <| Cw.out <| Cw.seq <| Cw.region <| Lw.val (Ex.move rfl) rfl <| Lw.val (Ex.fieldAddr (q := 0) Tryz.underlying45 rfl (sz_3 _) rfl) rfl <| Lw.val (Ex.ldB (ag_3 _) rfl (by assumption) rfl) rfl ?_
 have z0 := below_size hB
 have yr := blk_lt b_r
 refine Lw.callF rfl rfl (mjoin_c v ts x.n w (h.bs hB)) ?_
 rintro r w3 ⟨hn3, hA⟩
 have hA := AnsK.d hA
 obtain ⟨rx, ry, rfl, r1⟩ := hA.ones
 have z3 := hn3.size
 have hB3 := hB.trans (hn3.mono z0)
 have b_r3 := b_r.bs hn3
 refine Lw.val (Ex.extract (i := 0) rfl rfl) rfl <| Lw.val (Ex.extract (i := 1) rfl rfl) rfl <| Lw.unit (Xu.stA (cs := [rx, ry]) (k := 2) (by kernel_rfl) rfl rfl rfl r1 b_r3 rfl) ?_
 rintro w4 ⟨b_r4, hg4, hz4⟩
 have hA4 := hA.by hg4 yr
 have hB4 := hB3.grown hg4 (by omega) (by rintro _ ⟨⟩; omega)
 refine Lw.val (Ex.assign rfl) rfl <| Lw.nil <| Pw.thenN <| Cw.out <| Cw.ret <| Pw.retCT rfl rfl rfl (by assumption) (Tryz.underlying29) rfl rfl rfl ?_
 exact ⟨hB4, hA4.low z0⟩

/-! ### A deed -/
def dv (a b c d : Int) (f : Value) : List Value := [.int .i64 a, .int .i64 b, .int .i64 c, .int .i64 d, f]
abbrev fnOf (f : FuncId) (q : List Value) : Value := .func (.func f) #[] q.toArray
theorem bt_deed (a b c d : Int) (f : FuncId) (q : List Value) : Tryz.prog.built 88 [(0, .int .i64 a), (1, .int .i64 b), (2, .int .i64 c), (3, .int .i64 d), (4, fnOf f q)] = some (dv a b c d (fnOf f q)).toArray := by
 have h1 : Tryz.prog.info? 88 = some Tryz.t88 := by kernel_rfl
 have h2 : Tryz.prog.info? 3 = some Tryz.t3 := by kernel_rfl
 have h3 : Tryz.prog.info? 48 = some Tryz.t48 := by kernel_rfl
 simp [Program.built, h1, Tryz.underlying88, h2, h3, Instr.fill, Value.cells, fnOf, dv]
 rfl
theorem one_c (lo hi : Int) (f : FuncId) (w : World) : Fnc Tryz.prog 75 [.int .i64 lo, .int .i64 hi, fnOf f []] w (fun r w' => Below w.heap.size w w' ∧ ∃ A, w.heap.size ≤ A ∧ r = .agg (dv 1 1 lo hi (fnOf 104 [.pointer (some ⟨A, 0, none⟩)])).toArray ∧ Blk w' A 112 [fnOf f []]) := by
 have hB := Below.refl w.heap.size w
 obtain ⟨B0, hB0⟩ : ∃ B0, B0 = w.heap.size := ⟨_, rfl⟩
 refine Fnc.enter (n := 11) Tryz.func75 (by kernel_rfl) rfl rfl rfl <| Cw.seq <| Cw.region <| Lw.boxV (cs := [fnOf f []]) rfl rfl rfl ?_
 rintro A_f w eA_f b_f hn -
 replace hB := hB.bs hn
 clear hn
 have yf := blk_lt b_f
 refine Lw.newA it_88 rfl ?_
 rintro A_r w eA_r b_r hn -
 replace hB := hB.bs hn
 replace b_f := b_f.bs hn
 clear hn
 refine Lw.nil <| Pw.thenN <| Cw.out <| Cw.seq <| Cw.region <| Lw.val (Ex.move rfl) rfl <| Lw.val (Ex.move rfl) rfl <| Lw.val (Ex.mkFn (vs := []) rfl rfl) rfl ?_
 have z0 := below_size hB
 refine Lw.val (Ex.build (cs := dv 1 1 lo hi (fnOf 104 [.pointer (some ⟨A_f, 0, none⟩)])) rfl (bt_deed 1 1 lo hi 104 [.pointer (some ⟨A_f, 0, none⟩)])) rfl <| Lw.unit (Xu.stA (cs := dv 1 1 lo hi (fnOf 104 [.pointer (some ⟨A_f, 0, none⟩)])) (k := 5) (by kernel_rfl) rfl rfl rfl rfl b_r rfl) ?_
 rintro w2 ⟨b_r, hg, hz⟩
 have b_f := b_f.by hg (by rintro ⟨⟩; omega)
 have hB2 := hB.grown hg z0 (by rintro _ ⟨⟩; omega)
 refine Lw.nil <| Pw.thenN <| Cw.out <| Cw.ret <| Pw.retC rfl rfl (by assumption) (Tryz.underlying88) rfl rfl rfl ?_
 exact ⟨hB2, A_f, by omega, rfl, b_f⟩
theorem two_c (f : FuncId) (w : World) : Fnc Tryz.prog 72 [fnOf f []] w (fun r w' => Below w.heap.size w w' ∧ ∃ A, w.heap.size ≤ A ∧ r = .agg (dv 2 2 0 0 (fnOf 101 [.pointer (some ⟨A, 0, none⟩)])).toArray ∧ Blk w' A 49 [fnOf f []]) := by
 have hB := Below.refl w.heap.size w
 obtain ⟨B0, hB0⟩ : ∃ B0, B0 = w.heap.size := ⟨_, rfl⟩
 refine Fnc.enter (n := 5) Tryz.func72 (by kernel_rfl) rfl rfl rfl <| Cw.seq <| Cw.region <| Lw.boxV (cs := [fnOf f []]) rfl rfl rfl ?_
 rintro A_f w eA_f b_f hn -
 replace hB := hB.bs hn
 clear hn
 have yf := blk_lt b_f
 refine Lw.newA it_88 rfl ?_
 rintro A_r w eA_r b_r hn -
 replace hB := hB.bs hn
 replace b_f := b_f.bs hn
 clear hn
 refine Lw.nil <| Pw.thenN <| Cw.out <| Cw.seq <| Cw.region <| Lw.val (Ex.mkFn (vs := []) rfl rfl) rfl ?_
 have z0 := below_size hB
 refine Lw.val (Ex.build (cs := dv 2 2 0 0 (fnOf 101 [.pointer (some ⟨A_f, 0, none⟩)])) rfl (bt_deed 2 2 0 0 101 [.pointer (some ⟨A_f, 0, none⟩)])) rfl <| Lw.unit (Xu.stA (cs := dv 2 2 0 0 (fnOf 101 [.pointer (some ⟨A_f, 0, none⟩)])) (k := 5) (by kernel_rfl) rfl rfl rfl rfl b_r rfl) ?_
 rintro w2 ⟨b_r, hg, hz⟩
 have b_f := b_f.by hg (by rintro ⟨⟩; omega)
 have hB2 := hB.grown hg z0 (by rintro _ ⟨⟩; omega)
 refine Lw.nil <| Pw.thenN <| Cw.out <| Cw.ret <| Pw.retC rfl rfl (by assumption) (Tryz.underlying88) rfl rfl rfl ?_
 exact ⟨hB2, A_f, by omega, rfl, b_f⟩
end Go.Proofs.YtmipoeanpnnjoaaGreat

/-! Contract: the deeds of the kinds. -/
namespace Go.Proofs.YtmipoeanpnnjoaaGreat
open Go Go.Dd Go.RowKit
set_option maxRecDepth 100000

theorem fill_cons {place : Nat → Option (Nat × Nat)} {cells : Array Value} {i off : Nat} {v : Value} {ds : List Value} {rest : List (Nat × Value)} (hv : v.cells = ds.toArray) (hp : place i = some (off, ds.length)) (h : off + ds.length ≤ cells.size) : Instr.fill place cells ((i, v) :: rest) = Instr.fill place (spl cells.toList off ds).toArray rest := by
 have hf := fold_spl ds 0 off cells (by omega)
 have e : v.cells.zipIdx.foldl (fun cs (c, j) => cs.setIfInBounds (off + j) c) cells = (spl cells.toList off ds).toArray := by
  rw [hv]
  simpa using hf
 simp only [Instr.fill, hp, e]
 rw [if_neg]
 rw [hv]
 simp
 omega
theorem fill_row {rows : List (List Value)} {i : Nat} {ds : List Value} {rest : List (Nat × Value)} (hr : ∀ r ∈ rows, r.length = 5) (hi : i < rows.length) (hd : ds.length = 5) :
  Instr.fill (fun i => some (i * 5, 5)) rows.flatten.toArray ((i, .agg ds.toArray) :: rest) = Instr.fill (fun i => some (i * 5, 5)) (rows.set i ds).flatten.toArray rest := by
 have e1 : rows.flatten = flw id rows := by simp [flw]
 have e2 : (rows.set i ds).flatten = flw id (rows.set i ds) := by simp [flw]
 have hl : (flw id rows).length = rows.length * 5 := flw_len (k := 5) hr
 have hlt := flw_lt (k := 5) (i := 4) hi (by decide)
 rw [e1, e2, fill_cons (off := i * 5) (ds := ds) rfl (by rw [hd]) (by simp only [List.size_toArray]; omega)]
 have := flw_spl (f := id) (k := 5) (i := 0) (ds := ds) (b := ds) hr hi (by omega) (by
  show spl rows[i] 0 ds = ds
  have := hr _ (List.getElem_mem hi)
  unfold spl
  rw [List.take_zero, List.nil_append, List.drop_of_length_le (by omega), List.append_nil])
 rw [Nat.add_zero] at this
 rw [← this]
/-- Where each deed's function stands. -/
structure Dad where
 (a3 a4 a5 a6 a7 a9 a10 a11 a13 : Nat)
abbrev two1 (A : Nat) : Value := fnOf 101 [.pointer (some ⟨A, 0, none⟩)]
abbrev one1 (A : Nat) : Value := fnOf 104 [.pointer (some ⟨A, 0, none⟩)]
abbrev z5 : List Value := dv 0 0 0 0 .nilFunc
def deedRows (d : Dad) : List (List Value) := [z5, z5, z5, dv 2 2 0 0 (two1 d.a3), dv 2 2 0 0 (two1 d.a4), dv 1 1 0 0 (one1 d.a5), dv 1 1 0 31 (one1 d.a6), dv 2 2 0 0 (two1 d.a7), dv 2 2 1 8 (fnOf 88 []), dv 1 1 1 64 (one1 d.a9), dv 1 1 0 0 (one1 d.a10), dv 1 1 0 0 (one1 d.a11), dv 1 4 0 3 (fnOf 90 []), dv 1 1 0 3 (one1 d.a13)]
abbrev deedT : TypeId := 88
abbrev deedsT : TypeId := 89
theorem set5 {rows : List (List Value)} {i : Nat} {ds : List Value} (h : ∀ r ∈ rows, r.length = 5) (hd : ds.length = 5) : ∀ r ∈ rows.set i ds, r.length = 5 := fun r hr => (List.mem_or_eq_of_mem_set hr).elim (h r) (fun e => e ▸ hd)
theorem z14 : ∀ r ∈ List.replicate 14 z5, r.length = 5 := fun r hr => by rw [(List.mem_replicate.1 hr).2]; rfl
theorem bt_deeds (d : Dad) : Tryz.prog.built deedsT [(3, .agg (dv 2 2 0 0 (two1 d.a3)).toArray), (4, .agg (dv 2 2 0 0 (two1 d.a4)).toArray), (7, .agg (dv 2 2 0 0 (two1 d.a7)).toArray), (5, .agg (dv 1 1 0 0 (one1 d.a5)).toArray), (6, .agg (dv 1 1 0 31 (one1 d.a6)).toArray), (9, .agg (dv 1 1 1 64 (one1 d.a9)).toArray), (10, .agg (dv 1 1 0 0 (one1 d.a10)).toArray), (11, .agg (dv 1 1 0 0 (one1 d.a11)).toArray), (13, .agg (dv 1 1 0 3 (one1 d.a13)).toArray), (8, .agg (dv 2 2 1 8 (fnOf 88 [])).toArray), (12, .agg (dv 1 4 0 3 (fnOf 90 [])).toArray)] = some (deedRows d).flatten.toArray := by
 have h1 : Tryz.prog.info? deedsT = some Tryz.t89 := by kernel_rfl
 have h2 : Tryz.prog.info? deedT = some Tryz.t88 := by kernel_rfl
 simp only [Program.built, h1, Tryz.underlying89, h2]
 have hz : ∃ z, (Tryz.t89).zero = some z ∧ z.cells = (List.replicate 14 z5).flatten.toArray := ⟨_, rfl, rfl⟩
 obtain ⟨z, hz1, hz2⟩ := hz
 rw [hz1]
 simp only
 rw [hz2, show (Tryz.t88).size = 5 from rfl]
 have r0 := z14
 rw [fill_row r0 (by simp) rfl]
 have r1 := set5 (i := 3) (ds := dv 2 2 0 0 (two1 d.a3)) r0 rfl
 rw [fill_row r1 (by simp) rfl]
 have r2 := set5 (i := 4) (ds := dv 2 2 0 0 (two1 d.a4)) r1 rfl
 rw [fill_row r2 (by simp) rfl]
 have r3 := set5 (i := 7) (ds := dv 2 2 0 0 (two1 d.a7)) r2 rfl
 rw [fill_row r3 (by simp) rfl]
 have r4 := set5 (i := 5) (ds := dv 1 1 0 0 (one1 d.a5)) r3 rfl
 rw [fill_row r4 (by simp) rfl]
 have r5 := set5 (i := 6) (ds := dv 1 1 0 31 (one1 d.a6)) r4 rfl
 rw [fill_row r5 (by simp) rfl]
 have r6 := set5 (i := 9) (ds := dv 1 1 1 64 (one1 d.a9)) r5 rfl
 rw [fill_row r6 (by simp) rfl]
 have r7 := set5 (i := 10) (ds := dv 1 1 0 0 (one1 d.a10)) r6 rfl
 rw [fill_row r7 (by simp) rfl]
 have r8 := set5 (i := 11) (ds := dv 1 1 0 0 (one1 d.a11)) r7 rfl
 rw [fill_row r8 (by simp) rfl]
 have r9 := set5 (i := 13) (ds := dv 1 1 0 3 (one1 d.a13)) r8 rfl
 rw [fill_row r9 (by simp) rfl]
 have r10 := set5 (i := 8) (ds := dv 2 2 1 8 (fnOf 88 [])) r9 rfl
 rw [fill_row r10 (by simp) rfl]
 have r11 := set5 (i := 12) (ds := dv 1 4 0 3 (fnOf 90 [])) r10 rfl
 rfl
theorem it_deeds : ITy Tryz.prog deedsT (List.replicate 14 z5).flatten 560 := ⟨⟨_, (show Tryz.prog.info? deedsT = some Tryz.t89 by kernel_rfl), rfl, rfl, _, rfl, rfl⟩⟩
/-- Where the functions stand that the deeds' functions call. -/
def DadAt (w' : World) (d : Dad) : Prop := Blk w' d.a3 49 [fnOf 73 []] ∧ Blk w' d.a4 49 [fnOf 17 []] ∧ Blk w' d.a7 49 [fnOf 74 []] ∧ Blk w' d.a5 112 [fnOf 76 []] ∧ Blk w' d.a6 112 [fnOf 78 []] ∧ Blk w' d.a9 112 [fnOf 80 []] ∧ Blk w' d.a10 112 [fnOf 82 []] ∧ Blk w' d.a11 112 [fnOf 84 []] ∧ Blk w' d.a13 112 [fnOf 86 []]
theorem deeds_c (w : World) : Fnc Tryz.prog 46 [] w (fun r w' => Below w.heap.size w w' ∧ ∃ d, r = .agg (deedRows d).flatten.toArray ∧ DadAt w' d) := by
 have hB := Below.refl w.heap.size w
 obtain ⟨B0, hB0⟩ : ∃ B0, B0 = w.heap.size := ⟨_, rfl⟩
 refine Fnc.enter (n := 13) Tryz.func46 (by kernel_rfl) rfl rfl rfl <| Cw.seq <| Cw.region <| Lw.valW (Xw.new it_deeds) rfl ?_
 rintro _ w ⟨rfl, b_r, hn, hz⟩
 replace hB := hB.bs hn
 obtain ⟨A_r, eA⟩ : ∃ A_r, A_r = B0 := ⟨_, rfl⟩
 rw [← hB0, ← eA] at b_r
 rw [← hB0, ← eA]
 have yr := blk_lt b_r
 clear hn hz
 refine Lw.nil <| Pw.thenN <| Cw.out <| Cw.seq <| Cw.region ?_
 have y3 := blk_lt b_r
 refine Lw.callF rfl rfl (two_c 73 w) ?_
 rintro _ w ⟨hn, a3, g3, rfl, b3⟩
 replace hB := hB.bs hn
 replace b_r := b_r.bs hn
 clear hn
 have y4 := blk_lt b_r
 refine Lw.callF rfl rfl (two_c 17 w) ?_
 rintro _ w ⟨hn, a4, g4, rfl, b4⟩
 replace hB := hB.bs hn
 replace b_r := b_r.bs hn
 replace b3 := b3.bs hn
 clear hn
 have y7 := blk_lt b_r
 refine Lw.callF rfl rfl (two_c 74 w) ?_
 rintro _ w ⟨hn, a7, g7, rfl, b7⟩
 replace hB := hB.bs hn
 replace b_r := b_r.bs hn
 replace b3 := b3.bs hn
 replace b4 := b4.bs hn
 clear hn
 have y5 := blk_lt b_r
 refine Lw.callF rfl rfl (one_c 0 0 76 w) ?_
 rintro _ w ⟨hn, a5, g5, rfl, b5⟩
 replace hB := hB.bs hn
 replace b_r := b_r.bs hn
 replace b3 := b3.bs hn
 replace b4 := b4.bs hn
 replace b7 := b7.bs hn
 clear hn
 have y6 := blk_lt b_r
 refine Lw.callF rfl rfl (one_c 0 31 78 w) ?_
 rintro _ w ⟨hn, a6, g6, rfl, b6⟩
 replace hB := hB.bs hn
 replace b_r := b_r.bs hn
 replace b3 := b3.bs hn
 replace b4 := b4.bs hn
 replace b7 := b7.bs hn
 replace b5 := b5.bs hn
 clear hn
 have y9 := blk_lt b_r
 refine Lw.callF rfl rfl (one_c 1 64 80 w) ?_
 rintro _ w ⟨hn, a9, g9, rfl, b9⟩
 replace hB := hB.bs hn
 replace b_r := b_r.bs hn
 replace b3 := b3.bs hn
 replace b4 := b4.bs hn
 replace b7 := b7.bs hn
 replace b5 := b5.bs hn
 replace b6 := b6.bs hn
 clear hn
 have y10 := blk_lt b_r
 refine Lw.callF rfl rfl (one_c 0 0 82 w) ?_
 rintro _ w ⟨hn, a10, g10, rfl, b10⟩
 replace hB := hB.bs hn
 replace b_r := b_r.bs hn
 replace b3 := b3.bs hn
 replace b4 := b4.bs hn
 replace b7 := b7.bs hn
 replace b5 := b5.bs hn
 replace b6 := b6.bs hn
 replace b9 := b9.bs hn
 clear hn
 have y11 := blk_lt b_r
 refine Lw.callF rfl rfl (one_c 0 0 84 w) ?_
 rintro _ w ⟨hn, a11, g11, rfl, b11⟩
 replace hB := hB.bs hn
 replace b_r := b_r.bs hn
 replace b3 := b3.bs hn
 replace b4 := b4.bs hn
 replace b7 := b7.bs hn
 replace b5 := b5.bs hn
 replace b6 := b6.bs hn
 replace b9 := b9.bs hn
 replace b10 := b10.bs hn
 clear hn
 have y13 := blk_lt b_r
 refine Lw.callF rfl rfl (one_c 0 3 86 w) ?_
 rintro _ w ⟨hn, a13, g13, rfl, b13⟩
 replace hB := hB.bs hn
 replace b_r := b_r.bs hn
 replace b3 := b3.bs hn
 replace b4 := b4.bs hn
 replace b7 := b7.bs hn
 replace b5 := b5.bs hn
 replace b6 := b6.bs hn
 replace b9 := b9.bs hn
 replace b10 := b10.bs hn
 replace b11 := b11.bs hn
 clear hn
 refine Lw.val (Ex.build (cs := dv 2 2 1 8 (fnOf 88 [])) rfl (bt_deed 2 2 1 8 88 [])) rfl <| Lw.val (Ex.build (cs := dv 1 4 0 3 (fnOf 90 [])) rfl (bt_deed 1 4 0 3 90 [])) rfl <| Lw.val (Ex.build (cs := (deedRows ⟨a3, a4, a5, a6, a7, a9, a10, a11, a13⟩).flatten) rfl (bt_deeds ⟨a3, a4, a5, a6, a7, a9, a10, a11, a13⟩)) rfl ?_
 have yr2 := blk_lt b_r
 have z0 := below_size hB
 have hones : (deedRows ⟨a3, a4, a5, a6, a7, a9, a10, a11, a13⟩).flatten.all (·.oneCell') = true := rfl
 refine Lw.unit (Xu.stA (cs := (deedRows ⟨a3, a4, a5, a6, a7, a9, a10, a11, a13⟩).flatten) (k := 70) (by kernel_rfl) rfl rfl rfl hones b_r rfl) ?_
 rintro w2 ⟨b_r2, hg, hz⟩
 have b3 := b3.by hg (fun e => by have := Option.some.inj e; omega)
 have b4 := b4.by hg (fun e => by have := Option.some.inj e; omega)
 have b7 := b7.by hg (fun e => by have := Option.some.inj e; omega)
 have b5 := b5.by hg (fun e => by have := Option.some.inj e; omega)
 have b6 := b6.by hg (fun e => by have := Option.some.inj e; omega)
 have b9 := b9.by hg (fun e => by have := Option.some.inj e; omega)
 have b10 := b10.by hg (fun e => by have := Option.some.inj e; omega)
 have b11 := b11.by hg (fun e => by have := Option.some.inj e; omega)
 have b13 := b13.by hg (fun e => by have := Option.some.inj e; omega)
 have hB2 := hB.grown hg z0 (by rintro _ ⟨⟩; omega)
 refine Lw.nil <| Pw.thenN <| Cw.out <| Cw.ret <| Pw.retC rfl rfl (by assumption) (Tryz.underlying89) rfl rfl rfl ?_
 exact ⟨by rw [eA, hB0]; exact hB2, ⟨a3, a4, a5, a6, a7, a9, a10, a11, a13⟩, rfl, b3, b4, b7, b5, b6, b9, b10, b11, b13⟩
def dRow : Nat → Option (Int × Int × Int × Int)
 | 3 => some (2, 2, 0, 0)
 | 4 => some (2, 2, 0, 0)
 | 5 => some (1, 1, 0, 0)
 | 6 => some (1, 1, 0, 31)
 | 7 => some (2, 2, 0, 0)
 | 8 => some (2, 2, 1, 8)
 | 9 => some (1, 1, 1, 64)
 | 10 => some (1, 1, 0, 0)
 | 11 => some (1, 1, 0, 0)
 | 12 => some (1, 4, 0, 3)
 | 13 => some (1, 1, 0, 3)
 | _ => none
def DeedOk (w : World) (d : Dad) (k : Nat) (a b c e : Int) : Prop :=
 ∃ f q, (deedRows d)[k]? = some (dv a b c e (fnOf f q)) ∧ ∀ (x : N5) (v : Value) (ts : List T4) (w1 : World), x.k = BitVec.ofNat 8 k → Below w.heap.size w w1 → N5.at w1 x → Tens w1 v ts → a ≤ (ts.length : Int) → (ts.length : Int) ≤ b →
  Fnc Tryz.prog f ([] ++ [x.v, v] ++ q) w1 (fun r w' => Below w1.heap.size w1 w' ∧ AnsD w1 w' r (actE x.k x ts) (actS x.k x ts) (actL x.k x ts))
theorem uno_of {α : Type} {l : List α} (h : l.length = 1) : ∃ a, l = [a] := by
 match l, h with
 | [a], _ => exact ⟨a, rfl⟩
theorem duo_of {α : Type} {l : List α} (h : l.length = 2) : ∃ a b, l = [a, b] := by
 match l, h with
 | [a, b], _ => exact ⟨a, b, rfl⟩
theorem dk3 (w : World) (d : Dad) (h : DadAt w d) : DeedOk w d 3 2 2 0 0 := by
 obtain ⟨b3, b4, b7, -⟩ := h
 refine ⟨_, _, rfl, fun x v ts w1 hk g hx ht h1 h2 => ?_⟩
 obtain ⟨a, b, rfl⟩ := duo_of (show ts.length = 2 by omega)
 rw [hk]
 exact two1_c x v a b d.a3 _ _ _ _ w1 (b3.bs g) hx ht (fun w2 g2 => (add_p a b w2 ((ht.2 a (by simp)).bs g2) ((ht.2 b (by simp)).bs g2)).mono fun _ _ ⟨q1, q2⟩ => ⟨q1, q2.d⟩)
theorem dk4 (w : World) (d : Dad) (h : DadAt w d) : DeedOk w d 4 2 2 0 0 := by
 obtain ⟨b3, b4, b7, -⟩ := h
 refine ⟨_, _, rfl, fun x v ts w1 hk g hx ht h1 h2 => ?_⟩
 obtain ⟨a, b, rfl⟩ := duo_of (show ts.length = 2 by omega)
 rw [hk]
 exact two1_c x v a b d.a4 _ _ _ _ w1 (b4.bs g) hx ht (fun w2 g2 => (mul_p a b w2 ((ht.2 a (by simp)).bs g2) ((ht.2 b (by simp)).bs g2)).mono fun _ _ ⟨q1, q2⟩ => ⟨q1, q2.d⟩)
theorem dk7 (w : World) (d : Dad) (h : DadAt w d) : DeedOk w d 7 2 2 0 0 := by
 obtain ⟨b3, b4, b7, -⟩ := h
 refine ⟨_, _, rfl, fun x v ts w1 hk g hx ht h1 h2 => ?_⟩
 obtain ⟨a, b, rfl⟩ := duo_of (show ts.length = 2 by omega)
 rw [hk]
 exact two1_c x v a b d.a7 _ _ _ _ w1 (b7.bs g) hx ht (fun w2 g2 => (prod_c a b w2 ((ht.2 a (by simp)).bs g2) ((ht.2 b (by simp)).bs g2)).mono fun _ _ ⟨q1, q2⟩ => ⟨q1, q2.d⟩)
theorem dk5 (w : World) (d : Dad) (h : DadAt w d) : DeedOk w d 5 1 1 0 0 := by
 obtain ⟨-, -, -, b5, b6, b9, b10, b11, b13⟩ := h
 refine ⟨_, _, rfl, fun x v ts w1 hk g hx ht h1 h2 => ?_⟩
 obtain ⟨a, rfl⟩ := uno_of (show ts.length = 1 by omega)
 rw [hk]
 exact one1_c x v a d.a5 _ _ _ _ w1 (b5.bs g) hx ht (fun w2 g2 => deed1_c x a w2 (hx.bs g2) ((ht.2 a (by simp)).bs g2))
theorem dk6 (w : World) (d : Dad) (h : DadAt w d) : DeedOk w d 6 1 1 0 31 := by
 obtain ⟨-, -, -, b5, b6, b9, b10, b11, b13⟩ := h
 refine ⟨_, _, rfl, fun x v ts w1 hk g hx ht h1 h2 => ?_⟩
 obtain ⟨a, rfl⟩ := uno_of (show ts.length = 1 by omega)
 rw [hk]
 exact one1_c x v a d.a6 _ _ _ _ w1 (b6.bs g) hx ht (fun w2 g2 => deed2_c x a w2 (hx.bs g2) ((ht.2 a (by simp)).bs g2))
theorem dk9 (w : World) (d : Dad) (h : DadAt w d) : DeedOk w d 9 1 1 1 64 := by
 obtain ⟨-, -, -, b5, b6, b9, b10, b11, b13⟩ := h
 refine ⟨_, _, rfl, fun x v ts w1 hk g hx ht h1 h2 => ?_⟩
 obtain ⟨a, rfl⟩ := uno_of (show ts.length = 1 by omega)
 rw [hk]
 exact one1_c x v a d.a9 _ _ _ _ w1 (b9.bs g) hx ht (fun w2 g2 => deed3_c x a w2 (hx.bs g2) ((ht.2 a (by simp)).bs g2))
theorem dk10 (w : World) (d : Dad) (h : DadAt w d) : DeedOk w d 10 1 1 0 0 := by
 obtain ⟨-, -, -, b5, b6, b9, b10, b11, b13⟩ := h
 refine ⟨_, _, rfl, fun x v ts w1 hk g hx ht h1 h2 => ?_⟩
 obtain ⟨a, rfl⟩ := uno_of (show ts.length = 1 by omega)
 rw [hk]
 exact one1_c x v a d.a10 _ _ _ _ w1 (b10.bs g) hx ht (fun w2 g2 => deed4_c x a w2 (hx.bs g2) ((ht.2 a (by simp)).bs g2))
theorem dk11 (w : World) (d : Dad) (h : DadAt w d) : DeedOk w d 11 1 1 0 0 := by
 obtain ⟨-, -, -, b5, b6, b9, b10, b11, b13⟩ := h
 refine ⟨_, _, rfl, fun x v ts w1 hk g hx ht h1 h2 => ?_⟩
 obtain ⟨a, rfl⟩ := uno_of (show ts.length = 1 by omega)
 rw [hk]
 exact one1_c x v a d.a11 _ _ _ _ w1 (b11.bs g) hx ht (fun w2 g2 => deed5_c x a w2 (hx.bs g2) ((ht.2 a (by simp)).bs g2))
theorem dk13 (w : World) (d : Dad) (h : DadAt w d) : DeedOk w d 13 1 1 0 3 := by
 obtain ⟨-, -, -, b5, b6, b9, b10, b11, b13⟩ := h
 refine ⟨_, _, rfl, fun x v ts w1 hk g hx ht h1 h2 => ?_⟩
 obtain ⟨a, rfl⟩ := uno_of (show ts.length = 1 by omega)
 rw [hk]
 exact one1_c x v a d.a13 _ _ _ _ w1 (b13.bs g) hx ht (fun w2 g2 => deed6_c x a w2 (hx.bs g2) ((ht.2 a (by simp)).bs g2))
theorem dk8 (w : World) (d : Dad) : DeedOk w d 8 2 2 1 8 := by
 refine ⟨_, _, rfl, fun x v ts w1 hk _ _ ht h1 h2 => ?_⟩
 obtain ⟨a, b, rfl⟩ := duo_of (show ts.length = 2 by omega)
 rw [hk]
 exact deed7_c x v a b w1 ht
theorem dk12 (w : World) (d : Dad) : DeedOk w d 12 1 4 0 3 := by
 refine ⟨_, _, rfl, fun x v ts w1 hk _ _ ht _ _ => ?_⟩
 rw [hk]
 exact deed8_c x v ts w1 ht
theorem deed_at (w : World) (d : Dad) (h : DadAt w d) (k : Nat) (hk : k < 14) : (dRow k = none ∧ (deedRows d)[k]? = some z5) ∨ ∃ a b c e, dRow k = some (a, b, c, e) ∧ DeedOk w d k a b c e := by
 rcases (show k = 0 ∨ k = 1 ∨ k = 2 ∨ k = 3 ∨ k = 4 ∨ k = 5 ∨ k = 6 ∨ k = 7 ∨ k = 8 ∨ k = 9 ∨ k = 10 ∨ k = 11 ∨ k = 12 ∨ k = 13 by omega) with rfl | rfl | rfl | rfl | rfl | rfl | rfl | rfl | rfl | rfl | rfl | rfl | rfl | rfl
 ·exact .inl ⟨rfl, rfl⟩
 ·exact .inl ⟨rfl, rfl⟩
 ·exact .inl ⟨rfl, rfl⟩
 ·exact .inr ⟨_, _, _, _, rfl, dk3 w d h⟩
 ·exact .inr ⟨_, _, _, _, rfl, dk4 w d h⟩
 ·exact .inr ⟨_, _, _, _, rfl, dk5 w d h⟩
 ·exact .inr ⟨_, _, _, _, rfl, dk6 w d h⟩
 ·exact .inr ⟨_, _, _, _, rfl, dk7 w d h⟩
 ·exact .inr ⟨_, _, _, _, rfl, dk8 w d⟩
 ·exact .inr ⟨_, _, _, _, rfl, dk9 w d h⟩
 ·exact .inr ⟨_, _, _, _, rfl, dk10 w d h⟩
 ·exact .inr ⟨_, _, _, _, rfl, dk11 w d h⟩
 ·exact .inr ⟨_, _, _, _, rfl, dk12 w d⟩
 ·exact .inr ⟨_, _, _, _, rfl, dk13 w d h⟩
end Go.Proofs.YtmipoeanpnnjoaaGreat

/-! Contract: what a node comes to, of what it takes in. -/
namespace Go.Dd
open Go Go.RowKit
set_option maxRecDepth 100000
section
variable {P : Program} {n : Nat} {E : Env} {w : World} {ty t s : TypeId} {x y : Operand} {v : Value}
theorem Ex.nilFn {f : Fn} {p q : Array Value} (hu : ∃ a b c, P.underlying t = some (.func a b c)) (hx : ev E x = some (.func f p q)) (hy : ev E y = some .nilFunc) : Ex P n E (.binOp .eql t x y s) ty w (.bool false) := fun a ha _ _ _ _ => by
 obtain ⟨u1, u2, u3, hu⟩ := hu
 have hg : eqGuard .eql t x y (.func f p q) .nilFunc = pure () := rfl
 have hb : binOp .eql t (.func f p q) .nilFunc = (do pure (.bool (← Op.equal t (.func f p q) .nilFunc))) := rfl
 have hr : (Op.equalIn (9999 + 1) t (.func f p q) .nilFunc).run P w = .ok false w := by
  unfold Op.equalIn
  simp [run_underlying hu]
 simp [execOp, ha.ev hx, ha.ev hy, hg, hb, Op.equal, Op.maxDepth, hr]
theorem Ex.nilFy (hu : ∃ a b c, P.underlying t = some (.func a b c)) (hx : ev E x = some .nilFunc) (hy : ev E y = some .nilFunc) : Ex P n E (.binOp .eql t x y s) ty w (.bool true) := fun a ha _ _ _ _ => by
 obtain ⟨u1, u2, u3, hu⟩ := hu
 have hg : eqGuard .eql t x y .nilFunc .nilFunc = pure () := rfl
 have hb : binOp .eql t .nilFunc .nilFunc = (do pure (.bool (← Op.equal t .nilFunc .nilFunc))) := rfl
 have hr : (Op.equalIn (9999 + 1) t .nilFunc .nilFunc).run P w = .ok true w := by
  unfold Op.equalIn
  simp [run_underlying hu]
 simp [execOp, ha.ev hx, ha.ev hy, hg, hb, Op.equal, Op.maxDepth, hr]
end
end Go.Dd
namespace Go.Proofs.YtmipoeanpnnjoaaGreat
open Go Go.Dd Go.RowKit
set_option maxRecDepth 100000

theorem un_deed : ∃ a b c, Tryz.prog.underlying 48 = some (.func a b c) := ⟨_, _, _, Tryz.underlying48⟩
/-- Is a node done? -/
def doOk (x : N5) (ts : List T4) : Bool := match dRow x.k.toNat with
 | some (a, b, c, d) => decide (ts.length = x.i.length) && decide (a ≤ (ts.length : Int)) && decide ((ts.length : Int) ≤ b) && decide (c ≤ x.n) && decide (x.n ≤ d) && fldB x.k x.s x.p
 | none => false
def doE (x : N5) (ts : List T4) : Int := if doOk x ts then actE x.k x ts else 1
theorem dRow_big {k : Nat} (h : 14 ≤ k) : dRow k = none := by
 unfold dRow
 split <;> first | rfl | omega
theorem do_c (x : N5) (v : Value) (ts : List T4) (w : World) (hx : N5.at w x) (h : Tens w v ts) :
  Fnc Tryz.prog 16 [x.v, v] w (fun r w' => Below w.heap.size w w' ∧ AnsD w w' r (doE x ts) (actS x.k x ts) (actL x.k x ts)) := by
 obtain ⟨W, hW⟩ : ∃ W, W = w := ⟨_, rfl⟩
 rw [← hW] at hx h
 rw [← hW]
 have hB := Below.refl W.heap.size W
 have h_i := hx.i
 have h_s := hx.s
 have h_v := h.1
 have k8 := x.k.isLt
 refine Fnc.enter (n := 70) Tryz.func16 (by kernel_rfl) rfl rfl rfl <| Cw.seq <| Cw.region <| Lw.boxV (cs := x.cells) rfl rfl rfl ?_
 rintro A_x w eA_x b_x hn -
 replace hB := hB.bs hn
 replace h_i := h_i.bs hn
 replace h_s := h_s.bs hn
 replace h_v := h_v.bs hn
 clear hn
 have yx := blk_lt b_x
 refine Lw.newA it_29 rfl ?_
 rintro A_r w eA_r b_r hn -
 replace hB := hB.bs hn
 replace h_i := h_i.bs hn
 replace h_s := h_s.bs hn
 replace h_v := h_v.bs hn
 replace b_x := b_x.bs hn
 clear hn
 refine Lw.val (Ex.assign rfl) rfl <| Lw.nil <| Pw.thenN <| Cw.out <| Cw.seq <| Cw.region ?_
 have z0 := below_size hB
 have yr := blk_lt b_r
 refine Lw.callF rfl rfl (deeds_c w) ?_
 rintro _ w1 ⟨hn1, d, rfl, hD⟩
 have b_x := b_x.bs hn1
 have b_r := b_r.bs hn1
 have z1 := hn1.size
 have hB := hB.trans (hn1.mono z0)
 refine Lw.valW (Xw.new it_deeds) rfl ?_
 rintro _ w2 ⟨rfl, b_all, hn2, hz2⟩
 have b_x := b_x.bs hn2
 have b_r := b_r.bs hn2
 have hones : (deedRows d).flatten.all (·.oneCell') = true := rfl
 obtain ⟨A_all, eAll⟩ : ∃ A_all, A_all = w1.heap.size := ⟨_, rfl⟩
 rw [← eAll] at b_all
 rw [← eAll]
 refine Lw.unit (Xu.stA (cs := (deedRows d).flatten) (k := 70) (by kernel_rfl) rfl rfl rfl hones b_all rfl) ?_
 rintro w3 ⟨b_all, hg3, hz3⟩
 have hn13 : Below w1.heap.size w1 w3 := hn2.grown hg3 hn2.size (by rintro _ ⟨⟩; omega)
 have b_x := b_x.by hg3 (by rintro ⟨⟩; omega)
 have b_r := b_r.by hg3 (by rintro ⟨⟩; omega)
 have hB := hB.trans (hn13.mono (by omega))
 have z3 := hn13.size
 refine Lw.nil <| Pw.thenN <| Cw.out <| Cw.seq <| Cw.seq <| Cw.region <| Lw.val (Ex.fieldAddr (q := 0) Tryz.underlying45 rfl (sz_43 _) rfl) rfl <| Lw.val (Ex.ldB (ag_43 _) rfl (by assumption) rfl) rfl ?_
 refine Lw.val (Ex.conv8_I us_43 un_3 rfl) rfl <| Lw.val (Ex.geq rfl rfl) rfl <| Lw.nil <| Pw.thenN <| Cw.out <| Cw.cond rfl ?_ ?_
 ·intro g
  have g := of_decide_eq_true g
  have hF : doOk x ts = false := (show doOk x ts = false by unfold doOk; rw [dRow_big (by omega)])
  have e1 : doE x ts = 1 := by unfold doE; rw [hF]; rfl
  refine Cw.seq <| Cw.region <| Lw.val (Ex.build (vs := []) (cs := [.slice none 0 0, .slice none 0 0]) rfl (by kernel_rfl)) rfl <| Lw.unit (Xu.stA (cs := [.slice none 0 0, .slice none 0 0]) (k := 2) (by kernel_rfl) rfl rfl rfl rfl b_r rfl) ?_
  rintro w9 ⟨b_r9, hg9, hz9⟩
  have hB9 := Below.grown hB hg9 (below_size hB) (by rintro _ ⟨⟩; omega)
  refine Lw.val (Ex.assign rfl) rfl <| Lw.nil <| Pw.thenN <| Cw.out <| Cw.ret <| Pw.thenR <| Pw.retCT rfl rfl rfl (by assumption) (Tryz.underlying29) rfl rfl rfl ?_
  rw [e1]
  exact ⟨hB9, ansD_no (by decide)⟩
 intro g
 have k14 : x.k.toNat < 14 := by have := of_decide_eq_false g; omega
 have hl70 : ∀ r ∈ deedRows d, r.length = 5 := fun r hr => by
  simp only [deedRows, List.mem_cons, List.not_mem_nil, or_false] at hr
  rcases hr with rfl | rfl | rfl | rfl | rfl | rfl | rfl | rfl | rfl | rfl | rfl | rfl | rfl | rfl <;> rfl
 have hpart : ∀ row, (deedRows d)[x.k.toNat]? = some row → (((deedRows d).flatten.drop (0 + x.k.toNat * 5)).take 5 = row ∧ row.length = 5) := fun row hr => by
  obtain ⟨hlt, rfl⟩ := List.getElem?_eq_some_iff.1 hr
  have e1 : (deedRows d).flatten = flw id (deedRows d) := by simp [flw]
  rw [e1, Nat.zero_add]
  exact ⟨flw_part (f := id) (k := 5) hl70 hlt, hl70 _ (List.getElem_mem hlt)⟩
 rcases deed_at w1 d hD x.k.toNat k14 with ⟨hdr, hrow⟩ | ⟨a, b, c, e, hdr, f, q, hrow, hcall⟩
 ·obtain ⟨hp, -⟩ := hpart _ hrow
  refine Cw.skip <| Pw.thenN <| Cw.out <| Cw.seq <| Cw.region <| Lw.val (Ex.fieldAddr (q := 0) Tryz.underlying45 rfl (sz_43 _) rfl) rfl <| Lw.val (Ex.ldB (ag_43 _) rfl (by assumption) rfl) rfl ?_
  refine Lw.val (Ex.idxB un_89 sz_88 rfl rfl x.k.toNat rfl k14) rfl <| Lw.val (Ex.ldAt (ds := z5) (k := 5) (ag_88 _) (sz_88 _) rfl rfl b_all hp) rfl <| Lw.valW (Xw.new it_88) rfl ?_
  rintro _ w4 ⟨rfl, b_d, hn4, hz4⟩
  have b_r := b_r.bs hn4
  refine Lw.unit (Xu.stA (cs := z5) (k := 5) (by kernel_rfl) rfl rfl rfl rfl b_d rfl) ?_
  rintro w5 ⟨b_d, hg5, hz5⟩
  have hB := (hB.trans (hn4.mono (by omega))).grown hg5 (by omega) (by rintro _ ⟨⟩; omega)
  have b_r := b_r.by hg5 (by rintro ⟨⟩; omega)
  refine Lw.nil <| Pw.thenN <| Cw.out <| Cw.seq <| Cw.seq <| Cw.region <| Lw.val (Ex.fieldAddr (q := 0) Tryz.underlying88 rfl (sz_48 _) rfl) rfl <| Lw.val (Ex.ldB (ag_48 _) rfl (by assumption) rfl) rfl ?_
  refine Lw.val (Ex.nilFy un_deed rfl rfl) rfl <| Lw.val (Ex.move rfl) rfl <| Lw.know 21 (v' := .bool true) rfl (congrArg Value.bool (rfl)) <| Lw.pass (dj := 21) rfl rfl rfl rfl <| Lw.pass (dj := 21) rfl rfl rfl rfl <| Lw.pass (dj := 21) rfl rfl rfl rfl <| Lw.pass (dj := 21) rfl rfl rfl rfl <| Lw.pass (dj := 21) rfl rfl rfl rfl <| Lw.pass (dj := 21) rfl rfl rfl rfl <| Lw.val (Ex.pickT rfl rfl) rfl <| Lw.val (Ex.move rfl) rfl <| Lw.pass (dj := 29) rfl rfl rfl rfl <| Lw.pass (dj := 29) rfl rfl rfl rfl <| Lw.pass (dj := 29) rfl rfl rfl rfl <| Lw.pass (dj := 29) rfl rfl rfl rfl <| Lw.pass (dj := 29) rfl rfl rfl rfl <| Lw.val (Ex.pickT rfl rfl) rfl <| Lw.val (Ex.move rfl) rfl <| Lw.pass (dj := 36) rfl rfl rfl rfl <| Lw.pass (dj := 36) rfl rfl rfl rfl <| Lw.pass (dj := 36) rfl rfl rfl rfl <| Lw.pass (dj := 36) rfl rfl rfl rfl <| Lw.pass (dj := 36) rfl rfl rfl rfl <| Lw.val (Ex.pickT rfl rfl) rfl <| Lw.val (Ex.move rfl) rfl <| Lw.pass (dj := 43) rfl rfl rfl rfl <| Lw.pass (dj := 43) rfl rfl rfl rfl <| Lw.pass (dj := 43) rfl rfl rfl rfl <| Lw.pass (dj := 43) rfl rfl rfl rfl <| Lw.pass (dj := 43) rfl rfl rfl rfl <| Lw.val (Ex.pickT rfl rfl) rfl <| Lw.val (Ex.move rfl) rfl <| Lw.pass (dj := 50) rfl rfl rfl rfl <| Lw.pass (dj := 50) rfl rfl rfl rfl <| Lw.pass (dj := 50) rfl rfl rfl rfl <| Lw.pass (dj := 50) rfl rfl rfl rfl <| Lw.pass (dj := 50) rfl rfl rfl rfl <| Lw.val (Ex.pickT rfl rfl) rfl <| Lw.val (Ex.move rfl) rfl <| Lw.pass (dj := 57) rfl rfl rfl rfl <| Lw.pass (dj := 57) rfl rfl rfl rfl <| Lw.pass (dj := 57) rfl rfl rfl rfl <| Lw.val (Ex.pickT rfl rfl) rfl <| Lw.nil <| Pw.thenN <| Cw.out <| Cw.condT rfl <| Cw.seq <| Cw.region ?_
  refine Lw.val (Ex.build (vs := []) (cs := [.slice none 0 0, .slice none 0 0]) rfl (by kernel_rfl)) rfl ?_
  have hF : doOk x ts = false := (show doOk x ts = false by unfold doOk; rw [hdr])
  have e1 : doE x ts = 1 := by unfold doE; rw [hF]; rfl
  refine Lw.unit (Xu.stA (cs := [.slice none 0 0, .slice none 0 0]) (k := 2) (by kernel_rfl) rfl rfl rfl rfl b_r rfl) ?_
  rintro w9 ⟨b_r9, hg9, hz9⟩
  have hB9 := Below.grown hB hg9 (below_size hB) (by rintro _ ⟨⟩; omega)
  refine Lw.val (Ex.assign rfl) rfl <| Lw.nil <| Pw.thenN <| Cw.out <| Cw.ret <| Pw.thenR <| Pw.retCT rfl rfl rfl (by assumption) (Tryz.underlying29) rfl rfl rfl ?_
  rw [e1]
  exact ⟨hB9, ansD_no (by decide)⟩
 obtain ⟨hp, -⟩ := hpart _ hrow
 have hok : doOk x ts = (decide (ts.length = x.i.length) && decide (a ≤ (ts.length : Int)) && decide ((ts.length : Int) ≤ b) && decide (c ≤ x.n) && decide (x.n ≤ e) && fldB x.k x.s x.p) := by unfold doOk; rw [hdr]
 refine Cw.skip <| Pw.thenN <| Cw.out <| Cw.seq <| Cw.region <| Lw.val (Ex.fieldAddr (q := 0) Tryz.underlying45 rfl (sz_43 _) rfl) rfl <| Lw.val (Ex.ldB (ag_43 _) rfl (by assumption) rfl) rfl ?_
 refine Lw.val (Ex.idxB un_89 sz_88 rfl rfl x.k.toNat rfl k14) rfl <| Lw.val (Ex.ldAt (ds := dv a b c e (fnOf f q)) (k := 5) (ag_88 _) (sz_88 _) rfl rfl b_all hp) rfl <| Lw.valW (Xw.new it_88) rfl ?_
 rintro _ w4 ⟨rfl, b_d, hn4, hz4⟩
 refine Lw.unit (Xu.stA (cs := dv a b c e (fnOf f q)) (k := 5) (by kernel_rfl) rfl rfl rfl rfl b_d rfl) ?_
 rintro w5 ⟨b_d, hg5, hz5⟩
 have hn35 : Below w3.heap.size w3 w5 := hn4.grown hg5 hn4.size (by rintro _ ⟨⟩; omega)
 have hB := hB.trans (hn35.mono (by omega))
 have b_r := b_r.bs hn35
 have b_x := b_x.bs hn35
 have z5 := hn35.size
 have h_v := h.1.bs hB
 have h_i := hx.i.bs hB
 have h_s := hx.s.bs hB
 refine Lw.nil <| Pw.thenN <| Cw.out <| Cw.seq <| Cw.seq <| Cw.region <| Lw.val (Ex.fieldAddr (q := 0) Tryz.underlying88 rfl (sz_48 _) rfl) rfl <| Lw.val (Ex.ldB (ag_48 _) rfl (by assumption) rfl) rfl ?_
 refine Lw.val (Ex.nilFn un_deed rfl rfl) rfl <| Lw.val (Ex.move rfl) rfl <| Lw.know 21 (v' := .bool false) rfl (congrArg Value.bool (rfl)) <| Lw.take (dj := 21) rfl rfl <| Lw.val (Ex.move rfl) rfl <| Lw.take (dj := 21) rfl rfl <| Lw.val (Ex.lenS st_25 rfl (by assumption)) rfl ?_
 refine Lw.take (dj := 21) rfl rfl <| Lw.val (Ex.fieldAddr (q := 0) Tryz.underlying45 rfl (sz_26 _) rfl) rfl <| Lw.take (dj := 21) rfl rfl <| Lw.val (Ex.ldB (ag_26 _) rfl (by assumption) rfl) rfl ?_
 refine Lw.take (dj := 21) rfl rfl <| Lw.val (Ex.lenS st_26 rfl (by assumption)) rfl ?_
 refine Lw.take (dj := 21) rfl rfl <| Lw.val (Ex.neq rfl rfl) rfl <| Lw.val (Ex.pickF rfl rfl) rfl <| Lw.val (Ex.move rfl) rfl ?_
 refine Lw.part 29 rfl ?_ ?_
 ·intro g1
  have g1 : ¬ ts.length = x.i.length := fun e => by rw [e] at g1; simp at g1
  refine Lw.pass (dj := 29) rfl rfl rfl rfl <| Lw.pass (dj := 29) rfl rfl rfl rfl <| Lw.pass (dj := 29) rfl rfl rfl rfl <| Lw.pass (dj := 29) rfl rfl rfl rfl <| Lw.pass (dj := 29) rfl rfl rfl rfl <| Lw.val (Ex.pickT rfl rfl) rfl <| Lw.val (Ex.move rfl) rfl <| Lw.pass (dj := 36) rfl rfl rfl rfl <| Lw.pass (dj := 36) rfl rfl rfl rfl <| Lw.pass (dj := 36) rfl rfl rfl rfl <| Lw.pass (dj := 36) rfl rfl rfl rfl <| Lw.pass (dj := 36) rfl rfl rfl rfl <| Lw.val (Ex.pickT rfl rfl) rfl <| Lw.val (Ex.move rfl) rfl <| Lw.pass (dj := 43) rfl rfl rfl rfl <| Lw.pass (dj := 43) rfl rfl rfl rfl <| Lw.pass (dj := 43) rfl rfl rfl rfl <| Lw.pass (dj := 43) rfl rfl rfl rfl <| Lw.pass (dj := 43) rfl rfl rfl rfl <| Lw.val (Ex.pickT rfl rfl) rfl <| Lw.val (Ex.move rfl) rfl <| Lw.pass (dj := 50) rfl rfl rfl rfl <| Lw.pass (dj := 50) rfl rfl rfl rfl <| Lw.pass (dj := 50) rfl rfl rfl rfl <| Lw.pass (dj := 50) rfl rfl rfl rfl <| Lw.pass (dj := 50) rfl rfl rfl rfl <| Lw.val (Ex.pickT rfl rfl) rfl <| Lw.val (Ex.move rfl) rfl <| Lw.pass (dj := 57) rfl rfl rfl rfl <| Lw.pass (dj := 57) rfl rfl rfl rfl <| Lw.pass (dj := 57) rfl rfl rfl rfl <| Lw.val (Ex.pickT rfl rfl) rfl <| Lw.nil <| Pw.thenN <| Cw.out <| Cw.condT rfl <| Cw.seq <| Cw.region <| Lw.val (Ex.build (vs := []) (cs := [.slice none 0 0, .slice none 0 0]) rfl (by kernel_rfl)) rfl ?_
  have hF : doOk x ts = false := by rw [hok, decide_eq_false g1]; rfl
  have e1 : doE x ts = 1 := by unfold doE; rw [hF]; rfl
  refine Lw.unit (Xu.stA (cs := [.slice none 0 0, .slice none 0 0]) (k := 2) (by kernel_rfl) rfl rfl rfl rfl b_r rfl) ?_
  rintro w9 ⟨b_r9, hg9, hz9⟩
  have hB9 := Below.grown hB hg9 (below_size hB) (by rintro _ ⟨⟩; omega)
  refine Lw.val (Ex.assign rfl) rfl <| Lw.nil <| Pw.thenN <| Cw.out <| Cw.ret <| Pw.thenR <| Pw.retCT rfl rfl rfl (by assumption) (Tryz.underlying29) rfl rfl rfl ?_
  rw [e1]
  exact ⟨hB9, ansD_no (by decide)⟩
 intro g1
 have g1 : ts.length = x.i.length := by simp at g1; omega
 refine Lw.take (dj := 29) rfl rfl <| Lw.val (Ex.move rfl) rfl <| Lw.take (dj := 29) rfl rfl <| Lw.val (Ex.lenS st_25 rfl (by assumption)) rfl ?_
 refine Lw.take (dj := 29) rfl rfl <| Lw.val (Ex.fieldAddr (q := 0) Tryz.underlying88 rfl (sz_3 _) rfl) rfl <| Lw.take (dj := 29) rfl rfl <| Lw.val (Ex.ldB (ag_3 _) rfl (by assumption) rfl) rfl ?_
 refine Lw.take (dj := 29) rfl rfl <| Lw.val (Ex.lss rfl rfl) rfl <| Lw.val (Ex.pickF rfl rfl) rfl <| Lw.val (Ex.move rfl) rfl ?_
 refine Lw.part 36 rfl ?_ ?_
 ·intro g2
  have g2 : ¬ a ≤ (ts.length : Int) := by have := of_decide_eq_true g2; omega
  refine Lw.pass (dj := 36) rfl rfl rfl rfl <| Lw.pass (dj := 36) rfl rfl rfl rfl <| Lw.pass (dj := 36) rfl rfl rfl rfl <| Lw.pass (dj := 36) rfl rfl rfl rfl <| Lw.pass (dj := 36) rfl rfl rfl rfl <| Lw.val (Ex.pickT rfl rfl) rfl <| Lw.val (Ex.move rfl) rfl <| Lw.pass (dj := 43) rfl rfl rfl rfl <| Lw.pass (dj := 43) rfl rfl rfl rfl <| Lw.pass (dj := 43) rfl rfl rfl rfl <| Lw.pass (dj := 43) rfl rfl rfl rfl <| Lw.pass (dj := 43) rfl rfl rfl rfl <| Lw.val (Ex.pickT rfl rfl) rfl <| Lw.val (Ex.move rfl) rfl <| Lw.pass (dj := 50) rfl rfl rfl rfl <| Lw.pass (dj := 50) rfl rfl rfl rfl <| Lw.pass (dj := 50) rfl rfl rfl rfl <| Lw.pass (dj := 50) rfl rfl rfl rfl <| Lw.pass (dj := 50) rfl rfl rfl rfl <| Lw.val (Ex.pickT rfl rfl) rfl <| Lw.val (Ex.move rfl) rfl <| Lw.pass (dj := 57) rfl rfl rfl rfl <| Lw.pass (dj := 57) rfl rfl rfl rfl <| Lw.pass (dj := 57) rfl rfl rfl rfl <| Lw.val (Ex.pickT rfl rfl) rfl <| Lw.nil <| Pw.thenN <| Cw.out <| Cw.condT rfl <| Cw.seq <| Cw.region <| Lw.val (Ex.build (vs := []) (cs := [.slice none 0 0, .slice none 0 0]) rfl (by kernel_rfl)) rfl ?_
  have hF : doOk x ts = false := by rw [hok, decide_eq_false g2]; simp
  have e1 : doE x ts = 1 := by unfold doE; rw [hF]; rfl
  refine Lw.unit (Xu.stA (cs := [.slice none 0 0, .slice none 0 0]) (k := 2) (by kernel_rfl) rfl rfl rfl rfl b_r rfl) ?_
  rintro w9 ⟨b_r9, hg9, hz9⟩
  have hB9 := Below.grown hB hg9 (below_size hB) (by rintro _ ⟨⟩; omega)
  refine Lw.val (Ex.assign rfl) rfl <| Lw.nil <| Pw.thenN <| Cw.out <| Cw.ret <| Pw.thenR <| Pw.retCT rfl rfl rfl (by assumption) (Tryz.underlying29) rfl rfl rfl ?_
  rw [e1]
  exact ⟨hB9, ansD_no (by decide)⟩
 intro g2
 have g2 : a ≤ (ts.length : Int) := by have := of_decide_eq_false g2; omega
 refine Lw.take (dj := 36) rfl rfl <| Lw.val (Ex.move rfl) rfl <| Lw.take (dj := 36) rfl rfl <| Lw.val (Ex.lenS st_25 rfl (by assumption)) rfl ?_
 refine Lw.take (dj := 36) rfl rfl <| Lw.val (Ex.fieldAddr (q := 0) Tryz.underlying88 rfl (sz_3 _) rfl) rfl <| Lw.take (dj := 36) rfl rfl <| Lw.val (Ex.ldB (ag_3 _) rfl (by assumption) rfl) rfl ?_
 refine Lw.take (dj := 36) rfl rfl <| Lw.val (Ex.gtr rfl rfl) rfl <| Lw.val (Ex.pickF rfl rfl) rfl <| Lw.val (Ex.move rfl) rfl ?_
 refine Lw.part 43 rfl ?_ ?_
 ·intro g3
  have g3 : ¬ (ts.length : Int) ≤ b := by have := of_decide_eq_true g3; omega
  refine Lw.pass (dj := 43) rfl rfl rfl rfl <| Lw.pass (dj := 43) rfl rfl rfl rfl <| Lw.pass (dj := 43) rfl rfl rfl rfl <| Lw.pass (dj := 43) rfl rfl rfl rfl <| Lw.pass (dj := 43) rfl rfl rfl rfl <| Lw.val (Ex.pickT rfl rfl) rfl <| Lw.val (Ex.move rfl) rfl <| Lw.pass (dj := 50) rfl rfl rfl rfl <| Lw.pass (dj := 50) rfl rfl rfl rfl <| Lw.pass (dj := 50) rfl rfl rfl rfl <| Lw.pass (dj := 50) rfl rfl rfl rfl <| Lw.pass (dj := 50) rfl rfl rfl rfl <| Lw.val (Ex.pickT rfl rfl) rfl <| Lw.val (Ex.move rfl) rfl <| Lw.pass (dj := 57) rfl rfl rfl rfl <| Lw.pass (dj := 57) rfl rfl rfl rfl <| Lw.pass (dj := 57) rfl rfl rfl rfl <| Lw.val (Ex.pickT rfl rfl) rfl <| Lw.nil <| Pw.thenN <| Cw.out <| Cw.condT rfl <| Cw.seq <| Cw.region <| Lw.val (Ex.build (vs := []) (cs := [.slice none 0 0, .slice none 0 0]) rfl (by kernel_rfl)) rfl ?_
  have hF : doOk x ts = false := by rw [hok, decide_eq_false g3]; simp
  have e1 : doE x ts = 1 := by unfold doE; rw [hF]; rfl
  refine Lw.unit (Xu.stA (cs := [.slice none 0 0, .slice none 0 0]) (k := 2) (by kernel_rfl) rfl rfl rfl rfl b_r rfl) ?_
  rintro w9 ⟨b_r9, hg9, hz9⟩
  have hB9 := Below.grown hB hg9 (below_size hB) (by rintro _ ⟨⟩; omega)
  refine Lw.val (Ex.assign rfl) rfl <| Lw.nil <| Pw.thenN <| Cw.out <| Cw.ret <| Pw.thenR <| Pw.retCT rfl rfl rfl (by assumption) (Tryz.underlying29) rfl rfl rfl ?_
  rw [e1]
  exact ⟨hB9, ansD_no (by decide)⟩
 intro g3
 have g3 : (ts.length : Int) ≤ b := by have := of_decide_eq_false g3; omega
 refine Lw.take (dj := 43) rfl rfl <| Lw.val (Ex.fieldAddr (q := 0) Tryz.underlying45 rfl (sz_3 _) rfl) rfl <| Lw.take (dj := 43) rfl rfl <| Lw.val (Ex.ldB (ag_3 _) rfl (by assumption) rfl) rfl ?_
 refine Lw.take (dj := 43) rfl rfl <| Lw.val (Ex.fieldAddr (q := 0) Tryz.underlying88 rfl (sz_3 _) rfl) rfl <| Lw.take (dj := 43) rfl rfl <| Lw.val (Ex.ldB (ag_3 _) rfl (by assumption) rfl) rfl ?_
 refine Lw.take (dj := 43) rfl rfl <| Lw.val (Ex.lss rfl rfl) rfl <| Lw.val (Ex.pickF rfl rfl) rfl <| Lw.val (Ex.move rfl) rfl ?_
 refine Lw.part 50 rfl ?_ ?_
 ·intro g4
  have g4 : ¬ c ≤ x.n := by have := of_decide_eq_true g4; omega
  refine Lw.pass (dj := 50) rfl rfl rfl rfl <| Lw.pass (dj := 50) rfl rfl rfl rfl <| Lw.pass (dj := 50) rfl rfl rfl rfl <| Lw.pass (dj := 50) rfl rfl rfl rfl <| Lw.pass (dj := 50) rfl rfl rfl rfl <| Lw.val (Ex.pickT rfl rfl) rfl <| Lw.val (Ex.move rfl) rfl <| Lw.pass (dj := 57) rfl rfl rfl rfl <| Lw.pass (dj := 57) rfl rfl rfl rfl <| Lw.pass (dj := 57) rfl rfl rfl rfl <| Lw.val (Ex.pickT rfl rfl) rfl <| Lw.nil <| Pw.thenN <| Cw.out <| Cw.condT rfl <| Cw.seq <| Cw.region <| Lw.val (Ex.build (vs := []) (cs := [.slice none 0 0, .slice none 0 0]) rfl (by kernel_rfl)) rfl ?_
  have hF : doOk x ts = false := by rw [hok, decide_eq_false g4]; simp
  have e1 : doE x ts = 1 := by unfold doE; rw [hF]; rfl
  refine Lw.unit (Xu.stA (cs := [.slice none 0 0, .slice none 0 0]) (k := 2) (by kernel_rfl) rfl rfl rfl rfl b_r rfl) ?_
  rintro w9 ⟨b_r9, hg9, hz9⟩
  have hB9 := Below.grown hB hg9 (below_size hB) (by rintro _ ⟨⟩; omega)
  refine Lw.val (Ex.assign rfl) rfl <| Lw.nil <| Pw.thenN <| Cw.out <| Cw.ret <| Pw.thenR <| Pw.retCT rfl rfl rfl (by assumption) (Tryz.underlying29) rfl rfl rfl ?_
  rw [e1]
  exact ⟨hB9, ansD_no (by decide)⟩
 intro g4
 have g4 : c ≤ x.n := by have := of_decide_eq_false g4; omega
 refine Lw.take (dj := 50) rfl rfl <| Lw.val (Ex.fieldAddr (q := 0) Tryz.underlying45 rfl (sz_3 _) rfl) rfl <| Lw.take (dj := 50) rfl rfl <| Lw.val (Ex.ldB (ag_3 _) rfl (by assumption) rfl) rfl ?_
 refine Lw.take (dj := 50) rfl rfl <| Lw.val (Ex.fieldAddr (q := 0) Tryz.underlying88 rfl (sz_3 _) rfl) rfl <| Lw.take (dj := 50) rfl rfl <| Lw.val (Ex.ldB (ag_3 _) rfl (by assumption) rfl) rfl ?_
 refine Lw.take (dj := 50) rfl rfl <| Lw.val (Ex.gtr rfl rfl) rfl <| Lw.val (Ex.pickF rfl rfl) rfl <| Lw.val (Ex.move rfl) rfl ?_
 refine Lw.part 57 rfl ?_ ?_
 ·intro g5
  have g5 : ¬ x.n ≤ e := by have := of_decide_eq_true g5; omega
  refine Lw.pass (dj := 57) rfl rfl rfl rfl <| Lw.pass (dj := 57) rfl rfl rfl rfl <| Lw.pass (dj := 57) rfl rfl rfl rfl <| Lw.val (Ex.pickT rfl rfl) rfl <| Lw.nil <| Pw.thenN <| Cw.out <| Cw.condT rfl <| Cw.seq <| Cw.region <| Lw.val (Ex.build (vs := []) (cs := [.slice none 0 0, .slice none 0 0]) rfl (by kernel_rfl)) rfl ?_
  have hF : doOk x ts = false := by rw [hok, decide_eq_false g5]; simp
  have e1 : doE x ts = 1 := by unfold doE; rw [hF]; rfl
  refine Lw.unit (Xu.stA (cs := [.slice none 0 0, .slice none 0 0]) (k := 2) (by kernel_rfl) rfl rfl rfl rfl b_r rfl) ?_
  rintro w9 ⟨b_r9, hg9, hz9⟩
  have hB9 := Below.grown hB hg9 (below_size hB) (by rintro _ ⟨⟩; omega)
  refine Lw.val (Ex.assign rfl) rfl <| Lw.nil <| Pw.thenN <| Cw.out <| Cw.ret <| Pw.thenR <| Pw.retCT rfl rfl rfl (by assumption) (Tryz.underlying29) rfl rfl rfl ?_
  rw [e1]
  exact ⟨hB9, ansD_no (by decide)⟩
 intro g5
 have g5 : x.n ≤ e := by have := of_decide_eq_false g5; omega
 refine Lw.take (dj := 57) rfl rfl <| Lw.val (Ex.ldA (k := 5) (ag_45 _) (sz_45 _) rfl rfl b_x) rfl <| Lw.take (dj := 57) rfl rfl <| Lw.callF rfl rfl (fields_c x w5 (hx.bs hB)) ?_
 rintro _ w6 ⟨rfl, hn6⟩
 have hB := hB.trans (hn6.mono (by omega))
 have b_r := b_r.bs hn6
 have b_x := b_x.bs hn6
 have b_d := b_d.bs hn6
 have z6 := hn6.size
 refine Lw.take (dj := 57) rfl rfl <| Lw.val (Ex.not rfl) rfl <| Lw.val (Ex.pickF rfl rfl) rfl <| Lw.nil <| Pw.thenN <| Cw.out <| Cw.cond rfl ?_ ?_
 ·intro g6
  have g6 : fldB x.k x.s x.p = false := by simpa using g6
  have hF : doOk x ts = false := by rw [hok, g6, Bool.and_false]
  have e1 : doE x ts = 1 := by unfold doE; rw [hF]; rfl
  refine Cw.seq <| Cw.region <| Lw.val (Ex.build (vs := []) (cs := [.slice none 0 0, .slice none 0 0]) rfl (by kernel_rfl)) rfl <| Lw.unit (Xu.stA (cs := [.slice none 0 0, .slice none 0 0]) (k := 2) (by kernel_rfl) rfl rfl rfl rfl b_r rfl) ?_
  rintro w9 ⟨b_r9, hg9, hz9⟩
  have hB9 := Below.grown hB hg9 (below_size hB) (by rintro _ ⟨⟩; omega)
  refine Lw.val (Ex.assign rfl) rfl <| Lw.nil <| Pw.thenN <| Cw.out <| Cw.ret <| Pw.thenR <| Pw.retCT rfl rfl rfl (by assumption) (Tryz.underlying29) rfl rfl rfl ?_
  rw [e1]
  exact ⟨hB9, ansD_no (by decide)⟩
 intro g6
 have g6 : fldB x.k x.s x.p = true := by simpa using g6
 have e0 : doE x ts = actE x.k x ts := by
  unfold doE
  rw [hok, decide_eq_true g1, decide_eq_true g2, decide_eq_true g3, decide_eq_true g4, decide_eq_true g5, g6]; rfl
 have hcl := hcall x v ts w6 (by simp) (hn13.trans ((hn35.trans (hn6.mono z5)).mono z3)) (hx.bs hB) (h.bs hB) g2 g3
 rw [← e0] at hcl
 refine Cw.skip <| Pw.thenN <| Cw.out <| Cw.seq <| Cw.region <| Lw.val (Ex.fieldAddr (q := 0) Tryz.underlying88 rfl (sz_48 _) rfl) rfl <| Lw.val (Ex.ldB (ag_48 _) rfl (by assumption) rfl) rfl ?_
 refine Lw.val (Ex.ldA (k := 5) (ag_45 _) (sz_45 _) rfl rfl b_x) rfl <| Lw.val (Ex.move rfl) rfl <| Lw.callV (p := []) (q := q) rfl rfl rfl (hcl) ?_
 rintro r w7 ⟨hn7, hA⟩
 obtain ⟨rx, ry, rfl, r1⟩ := hA.ones
 have z7 := hn7.size
 have hB := hB.trans (hn7.mono (by omega))
 have b_r := b_r.bs hn7
 refine Lw.val (Ex.extract (i := 0) rfl rfl) rfl <| Lw.val (Ex.extract (i := 1) rfl rfl) rfl <| Lw.unit (Xu.stA (cs := [rx, ry]) (k := 2) (by kernel_rfl) rfl rfl rfl r1 b_r rfl) ?_
 rintro w8 ⟨b_r8, hg8, hz8⟩
 have hA8 := hA.by hg8 (by omega)
 have hB8 := hB.grown hg8 (by omega) (by rintro _ ⟨⟩; omega)
 refine Lw.val (Ex.assign rfl) rfl <| Lw.nil <| Pw.thenN <| Cw.out <| Cw.ret <| Pw.retCT rfl rfl rfl (by assumption) (Tryz.underlying29) rfl rfl rfl ?_
 exact ⟨hB8, hA8.low (by omega)⟩
end Go.Proofs.YtmipoeanpnnjoaaGreat

/-! Contracts: what all nodes come to; the last one. -/
namespace Go.Proofs.YtmipoeanpnnjoaaGreat
open Go Go.Dd Go.RowKit
set_option maxRecDepth 100000

theorem fits_c (t : T4) (v : Value) (s : List Int) (w : World) (ht : t.at w) (hv : SlT (Value.int .i64) w v s) :
  Fnc Tryz.prog 32 [t.v, v] w (fun r w' => r = .bool (tok t.s t.l && decide (t.s = s)) ∧ Below w.heap.size w w') := by
 have hB := Below.refl w.heap.size w
 refine Fnc.enter (n := 13) Tryz.func32 (by kernel_rfl) rfl rfl rfl <| Cw.seq <| Cw.region <| Lw.boxV (cs := [t.x, t.y]) rfl rfl rfl ?_
 rintro A_t w eA_t b_t hn -
 replace hB := hB.bs hn
 replace ht := ht.bs hn
 replace hv := hv.bs hn
 clear hn
 refine Lw.val (Ex.assign rfl) rfl <| Lw.nil <| Pw.thenN <| Cw.out <| Cw.seq <| Cw.region <| Lw.val (Ex.ldA (ag_29 _) (sz_29 _) rfl rfl (by assumption)) rfl ?_
 refine Lw.callF rfl rfl (tcheck_c t.x t.y t.s t.l w ht.1 ht.2) ?_
 rintro _ w1 ⟨rfl, hn⟩
 have hB := bt hB hn
 have b_t := b_t.bs hn
 refine Lw.val (Ex.move rfl) rfl ?_
 refine Lw.part 7 rfl ?_ ?_
 ·intro g
  refine Lw.take (dj := 7) rfl rfl <| Lw.val (Ex.fieldAddr (q := 0) Tryz.underlying29 rfl (sz_26 _) rfl) rfl <| Lw.take (dj := 7) rfl rfl <| Lw.val (Ex.ldB (ag_26 _) rfl (by assumption) rfl) rfl ?_
  refine Lw.take (dj := 7) rfl rfl <| Lw.val (Ex.move rfl) rfl <| Lw.take (dj := 7) rfl rfl <| Lw.callF rfl rfl (equalInts_c t.x v t.s s w1 (ht.1.bs hn) (hv.bs hn)) ?_
  rintro _ w2 ⟨rfl, hn2⟩
  refine Lw.val (Ex.pickT rfl rfl) rfl <| Lw.val (Ex.assign rfl) rfl <| Lw.nil <| Pw.thenN <| Cw.out <| Cw.ret <| Pw.ret1 rfl rfl ?_
  exact ⟨by rw [g, Bool.true_and], bt hB hn2⟩
 intro g
 refine Lw.pass (dj := 7) rfl rfl rfl rfl <| Lw.pass (dj := 7) rfl rfl rfl rfl <| Lw.pass (dj := 7) rfl rfl rfl rfl <| Lw.pass (dj := 7) rfl rfl rfl rfl <| Lw.val (Ex.pickF rfl rfl) rfl <| Lw.val (Ex.assign rfl) rfl <| Lw.nil <| Pw.thenN <| Cw.out <| Cw.ret <| Pw.ret1 rfl rfl ?_
 exact ⟨by rw [g]; rfl, hB⟩
/-- A tensor of its own, clipped. -/
theorem twin_c (t : T4) (w : World) (ht : t.at w) (h1 : t.s.length ≤ 1000000) (h2 : t.l.length ≤ 1000000) :
  Fnc Tryz.prog 33 [t.v] w (fun r w' => Below w.heap.size w w' ∧ ∃ x y, r = .agg [x, y].toArray ∧ MadeK w w' x y t.s t.l) := by
 obtain ⟨W, hW⟩ : ∃ W, W = w := ⟨_, rfl⟩
 rw [← hW] at ht
 rw [← hW]
 have hB := Below.refl W.heap.size W
 refine Fnc.enter (n := 12) Tryz.func33 (by kernel_rfl) rfl rfl rfl <| Cw.seq <| Cw.region <| Lw.boxV (cs := [t.x, t.y]) rfl rfl rfl ?_
 rintro A_t w eA_t b_t hn -
 replace hB := hB.bs hn
 clear hn
 have yx := blk_lt b_t
 refine Lw.newA it_29 rfl ?_
 rintro A_r w eA_r b_r hn -
 replace hB := hB.bs hn
 replace b_t := b_t.bs hn
 clear hn
 refine Lw.nil <| Pw.thenN <| Cw.out <| Cw.seq ?_
 have z0 := below_size hB
 have yr := blk_lt b_r
 refine Cw.any mixed (fun w2 hd _ => ?_)
 have hB2 := hB.trans (hd.mono z0)
 have b_t2 := b_t.bs hd
 refine Aw.cls (fun w' => Blk w' A_t 29 [t.x, t.y]) (fun hC => ?_) (b_t2)
 refine AwC.take (i := 0) (NoP.thn NoP.ret) rfl (by kernel_rfl) (by kernel_rfl) (by kernel_rfl) (fun w1 hc => Ex.fieldAddr (q := 0) Tryz.underlying29 rfl (sz_26 _) rfl) rfl <| AwC.take (i := 1) (NoP.thn NoP.ret) rfl (by kernel_rfl) (by kernel_rfl) (by kernel_rfl) (fun w1 hc => Ex.ldB (ag_26 _) rfl hc rfl) rfl <| AwC.take (i := 4) (NoP.thn NoP.ret) rfl (by kernel_rfl) (by kernel_rfl) (by kernel_rfl) (fun w1 hc => Ex.fieldAddr (q := 0) Tryz.underlying29 rfl (sz_27 _) rfl) rfl <| AwC.take (i := 5) (NoP.thn NoP.ret) rfl (by kernel_rfl) (by kernel_rfl) (by kernel_rfl) (fun w1 hc => Ex.ldB (ag_27 _) rfl hc rfl) rfl <| AwC.only (by assumption) (i := 2) (by kernel_rfl) rfl ?_
 refine Lw.callF rfl rfl (clone_c t.x t.s w2 (ht.1.bs hB2) (by omega)) ?_
 rintro x w3 ⟨o_x, hn3⟩
 have xlt := (KRow.clip o_x).lt
 have z2 := hd.size
 have z3 := hn3.size
 have hB3 := hB2.trans (hn3.mono (by omega))
 have b_t3 := b_t2.bs hn3
 refine AwC.back <| AwC.only (by assumption) (i := 3) (by kernel_rfl) rfl ?_
 refine Lw.callF rfl rfl (clip_c x t.s w3 (own_slT o_x)) ?_
 rintro _ w4 ⟨rfl, hn4⟩
 have z4 := hn4.size
 have hB4 := hB3.trans (hn4.mono (by omega))
 have b_t4 := b_t3.bs hn4
 refine AwC.back <| AwC.only (by assumption) (i := 6) (by kernel_rfl) rfl ?_
 refine Lw.callF rfl rfl (clone32_c t.y t.l w4 (ht.2.bs hB4) (by omega)) ?_
 rintro y w5 ⟨o_y, hn5⟩
 have z5 := hn5.size
 have hB5 := hB4.trans (hn5.mono (by omega))
 have b_t5 := b_t4.bs hn5
 refine AwC.back <| AwC.only (by assumption) (i := 7) (by kernel_rfl) rfl ?_
 refine Lw.callF rfl rfl (clip32_c y t.l w5 (own_slT o_y)) ?_
 rintro _ w6 ⟨rfl, hn6⟩
 have z6 := hn6.size
 have hB6 := hB5.trans (hn6.mono (by omega))
 have b_t6 := b_t5.bs hn6
 have k_x := (KRow.clip o_x).bs (hn4.trans ((hn5.trans (hn6.mono z5)).mono z4))
 have k_y := (KRow.clip o_y).bs hn6
 have k1 : [clip x, clip y].all (·.oneCell') = true := by rw [List.all_cons, List.all_cons, k_x.slT.one', k_y.slT.one']; rfl
 refine AwC.back <| AwC.only (by assumption) (i := 8) (by kernel_rfl) rfl ?_
 refine Lw.val (Ex.build (vs := [(0, clip x), (1, clip y)]) (cs := [clip x, clip y]) rfl (bt_ten _ _ k_x.slT.one k_y.slT.one)) rfl <| AwC.back <| AwC.only (by assumption) (i := 9) (by kernel_rfl) rfl ?_
 have b_r6 := (((((b_r.bs hd).bs hn3).bs hn4).bs hn5).bs hn6)
 refine Lw.unit (Xu.stA (cs := [clip x, clip y]) (k := 2) (by kernel_rfl) rfl rfl rfl k1 b_r6 rfl) ?_
 rintro w7 ⟨b_r7, hg, hz⟩
 have b_t7 := b_t6.by hg (fun e => by have := Option.some.inj e; omega)
 have hB7 := hB6.grown hg (by omega) (by rintro _ ⟨⟩; omega)
 have k_x7 := k_x.heap fun b e => hg.block b (k_x.lt b e).2 (fun e2 => by have := (k_x.lt b e).1; have := Option.some.inj e2; omega)
 have k_y7 := k_y.heap fun b e => hg.block b (k_y.lt b e).2 (fun e2 => by have := (k_y.lt b e).1; have := Option.some.inj e2; omega)
 have m : MadeK W w7 (clip x) (clip y) t.s t.l := ⟨k_x7.mono (by omega), k_y7.mono (by omega), fun b e1 e2 => by have := xlt b e2; have := (k_y.lt b e1).1; omega⟩
 refine AwC.back <| AwC.done (by assumption) (by kernel_rfl) ?_
 refine Pw.thenN <| Cw.out <| Cw.ret <| Pw.retC rfl rfl (by assumption) (Tryz.underlying29) rfl rfl rfl ?_
 exact ⟨hB7, _, _, rfl, m⟩
end Go.Proofs.YtmipoeanpnnjoaaGreat

/-! Plain law: what all nodes of a graph come to. -/
namespace Go.Proofs.YtmipoeanpnnjoaaGreat
open Go Go.Dd Go.RowKit
set_option maxRecDepth 100000

abbrev PV := List Int × List (BitVec 32)
def pv (t : T4) : PV := (t.s, t.l)
def tv (p : PV) : T4 := ⟨.slice none 0 0, .slice none 0 0, p.1, p.2⟩
def norm (t : T4) : T4 := tv (pv t)
theorem act_norm (k : BitVec 8) (x : N5) (ts : List T4) (h : ts.length ≤ 4) : actE k x (ts.map norm) = actE k x ts ∧ actS k x (ts.map norm) = actS k x ts ∧ actL k x (ts.map norm) = actL k x ts := by
 match ts, h with
 | [], _ => exact ⟨rfl, rfl, rfl⟩
 | [a], _ => exact ⟨rfl, rfl, rfl⟩
 | [a, b], _ => exact ⟨rfl, rfl, rfl⟩
 | [a, b, c], _ => exact ⟨rfl, rfl, rfl⟩
 | [a, b, c, d], _ => exact ⟨rfl, rfl, rfl⟩
 | a :: b :: c :: d :: e :: l, h => simp at h
theorem dRow_most {k : Nat} {a b c d : Int} (h : dRow k = some (a, b, c, d)) : b ≤ 4 := by
 unfold dRow at h
 split at h <;> (cases h <;> decide)
theorem doOk_len {x : N5} {ts : List T4} (h : doOk x ts = true) : ts.length ≤ 4 ∧ ts.length = x.i.length ∧ fldB x.k x.s x.p = true := by
 unfold doOk at h
 split at h
 ·rename_i a b c d hd
  have := dRow_most hd
  simp only [Bool.and_eq_true, decide_eq_true_eq] at h
  exact ⟨by omega, h.1.1.1.1.1, h.2⟩
 ·cases h
theorem doOk_norm (x : N5) (ts : List T4) : doOk x (ts.map norm) = doOk x ts := by
 unfold doOk; rw [List.length_map]
theorem do_norm (x : N5) (ts : List T4) : doE x (ts.map norm) = doE x ts ∧ (doE x ts = 0 → actS x.k x (ts.map norm) = actS x.k x ts ∧ actL x.k x (ts.map norm) = actL x.k x ts) := by
 unfold doE
 rw [doOk_norm]
 cases h : doOk x ts with
 | false => exact ⟨rfl, fun h => by cases h⟩
 | true =>
  obtain ⟨h1, h2, h3⟩ := act_norm x.k x ts (doOk_len h).1
  simp only [if_true]
  exact ⟨h1, fun _ => ⟨h2, h3⟩⟩
/-- What a node takes in. -/
def insP (acc : List PV) (x : N5) : List T4 := x.i.map fun j => tv (acc.getD j.toNat ([], []))
def fitP (t : PV) (s : List Int) : Bool := tok t.1 t.2 && decide (t.1 = s)
def allR : List PV → List PV → List PV → List N5 → Option (List PV)
 | acc, _, _, [] => some acc
 | acc, gv, ws, x :: l =>
  if x.k = 1#8 then match gv with
   | t :: gv' => if fitP t x.s then allR (acc ++ [t]) gv' ws l else none
   | [] => none
  else if x.k = 2#8 then match ws with
   | t :: ws' => if fitP t x.s then allR (acc ++ [t]) gv ws' l else none
   | [] => none
  else if doE x (insP acc x) = 0 then allR (acc ++ [(actS x.k x (insP acc x), actL x.k x (insP acc x))]) gv ws l else none
def wtsN (ls : List N5) : Nat := (ls.filter fun a => decide (a.k = 2#8)).length
def allG (ls : List N5) (ws : List PV) (t : PV) : Option (List PV) := if (gsh ls).isSome && decide (ws.length = wtsN ls) then allR [] [t] ws ls else none
theorem wtsG_len : ∀ (ls : List N5), (wtsG ls).length = wtsN ls := fun ls => by
 have key : ∀ m, m ≤ ls.length → (wtsG (ls.take m)).length = wtsN (ls.take m) := by
  intro m
  induction m with
  | zero => intro _; rfl
  | succ m ih =>
   intro hm
   rw [wtsG_succ ls m hm, List.length_append, ih (by omega), List.take_succ_eq_append_getElem hm]
   have e : ls.getD m default = ls[m] := by rw [List.getD_eq_getElem?_getD, List.getElem?_eq_getElem hm]; rfl
   unfold wtsN
   rw [List.filter_append, List.length_append, e]
   by_cases h : (ls[m]).k = 2#8
   ·rw [if_pos h, List.filter_cons, decide_eq_true h]; rfl
   ·rw [if_neg h, List.filter_cons, decide_eq_false h]; rfl
 have := key ls.length (Nat.le_refl _)
 rwa [List.take_length] at this
/-- Each node takes in of those ahead of it. -/
theorem gshR_in : ∀ (ls : List N5) (acc ss : List (List Int)), gshR acc ls = some ss → ∀ i (hi : i < ls.length), ∀ j ∈ (ls[i]).i, 0 ≤ j ∧ j < ((acc.length + i : Nat) : Int)
 | [], _, _, _, i, hi => by simp at hi
 | x :: ls, acc, ss, h, i, hi => by
  unfold gshR at h
  cases e : stp acc x with
  | none => rw [e] at h; cases h
  | some s =>
   rw [e] at h
   cases i with
   | zero =>
    intro j hj
    unfold stp at e
    split at e
    ·rename_i hc
     simp only [Bool.and_eq_true, Bool.not_eq_true'] at hc
     have h2 := hc.1.2
     unfold inB at h2
     have := List.any_eq_false.1 h2 j hj
     simp at this
     simp only [Nat.add_zero]
     omega
    ·cases e
   | succ i =>
    intro j hj
    have := gshR_in ls _ _ h i (by simpa using hi) j hj
    rw [List.length_append, List.length_singleton] at this
    omega
theorem gsh_R {ls : List N5} {ss : List (List Int)} (h : gsh ls = some ss) : gshR [] ls = some ss ∧ inputs ls = 1 ∧ 1 ≤ ls.length ∧ ls.length ≤ 32 := by
 unfold gsh at h
 split at h
 ·cases h
 ·rename_i hl
  split at h
  ·rename_i s hs
   split at h
   ·rename_i hc
    cases h
    exact ⟨hs, hc.1, by omega, by omega⟩
   ·cases h
  ·cases h
end Go.Proofs.YtmipoeanpnnjoaaGreat
