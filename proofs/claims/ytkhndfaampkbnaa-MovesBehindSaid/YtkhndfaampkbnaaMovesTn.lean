/- Joining along a direction, and along the first, after this direction has come to the front. -/
import Derived.Test.YtkhndfaampkbnaaMovesArg
namespace Go.Proofs.Ytkhndfaampkbnaa
open Go Go.Dd Go.RowKit

/-- The order that has two directions change their places. -/
def sw (k j : Nat) : Nat := if j = 0 then k else if j = k then 0 else j
def swo (n k : Nat) : List Int := (List.range n).map fun j : Nat => ((sw k j : Nat) : Int)
theorem swo_length (n k : Nat) : (swo n k).length = n := by simp [swo]
theorem swo_at {n k j : Nat} (h : j < n) : (swo n k).getD j default = ((sw k j : Nat) : Int) := by simp [swo, h]
theorem swo_ok' : ∀ n, n < 5 → ∀ k, k < n → ordOk (swo n k) = true := by decide
theorem swo_ok {n k : Nat} (h : n ≤ 4) (hk : k < n) : ordOk (swo n k) = true := swo_ok' n (by omega) k hk
theorem sw_sw (k j : Nat) : sw k (sw k j) = j := by unfold sw; split <;> (try split) <;> (try split) <;> (try split) <;> omega
theorem sw_lt {n k j : Nat} (hk : k < n) (hj : j < n) : sw k j < n := by unfold sw; split <;> (try split) <;> omega
theorem ext_getD {a b : List Int} (h : a.length = b.length) (g : ∀ j, j < a.length → a.getD j default = b.getD j default) : a = b := by
  refine List.ext_getElem h fun i h1 h2 => ?_
  simpa [h1, h2] using g i h1
theorem set_at {s : List Int} {k j : Nat} {c : Int} : (s.set k c).getD j default = if j = k ∧ k < s.length then c else s.getD j default := by
  rw [List.getD_eq_getElem?_getD, List.getElem?_set]
  by_cases h : k = j
  · subst h
    rw [if_pos rfl]
    by_cases h2 : k < s.length
    · rw [if_pos h2, if_pos ⟨rfl, h2⟩]; rfl
    · rw [if_neg h2, if_neg (by omega), List.getD_eq_getElem?_getD, List.getElem?_eq_none (by omega)]
  · rw [if_neg h, if_neg (by omega), List.getD_eq_getElem?_getD]
theorem tn_at {n k j : Nat} {s : List Int} (h : j < n) : (turn s (swo n k)).getD j default = s.getD (sw k j) default := by
  rw [turn_at (by rw [swo_length]; exact h), swo_at h, Int.toNat_natCast]
theorem tn_length (n k : Nat) (s : List Int) : (turn s (swo n k)).length = n := by rw [turn_length, swo_length]
theorem tn_tn {n k : Nat} {s : List Int} (hs : s.length = n) (hk : k < n) : turn (turn s (swo n k)) (swo n k) = s := by
  refine ext_getD (by rw [tn_length, hs]) fun j hj => ?_
  rw [tn_length] at hj
  rw [tn_at hj, tn_at (sw_lt hk hj), sw_sw]
theorem tn_setk {n k : Nat} {s : List Int} (hs : s.length = n) (hk : k < n) (c : Int) : turn (s.set k c) (swo n k) = (turn s (swo n k)).set 0 c := by
  refine ext_getD (by rw [tn_length, List.length_set, tn_length]) fun j hj => ?_
  rw [tn_length] at hj
  rw [tn_at hj, set_at, set_at, tn_at hj, tn_length]
  by_cases h : j = 0
  · subst h
    rw [if_pos ⟨rfl, by omega⟩, if_pos ⟨rfl, hj⟩]
  · rw [if_neg (by unfold sw; rw [if_neg h]; split <;> omega), if_neg (by omega)]
theorem tn_set0 {n k : Nat} {s : List Int} (hs : s.length = n) (hk : k < n) (c : Int) : turn (s.set 0 c) (swo n k) = (turn s (swo n k)).set k c := by
  have h := tn_setk (s := turn s (swo n k)) (k := k) (tn_length n k s) hk c
  rw [tn_tn hs hk] at h
  rw [← h, tn_tn (by rw [List.length_set, tn_length]) hk]
theorem tn_get0 {n k : Nat} {s : List Int} (hk : k < n) : (turn s (swo n k)).getD 0 default = s.getD k default := tn_at (j := 0) (by omega)
theorem tu_tok {n k : Nat} {s : List Int} {l : List (BitVec 32)} (h : tok s l = true) (hs : s.length = n) (hk : k < n) : tok (turn s (swo n k)) (tuL s l (swo n k)) = true := by
  obtain ⟨h1, -⟩ := tok_sz h
  have S := (Shapes.ok_iff s).1 h1
  have ho := swo_ok (k := k) (show n ≤ 4 by omega) hk
  have hl : (swo n k).length = s.length := by rw [swo_length, hs]
  refine tok_mk (turn_ok h1 ho hl) ?_
  rw [tuL_mk h1 ho hl, mk_length]

def Trn (o : List Int) (ts us : List T4) : Prop := us.map (fun u => (u.s, u.l)) = ts.map fun t => (turn t.s o, tuL t.s t.l o)
theorem trn_snoc {o : List Int} {ts us : List T4} {t u : T4} (h : Trn o ts us) (hs : u.s = turn t.s o) (hl : u.l = tuL t.s t.l o) : Trn o (ts ++ [t]) (us ++ [u]) := by
  unfold Trn at h ⊢
  rw [List.map_append, List.map_append, h]
  simp [hs, hl]
theorem trn_len {o : List Int} {ts us : List T4} (h : Trn o ts us) : us.length = ts.length := by simpa using congrArg List.length h
theorem trn_mem {o : List Int} {ts us : List T4} (h : Trn o ts us) {u : T4} (hu : u ∈ us) : ∃ t, t ∈ ts ∧ u.s = turn t.s o ∧ u.l = tuL t.s t.l o := by
  have : (u.s, u.l) ∈ us.map fun u => (u.s, u.l) := List.mem_map.2 ⟨u, hu, rfl⟩
  rw [h] at this
  obtain ⟨t, ht, e⟩ := List.mem_map.1 this
  exact ⟨t, ht, (congrArg Prod.fst e).symm, (congrArg Prod.snd e).symm⟩
theorem trn_mem' {o : List Int} {ts us : List T4} (h : Trn o ts us) {t : T4} (ht : t ∈ ts) : ∃ u, u ∈ us ∧ u.s = turn t.s o ∧ u.l = tuL t.s t.l o := by
  have : (turn t.s o, tuL t.s t.l o) ∈ ts.map fun t => (turn t.s o, tuL t.s t.l o) := List.mem_map.2 ⟨t, ht, rfl⟩
  rw [← h] at this
  obtain ⟨u, hu, e⟩ := List.mem_map.1 this
  exact ⟨u, hu, congrArg Prod.fst e, congrArg Prod.snd e⟩
theorem trn_cons {o : List Int} {ts : List T4} {t : T4} : ∀ {us : List T4}, Trn o (t :: ts) us → ∃ u us', us = u :: us' ∧ u.s = turn t.s o ∧ u.l = tuL t.s t.l o ∧ Trn o ts us'
  | [], h => by simp [Trn] at h
  | u :: us, h => by
    simp only [Trn, List.map_cons, List.cons.injEq, Prod.mk.injEq] at h
    exact ⟨u, us, rfl, h.1.1, h.1.2, h.2⟩
theorem trn_jsum {n k : Nat} (hk : k < n) : ∀ {ts us : List T4}, Trn (swo n k) ts us → jsum 0 us = jsum k ts
  | [], us, h => by
    obtain rfl : us = [] := List.eq_nil_of_length_eq_zero (trn_len h)
    rfl
  | t :: ts, us, h => by
    obtain ⟨u, us', rfl, hs, -, h'⟩ := trn_cons h
    simp only [jsum]
    rw [trn_jsum hk h', hs, tn_get0 hk]
theorem inn_set2 {s p : List Int} {k : Nat} (h : k < s.length) {c d e : Int} (hp : Shapes.inn (s.set k c) p = true) (h0 : 0 ≤ d) (hd : d < e) : Shapes.inn (s.set k e) (p.set k d) = true := by
  obtain ⟨l1, h1⟩ := Shapes.inn_iff.1 hp
  rw [List.length_set] at l1 h1
  refine Shapes.inn_iff.2 ⟨by rw [List.length_set, List.length_set]; exact l1, fun i hi => ?_⟩
  rw [List.length_set] at hi
  have hx := h1 i hi
  rw [set_at] at hx
  rw [set_at, set_at]
  by_cases g : i = k
  · subst g
    rw [if_pos ⟨rfl, by omega⟩, if_pos ⟨rfl, h⟩]; exact ⟨h0, hd⟩
  · rw [if_neg (by omega)] at hx
    rw [if_neg (by omega), if_neg (by omega)]; exact hx
theorem jv_turn {n k : Nat} {s : List Int} (hs : s.length = n) (hk : k < n) : ∀ {ts us : List T4} {p : List Int}, Trn (swo n k) ts us → (∀ t ∈ ts, tok t.s t.l = true ∧ t.s = s.set k (t.s.getD k default)) → Shapes.inn (s.set k (jsum k ts)) p = true →
    jv 0 us (turn p (swo n k)) = jv k ts p
  | [], us, p, h, _, _ => by
    obtain rfl : us = [] := List.eq_nil_of_length_eq_zero (trn_len h)
    rfl
  | t :: ts, us, p, h, ht, hp => by
    obtain ⟨u, us', rfl, hus, hul, h'⟩ := trn_cons h
    obtain ⟨t1, t2⟩ := ht t (by simp)
    have lt : t.s.length = n := by rw [t2, List.length_set, hs]
    have lp := Shapes.inn_length hp
    rw [List.length_set, hs] at lp
    have ip := Shapes.inn_at hp (k := k) (by rw [List.length_set]; omega)
    rw [set_set_id (by omega)] at ip
    have o1 := (tok_ok t1).1
    have S := (Shapes.ok_iff t.s).1 o1
    have ho := swo_ok (k := k) (show n ≤ 4 by omega) hk
    have hl : (swo n k).length = t.s.length := by rw [swo_length, lt]
    simp only [jv]
    rw [tn_get0 hk, hus, hul, tn_get0 hk]
    by_cases g : p.getD k default < t.s.getD k default
    · have it : Shapes.inn t.s p = true := by rw [t2]; exact set_inn (by omega) hp g
      rw [if_pos g, if_pos g, tat_pl (tu_tok t1 lt hk) (turn_inn ho hl it), tat_pl t1 it, tu_at o1 ho hl it]
    · have ej : jsum k (t :: ts) = t.s.getD k default + jsum k ts := rfl
      rw [if_neg g, if_neg g, ← tn_setk lp hk]
      exact jv_turn hs hk h' (fun t ht' => ht t (by simp [ht'])) (inn_set2 (by omega) hp (by omega) (by omega))
theorem s0T_trn {o : List Int} {ts us : List T4} (h : Trn o ts us) (hl : 1 ≤ ts.length) : s0T us = turn (s0T ts) o := by
  match ts, hl, h with
  | t :: ts, _, h =>
    obtain ⟨u, us', rfl, hs, -, -⟩ := trn_cons h
    exact hs
theorem jo_turn {n k : Nat} {s : List Int} {ts us : List T4} (hs : s.length = n) (h : Trn (swo n k) ts us) (J : Jo k s ts) : Jo 0 (turn s (swo n k)) us := by
  have hk : k < n := by rw [← hs]; exact J.hk
  have fw := J.few
  have ln := trn_len h
  have o4 := ((Shapes.ok_iff _).1 J.oks).1.2
  rw [List.length_set] at o4
  have lt : ∀ t ∈ ts, t.s.length = n := fun t ht => by rw [J.als t ht, List.length_set, hs]
  refine ⟨by omega, by rw [s0T_trn h fw.1, J.one], fun u hu => ?_, by rw [tn_length]; omega, fun u hu => ?_, ?_⟩
  · obtain ⟨t, ht, e1, e2⟩ := trn_mem h hu
    rw [e1, e2]; exact tu_tok (J.toks t ht) (lt t ht) hk
  · obtain ⟨t, ht, e1, -⟩ := trn_mem h hu
    rw [e1, tn_get0 hk]
    have e := J.als t ht
    exact (congrArg (fun x => turn x (swo n k)) e).trans (tn_setk hs hk _)
  · rw [trn_jsum hk h, ← tn_setk hs hk]
    exact turn_ok J.oks (swo_ok (by omega) hk) (by rw [swo_length, List.length_set, hs])
theorem jo_back {n k : Nat} {s : List Int} {ts us : List T4} (hs : s.length = n) (hk : k < n) (h : Trn (swo n k) ts us) (h0 : s0T ts = s) (ht : ∀ t ∈ ts, tok t.s t.l = true ∧ t.s.length = n) (J : Jo 0 (turn s (swo n k)) us) : Jo k s ts := by
  have fw := J.few
  have ln := trn_len h
  have o4 := ((Shapes.ok_iff _).1 J.oks).1.2
  rw [List.length_set, tn_length] at o4
  refine ⟨by omega, h0, fun t m => (ht t m).1, by omega, fun t m => ?_, ?_⟩
  · obtain ⟨u, hu, e1, -⟩ := trn_mem' h m
    have e := J.als u hu
    rw [e1, tn_get0 hk] at e
    have e := congrArg (fun x => turn x (swo n k)) e
    rw [tn_tn (ht t m).2 hk, tn_set0 (tn_length n k s) hk, tn_tn hs hk] at e
    exact e
  · have o := J.oks
    rw [trn_jsum hk h, ← tn_setk hs hk] at o
    have := turn_ok o (swo_ok (k := k) (show n ≤ 4 by omega) hk) (by rw [swo_length, tn_length])
    rwa [tn_tn (by rw [List.length_set, hs]) hk] at this
theorem jn_turn {n k : Nat} {s : List Int} {ts us : List T4} (hs : s.length = n) (h : Trn (swo n k) ts us) (J : Jo k s ts) :
    turn (jnS us 0) (swo n k) = jnS ts k ∧ tuL (jnS us 0) (jnL us 0) (swo n k) = jnL ts k := by
  have hk : k < n := by rw [← hs]; exact J.hk
  have JU := jo_turn hs h J
  have o4 := ((Shapes.ok_iff _).1 J.oks).1.2
  rw [List.length_set] at o4
  have lS : (s.set k (jsum k ts)).length = n := by rw [List.length_set, hs]
  have e1 : jnS us 0 = turn (jnS ts k) (swo n k) := by rw [JU.S, J.S, trn_jsum hk h, tn_setk hs hk]
  have e2 : turn (jnS us 0) (swo n k) = jnS ts k := by rw [e1, tn_tn (by rw [J.S, lS]) hk]
  have ho := swo_ok (k := k) (show n ≤ 4 by omega) hk
  have okU : Shapes.ok (jnS us 0) = true := (tok_sz JU.jtok).1
  have lU : (jnS us 0).length = n := by rw [e1, tn_length]
  have hl : (swo n k).length = (jnS us 0).length := by rw [swo_length, lU]
  refine ⟨e2, ?_⟩
  refine pl_ext (s := jnS ts k) (by rw [J.S]; exact J.good) (by rw [tuL_mk okU ho hl, mk_length, e2]) (by rw [J.L, mk_length, J.S]) fun p hp => ?_
  have hp' := hp
  rw [J.S] at hp'
  have lp := Shapes.inn_length hp'
  rw [lS] at lp
  have hq : Shapes.inn (jnS us 0) (turn p (swo n k)) = true := by rw [e1]; exact turn_inn ho (by rw [swo_length, J.S, lS]) hp
  have h1 := tu_at (l := jnL us 0) okU ho hl hq
  rw [e2, tn_tn lp hk] at h1
  rw [JU.S] at hq
  rw [h1, JU.at hq, J.at hp', jv_turn hs hk h (fun t ht => ⟨J.toks t ht, J.als t ht⟩) hp']

/-! ### Along the first direction: one behind the other -/
theorem mk_add {R : List Int} (hR : Shapes.good R) (a b : Nat) (f : List Int → BitVec 32) :
    mk (((a + b : Nat) : Int) :: R) f = mk ((a : Int) :: R) f ++ mk ((b : Int) :: R) fun p => f (p.set 0 (p.getD 0 default + (a : Int))) := by
  have hp := Shapes.prod_pos hR
  obtain ⟨P, hP⟩ := Int.eq_ofNat_of_zero_le (show 0 ≤ Shapes.prod R by omega)
  have e : ∀ c : Nat, (Shapes.prod ((c : Int) :: R)).toNat = c * P := fun c => by
    simp only [Shapes.prod]
    rw [hP]
    exact (congrArg Int.toNat (show (c : Int) * (P : Int) = ((c * P : Nat) : Int) by push_cast; rfl)).trans (Int.toNat_natCast _)
  have hP0 : 0 < P := by omega
  unfold mk
  rw [e, e, e, Nat.add_mul, List.range_add, List.map_append, List.map_map]
  congr 1
  · refine List.map_congr_left fun i hi => ?_
    have hi := List.mem_range.1 hi
    have h1 : i / P < a := (Nat.div_lt_iff_lt_mul hP0).2 hi
    simp only [Shapes.place]
    obtain ⟨q, hq⟩ : ∃ q, q = i / P := ⟨_, rfl⟩
    have e1 : (i : Int) / (P : Int) = (q : Int) := by rw [hq]; push_cast; rfl
    rw [← hq] at h1
    clear hq
    rw [hP, e1, Int.emod_eq_of_lt (by omega) (by omega), Int.emod_eq_of_lt (by omega) (by omega)]
  · refine List.map_congr_left fun i hi => ?_
    have hi := List.mem_range.1 hi
    have h1 : i / P < b := (Nat.div_lt_iff_lt_mul hP0).2 hi
    have h2 : (a * P + i) / P = a + i / P := by rw [Nat.mul_comm, Nat.mul_add_div hP0]
    simp only [Function.comp, Shapes.place]
    obtain ⟨q, hq⟩ : ∃ q, q = i / P := ⟨_, rfl⟩
    have e1 : (i : Int) / (P : Int) = (q : Int) := by rw [hq]; push_cast; rfl
    have e2 : ((a * P + i : Nat) : Int) / (P : Int) = ((a + q : Nat) : Int) := by rw [hq, ← h2]; push_cast; rfl
    rw [← hq] at h1
    clear hq h2
    rw [hP, e1, e2, Int.emod_eq_of_lt (by omega) (by omega), Int.emod_eq_of_lt (by omega) (by omega)]
    have h3 : Shapes.place R ((a * P + i : Nat) : Int) = Shapes.place R (i : Int) := by
      have := Shapes.place_more (a := (a : Int)) (j := (i : Int)) hR
      rw [hP] at this
      rw [← this]; congr 1
    rw [h3, show ((a + q : Nat) : Int) = (q : Int) + (a : Int) by omega]; rfl
theorem jo_snoc {s : List Int} {us : List T4} {t : T4} (J : Jo 0 s (us ++ [t])) (hu : 1 ≤ us.length) : jnL (us ++ [t]) 0 = jnL us 0 ++ t.l := by
  have ht : t ∈ us ++ [t] := by simp
  have JU : Jo 0 s us := by
    have := J.take (i := us.length) hu (by simp)
    rwa [List.take_left] at this
  have hk := J.hk
  have dt := J.dim ht
  have tt := J.toks t ht
  have pw := jsum_pos (ts := us) fun u hu => (JU.dim hu).1
  obtain ⟨x, R, rfl⟩ : ∃ x R, s = x :: R := by
    match s, hk with
    | x :: R, _ => exact ⟨x, R, rfl⟩
  have e0 : ∀ c : Int, (x :: R).set 0 c = c :: R := fun _ => rfl
  have gR : Shapes.good R := by
    have := JU.good
    rw [e0] at this
    exact (Shapes.good_cons.1 this).2
  obtain ⟨a, ha⟩ := Int.eq_ofNat_of_zero_le (show 0 ≤ jsum 0 us by omega)
  obtain ⟨b, hb⟩ := Int.eq_ofNat_of_zero_le (show 0 ≤ t.s.getD 0 default by omega)
  have ej : jsum 0 (us ++ [t]) = ((a + b : Nat) : Int) := by rw [jsum_append]; simp only [jsum]; rw [ha, hb]; omega
  have et : t.s = (b : Int) :: R := by rw [J.als t ht, hb, e0]
  have gt : Shapes.good t.s := ((Shapes.ok_iff _).1 (tok_ok tt).1).2.1
  have gJ := J.good
  rw [e0, ej] at gJ
  have gU := JU.good
  rw [e0, ha] at gU
  have hall : ∀ u ∈ us, 0 ≤ u.s.getD 0 default ∧ u.s.getD 0 default ≤ 64 := fun u hu => by have := JU.dim hu; omega
  rw [J.L, JU.L, e0, e0, ej, ha, mk_add gR]
  congr 1
  · refine mk_congr gU fun p hp => ?_
    have ip := Shapes.inn_at hp (k := 0) (by simp)
    have lp := Shapes.inn_length hp
    simp only [List.getD_cons_zero] at ip
    rw [jv_append hall (by rw [lp]; simp) ip.1, if_pos (by omega)]
  · have el : t.l = mk t.s (pl t.s t.l) := (mk_pl gt (tok_sz tt).2).symm
    rw [el, et]
    rw [et] at gt
    refine mk_congr gt fun p hp => ?_
    have ip := Shapes.inn_at hp (k := 0) (by simp)
    have lp := Shapes.inn_length hp
    simp only [List.getD_cons_zero] at ip
    have lp0 : 0 < p.length := by rw [lp]; simp
    rw [jv_append hall (by rw [List.length_set]; exact lp0) (by rw [set_set_id lp0]; omega), set_set_id lp0, if_neg (by omega), List.set_set, show p.getD 0 default + (a : Int) - jsum 0 us = p.getD 0 default by omega, set_get lp0]
    unfold jv
    rw [if_pos (by omega), tat_pl tt (by rw [et]; exact hp), et]
theorem jo_flat {s : List Int} {us : List T4} (J : Jo 0 s us) : ∀ i, 1 ≤ i → i ≤ us.length → jnL (us.take i) 0 = ((us.take i).map (·.l)).flatten
  | 0, h, _ => by omega
  | i + 1, _, h => by
    have e : us.take (i + 1) = us.take i ++ [us[i]] := List.take_succ_eq_append_getElem (by omega)
    rcases Nat.eq_zero_or_pos i with h0 | h0
    · subst h0
      have hk := (J.dim (List.getElem_mem (show 0 < us.length by omega))).2.2
      obtain ⟨-, -, h3⟩ := jo_one (J.toks _ (List.getElem_mem (show 0 < us.length by omega))) hk
      rw [e, List.take_zero, List.nil_append, h3]
      simp
    · have JT := J.take (i := i + 1) (by omega) h
      rw [e] at JT
      rw [e, jo_snoc JT (by rw [List.length_take]; omega), jo_flat J i h0 (by omega), List.map_append, List.flatten_append]
      simp
theorem jnE_two {ts : List T4} {k : Nat} (h : 1 ≤ ts.length ∧ ts.length ≤ 4) (ht : ∀ t ∈ ts, tok t.s t.l = true) (hk : k < (s0T ts).length) : jnE ts (k : Int) = 0 ∨ jnE ts (k : Int) = 10 := by
  have hb : badT ts = false := by
    cases hc : badT ts with
    | false => rfl
    | true =>
      obtain ⟨t, m, h⟩ := List.any_eq_true.1 hc
      rw [ht t m] at h; cases h
  have hA : jnA ts (k : Int) = false := by
    unfold jnA
    rw [hb, decide_eq_false (by omega), decide_eq_false (by omega), decide_eq_false (by omega), decide_eq_false (by omega)]; rfl
  unfold jnE
  rw [hA]
  split
  · rename_i h; cases h
  · split <;> simp
end Go.Proofs.Ytkhndfaampkbnaa
