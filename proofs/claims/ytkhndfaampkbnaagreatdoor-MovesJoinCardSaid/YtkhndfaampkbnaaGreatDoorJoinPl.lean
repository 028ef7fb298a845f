/- Plain laws: the document's joined shape is ours; where the numbers of each go. -/
import Derived.Test.YtkhndfaampkbnaaGreatDoorJoPl
import Derived.Test.YtkhndfaampkbnaaGreatDoorRefJoined
namespace Go.Proofs.YtkhndfaampkbnaaGreatDoor
open Go Go.Dd Go.RowKit
set_option maxRecDepth 100000

theorem ext_getD {a b : List Int} (h : a.length = b.length) (g : ∀ j, j < a.length → a.getD j default = b.getD j default) : a = b := by
  refine List.ext_getElem h fun i h1 h2 => ?_
  simpa [h1, h2] using g i h1
theorem set_ne {s : List Int} {k m : Nat} {c : Int} (h : m ≠ k) : (s.set k c).getD m default = s.getD m default := by
  rw [List.getD_eq_getElem?_getD, List.getElem?_set_ne (by omega), List.getD_eq_getElem?_getD]
theorem alk_jn {k : Nat} {s x : List Int} (hk : k < s.length) : alk x s k = true ↔ (x.length = s.length ∧ k < s.length ∧ ∀ m, m < s.length → m ≠ k → s.getD m default = x.getD m default) := by
  rw [alk_iff hk]
  constructor
  · intro e
    have hl : x.length = s.length := by rw [e, List.length_set]
    refine ⟨hl, hk, fun m hm hne => ?_⟩
    rw [e, set_ne hne]
  · rintro ⟨h1, h2, h3⟩
    refine ext_getD (by rw [List.length_set, h1]) fun j hj => ?_
    by_cases e : j = k
    · rw [e, set_set_id hk]
    · rw [set_ne e, h3 j (by omega) e]
theorem jnR_all {k : Nat} : ∀ {ts : List T4} {s : List Int}, k < s.length → jnR k s (ts.map (·.s)) = if ts.all (fun t => alk t.s s k) then some (s.set k (s.getD k default + jsum k ts)) else none
  | [], s, hk => by
    show some s = _
    simp only [List.all_nil, if_true, jsum, Int.add_zero]
    rw [set_get hk]
  | t :: ts, s, hk => by
    have ih := jnR_all (ts := ts) (s := s.set k (s.getD k default + t.s.getD k default)) (by rw [List.length_set]; exact hk)
    rw [List.map_cons, jnR, List.all_cons]
    by_cases h : alk t.s s k = true
    · rw [h, Bool.true_and]
      have e : jn1 k s t.s = some (s.set k (s.getD k default + t.s.getD k default)) := by unfold jn1; rw [if_pos ((alk_jn hk).1 h)]
      rw [e]
      show jnR k _ _ = _
      rw [ih, set_set_id hk, List.set_set, show s.getD k default + t.s.getD k default + jsum k ts = s.getD k default + jsum k (t :: ts) by simp only [jsum]; omega]
      have e2 : (ts.all fun u => alk u.s (s.set k (s.getD k default + t.s.getD k default)) k) = ts.all fun u => alk u.s s k := by
        congr 1; funext u; exact alk_set _
      rw [e2]
    · have h : alk t.s s k = false := by simpa using h
      have e : jn1 k s t.s = none := by
        unfold jn1
        rw [if_neg fun g => by rw [(alk_jn hk).2 g] at h; cases h]
      rw [e, h]; rfl
theorem jdE_jnE {ts : List T4} (al : Int) (h : badT ts = false) : jdE (ts.map (·.s)) al = jnE ts al ∧ (jnE ts al = 0 → jdS (ts.map (·.s)) al = some (jnS ts al.toNat)) := by
  have e1 : (ts.map (·.s)).any (fun s => !Shapes.ok s) = false := List.any_eq_false.2 fun s hs => by
    obtain ⟨t, ht, rfl⟩ := List.mem_map.1 hs
    rw [(tok_ok (badT_at h ht)).1]; decide
  have e2 : (ts.map (·.s)).headD [] = s0T ts := by cases ts <;> rfl
  have eA : jdA (ts.map (·.s)) al = jnA ts al := by unfold jdA jnA; rw [e1, e2, h, List.length_map]
  cases hA : jnA ts al with
  | true =>
    rw [hA] at eA
    unfold jdE jnE
    rw [eA, hA]
    exact ⟨rfl, fun h => by cases h⟩
  | false =>
    rw [hA] at eA
    simp only [jnA, Bool.or_eq_false_iff, decide_eq_false_iff_not] at hA
    obtain ⟨⟨⟨⟨a1, a2⟩, a3⟩, a4⟩, a5⟩ := hA
    obtain ⟨k, rfl⟩ : ∃ k : Nat, al = (k : Int) := ⟨al.toNat, by omega⟩
    have hk : k < (s0T ts).length := by omega
    cases ts with
    | nil => cases hk
    | cons t r =>
      have hk : k < t.s.length := hk
      have eS : jdS ((t :: r).map (·.s)) (k : Int) = if r.all (fun u => alk u.s t.s k) then some (jnS (t :: r) k) else none := jnR_all hk
      have et : alk t.s t.s k = true := (alk_iff hk).2 (set_get hk).symm
      have hA2 : jnA (t :: r) (k : Int) = false := by
        unfold jnA
        rw [h, decide_eq_false a1, decide_eq_false a2, decide_eq_false a4, decide_eq_false a5]; rfl
      have e3 : jdE ((t :: r).map (·.s)) (k : Int) = jdR (jdS ((t :: r).map (·.s)) (k : Int)) := by unfold jdE; rw [eA]; rfl
      have e4 : jnE (t :: r) (k : Int) = if (r.all fun u => alk u.s t.s k) && Shapes.ok (jnS (t :: r) k) then 0 else 10 := by
        unfold jnE
        rw [hA2, Int.toNat_natCast, List.all_cons, show s0T (t :: r) = t.s from rfl, et, Bool.true_and]; rfl
      rw [e3, e4, eS, Int.toNat_natCast]
      cases r.all fun u => alk u.s t.s k with
      | true => exact ⟨rfl, fun _ => rfl⟩
      | false => exact ⟨rfl, fun h => by cases h⟩

/-! ### Where each number goes -/
/-- Where number j of the i-th one goes. -/
def tgt (ts : List T4) (k i j : Nat) : Nat := (Shapes.idx (jnS ts k) ((Shapes.place (ts.getD i default).s (j : Int)).set k ((Shapes.place (ts.getD i default).s (j : Int)).getD k default + jsum k (ts.take i)))).toNat
theorem jsum_nn {k : Nat} : ∀ {ts : List T4}, (∀ t ∈ ts, 0 ≤ t.s.getD k default) → 0 ≤ jsum k ts
  | [], _ => Int.le_refl 0
  | t :: ts, h => by
    have h1 := h t (by simp)
    have h2 := jsum_nn (ts := ts) fun u hu => h u (by simp [hu])
    show 0 ≤ t.s.getD k default + jsum k ts
    omega
theorem jv_far {k : Nat} : ∀ {us : List T4} {vs : List T4} {t : T4} {q : List Int}, (∀ u ∈ us, 0 ≤ u.s.getD k default) → k < q.length → 0 ≤ q.getD k default → q.getD k default < t.s.getD k default →
    jv k (us ++ t :: vs) (q.set k (q.getD k default + jsum k us)) = tatV t.s t.l q
  | [], vs, t, q, _, hk, h0, h1 => by
    simp only [jsum, Int.add_zero, List.nil_append]
    rw [set_get hk]
    unfold jv
    rw [if_pos h1]
  | u :: us, vs, t, q, hu, hk, h0, h1 => by
    have p1 := hu u (by simp)
    have p2 : 0 ≤ jsum k us := jsum_nn fun v hv => hu v (by simp [hv])
    have ih := jv_far (us := us) (vs := vs) (t := t) (q := q) (fun v hv => hu v (by simp [hv])) hk h0 h1
    rw [List.cons_append]
    unfold jv
    rw [set_set_id hk, show jsum k (u :: us) = u.s.getD k default + jsum k us from rfl, if_neg (by omega), List.set_set, show q.getD k default + (u.s.getD k default + jsum k us) - u.s.getD k default = q.getD k default + jsum k us by omega]
    exact ih
theorem jn_near {k : Nat} {s : List Int} : ∀ {ts : List T4} {p : List Int}, (∀ t ∈ ts, t.s = s.set k (t.s.getD k default)) → k < s.length → Shapes.inn (s.set k (jsum k ts)) p = true →
    ∃ i, ∃ hi : i < ts.length, ∃ q, Shapes.inn ts[i].s q = true ∧ p = q.set k (q.getD k default + jsum k (ts.take i))
  | [], p, _, hk, hp => by
    have := Shapes.inn_at hp (k := k) (by rw [List.length_set]; exact hk)
    rw [set_set_id hk] at this
    simp only [jsum] at this
    omega
  | t :: ts, p, ha, hk, hp => by
    have ip := Shapes.inn_at hp (k := k) (by rw [List.length_set]; exact hk)
    rw [set_set_id hk, show jsum k (t :: ts) = t.s.getD k default + jsum k ts from rfl] at ip
    have lp := Shapes.inn_length hp
    rw [List.length_set] at lp
    by_cases g : p.getD k default < t.s.getD k default
    · refine ⟨0, by simp, p, ?_, ?_⟩
      · show Shapes.inn t.s p = true
        rw [ha t (by simp)]
        exact set_inn hk hp g
      · simp only [List.take_zero, jsum, Int.add_zero]
        rw [set_get (by omega)]
    · have hq : Shapes.inn (s.set k (jsum k ts)) (p.set k (p.getD k default - t.s.getD k default)) = true := by
        obtain ⟨l1, h1⟩ := Shapes.inn_iff.1 hp
        refine Shapes.inn_iff.2 ⟨by rw [List.length_set, List.length_set]; exact lp, fun m hm => ?_⟩
        rw [List.length_set] at hm
        by_cases e : m = k
        · subst e
          rw [set_set_id hk, set_set_id (by omega)]
          omega
        · have := h1 m (by rw [List.length_set]; exact hm)
          rw [set_ne e] at this ⊢
          rw [set_ne e]
          exact this
      obtain ⟨i, hi, q, h1, h2⟩ := jn_near (ts := ts) (fun u hu => ha u (by simp [hu])) hk hq
      refine ⟨i + 1, by simp only [List.length_cons]; omega, q, h1, ?_⟩
      have lq : k < q.length := by
        have := congrArg List.length h2
        rw [List.length_set, List.length_set] at this
        omega
      have e1 := congrArg (fun l : List Int => l.getD k default) h2
      simp only [set_set_id lq, set_set_id (show k < p.length by omega)] at e1
      have e2 : (p.set k (p.getD k default - t.s.getD k default)).set k (p.getD k default) = p := by
        rw [List.set_set, set_get (by omega)]
      rw [← e2, h2, List.set_set, List.take_succ_cons, show jsum k (t :: ts.take i) = t.s.getD k default + jsum k (ts.take i) from rfl]
      congr 1
      omega
theorem Jo.each {k : Nat} {s : List Int} {ts : List T4} (J : Jo k s ts) {i : Nat} (hi : i < ts.length) {j : Nat} (hj : (j : Int) < Shapes.prod ts[i].s) :
    Shapes.inn (jnS ts k) ((Shapes.place ts[i].s (j : Int)).set k ((Shapes.place ts[i].s (j : Int)).getD k default + jsum k (ts.take i))) = true ∧ tgt ts k i j < (jnL ts k).length ∧ (jnL ts k).getD (tgt ts k i j) default = ts[i].l.getD j default := by
  have ht := List.getElem_mem hi
  have d := J.dim ht
  obtain ⟨o1, o2⟩ := tok_sz (J.toks _ ht)
  have g := ((Shapes.ok_iff _).1 o1).2.1
  obtain ⟨q, hq⟩ : ∃ q, q = Shapes.place ts[i].s (j : Int) := ⟨_, rfl⟩
  have iq : Shapes.inn ts[i].s q = true := by rw [hq]; exact Shapes.place_in (by omega) g
  have lq := Shapes.inn_length iq
  have aq := Shapes.inn_at iq d.2.2
  have hk := J.hk
  have e0 : ts = ts.take i ++ ts[i] :: ts.drop (i + 1) := by
    rw [← List.drop_eq_getElem_cons hi, List.take_append_drop]
  have dn : ∀ u ∈ ts, 0 ≤ u.s.getD k default := fun u hu => by have := (J.dim hu).1; omega
  have n1 : 0 ≤ jsum k (ts.take i) := jsum_nn fun u hu => dn u (List.mem_of_mem_take hu)
  have n2 : 0 ≤ jsum k (ts.drop (i + 1)) := jsum_nn fun u hu => dn u (List.mem_of_mem_drop hu)
  have es : jsum k ts = jsum k (ts.take i) + (ts[i].s.getD k default + jsum k (ts.drop (i + 1))) := by
    conv => lhs; rw [e0, jsum_append]
    rfl
  have eg : ts.getD i default = ts[i] := by rw [List.getD_eq_getElem?_getD, List.getElem?_eq_getElem hi]; rfl
  have inn : Shapes.inn (s.set k (jsum k ts)) (q.set k (q.getD k default + jsum k (ts.take i))) = true := by
    have ls : ts[i].s.length = s.length := by rw [J.als _ ht, List.length_set]
    refine Shapes.inn_iff.2 ⟨by rw [List.length_set, List.length_set]; omega, fun m hm => ?_⟩
    rw [List.length_set] at hm
    by_cases e : m = k
    · subst e
      rw [set_set_id hk, set_set_id (by omega)]
      omega
    · have := Shapes.inn_at iq (k := m) (by omega)
      rw [J.als _ ht, set_ne e] at this
      rw [set_ne e, set_ne e]
      exact this
  have lt := Shapes.idx_lt J.good inn
  have lL : (jnL ts k).length = (Shapes.prod (s.set k (jsum k ts))).toNat := by rw [J.L]; exact mk_length _ _
  have eT : tgt ts k i j = (Shapes.idx (s.set k (jsum k ts)) (q.set k (q.getD k default + jsum k (ts.take i)))).toNat := by unfold tgt; rw [eg, ← hq, J.S]
  refine ⟨by rw [← hq, J.S]; exact inn, by rw [eT, lL]; omega, ?_⟩
  have at1 := J.at inn
  unfold pl at at1
  rw [J.S] at at1
  rw [eT, at1]
  have e3 : jv k ts (q.set k (q.getD k default + jsum k (ts.take i))) = tatV ts[i].s ts[i].l q := by
    have := jv_far (k := k) (us := ts.take i) (vs := ts.drop (i + 1)) (t := ts[i]) (q := q) (fun u hu => dn u (List.mem_of_mem_take hu)) (by omega) aq.1 aq.2
    rw [← e0] at this
    exact this
  rw [e3, tat_pl (J.toks _ ht) iq]
  unfold pl
  rw [hq, Shapes.idx_place (by omega) g, Int.emod_eq_of_lt (by omega) hj, Int.toNat_natCast]
theorem Jo.onto {k : Nat} {s : List Int} {ts : List T4} (J : Jo k s ts) {n : Nat} (hn : n < (jnL ts k).length) : ∃ i, ∃ hi : i < ts.length, ∃ j : Nat, (j : Int) < Shapes.prod ts[i].s ∧ tgt ts k i j = n := by
  have lL : (jnL ts k).length = (Shapes.prod (s.set k (jsum k ts))).toNat := by rw [J.L]; exact mk_length _ _
  have ip := Shapes.place_in (i := (n : Int)) (by omega) J.good
  obtain ⟨i, hi, q, h1, h2⟩ := jn_near J.als J.hk ip
  have ht := List.getElem_mem hi
  obtain ⟨o1, o2⟩ := tok_sz (J.toks _ ht)
  have g := ((Shapes.ok_iff _).1 o1).2.1
  have lt := Shapes.idx_lt g h1
  have eg : ts.getD i default = ts[i] := by rw [List.getD_eq_getElem?_getD, List.getElem?_eq_getElem hi]; rfl
  refine ⟨i, hi, (Shapes.idx ts[i].s q).toNat, by omega, ?_⟩
  unfold tgt
  rw [eg, Int.toNat_of_nonneg lt.1, Shapes.place_idx g h1, ← h2, J.S, Shapes.idx_place (by omega) J.good, Int.emod_eq_of_lt (by omega) (by omega), Int.toNat_natCast]
/-- What is written so far: all of those ahead of the i-th one, and j of it. -/
structure Done (ts : List T4) (k i j : Nat) (m : List (BitVec 32)) : Prop where
  len : m.length = (jnL ts k).length
  old : ∀ (a b : Nat), a < i → (b : Int) < Shapes.prod (ts.getD a default).s → m.getD (tgt ts k a b) default = (jnL ts k).getD (tgt ts k a b) default
  now : ∀ b, b < j → m.getD (tgt ts k i b) default = (jnL ts k).getD (tgt ts k i b) default
theorem getD_set_same {L m : List (BitVec 32)} {q n : Nat} (hq : q < m.length) (h : m.getD n default = L.getD n default ∨ n = q) : (m.set q (L.getD q default)).getD n default = L.getD n default := by
  by_cases e : n = q
  · rw [e]; exact getD_set hq
  · rw [List.getD_eq_getElem?_getD, List.getElem?_set_ne (by omega), ← List.getD_eq_getElem?_getD]
    exact h.resolve_right e
theorem Done.set {ts : List T4} {k i j : Nat} {m : List (BitVec 32)} (h : Done ts k i j m) (ht : tgt ts k i j < (jnL ts k).length) : Done ts k i (j + 1) (m.set (tgt ts k i j) ((jnL ts k).getD (tgt ts k i j) default)) := by
  have hm : tgt ts k i j < m.length := by rw [h.len]; exact ht
  refine ⟨by rw [List.length_set]; exact h.len, fun a b ha hb => getD_set_same hm (.inl (h.old a b ha hb)), fun b hb => getD_set_same hm ?_⟩
  by_cases e : b = j
  · exact .inr (by rw [e])
  · exact .inl (h.now b (by omega))
theorem Done.next {ts : List T4} {k i j : Nat} {m : List (BitVec 32)} (h : Done ts k i j m) (hj : (j : Int) = Shapes.prod (ts.getD i default).s) : Done ts k (i + 1) 0 m := by
  refine ⟨h.len, fun a b ha hb => ?_, fun b hb => absurd hb (by omega)⟩
  by_cases e : a = i
  · subst e; exact h.now b (by omega)
  · exact h.old a b (by omega) hb
theorem Done.all {ts : List T4} {k : Nat} {s : List Int} {m : List (BitVec 32)} (J : Jo k s ts) (h : Done ts k ts.length 0 m) : m = jnL ts k := by
  refine List.ext_getElem h.len fun n h1 h2 => ?_
  obtain ⟨i, hi, j, hj, e⟩ := J.onto h2
  have eg : ts.getD i default = ts[i] := by rw [List.getD_eq_getElem?_getD, List.getElem?_eq_getElem hi]; rfl
  have := h.old i j hi (by rw [eg]; exact hj)
  rw [e] at this
  simpa [h1, h2] using this
end Go.Proofs.YtkhndfaampkbnaaGreatDoor
