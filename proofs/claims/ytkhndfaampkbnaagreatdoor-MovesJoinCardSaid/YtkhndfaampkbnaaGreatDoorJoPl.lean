/- Plain laws on joining that the document's answer needs too. -/
import Derived.Test.YtkhndfaampkbnaaGreatDoorMovesJoin
import Derived.Test.YtkhndfaampkbnaaGreatDoorPl
namespace Go.Proofs.YtkhndfaampkbnaaGreatDoor
open Go Go.Dd Go.RowKit
set_option maxRecDepth 100000

theorem tok_sz {s : List Int} {l : List (BitVec 32)} (h : tok s l = true) : Shapes.ok s = true ∧ l.length = (Shapes.prod s).toNat := by
  obtain ⟨h1, h2⟩ := tok_ok h
  exact ⟨h1, by rw [h2, Shapes.size_ok h1]⟩
theorem tok_mk {s : List Int} {l : List (BitVec 32)} (h : Shapes.ok s = true) (hl : l.length = (Shapes.prod s).toNat) : tok s l = true := by
  have := Shapes.size_le s
  have := Shapes.size_ok h
  unfold tok
  rw [h, decide_eq_true (by omega)]; rfl
theorem tat_pl {s p : List Int} {l : List (BitVec 32)} (h : tok s l = true) (hp : Shapes.inn s p = true) : tatV s l p = pl s l p := by
  unfold tatV Shapes.index pl
  rw [(tok_ok h).1, hp, h]; rfl
theorem mk_congr {s : List Int} {f g : List Int → BitVec 32} (hs : Shapes.good s) (h : ∀ p, Shapes.inn s p = true → f p = g p) : mk s f = mk s g :=
  List.map_congr_left fun i _ => h _ (Shapes.place_in (by omega) hs)
theorem mk_pl {s : List Int} {l : List (BitVec 32)} (hs : Shapes.good s) (hl : l.length = (Shapes.prod s).toNat) : mk s (pl s l) = l :=
  pl_ext hs (mk_length _ _) hl fun _ hp => pl_mk hs hp

/-! ### A direction that is changed -/
theorem set_split {s : List Int} {k : Nat} (h : k < s.length) (c : Int) : s.set k c = s.take k ++ c :: s.drop (k + 1) := List.set_eq_take_append_cons_drop.trans (if_pos h)
theorem set_get {s : List Int} {k : Nat} (h : k < s.length) : s.set k (s.getD k default) = s := by
  have : s[k] = s.getD k default := by simp [h]
  rw [← this]; exact List.set_getElem_self h
theorem wo_set {s : List Int} {k : Nat} (h : k < s.length) (c : Int) : wo (s.set k c) k = wo s k := by
  have l1 : (s.take k).length = k := by rw [List.length_take]; omega
  unfold wo
  rw [set_split h]
  congr 1
  · rw [List.take_append_of_le_length (by omega), List.take_of_length_le (by omega)]
  · rw [List.drop_append, List.drop_of_length_le (by omega), l1, show k + 1 - k = 1 by omega]; rfl
theorem set_good {s : List Int} {k : Nat} (h : k < s.length) {c d : Int} (hs : Shapes.good (s.set k c)) (h1 : 1 ≤ d) (h2 : d ≤ 64) : Shapes.good (s.set k d) := by
  rw [set_split h] at hs ⊢
  obtain ⟨g1, g2⟩ := Shapes.good_append.1 hs
  exact Shapes.good_append.2 ⟨g1, Shapes.good_cons.2 ⟨⟨h1, h2⟩, (Shapes.good_cons.1 g2).2⟩⟩
theorem set_ok {s : List Int} {k : Nat} (h : k < s.length) {c d : Int} (hs : Shapes.ok (s.set k c) = true) (h1 : 1 ≤ d) (h2 : d ≤ c) : Shapes.ok (s.set k d) = true := by
  have S := (Shapes.ok_iff _).1 hs
  rw [List.length_set] at S
  have hc := dim_at S.2.1 (k := k) (by rw [List.length_set]; exact h)
  rw [set_set_id h] at hc
  have g := set_good h S.2.1 h1 (by omega)
  rw [Shapes.ok_iff, List.length_set]
  refine ⟨S.1, g, ?_⟩
  have S3 := S.2.2
  have S2 := S.2.1
  rw [set_split h, Shapes.prod_append] at S3 ⊢
  rw [set_split h] at S2
  obtain ⟨g1, g2⟩ := Shapes.good_append.1 S2
  have p1 := Shapes.prod_pos g1
  have p2 := Shapes.prod_pos (Shapes.good_cons.1 g2).2
  have m1 : d * Shapes.prod (s.drop (k + 1)) ≤ c * Shapes.prod (s.drop (k + 1)) := Int.mul_le_mul_of_nonneg_right h2 (by omega)
  have m2 : Shapes.prod (s.take k) * (d * Shapes.prod (s.drop (k + 1))) ≤ Shapes.prod (s.take k) * (c * Shapes.prod (s.drop (k + 1))) := Int.mul_le_mul_of_nonneg_left m1 (by omega)
  simp only [Shapes.prod] at S3 ⊢
  omega
theorem set_inn {s p : List Int} {k : Nat} (h : k < s.length) {c d : Int} (hp : Shapes.inn (s.set k c) p = true) (hd : p.getD k default < d) : Shapes.inn (s.set k d) p = true := by
  obtain ⟨l1, h1⟩ := Shapes.inn_iff.1 hp
  rw [List.length_set] at l1 h1
  refine Shapes.inn_iff.2 ⟨by rw [List.length_set]; exact l1, fun i hi => ?_⟩
  rw [List.length_set] at hi
  have hx := h1 i hi
  by_cases e : i = k
  · subst e
    rw [set_set_id h]
    exact ⟨hx.1, hd⟩
  · have e1 : ∀ c : Int, (s.set k c).getD i default = s.getD i default := fun c => by
      rw [List.getD_eq_getElem?_getD, List.getElem?_set_ne (by omega), List.getD_eq_getElem?_getD]
    rw [e1] at hx ⊢
    exact hx
theorem alk_iff {a b : List Int} {k : Nat} (h : k < b.length) : alk a b k = true ↔ a = b.set k (a.getD k default) := by
  unfold alk
  simp only [Bool.and_eq_true, decide_eq_true_eq]
  constructor
  · rintro ⟨⟨h1, h2⟩, h3⟩
    rw [set_split h, ← h2, ← h3]
    exact split_at (by omega)
  · intro e
    have l1 : (b.take k).length = k := by rw [List.length_take]; omega
    obtain ⟨c, hc⟩ : ∃ c, c = a.getD k default := ⟨_, rfl⟩
    rw [← hc] at e
    refine ⟨⟨by rw [e, List.length_set], ?_⟩, ?_⟩
    · rw [e, set_split h, List.take_append_of_le_length (by omega), List.take_of_length_le (by omega)]
    · rw [e, set_split h, List.drop_append, List.drop_of_length_le (by omega), l1, show k + 1 - k = 1 by omega]; rfl

/-! ### Some that can be joined -/
structure Jo (k : Nat) (s : List Int) (ts : List T4) : Prop where
  few : 1 ≤ ts.length ∧ ts.length ≤ 4
  one : s0T ts = s
  toks : ∀ t ∈ ts, tok t.s t.l = true
  hk : k < s.length
  als : ∀ t ∈ ts, t.s = s.set k (t.s.getD k default)
  oks : Shapes.ok (s.set k (jsum k ts)) = true
theorem jnE_iff {ts : List T4} {k : Nat} : jnE ts (k : Int) = 0 ↔ Jo k (s0T ts) ts := by
  constructor
  · intro h
    have hA : jnA ts (k : Int) = false := by
      cases hc : jnA ts (k : Int) with
      | false => rfl
      | true => rw [jnE_bad hc] at h; cases h
    have hC : ((ts.all fun t => alk t.s (s0T ts) (k : Int).toNat) && Shapes.ok (jnS ts (k : Int).toNat)) = true := by
      cases hc : ((ts.all fun t => alk t.s (s0T ts) (k : Int).toNat) && Shapes.ok (jnS ts (k : Int).toNat)) with
      | true => rfl
      | false => rw [jnE_ten hA hc] at h; cases h
    rw [Int.toNat_natCast, Bool.and_eq_true, List.all_eq_true] at hC
    simp only [jnA, Bool.or_eq_false_iff, decide_eq_false_iff_not] at hA
    obtain ⟨⟨⟨⟨a1, a2⟩, a3⟩, a4⟩, a5⟩ := hA
    have hk : k < (s0T ts).length := by omega
    exact ⟨by omega, rfl, fun t ht => badT_at a3 ht, hk, fun t ht => (alk_iff hk).1 (hC.1 t ht), hC.2⟩
  · intro J
    have hb : badT ts = false := by
      cases hc : badT ts with
      | false => rfl
      | true =>
        obtain ⟨t, ht, h⟩ := List.any_eq_true.1 hc
        rw [J.toks t ht] at h; cases h
    have hA : jnA ts (k : Int) = false := by
      have := J.few
      have := J.hk
      unfold jnA
      rw [hb, decide_eq_false (by omega), decide_eq_false (by omega), decide_eq_false (by omega), decide_eq_false (by omega)]; rfl
    unfold jnE
    rw [hA, Int.toNat_natCast, List.all_eq_true.2 fun t ht => (alk_iff J.hk).2 (J.als t ht), show Shapes.ok (jnS ts k) = true from J.oks]; rfl
theorem jnE_cases (ts : List T4) (al : Int) : jnE ts al = 0 ∨ jnE ts al = 1 ∨ jnE ts al = 10 := by unfold jnE; split <;> (try split) <;> simp
theorem Jo.dim {k : Nat} {s : List Int} {ts : List T4} (J : Jo k s ts) {t : T4} (ht : t ∈ ts) : 1 ≤ t.s.getD k default ∧ t.s.getD k default ≤ 64 ∧ k < t.s.length := by
  have h := J.als t ht
  have hk : k < t.s.length := by rw [h, List.length_set]; exact J.hk
  have := dim_at ((Shapes.ok_iff t.s).1 (tok_ok (J.toks t ht)).1).2.1 hk
  exact ⟨this.1, this.2, hk⟩
theorem jsum_pos {k : Nat} : ∀ {ts : List T4}, (∀ t ∈ ts, 1 ≤ t.s.getD k default) → (ts.length : Int) ≤ jsum k ts
  | [], _ => by simp [jsum]
  | t :: ts, h => by
    have h1 := h t (by simp)
    have h2 := jsum_pos (ts := ts) fun u hu => h u (by simp [hu])
    simp only [jsum, List.length_cons]
    omega
theorem s0T_take {ts : List T4} {i : Nat} (hi : 1 ≤ i) : s0T (ts.take i) = s0T ts := by
  match ts, i, hi with
  | [], _, _ => simp
  | _ :: _, _ + 1, _ => rfl
theorem Jo.take {k : Nat} {s : List Int} {ts : List T4} (J : Jo k s ts) {i : Nat} (h1 : 1 ≤ i) (h2 : i ≤ ts.length) : Jo k s (ts.take i) := by
  have l1 : (ts.take i).length = i := by rw [List.length_take]; omega
  have d := fun t ht => (J.dim (t := t) ht).1
  have p1 := jsum_pos (ts := ts.take i) fun t ht => d t (List.mem_of_mem_take ht)
  have p2 := jsum_pos (ts := ts.drop i) fun t ht => d t (List.mem_of_mem_drop ht)
  have e : jsum k ts = jsum k (ts.take i) + jsum k (ts.drop i) := by rw [← jsum_append, List.take_append_drop]
  have fw := J.few
  exact ⟨by omega, by rw [s0T_take h1]; exact J.one, fun t ht => J.toks t (List.mem_of_mem_take ht), J.hk, fun t ht => J.als t (List.mem_of_mem_take ht), set_ok (d := jsum k (ts.take i)) J.hk J.oks (by omega) (by omega)⟩
theorem Jo.S {k : Nat} {s : List Int} {ts : List T4} (J : Jo k s ts) : jnS ts k = s.set k (jsum k ts) := by unfold jnS; rw [J.one]
theorem Jo.L {k : Nat} {s : List Int} {ts : List T4} (J : Jo k s ts) : jnL ts k = Go.Dd.mk (s.set k (jsum k ts)) (jv k ts) := by
  unfold jnL Go.Dd.mk
  rw [J.S, Shapes.size_ok J.oks]
theorem Jo.jtok {k : Nat} {s : List Int} {ts : List T4} (J : Jo k s ts) : tok (jnS ts k) (jnL ts k) = true := by
  rw [J.S, J.L]; exact tok_mk J.oks (mk_length _ _)
theorem Jo.good {k : Nat} {s : List Int} {ts : List T4} (J : Jo k s ts) : Shapes.good (s.set k (jsum k ts)) := ((Shapes.ok_iff _).1 J.oks).2.1
theorem Jo.at {k : Nat} {s p : List Int} {ts : List T4} (J : Jo k s ts) (hp : Shapes.inn (s.set k (jsum k ts)) p = true) : pl (jnS ts k) (jnL ts k) p = jv k ts p := by
  rw [J.S, J.L]; exact pl_mk J.good hp
/-- One by itself. -/
theorem jo_one {t : T4} {k : Nat} (h : tok t.s t.l = true) (hk : k < t.s.length) : Jo k t.s [t] ∧ jnS [t] k = t.s ∧ jnL [t] k = t.l := by
  have e : t.s.set k (jsum k [t]) = t.s := by simp only [jsum, Int.add_zero]; exact set_get hk
  obtain ⟨o1, o2⟩ := tok_sz h
  have J : Jo k t.s [t] := ⟨by simp, rfl, fun u hu => by rw [List.mem_singleton.1 hu]; exact h, hk, fun u hu => by rw [List.mem_singleton.1 hu]; exact (set_get hk).symm, by rw [e]; exact o1⟩
  refine ⟨J, by rw [J.S, e], ?_⟩
  have g := ((Shapes.ok_iff _).1 o1).2.1
  rw [J.L, e, mk_congr (g := pl t.s t.l) g fun p hp => ?_]
  · exact mk_pl g o2
  · have := Shapes.inn_at hp hk
    unfold jv
    rw [if_pos this.2, tat_pl h hp]
theorem jv_append {k : Nat} {vs : List T4} : ∀ {us : List T4} {p : List Int}, (∀ t ∈ us, 0 ≤ t.s.getD k default ∧ t.s.getD k default ≤ 64) → k < p.length → 0 ≤ p.getD k default →
    jv k (us ++ vs) p = if p.getD k default < jsum k us then jv k us p else jv k vs (p.set k (p.getD k default - jsum k us))
  | [], p, _, hk, h0 => by
    rw [if_neg (by simp only [jsum]; omega)]
    simp only [jsum, Int.sub_zero, List.nil_append]
    rw [set_get hk]
  | t :: us, p, hd, hk, h0 => by
    have h1 := hd t (by simp)
    have h2 := jsum_le (k := k) (ts := us) fun u hu => hd u (by simp [hu])
    have hk' : ∀ c : Int, k < (p.set k c).length := fun c => by rw [List.length_set]; exact hk
    have ej : jsum k (t :: us) = t.s.getD k default + jsum k us := rfl
    rw [List.cons_append, ej, jv, jv]
    by_cases g : p.getD k default < t.s.getD k default
    · rw [if_pos g, if_pos (by omega), if_pos g]
    · rw [if_neg g, if_neg g, jv_append (us := us) (p := p.set k (p.getD k default - t.s.getD k default)) (fun u hu => hd u (by simp [hu])) (hk' _) (by rw [set_set_id hk]; omega), set_set_id hk, List.set_set]
      by_cases g2 : p.getD k default - t.s.getD k default < jsum k us
      · rw [if_pos g2, if_pos (by omega)]
      · rw [if_neg g2, if_neg (by omega), show p.getD k default - t.s.getD k default - jsum k us = p.getD k default - (t.s.getD k default + jsum k us) by omega]
end Go.Proofs.YtkhndfaampkbnaaGreatDoor
