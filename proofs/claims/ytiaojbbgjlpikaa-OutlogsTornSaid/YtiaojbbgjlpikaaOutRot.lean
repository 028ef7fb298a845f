/- Plain law: what a log's sectors tell when one byte turns. -/
import Derived.Test.YtiaojbbgjlpikaaOutAgain
namespace Go.Proofs.Ytiaojbbgjlpikaa
open Go Go.Dd Go.RowKit
set_option maxRecDepth 100000

theorem run_inj : ∀ (l : By) (r s : BitVec 32), Crc.run r l = Crc.run s l → r = s
  | [], _, _, h => h
  | c :: l, r, s, h => by
    have h1 : Crc.feed r c = Crc.feed s c := run_inj l _ _ h
    have h2 := Crc.iter_eq 8 _ _ h1
    have h3 := congrArg (· ^^^ c.setWidth 32) h2
    simpa [BitVec.xor_assoc] using h3
theorem on_set {s : BitVec 32} {p : By} {i : Nat} {c : BitVec 8} (hi : i < p.length) (h : Crc.on s (p.set i c) = Crc.on s p) : c = p.getD i default := by
  have e1 : p = p.take i ++ (p[i] :: p.drop (i + 1)) := by rw [← List.drop_eq_getElem_cons hi, List.take_append_drop]
  have e2 : p.set i c = p.take i ++ (c :: p.drop (i + 1)) := by rw [List.set_eq_take_append_cons_drop, if_pos hi]
  unfold Crc.on at h
  have h0 := congrArg (~~~ ·) h
  simp only [BitVec.not_not] at h0
  have h1 : Crc.run (~~~ s) (p.take i ++ (c :: p.drop (i + 1))) = Crc.run (~~~ s) (p.take i ++ (p[i] :: p.drop (i + 1))) := by rw [← e2, ← e1]; exact h0
  rw [Crc.run_append, Crc.run_append] at h1
  have h2 := run_inj (p.drop (i + 1)) (Crc.feed (Crc.run (~~~ s) (p.take i)) c) (Crc.feed (Crc.run (~~~ s) (p.take i)) p[i]) h1
  have h3 := Crc.iter_eq 8 _ _ h2
  have h4 := congrArg (Crc.run (~~~ s) (p.take i) ^^^ ·) h3
  simp only [← BitVec.xor_assoc, BitVec.xor_self, BitVec.zero_xor] at h4
  have h5 := congrArg (BitVec.setWidth 8) h4
  simp at h5
  rw [h5]; simp [List.getD_eq_getElem?_getD, hi]
theorem gf_inj {a b : By} (h : gf a = gf b) : ∀ i, i < 4 → a.getD i default = b.getD i default := fun i hi => by
  have h1 := congrArg Crc.four h
  unfold gf at h1
  rw [four_le4, four_le4] at h1
  simp only [List.cons.injEq, and_true] at h1
  obtain ⟨h0, h1, h2, h3⟩ := h1
  rcases (show i = 0 ∨ i = 1 ∨ i = 2 ∨ i = 3 by omega) with rfl | rfl | rfl | rfl <;> assumption
theorem getD_set {α : Type} {l : List α} {i : Nat} {c d : α} (h : i < l.length) : (l.set i c).getD i d = c := by
  rw [List.getD_eq_getElem?_getD, List.getElem?_set_self h]; rfl
theorem getD_set_ne {α : Type} {l : List α} {i j : Nat} {c d : α} (h : i ≠ j) : (l.set i c).getD j d = l.getD j d := by
  rw [List.getD_eq_getElem?_getD, List.getElem?_set_ne h, ← List.getD_eq_getElem?_getD]
theorem getD_take {α : Type} {l : List α} {n i : Nat} {d : α} (h : i < n) : (l.take n).getD i d = l.getD i d := by
  rw [List.getD_eq_getElem?_getD, List.getElem?_take, if_pos h, ← List.getD_eq_getElem?_getD]
theorem getD_drop {α : Type} {l : List α} {n i : Nat} {d : α} : (l.drop n).getD i d = l.getD (n + i) d := by
  rw [List.getD_eq_getElem?_getD, List.getElem?_drop, ← List.getD_eq_getElem?_getD]
theorem nz_all {l : By} (h : nzB l = true) (i : Nat) (hi : i < l.length) : l.getD i default = 0#8 := by
  unfold nzB at h
  rw [Bool.not_eq_true', List.any_eq_false] at h
  have h1 := h l[i] (List.getElem_mem hi)
  have h2 : l[i] = 0#8 := by simpa using h1
  rw [List.getD_eq_getElem?_getD, List.getElem?_eq_getElem hi]; exact h2
theorem nz_not {l : By} (i : Nat) (hi : i < l.length) (h : l.getD i default ≠ 0#8) : nzB l = false := by
  cases e : nzB l with
  | false => rfl
  | true => exact absurd (nz_all e i hi) h
theorem cntE_zero {b : By} (h : cntE b = 0) : b.take 5 = cmark ∧ nzB (b.drop 17) = true ∧ Crc.of (b.take 13) = gf (b.drop 13) := by
  unfold cntE at h
  by_cases h1 : b.take 5 = cmark ∧ nzB (b.drop 17) = true
  · rw [if_pos h1] at h
    by_cases h2 : Crc.of (b.take 13) = gf (b.drop 13)
    · exact ⟨h1.1, h1.2, h2⟩
    · rw [if_neg h2] at h; omega
  · rw [if_neg h1] at h; omega
theorem cntE_or (b : By) : cntE b = 0 ∨ cntE b = 4 ∨ cntE b = 11 := by
  unfold cntE
  split
  · split <;> simp
  · simp
theorem secE_or (l : List By) (n : Nat) : secE l n = 0 ∨ secE l n = 4 ∨ secE l n = 11 := by
  unfold secE
  split
  · split <;> simp
  · simp
theorem cntE_set {b : By} {i : Nat} {c : BitVec 8} (hb : b.length = 64) (hi : i < 64) (h : cntE b = 0) (h' : cntE (b.set i c) = 0) : c = b.getD i default := by
  obtain ⟨a1, a2, a3⟩ := cntE_zero h
  obtain ⟨c1, c2, c3⟩ := cntE_zero h'
  have hs : (b.set i c).getD i default = c := getD_set (by omega)
  by_cases h5 : i < 5
  · have e1 : ((b.set i c).take 5).getD i default = (b.take 5).getD i default := by rw [a1, c1]
    rw [getD_take h5, getD_take h5, hs] at e1; exact e1
  by_cases h13 : i < 13
  · have e1 : (b.set i c).drop 13 = b.drop 13 := by rw [List.drop_set_of_lt h13]
    rw [e1, ← a3, List.take_set] at c3
    have := on_set (s := 0#32) (p := b.take 13) (i := i) (c := c) (by rw [List.length_take]; omega) c3
    rw [getD_take h13] at this; exact this
  by_cases h17 : i < 17
  · have e1 : (b.set i c).take 13 = b.take 13 := by rw [List.take_set_of_le (by omega)]
    rw [e1, a3] at c3
    have := gf_inj c3 (i - 13) (by omega)
    rw [getD_drop, getD_drop, show 13 + (i - 13) = i by omega, hs] at this
    exact this.symm
  · have e1 := nz_all c2 (i - 17) (by simp; omega)
    have e2 := nz_all a2 (i - 17) (by simp; omega)
    rw [getD_drop, show 17 + (i - 17) = i by omega] at e1 e2
    rw [hs] at e1
    rw [e1, e2]
theorem secE_set {l : List By} {n i : Nat} {p : By} {c : BitVec 8} (hn : n < l.length) (hp : p.length = 60) (hi : i < 64) (h : l.getD n [] = (secOf n p).set i c) (h0 : secE l n = 0) : c = (secOf n p).getD i default := by
  have l64 : (secOf n p).length = 64 := secOf_len hp
  have hs : ((secOf n p).set i c).getD i default = c := getD_set (by omega)
  unfold secE secB at h0
  rw [if_pos hn, h] at h0
  have h1 : Crc.on (Crc.of (Crc.four (BitVec.ofInt 32 (n : Int)))) (((secOf n p).set i c).take 60) = gf (((secOf n p).set i c).drop 60) := by
    by_cases e : Crc.on (Crc.of (Crc.four (BitVec.ofInt 32 (n : Int)))) (((secOf n p).set i c).take 60) = gf (((secOf n p).set i c).drop 60)
    · exact e
    · rw [if_neg e] at h0; omega
  have h2 : gf ((secOf n p).drop 60) = Crc.on (Crc.of (Crc.four (BitVec.ofInt 32 (n : Int)))) p := by
    rw [secOf_drop hp]
    have := gf_four (Crc.on (Crc.of (Crc.four (BitVec.ofInt 32 (n : Int)))) p) []
    rwa [List.append_nil] at this
  by_cases h60 : i < 60
  · rw [List.drop_set_of_lt h60, h2, List.take_set, secOf_take hp] at h1
    have h3 := on_set (p := p) (by omega) h1
    have h4 : (secOf n p).getD i default = p.getD i default := by
      rw [← getD_take (n := 60) h60, secOf_take hp]
    rw [h4]; exact h3
  · rw [List.take_set_of_le (by omega), secOf_take hp, ← h2] at h1
    have := gf_inj h1 (i - 60) (by omega)
    rw [getD_drop, getD_drop, show 60 + (i - 60) = i by omega, hs] at this
    exact this.symm
/-- A record's sectors tell it, whatever stands elsewhere. -/
theorem secE_congr {l l' : List By} {n : Nat} (hl : l'.length = l.length) (h : l'.getD n [] = l.getD n []) : secE l' n = secE l n ∧ secB l' n = secB l n := by
  unfold secE secB; rw [hl, h]; exact ⟨rfl, rfl⟩
theorem recM_congr {l l' : List By} {a : Nat} (hl : l'.length = l.length) (h : l'.getD a [] = l.getD a []) : recM l' a = recM l a := by
  unfold recM
  have := (secE_congr hl h).2
  rw [this]
theorem catS_congr {l l' : List By} {a : Nat} (hl : l'.length = l.length) : ∀ j, (∀ i, i < j → l'.getD (a + i) [] = l.getD (a + i) []) → catS l' a j = catS l a j
  | 0, _ => rfl
  | j + 1, h => by
    rw [catS, catS, catS_congr hl j (fun i hi => h i (by omega)), (secE_congr hl (h j (by omega))).2]
theorem rd_congr {l l' : List By} {a nx : Nat} {ix : BitVec 32} {s : List Int} {t : Nums} (hl : l'.length = l.length) (he : ∀ i, a ≤ i → i < nx → l'.getD i [] = l.getD i []) (h : RdOk l a ix s t nx) : RdOk l' a ix s t nx := by
  obtain ⟨j, h1, h2, h3, h4, h5, h6, h7, h8, h9⟩ := h
  have hj : 0 < j := by omega
  have hm : recM l' a = recM l a := recM_congr hl (he a (Nat.le_refl _) (by omega))
  have hc : catS l' a j = catS l a j := catS_congr hl j (fun i hi => he _ (by omega) (by omega))
  refine ⟨j, fun i hi => ?_, ?_⟩
  · rw [(secE_congr hl (he (a + i) (by omega) (by omega))).1]; exact h1 i hi
  · rw [hm, hc]; exact ⟨h2, h3, h4, h5, h6, h7, h8, h9⟩
theorem stN_find {ls : List Nums} {n : Nat} (h1 : 1 ≤ n) : ∀ m, m ≤ ls.length → n < stN (ls.take m) → ∃ k, ∃ hk : k < ls.length, stN (ls.take k) ≤ n ∧ n < stN (ls.take k) + nR ls[k]
  | 0, _, h => by simp [stN] at h; omega
  | m + 1, hm, h => by
    by_cases h2 : n < stN (ls.take m)
    · exact stN_find h1 m (by omega) h2
    · rw [stN_take hm] at h
      exact ⟨m, hm, by omega, h⟩
theorem xor_ne {a x : BitVec 8} (hx : x ≠ 0#8) : a ^^^ x ≠ a := fun h => hx (by
  have := congrArg (a ^^^ ·) h
  simpa [← BitVec.xor_assoc] using this)
theorem open_turned {l : List By} {ls : List Nums} (h : OnDisk l ls) {n k : Nat} (hn : n < l.length) (hk : k < 64) (x : BitVec 8) :
    OnDisk (l.set n (rotB (l.getD n []) k x)) ls ∨ (x ≠ 0#8 ∧ ∃ e es, (e = 4 ∨ e = 11) ∧ OpenH (l.set n (rotB (l.getD n []) k x)) e es ∧ ∀ j, j ≤ es.length → endN es j ≤ 100000) := by
  obtain ⟨b, hb⟩ : ∃ b, b = l.getD n [] := ⟨_, rfl⟩
  have l64 : b.length = 64 := by rw [hb, List.getD_eq_getElem?_getD, List.getElem?_eq_getElem hn]; exact h.s64 _ (List.getElem_mem hn)
  rw [← hb]
  obtain ⟨c, hc⟩ : ∃ c, c = b.getD k default ^^^ x := ⟨_, rfl⟩
  have er : rotB b k x = b.set k c := by rw [hc]; rfl
  rw [er]
  obtain ⟨l', hl'⟩ : ∃ l', l' = l.set n (b.set k c) := ⟨_, rfl⟩
  have ll : l'.length = l.length := by rw [hl', List.length_set]
  have gn : l'.getD n [] = b.set k c := by rw [hl', getD_set hn]
  have go : ∀ i, i ≠ n → l'.getD i [] = l.getD i [] := fun i hi => by rw [hl', getD_set_ne (Ne.symm hi)]
  have h64 : ∀ q ∈ l', q.length = 64 := fun q hq => by
    rw [hl'] at hq
    exact (List.mem_or_eq_of_mem_set hq).elim (h.s64 q) (fun e => by rw [e, List.length_set]; exact l64)
  rw [← hl']
  by_cases hx : x = 0#8
  · left
    have : l' = l := by
      rw [hl', hc, hx, BitVec.xor_zero]
      have e1 : b.set k (b.getD k default) = b := by
        rw [List.getD_eq_getElem?_getD, List.getElem?_eq_getElem (by omega)]
        exact List.set_getElem_self (by omega)
      rw [e1, hb, List.getD_eq_getElem?_getD, List.getElem?_eq_getElem hn]
      exact List.set_getElem_self hn
    rw [this]; exact h
  have hne : c ≠ b.getD k default := by rw [hc]; exact xor_ne hx
  have hp := stN_pos ls
  by_cases hbig : stN ls ≤ n
  · left
    exact h.other h64 ll (fun i h1 h2 => go i (by omega)) (by rw [go 0 (by omega)]; exact h.head)
  right
  refine ⟨hx, ?_⟩
  by_cases h0 : n = 0
  · subst h0
    have hsk : (b.set k c).getD k default = c := getD_set (by omega)
    have ho : ∀ i, i ≠ k → (b.set k c).getD i default = b.getD i default := fun i hi => getD_set_ne (Ne.symm hi)
    have key : nzB (b.set k c) = false ∧ cntE (b.set k c) ≠ 0 := by
      rcases h.head with h1 | ⟨-, h1⟩
      · rw [← hb] at h1
        have c0 : cntE b = 0 := by rw [h1]; exact cnt_ok _ _
        have h5 := (cntE_zero c0).1
        have b0 : b.getD 0 default = 67#8 := by rw [← getD_take (n := 5) (by decide), h5]; rfl
        have b1 : b.getD 1 default = 79#8 := by rw [← getD_take (n := 5) (by decide), h5]; rfl
        refine ⟨?_, fun e => hne (cntE_set l64 hk c0 e)⟩
        by_cases hk0 : k = 0
        · exact nz_not 1 (by rw [List.length_set]; omega) (by rw [ho 1 (by omega), b1]; decide)
        · exact nz_not 0 (by rw [List.length_set]; omega) (by rw [ho 0 (by omega), b0]; decide)
      · rw [← hb] at h1
        have bz : ∀ i, i < 64 → b.getD i default = 0#8 := fun i hi => nz_all (by rw [h1]; exact nz_rep 64) i (by omega)
        refine ⟨nz_not k (by rw [List.length_set]; omega) (by rw [hsk, ← bz k hk]; exact hne), fun e => ?_⟩
        have h5 := (cntE_zero e).1
        have b0 : (b.set k c).getD 0 default = 67#8 := by rw [← getD_take (n := 5) (by decide), h5]; rfl
        have b1 : (b.set k c).getD 1 default = 79#8 := by rw [← getD_take (n := 5) (by decide), h5]; rfl
        by_cases hk0 : k = 0
        · rw [ho 1 (by omega), bz 1 (by decide)] at b1; cases b1
        · rw [ho 0 (by omega), bz 0 (by decide)] at b0; cases b0
    refine ⟨cntE (b.set k c), [], (cntE_or _).resolve_left key.2, .cnt _ (by rw [gn]; exact key.1) (by rw [gn]) key.2, fun j hj => ?_⟩
    obtain rfl : j = 0 := by simpa using hj
    decide
  obtain ⟨q, hq, q1, q2⟩ := stN_find (ls := ls) (n := n) (by omega) ls.length (Nat.le_refl _) (by rw [List.take_length]; omega)
  obtain ⟨a, ha⟩ : ∃ a, a = stN (ls.take q) := ⟨_, rfl⟩
  rw [← ha] at q1 q2
  obtain ⟨j, rfl⟩ : ∃ j, n = a + j := ⟨n - a, by omega⟩
  have eEq : endN (esOf ls) q = a := by rw [endN_es (Nat.le_of_lt hq), ← ha]
  have hch := chain_of h
  have lq : ((esOf ls).take q).length = q := by rw [List.length_take, esOf_len]; omega
  have hrd := rd_of h hq
  rw [eEq, esOf_get hq, stN_take hq, ← ha] at hrd
  obtain ⟨j1, r1, r2, r3, r4, -, -, -, -, r9⟩ := hrd
  have ej : j1 = nR ls[q] := by omega
  have hsec := h.sec q hq j (by omega)
  rw [← ha, ← hb] at hsec
  have lP : (padT (rB q ls[q])).length = 60 * nR ls[q] := by rw [padT_len, nSec_rB]
  have lp := prt_len lP (show j < nR ls[q] by omega)
  have hbad : secE l' (a + j) ≠ 0 := fun e => by
    rw [hsec] at gn hne
    exact hne (secE_set (by omega) lp hk gn e)
  have hap := stN_pos (ls.take q)
  have few := h.few
  have hc4 := h.head.resolve_right (fun e => by rw [e.1] at hq; cases hq)
  have eh : l'.getD 0 [] = cntB ls.length (stN ls - 1) := by rw [go 0 (by omega)]; exact hc4
  refine ⟨secE l' (a + j), (esOf ls).take q, (secE_or _ _).resolve_left hbad, .bad _ _ (by rw [eh]; exact nz_cnt _ _) (by rw [eh]; exact cnt_ok _ _) (fun i hi => ?_) (by rw [lq, cnt_m eh (by omega)]; exact hq) ?_, fun i hi => ?_⟩
  · rw [lq] at hi
    obtain ⟨s, t, hok⟩ := hch i (by rw [esOf_len]; omega)
    have e1 : endN ((esOf ls).take q) i = endN (esOf ls) i := endN_take (by omega)
    have e2 : ((esOf ls).take q).getD i 0 = (esOf ls).getD i 0 := getD_take hi
    rw [e1, e2]
    refine ⟨s, t, rd_congr ll (fun z z1 z2 => go z ?_) hok⟩
    rw [esOf_get (by omega)] at z2
    have : stN (ls.take (i + 1)) ≤ stN (ls.take q) := by
      have := stN_le (ls := ls.take q) (k := i + 1)
      rwa [List.take_take, Nat.min_eq_left (by omega)] at this
    omega
  · rw [lq, endN_take (Nat.le_refl _), eEq]
    refine ⟨hbad, j, fun i hi => ?_, ?_, rfl⟩
    · rw [(secE_congr ll (go (a + i) (by omega))).1]; exact r1 i (by omega)
    · by_cases hj : j = 0
      · exact .inl hj
      · rw [recM_congr ll (go a (by omega))]
        exact .inr ⟨r2, by omega⟩
  · rw [lq] at hi
    rw [endN_take hi]
    exact ends_bd h i (by rw [esOf_len]; omega)
end Go.Proofs.Ytiaojbbgjlpikaa
