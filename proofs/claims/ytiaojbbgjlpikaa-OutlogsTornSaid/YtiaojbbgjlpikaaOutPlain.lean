/- Plain law: what a log's sectors hold, and what opening and reading come to. -/
import Derived.Test.YtiaojbbgjlpikaaOutRecs
namespace Go.Proofs.Ytiaojbbgjlpikaa
open Go Go.Dd Go.RowKit
set_option maxRecDepth 100000

abbrev Nums := List (BitVec 32)
/-- Lists that may be tensors of one direction. -/
def okN (x : Nums) : Prop := 1 ≤ x.length ∧ x.length ≤ 64
theorem okN_tok {x : Nums} (h : okN x) : tok [(x.length : Int)] x = true := by
  have h1 : Shapes.ok [(x.length : Int)] = true := (Shapes.ok_iff _).2 ⟨⟨by simp, by simp⟩, fun y hy => by rw [List.mem_singleton.1 hy]; unfold okN at h; omega, by simp [Shapes.prod]; unfold okN at h; omega⟩
  have h2 : Shapes.size [(x.length : Int)] = x.length := by rw [Shapes.size_ok h1]; simp [Shapes.prod]
  simp [tok, h1, h2]
def rB (k : Nat) (x : Nums) : By := recBy (BitVec.ofNat 32 k) [(x.length : Int)] x
def nR (x : Nums) : Nat := (4 * x.length + 69) / 60
theorem putB_one (x : Nums) : (putB [(x.length : Int)] x).length = 2 + 4 * x.length := by unfold putB; rw [List.length_append, fours_len]; rfl
theorem rB_len (k : Nat) (x : Nums) : (rB k x).length = 10 + 4 * x.length := by
  unfold rB recBy
  rw [List.length_append, putB_one]
  have : (Crc.four (BitVec.ofNat 32 k) ++ Crc.four (BitVec.ofInt 32 ((2 + 4 * x.length : Nat) : Int))).length = 8 := rfl
  rw [this]; omega
theorem nSec_rB (k : Nat) (x : Nums) : nSec (rB k x) = nR x := by unfold nSec nR; rw [rB_len]; congr 1; omega
theorem nR_pos (x : Nums) : 1 ≤ nR x := by unfold nR; omega
theorem nR_le {x : Nums} (h : okN x) : nR x ≤ 5 := by unfold nR; unfold okN at h; omega
/-- The sector behind the first k. -/
def stN : List Nums → Nat
  | [] => 1
  | x :: ls => nR x + stN ls
theorem stN_app (a b : List Nums) : stN (a ++ b) + 1 = stN a + stN b := by
  induction a with
  | nil => simp [stN]; omega
  | cons x a ih => simp only [List.cons_append, stN]; omega
theorem stN_pos (a : List Nums) : 1 ≤ stN a := by
  induction a with
  | nil => simp [stN]
  | cons x a ih => simp only [stN]; omega
theorem stN_one (x : Nums) : stN [x] = nR x + 1 := by simp [stN]
theorem stN_take {ls : List Nums} {k : Nat} (h : k < ls.length) : stN (ls.take (k + 1)) = stN (ls.take k) + nR ls[k] := by
  rw [List.take_succ_eq_append_getElem h]
  have := stN_app (ls.take k) [ls[k]]
  rw [stN_one] at this
  omega
theorem stN_le {ls : List Nums} {k : Nat} : stN (ls.take k) ≤ stN ls := by
  have := stN_app (ls.take k) (ls.drop k)
  rw [List.take_append_drop] at this
  have := stN_pos (ls.drop k)
  omega
theorem stN_bd {ls : List Nums} (h : ∀ x ∈ ls, okN x) : stN ls ≤ 1 + 5 * ls.length := by
  induction ls with
  | nil => simp [stN]
  | cons x ls ih =>
    have := nR_le (h x (by simp))
    have := ih (fun y hy => h y (List.mem_cons_of_mem _ hy))
    simp only [stN, List.length_cons]; omega
/-- Where each ends. -/
def esOf (ls : List Nums) : List Nat := (List.range ls.length).map fun k => stN (ls.take (k + 1))
theorem esOf_len (ls : List Nums) : (esOf ls).length = ls.length := by simp [esOf]
theorem esOf_get {ls : List Nums} {k : Nat} (h : k < ls.length) : (esOf ls).getD k 0 = stN (ls.take (k + 1)) := by
  unfold esOf
  rw [List.getD_eq_getElem?_getD, List.getElem?_map, List.getElem?_range h]
  rfl
theorem endN_es {ls : List Nums} {k : Nat} (h : k ≤ ls.length) : endN (esOf ls) k = stN (ls.take k) := by
  unfold endN
  split
  · rename_i h0; subst h0; simp [stN]
  · rw [esOf_get (by omega), show k - 1 + 1 = k by omega]
theorem endN_all (ls : List Nums) : endN (esOf ls) (esOf ls).length = stN ls := by rw [esOf_len, endN_es (Nat.le_refl _), List.take_length]
theorem esOf_app (ls : List Nums) (x : Nums) : esOf (ls ++ [x]) = esOf ls ++ [stN ls + nR x] := by
  unfold esOf
  rw [List.length_append, List.length_singleton, List.range_succ, List.map_append]
  congr 1
  · refine List.map_congr_left fun k hk => ?_
    have hk' : k < ls.length := by simpa using hk
    rw [List.take_append_of_le_length (by omega)]
  · simp only [List.map_cons, List.map_nil]
    have := stN_app ls [x]
    rw [stN_one] at this
    rw [List.take_of_length_le (by simp)]
    congr 1; omega
theorem esOf_take (ls : List Nums) (n : Nat) : (esOf ls).take n = esOf (ls.take n) := by
  apply List.ext_getElem?
  intro k
  unfold esOf
  rw [List.getElem?_take, List.length_take]
  by_cases h : k < n
  · rw [if_pos h]
    simp only [List.getElem?_map]
    by_cases h2 : k < ls.length
    · rw [List.getElem?_range h2, List.getElem?_range (by omega)]
      simp only [Option.map_some, List.take_take, Nat.min_eq_left (show k + 1 ≤ n by omega)]
    · rw [List.getElem?_eq_none (by simp; omega), List.getElem?_eq_none (by simp; omega)]
      rfl
  · rw [if_neg h, List.getElem?_eq_none (by simp; omega)]
/-- What a log's sectors hold. -/
structure OnDisk (l : List By) (ls : List Nums) : Prop where
  s64 : ∀ b ∈ l, b.length = 64
  fit : stN ls ≤ l.length
  okl : ∀ x ∈ ls, okN x
  few : ls.length ≤ 100
  sec : ∀ k (_ : k < ls.length) j, j < nR ls[k] → l.getD (stN (ls.take k) + j) [] = secOf (stN (ls.take k) + j) (prt (padT (rB k ls[k])) j)
  head : l.getD 0 [] = cntB ls.length (stN ls - 1) ∨ (ls = [] ∧ l.getD 0 [] = zer)

/-! ### A sector's parts -/
theorem gf_four (x : BitVec 32) (r : By) : gf (Crc.four x ++ r) = x := le4_four x
theorem four_len (x : BitVec 32) : (Crc.four x).length = 4 := rfl
theorem prt_len {P : By} {n j : Nat} (h : P.length = 60 * n) (hj : j < n) : (prt P j).length = 60 := by rw [prt, List.length_take, List.length_drop]; omega
theorem secOf_take {n : Nat} {p : By} (h : p.length = 60) : (secOf n p).take 60 = p := by unfold secOf; rw [List.take_append_of_le_length (by omega), List.take_of_length_le (by omega)]
theorem secOf_drop {n : Nat} {p : By} (h : p.length = 60) : (secOf n p).drop 60 = Crc.four (Crc.on (Crc.of (Crc.four (BitVec.ofInt 32 (n : Int)))) p) := by unfold secOf; rw [List.drop_append_of_le_length (by omega), List.drop_of_length_le (by omega), List.nil_append]
theorem secE_of {l : List By} {n : Nat} {p : By} (hn : n < l.length) (hp : p.length = 60) (h : l.getD n [] = secOf n p) : secE l n = 0 ∧ secB l n = p := by
  have h1 : secB l n = p := by unfold secB; rw [h, secOf_take hp]
  refine ⟨?_, h1⟩
  unfold secE
  rw [if_pos hn, h1, h, secOf_drop hp, if_pos]
  have := gf_four (Crc.on (Crc.of (Crc.four (BitVec.ofInt 32 (n : Int)))) p) []
  rw [List.append_nil] at this
  exact this.symm
theorem prt_take {P : By} (j : Nat) : P.take (60 * j) ++ prt P j = P.take (60 * (j + 1)) := by
  rw [prt, show 60 * (j + 1) = 60 * j + 60 by omega, List.take_add]
theorem nz_rep (n : Nat) : nzB (List.replicate n 0#8) = true := by
  unfold nzB
  rw [Bool.not_eq_true', List.any_eq_false]
  intro x hx
  rw [(List.mem_replicate.1 hx).2]; decide
theorem rB_eq (k : Nat) (x : Nums) : padT (rB k x) = Crc.four (BitVec.ofNat 32 k) ++ (Crc.four (BitVec.ofInt 32 ((2 + 4 * x.length : Nat) : Int)) ++ (putB [(x.length : Int)] x ++ List.replicate (60 * nSec (rB k x) - (rB k x).length) 0#8)) := by
  unfold padT
  conv => lhs; lhs; unfold rB recBy
  rw [putB_one, List.append_assoc, List.append_assoc]
theorem rd_of {l : List By} {ls : List Nums} (h : OnDisk l ls) {k : Nat} (hk : k < ls.length) : RdOk l (endN (esOf ls) k) (BitVec.ofNat 32 k) [(ls[k].length : Int)] ls[k] ((esOf ls).getD k 0) := by
  obtain ⟨x, hx⟩ : ∃ x, x = ls[k] := ⟨_, rfl⟩
  have hok : okN x := by rw [hx]; exact h.okl _ (List.getElem_mem hk)
  rw [endN_es (Nat.le_of_lt hk), esOf_get hk, stN_take hk, ← hx]
  obtain ⟨a, ha⟩ : ∃ a, a = stN (ls.take k) := ⟨_, rfl⟩
  obtain ⟨P, hP⟩ : ∃ P, P = padT (rB k x) := ⟨_, rfl⟩
  have lP : P.length = 60 * nR x := by rw [hP, padT_len, nSec_rB]
  have hfit : a + nR x ≤ l.length := by
    have := stN_take hk
    have h2 := stN_le (ls := ls) (k := k + 1)
    have := h.fit
    rw [← hx] at *
    omega
  have hs : ∀ j, j < nR x → secE l (a + j) = 0 ∧ secB l (a + j) = prt P j := fun j hj => secE_of (by omega) (prt_len lP hj) (by
    have := h.sec k hk j (by rw [← hx]; exact hj)
    rw [← hx, ← ha, ← hP] at this; exact this)
  rw [← ha]
  have hcat : ∀ j, j ≤ nR x → catS l a j = P.take (60 * j) := by
    intro j
    induction j with
    | zero => intro _; simp [catS]
    | succ j ih => intro hj; rw [catS, ih (by omega), (hs j (by omega)).2, prt_take]
  have hcn : catS l a (nR x) = P := by rw [hcat _ (Nat.le_refl _), List.take_of_length_le (by omega)]
  have n1 := nR_pos x
  obtain ⟨R, hR⟩ : ∃ R, R = List.replicate (60 * nSec (rB k x) - (rB k x).length) 0#8 := ⟨_, rfl⟩
  have eP := rB_eq k x
  rw [← hP, ← hR] at eP
  have lB := putB_one x
  obtain ⟨B, hB⟩ : ∃ B, B = putB [(x.length : Int)] x := ⟨_, rfl⟩
  rw [← hB] at eP lB
  have hm : recM l a = 2 + 4 * x.length := by
    unfold recM
    have h0 := (hs 0 (by omega)).2
    rw [Nat.add_zero] at h0
    rw [h0, prt, Nat.mul_zero, List.drop_zero, eP, List.take_append, List.drop_append, four_len, List.drop_of_length_le (by rw [List.length_take, four_len]; omega), List.nil_append, List.length_take, four_len, show min 60 4 = 4 from rfl, Nat.sub_self, List.drop_zero, show 60 - 4 = 56 from rfl, List.take_append, four_len, List.take_of_length_le (by rw [four_len]; omega), gf_four]
    rw [BitVec.toNat_ofInt]
    unfold okN at hok
    have : (((2 + 4 * x.length : Nat) : Int) % ((2 ^ 32 : Nat) : Int)) = ((2 + 4 * x.length : Nat) : Int) := Int.emod_eq_of_lt (by omega) (by simp; omega)
    rw [this]; rfl
  have hd8 : P.drop 8 = B ++ R := by
    rw [eP, List.drop_append, List.drop_of_length_le (by rw [four_len]; omega), List.nil_append, four_len, show 8 - 4 = 4 from rfl, List.drop_append, List.drop_of_length_le (by rw [four_len]; omega), List.nil_append, four_len, Nat.sub_self, List.drop_zero]
  have hT : (P.drop 8).take (2 + 4 * x.length) = B := by rw [hd8, ← lB, List.take_left]
  have hd : P.drop (8 + (2 + 4 * x.length)) = R := by rw [← List.drop_drop, hd8, ← lB, List.drop_left]
  obtain ⟨g1, g2, g3⟩ := get_put (okN_tok hok)
  rw [← hB] at g1 g2 g3
  unfold okN at hok
  refine ⟨nR x, fun i hi => (hs i hi).1, by omega, by rw [hm]; unfold nR; omega, by rw [hm]; unfold nR; omega, ?_, ?_, ?_, ?_, rfl⟩
  · rw [hcn, hm]
    unfold recF
    rw [show 8 + (2 + 4 * x.length) - 8 = 2 + 4 * x.length by omega, hT, hd, g1, hR, nz_rep]; rfl
  · rw [hcn, eP, gf_four]
  · rw [hcn, hm, hT, g2]
  · rw [hcn, hm, hT, g3]

/-! ### The count -/
theorem cntB_eq (n s : Nat) : cntB n s = cx n s ++ (Crc.four (Crc.of (cx n s)) ++ List.replicate 47 0#8) := by
  unfold cntB pad
  rw [List.length_append, cx_len, four_len, List.append_assoc]
theorem cx_eq (n s : Nat) : cx n s = cmark ++ (Crc.four (BitVec.ofInt 32 (n : Int)) ++ Crc.four (BitVec.ofInt 32 (s : Int))) := by unfold cx; rw [List.append_assoc]
theorem nz_cnt (n s : Nat) : nzB (cntB n s) = false := by rw [cntB_eq, cx_eq]; simp [cmark, nzB]
theorem cnt_ok (n s : Nat) : cntE (cntB n s) = 0 := by
  have h5 : (cntB n s).take 5 = cmark := by rw [cntB_eq, cx_eq, List.append_assoc]; exact List.take_left (l₁ := cmark)
  have h13 : (cntB n s).take 13 = cx n s := by rw [cntB_eq]; exact List.take_left (l₁ := cx n s)
  have d13 : (cntB n s).drop 13 = Crc.four (Crc.of (cx n s)) ++ List.replicate 47 0#8 := by rw [cntB_eq]; exact List.drop_left (l₁ := cx n s)
  have d17 : (cntB n s).drop 17 = List.replicate 47 0#8 := by rw [show 17 = 13 + 4 from rfl, ← List.drop_drop, d13]; exact List.drop_left (l₁ := Crc.four (Crc.of (cx n s)))
  unfold cntE
  rw [if_pos ⟨h5, by rw [d17]; exact nz_rep 47⟩, h13, d13, gf_four, if_pos rfl]
theorem ofInt_nat {n : Nat} (h : n < 4294967296) : (BitVec.ofInt 32 (n : Int)).toNat = n := by
  rw [BitVec.toNat_ofInt]
  have : ((n : Int) % ((2 ^ 32 : Nat) : Int)) = (n : Int) := Int.emod_eq_of_lt (by omega) (by simp; omega)
  rw [this]; rfl
theorem cnt_m {l : List By} {n s : Nat} (h : l.getD 0 [] = cntB n s) (hn : n < 4294967296) : cM l = n := by
  unfold cM
  have : (cntB n s).drop 5 = Crc.four (BitVec.ofInt 32 (n : Int)) ++ (Crc.four (BitVec.ofInt 32 (s : Int)) ++ (Crc.four (Crc.of (cx n s)) ++ List.replicate 47 0#8)) := by
    rw [cntB_eq, cx_eq, List.append_assoc, List.append_assoc]; exact List.drop_left (l₁ := cmark)
  rw [h, this, gf_four, ofInt_nat hn]
theorem cnt_s {l : List By} {n s : Nat} (h : l.getD 0 [] = cntB n s) (hs : s < 4294967296) : cS l = s := by
  unfold cS
  have : (cntB n s).drop 9 = Crc.four (BitVec.ofInt 32 (s : Int)) ++ (Crc.four (Crc.of (cx n s)) ++ List.replicate 47 0#8) := by
    have h5 : (cntB n s).drop 5 = Crc.four (BitVec.ofInt 32 (n : Int)) ++ (Crc.four (BitVec.ofInt 32 (s : Int)) ++ (Crc.four (Crc.of (cx n s)) ++ List.replicate 47 0#8)) := by
      rw [cntB_eq, cx_eq, List.append_assoc, List.append_assoc]; exact List.drop_left (l₁ := cmark)
    rw [show 9 = 5 + 4 from rfl, ← List.drop_drop, h5]; exact List.drop_left (l₁ := Crc.four (BitVec.ofInt 32 (n : Int)))
  rw [h, this, gf_four, ofInt_nat hs]
theorem chain_of {l : List By} {ls : List Nums} (h : OnDisk l ls) : Chain l (esOf ls) := fun k hk => by
  rw [esOf_len] at hk
  exact ⟨_, _, rd_of h hk⟩
theorem open_of {l : List By} {ls : List Nums} (h : OnDisk l ls) : OpenH l 0 (esOf ls) := by
  have hb := stN_bd h.okl
  have hf := h.few
  have hp := stN_pos ls
  rcases h.head with h1 | ⟨rfl, h1⟩
  · refine .ok _ (by rw [h1]; exact nz_cnt _ _) (by rw [h1]; exact cnt_ok _ _) (chain_of h) (by rw [esOf_len, cnt_m h1 (by omega)]) (by rw [endN_all, cnt_s h1 (by omega)]; omega)
  · exact .zero (by rw [h1]; exact nz_rep 64)
theorem ends_bd {l : List By} {ls : List Nums} (h : OnDisk l ls) : ∀ k, k ≤ (esOf ls).length → endN (esOf ls) k ≤ 100000 := fun k hk => by
  rw [esOf_len] at hk
  rw [endN_es hk]
  have := stN_le (ls := ls) (k := k)
  have := stN_bd h.okl
  have := h.few
  omega
/-- Other sectors elsewhere change nothing. -/
theorem OnDisk.other {l l' : List By} {ls : List Nums} (h : OnDisk l ls) (h64 : ∀ b ∈ l', b.length = 64) (hl : l'.length = l.length) (he : ∀ i, 1 ≤ i → i < stN ls → l'.getD i [] = l.getD i []) (hh : l'.getD 0 [] = cntB ls.length (stN ls - 1) ∨ (ls = [] ∧ l'.getD 0 [] = zer)) : OnDisk l' ls where
  s64 := h64
  fit := by rw [hl]; exact h.fit
  okl := h.okl
  few := h.few
  sec := fun k hk j hj => by
    rw [← h.sec k hk j hj]
    have := stN_take hk
    have := stN_le (ls := ls) (k := k + 1)
    have := stN_pos (ls.take k)
    exact he _ (by omega) (by omega)
  head := hh
/-- Only the first ones. -/
theorem OnDisk.cut {l l' : List By} {ls : List Nums} (h : OnDisk l ls) (n : Nat) (h64 : ∀ b ∈ l', b.length = 64) (hl : l'.length = l.length) (he : ∀ i, 1 ≤ i → l'.getD i [] = l.getD i []) (hh : l'.getD 0 [] = cntB (ls.take n).length (stN (ls.take n) - 1)) : OnDisk l' (ls.take n) where
  s64 := h64
  fit := by rw [hl]; exact Nat.le_trans stN_le h.fit
  okl := fun x hx => h.okl x (List.mem_of_mem_take hx)
  few := by have := h.few; rw [List.length_take]; omega
  sec := fun k hk j hj => by
    rw [List.length_take] at hk
    have e : (ls.take n)[k] = ls[k]'(by omega) := by simp
    rw [e] at hj ⊢
    rw [List.take_take, Nat.min_eq_left (by omega), ← h.sec k (by omega) j hj]
    have := stN_pos (ls.take k)
    exact he _ (by omega)
  head := .inl hh
theorem wrs_get {l : List By} {a : Nat} {P : By} : ∀ (k i : Nat), a + k ≤ l.length → (wrs l a P k).getD i [] = if a ≤ i ∧ i < a + k then secOf i (prt P (i - a)) else l.getD i []
  | 0, i, _ => by rw [if_neg (by omega)]; rfl
  | k + 1, i, h => by
    have ih := wrs_get (l := l) (a := a) (P := P) k i (by omega)
    unfold wrs
    rw [List.getD_eq_getElem?_getD, List.getElem?_set, wrs_len]
    by_cases h1 : a + k = i
    · rw [if_pos h1, if_pos (by omega), if_pos (by omega)]
      subst h1
      rw [Option.getD_some, show a + k - a = k by omega]
    · rw [if_neg h1, ← List.getD_eq_getElem?_getD, ih]
      by_cases h2 : a ≤ i ∧ i < a + k
      · rw [if_pos h2, if_pos (by omega)]
      · rw [if_neg h2, if_neg (by omega)]
theorem wrs_64 {l : List By} {a : Nat} {P : By} (h : ∀ b ∈ l, b.length = 64) {n : Nat} (hP : P.length = 60 * n) : ∀ k, k ≤ n → ∀ b ∈ wrs l a P k, b.length = 64
  | 0, _ => h
  | k + 1, hk => fun b hb => (List.mem_or_eq_of_mem_set hb).elim (wrs_64 h hP k (by omega) b) (fun e => by rw [e]; exact secOf_len (prt_len hP (by omega)))
/-- A record more. -/
def addL (l : List By) (ls : List Nums) (x : Nums) : List By := (wrs l (stN ls) (padT (rB ls.length x)) (nR x)).set 0 (cntB (ls.length + 1) (stN ls + nR x - 1))
theorem addL_len (l : List By) (ls : List Nums) (x : Nums) : (addL l ls x).length = l.length := by unfold addL; rw [List.length_set, wrs_len]
theorem addL_get {l : List By} {ls : List Nums} {x : Nums} {i : Nat} (hf : stN ls + nR x ≤ l.length) (hi : 1 ≤ i) : (addL l ls x).getD i [] = if stN ls ≤ i ∧ i < stN ls + nR x then secOf i (prt (padT (rB ls.length x)) (i - stN ls)) else l.getD i [] := by
  unfold addL
  rw [List.getD_eq_getElem?_getD, List.getElem?_set_ne (by omega), ← List.getD_eq_getElem?_getD, wrs_get _ _ hf]
theorem OnDisk.add {l : List By} {ls : List Nums} (h : OnDisk l ls) {x : Nums} (hx : okN x) (hf : stN ls + nR x ≤ l.length) (hm : ls.length + 1 ≤ 100) : OnDisk (addL l ls x) (ls ++ [x]) := by
  have hp := stN_pos ls
  have hst : stN (ls ++ [x]) = stN ls + nR x := by have := stN_app ls [x]; rw [stN_one] at this; omega
  have lP : (padT (rB ls.length x)).length = 60 * nR x := by rw [padT_len, nSec_rB]
  refine ⟨fun b hb => ?_, by rw [hst, addL_len]; exact hf, fun y hy => (List.mem_append.1 hy).elim (h.okl y) (fun e => by rw [List.mem_singleton.1 e]; exact hx), by rw [List.length_append]; exact hm, fun k hk j hj => ?_, .inl ?_⟩
  · exact (List.mem_or_eq_of_mem_set hb).elim (wrs_64 h.s64 lP _ (Nat.le_refl _) b) (fun e => by rw [e]; exact cntB_len _ _)
  · rw [List.length_append, List.length_singleton] at hk
    by_cases h1 : k < ls.length
    · have e : (ls ++ [x])[k]'(by rw [List.length_append]; omega) = ls[k] := List.getElem_append_left h1
      rw [e] at hj ⊢
      rw [List.take_append_of_le_length (by omega)]
      have h2 := stN_take h1
      have h3 := stN_le (ls := ls) (k := k + 1)
      have h4 := stN_pos (ls.take k)
      rw [addL_get hf (by omega), if_neg (by omega)]
      exact h.sec k h1 j hj
    · obtain rfl : k = ls.length := by omega
      have e : (ls ++ [x])[ls.length]'(by rw [List.length_append]; simp) = x := by simp
      rw [e] at hj ⊢
      rw [List.take_left, addL_get hf (by omega), if_pos (by omega), show stN ls + j - stN ls = j by omega]
  · rw [hst, List.length_append, List.length_singleton]
    unfold addL
    rw [List.getD_eq_getElem?_getD, List.getElem?_set_self (by rw [wrs_len]; have := h.fit; omega)]
    rfl
theorem getD_set0 {l : List By} {c : By} {i : Nat} (h : 1 ≤ i) : (l.set 0 c).getD i [] = l.getD i [] := by
  rw [List.getD_eq_getElem?_getD, List.getElem?_set_ne (by omega), ← List.getD_eq_getElem?_getD]
theorem getD_set00 {l : List By} {c : By} (h : 0 < l.length) : (l.set 0 c).getD 0 [] = c := by
  rw [List.getD_eq_getElem?_getD, List.getElem?_set_self h]; rfl
theorem onDisk_new {n : Nat} (h : 1 ≤ n) : OnDisk (List.replicate n zer) [] where
  s64 := fun b hb => by rw [(List.mem_replicate.1 hb).2]; exact zer_len
  fit := by simp [stN]; omega
  okl := fun x hx => by cases hx
  few := by simp
  sec := fun k hk => by cases hk
  head := .inr ⟨rfl, by rw [List.getD_eq_getElem?_getD, List.getElem?_replicate, if_pos (by omega)]; rfl⟩
theorem cut_of {l : List By} {ls : List Nums} (h : OnDisk l ls) (n : Nat) : OnDisk (l.set 0 (cntB (ls.take n).length (stN (ls.take n) - 1))) (ls.take n) :=
  h.cut n (fun b hb => (List.mem_or_eq_of_mem_set hb).elim (h.s64 b) (fun e => by rw [e]; exact cntB_len _ _)) (by simp) (fun i hi => getD_set0 hi) (getD_set00 (by have := h.fit; have := stN_pos ls; omega))
end Go.Proofs.Ytiaojbbgjlpikaa
