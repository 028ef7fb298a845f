/- Plain law on numbers at places: nothing here names a program. -/
import Derived.Test.YtkhndfaampkbnaaGreatDoorMov
namespace Go.Dd
open Go Go.RowKit
namespace Shapes
theorem place_add {a j : Int} : ∀ {s : List Int}, good s → ∀ b : Int, place s (b * a * prod s + j) = place s (b * 0 + j)
  | [], _, _ => rfl
  | x :: s, g, b => by
    have hp := prod_pos (good_cons.1 g).2
    have h1 := (good_cons.1 g).1
    have e1 : b * a * prod (x :: s) + j = b * a * x * prod s + j := by simp only [prod]; rw [Int.mul_assoc (b * a)]
    have ih := place_add (a := a * x) (j := j) (good_cons.1 g).2 b
    rw [← Int.mul_assoc] at ih
    simp only [place, e1, ih]
    congr 1
    rw [show b * a * x * prod s + j = j + prod s * (b * a * x) by rw [Int.mul_comm (prod s)]; omega, Int.add_mul_ediv_left _ _ (by omega), show j / prod s + b * a * x = j / prod s + x * (b * a) by rw [Int.mul_comm x], Int.add_mul_emod_self_left, Int.mul_zero, Int.zero_add]
theorem place_more {a j : Int} {s : List Int} (g : good s) : place s (a * prod s + j) = place s j := by
  have := place_add (a := a) (j := j) g 1
  rwa [Int.one_mul, Int.mul_zero, Int.zero_add] at this
theorem place_idx : ∀ {s p : List Int}, good s → inn s p = true → place s (idx s p) = p
  | [], [], _, _ => rfl
  | x :: s, a :: p, g, h => by
    simp only [inn, Bool.and_eq_true, decide_eq_true_eq] at h
    have i := idx_lt (good_cons.1 g).2 h.2
    simp only [idx, place]
    rw [place_more (good_cons.1 g).2, place_idx (good_cons.1 g).2 h.2]
    congr 1
    rw [show a * prod s + idx s p = idx s p + prod s * a by rw [Int.mul_comm]; omega, Int.add_mul_ediv_left _ _ (by omega), Int.ediv_eq_zero_of_lt i.1 i.2, Int.zero_add, Int.emod_eq_of_lt h.1.1 h.1.2]
  | [], _ :: _, _, h => by simp [inn] at h
  | _ :: _, [], _, h => by simp [inn] at h
theorem inn_append {t q : List Int} : ∀ {s p : List Int}, p.length = s.length → inn (s ++ t) (p ++ q) = (inn s p && inn t q)
  | [], [], _ => rfl
  | x :: s, a :: p, h => by
    simp only [List.cons_append, inn]
    rw [inn_append (s := s) (p := p) (by simpa using h)]
    simp only [Bool.and_assoc]
  | [], _ :: _, h => by simp at h
  | _ :: _, [], h => by simp at h
theorem idx_append {t q : List Int} : ∀ {s p : List Int}, p.length = s.length → idx (s ++ t) (p ++ q) = idx s p * prod t + idx t q
  | [], [], _ => by simp [idx]
  | x :: s, a :: p, h => by
    simp only [List.cons_append, idx]
    rw [idx_append (s := s) (p := p) (by simpa using h), prod_append, Int.add_mul, ← Int.mul_assoc, Int.add_assoc]
  | [], _ :: _, h => by simp at h
  | _ :: _, [], h => by simp at h
theorem inn_iff : ∀ {s p : List Int}, inn s p = true ↔ p.length = s.length ∧ ∀ k, k < s.length → 0 ≤ p.getD k default ∧ p.getD k default < s.getD k default
  | [], [] => by simp [inn]
  | [], _ :: _ => by simp [inn]
  | _ :: _, [] => by simp [inn]
  | x :: s, a :: p => by
    simp only [inn, Bool.and_eq_true, decide_eq_true_eq, inn_iff (s := s) (p := p), List.length_cons]
    constructor
    · rintro ⟨h1, h2, h3⟩
      refine ⟨by omega, fun k hk => ?_⟩
      match k with
      | 0 => simpa using h1
      | k + 1 => simpa using h3 k (by omega)
    · rintro ⟨h1, h2⟩
      exact ⟨by simpa using h2 0 (by omega), by omega, fun k hk => by simpa using h2 (k + 1) (by omega)⟩
theorem idx_isum {s q : List Int} (h : q.length = s.length) : ∀ n, n ≤ s.length → idx s q = isum (fun k => q.getD k default * prod (s.drop (k + 1))) n + idx (s.drop n) (q.drop n)
  | 0, _ => by simp [isum]
  | n + 1, hn => by
    rw [idx_isum h n (by omega), idx_drop (by omega) h, isum, Int.add_assoc]
end Shapes
open Shapes

/-! ### Numbers at places -/
def pl (s : List Int) (l : List (BitVec 32)) (p : List Int) : BitVec 32 := l.getD (idx s p).toNat default
def mk (s : List Int) (f : List Int → BitVec 32) : List (BitVec 32) := (List.range (prod s).toNat).map fun i : Nat => f (place s (i : Int))
theorem mk_length (s : List Int) (f : List Int → BitVec 32) : (mk s f).length = (prod s).toNat := by simp [mk]
theorem pl_mk {s p : List Int} {f : List Int → BitVec 32} (g : good s) (h : inn s p = true) : pl s (mk s f) p = f p := by
  have i := idx_lt g h
  have hi : (idx s p).toNat < (prod s).toNat := by omega
  have e : ((idx s p).toNat : Int) = idx s p := Int.toNat_of_nonneg i.1
  unfold pl mk
  rw [List.getD_eq_getElem?_getD, List.getElem?_map, List.getElem?_range hi]
  simp only [Option.map_some, Option.getD_some]
  rw [e, place_idx g h]
theorem pl_ext {s : List Int} {l m : List (BitVec 32)} (g : good s) (hl : l.length = (prod s).toNat) (hm : m.length = (prod s).toNat) (h : ∀ p, inn s p = true → pl s l p = pl s m p) : l = m := by
  refine List.ext_getElem (by omega) fun i h1 h2 => ?_
  have hp := prod_pos g
  have e : idx s (place s (i : Int)) = (i : Int) := by rw [idx_place (by omega) g, Int.emod_eq_of_lt (by omega) (by omega)]
  have := h (place s (i : Int)) (place_in (by omega) g)
  unfold pl at this
  rw [e, Int.toNat_natCast] at this
  simpa [h1, h2] using this

/-! ### Turned -/
theorem tuS_turn {s o q : List Int} (ho : ordOk o = true) (hl : o.length = s.length) (h4 : s.length ≤ 4) (hq : q.length = s.length) : tuS s o (turn q o) o.length = idx s q := by
  have e : tuS s o (turn q o) o.length = isum (fun j => (fun k => q.getD k default * prod (s.drop (k + 1))) ((ordN o).getD j default)) (ordN o).length := by
    rw [show (ordN o).length = o.length by simp [ordN]]
    refine isum_congr fun j hj => ?_
    have hj' : (ordN o).getD j default = (o.getD j default).toNat := by simp [ordN, hj]
    dsimp only
    rw [hj']
    unfold tuF
    rw [turn_at hj]
  rw [e]
  refine (isum_all (fun k => q.getD k default * prod (s.drop (k + 1))) (ordN o)).trans ?_
  rw [lsum_perm (ord_perm ho (by omega)), lsum_range, hl, idx_isum hq s.length (Nat.le_refl _), List.drop_length]
  simp [idx]
theorem turn_inn {s o q : List Int} (ho : ordOk o = true) (hl : o.length = s.length) (hq : inn s q = true) : inn (turn s o) (turn q o) = true := by
  have h := inn_iff.1 hq
  refine inn_iff.2 ⟨by rw [turn_length, turn_length], fun k hk => ?_⟩
  rw [turn_length] at hk
  have := ord_in ho hk
  rw [turn_at hk, turn_at hk]
  exact h.2 _ (by omega)
theorem tuL_mk {s : List Int} {l : List (BitVec 32)} {o : List Int} (hs : ok s = true) (ho : ordOk o = true) (hl : o.length = s.length) : tuL s l o = mk (turn s o) fun p => l.getD (tuS s o p o.length).toNat default := by
  unfold tuL mk
  rw [size_ok (turn_ok hs ho hl)]
theorem tu_at {s o q : List Int} {l : List (BitVec 32)} (hs : ok s = true) (ho : ordOk o = true) (hl : o.length = s.length) (hq : inn s q = true) : pl (turn s o) (tuL s l o) (turn q o) = pl s l q := by
  have S := (ok_iff s).1 hs
  have T := (ok_iff _).1 (turn_ok hs ho hl)
  rw [tuL_mk hs ho hl, pl_mk T.2.1 (turn_inn ho hl hq), tuS_turn ho hl S.1.2 (inn_length hq)]
  rfl

/-! ### Summed along a direction -/
def wo (s : List Int) (k : Nat) : List Int := s.take k ++ s.drop (k + 1)
def ins (k : Nat) (j : Int) (q : List Int) : List Int := q.take k ++ j :: q.drop k
theorem wo_length {s : List Int} {k : Nat} (h : k < s.length) : (wo s k).length = s.length - 1 := by
  unfold wo; rw [List.length_append, List.length_take, List.length_drop]; omega
theorem wo_good {s : List Int} {k : Nat} (h : good s) : good (wo s k) := good_append.2 ⟨fun x hx => h x (List.mem_of_mem_take hx), good_drop h _⟩
theorem wo_prod {s : List Int} {k : Nat} (h : k < s.length) : prod (wo s k) = prod (without s k) := by rw [without_prod h]; exact prod_append _ _
theorem without_wo {s : List Int} {k : Nat} (h : s.length ≠ 1) : without s k = wo s k := by unfold without; rw [if_neg h]; rfl
theorem split_at {s : List Int} {k : Nat} (h : k < s.length) : s = s.take k ++ s.getD k default :: s.drop (k + 1) := by
  have e : s.getD k default = s[k] := by simp [h]
  rw [e, ← List.drop_eq_getElem_cons h, List.take_append_drop]
theorem wo_inn {s r : List Int} {k : Nat} (hk : k < s.length) (h : inn (wo s k) r = true) : r.length = s.length - 1 ∧ (r.take k).length = (s.take k).length ∧ inn (s.take k) (r.take k) = true ∧ inn (s.drop (k + 1)) (r.drop k) = true := by
  have hl := inn_length h
  rw [wo_length hk] at hl
  have l1 : (r.take k).length = (s.take k).length := by rw [List.length_take, List.length_take]; omega
  have e : inn (wo s k) r = inn (s.take k ++ s.drop (k + 1)) (r.take k ++ r.drop k) := by rw [List.take_append_drop]; rfl
  rw [e, inn_append l1, Bool.and_eq_true] at h
  exact ⟨hl, l1, h.1, h.2⟩
theorem ins_inn {s r : List Int} {k : Nat} {j : Int} (hk : k < s.length) (h : inn (wo s k) r = true) (h0 : 0 ≤ j) (h1 : j < s.getD k default) : inn s (ins k j r) = true := by
  obtain ⟨hl, l1, i1, i2⟩ := wo_inn hk h
  rw [split_at hk]
  unfold ins
  rw [inn_append l1, i1]
  simp only [inn, i2, Bool.true_and, Bool.and_true, Bool.and_eq_true, decide_eq_true_eq]
  exact ⟨h0, h1⟩
theorem ins_at {r : List Int} {k : Nat} {j : Int} (h : k ≤ r.length) : (ins k j r).getD k default = j := by
  have : (r.take k).length = k := by rw [List.length_take]; omega
  simp [ins, this]
theorem ins_set {r : List Int} {k : Nat} {j i : Int} (h : k ≤ r.length) : (ins k j r).set k i = ins k i r := by
  have : (r.take k).length = k := by rw [List.length_take]; omega
  unfold ins
  rw [List.set_append_right _ _ (by omega), this, Nat.sub_self]; rfl
theorem ins_length {r : List Int} {k : Nat} {j : Int} (h : k ≤ r.length) : (ins k j r).length = r.length + 1 := by
  unfold ins; rw [List.length_append, List.length_take, List.length_cons, List.length_drop]; omega
theorem su_arith {X a n C j : Nat} (hC : C < a) : (X * a + C) / a * a * n + (X * a + C) % a + j * a = X * (n * a) + j * a + C := by
  have e1 : (X * a + C) / a = X := by rw [Nat.mul_comm, Nat.mul_add_div (by omega), Nat.div_eq_of_lt hC]; omega
  have e2 : (X * a + C) % a = C := by rw [Nat.mul_comm, Nat.mul_add_mod, Nat.mod_eq_of_lt hC]
  rw [e1, e2, Nat.mul_assoc, Nat.mul_comm a n]; omega
theorem suL_length {s : List Int} {l : List (BitVec 32)} {k : Nat} (hs : ok s = true) (hk : k < s.length) : (suL s l k).length = (prod (wo s k)).toNat := by
  unfold suL
  rw [List.length_map, List.length_range, size_ok (without_ok hs hk), wo_prod hk]
theorem su_at {s r : List Int} {l : List (BitVec 32)} {k : Nat} (hs : ok s = true) (hk : k < s.length) (hr : inn (wo s k) r = true) :
    pl (wo s k) (suL s l k) r = sm (s.getD k default).toNat fun j => pl s l (ins k (j : Int) r) := by
  have S := (ok_iff s).1 hs
  obtain ⟨hl, l1, i1, i2⟩ := wo_inn hk hr
  have il := idx_lt (wo_good (k := k) S.2.1) hr
  have c := idx_lt (good_drop S.2.1 (k + 1)) i2
  have x := idx_lt (fun y hy => S.2.1 y (List.mem_of_mem_take hy)) i1
  have d := dim_at S.2.1 hk
  have e1 : idx (wo s k) r = idx (s.take k) (r.take k) * prod (s.drop (k + 1)) + idx (s.drop (k + 1)) (r.drop k) := by
    rw [← idx_append l1, List.take_append_drop]; rfl
  have e2 : ∀ j : Int, idx s (ins k j r) = idx (s.take k) (r.take k) * (s.getD k default * prod (s.drop (k + 1))) + (j * prod (s.drop (k + 1)) + idx (s.drop (k + 1)) (r.drop k)) := fun j => by
    have e : idx s (ins k j r) = idx (s.take k ++ s.getD k default :: s.drop (k + 1)) (r.take k ++ j :: r.drop k) := by rw [← split_at hk]; rfl
    rw [e, idx_append l1]; rfl
  obtain ⟨i, hi⟩ : ∃ i, i = (idx (wo s k) r).toNat := ⟨_, rfl⟩
  have hi2 : i < (size (without s k)).toNat := by rw [size_ok (without_ok hs hk), ← wo_prod hk]; omega
  unfold pl
  rw [← hi]
  unfold suL
  rw [List.getD_eq_getElem?_getD, List.getElem?_map, List.getElem?_range hi2]
  simp only [Option.map_some, Option.getD_some]
  refine sm_congr fun j hj => ?_
  unfold suF
  congr 1
  obtain ⟨C, hC⟩ := Int.eq_ofNat_of_zero_le c.1
  obtain ⟨X, hX⟩ := Int.eq_ofNat_of_zero_le x.1
  obtain ⟨a, ha⟩ := Int.eq_ofNat_of_zero_le (show 0 ≤ prod (s.drop (k + 1)) by omega)
  obtain ⟨n, hn⟩ := Int.eq_ofNat_of_zero_le (show 0 ≤ s.getD k default by omega)
  have hi3 : i = X * a + C := by
    rw [hi, e1, hX, ha, hC]
    exact (congrArg Int.toNat (show (X : Int) * a + C = ((X * a + C : Nat) : Int) by push_cast; rfl)).trans (Int.toNat_natCast _)
  rw [e2, hX, hn, ha, hC, show (X : Int) * ((n : Int) * a) + ((j : Int) * a + C) = ((X * (n * a) + j * a + C : Nat) : Int) by push_cast; rw [Int.add_assoc], Int.toNat_natCast, Int.toNat_natCast, Int.toNat_natCast, hi3]
  exact su_arith (by omega)

/-! ### All of them together -/
theorem sm_block (a : Nat) (f : Nat → BitVec 32) : ∀ n : Nat, sm (n * a) f = sm n fun j => sm a fun i => f (j * a + i)
  | 0 => by rw [Nat.zero_mul]; rfl
  | n + 1 => by rw [Nat.succ_mul, sm_app, sm_block a f n]; rfl
def tot (l : List (BitVec 32)) : BitVec 32 := sm l.length fun i => l.getD i default
theorem su_tot {s : List Int} {l : List (BitVec 32)} (hs : ok s = true) (hl : l.length = (prod s).toNat) (h0 : 0 < s.length) : tot (suL s l 0) = tot l := by
  have S := (ok_iff s).1 hs
  have d := dim_at S.2.1 h0
  have pd := prod_pos (good_drop S.2.1 1)
  obtain ⟨a, ha⟩ := Int.eq_ofNat_of_zero_le (show 0 ≤ prod (s.drop 1) by omega)
  obtain ⟨n, hn⟩ := Int.eq_ofNat_of_zero_le (show 0 ≤ s.getD 0 default by omega)
  have e1 : (prod (without s 0)).toNat = a := by rw [without_prod h0, List.take_zero, Nat.zero_add, ha]; simp [prod]
  have e2 : (prod s).toNat = n * a := by
    have := prod_drop (s := s) h0
    rw [List.drop_zero] at this
    rw [this, hn, ha]
    exact (congrArg Int.toNat (show (n : Int) * a = ((n * a : Nat) : Int) by push_cast; rfl)).trans (Int.toNat_natCast _)
  have e3 : suL s l 0 = (List.range a).map fun i => sm n (suF s l 0 i) := by
    unfold suL
    rw [size_ok (without_ok hs h0), e1, hn, Int.toNat_natCast]
  unfold tot
  rw [hl, e2, sm_block, e3, List.length_map, List.length_range, ← sm_comm]
  refine sm_congr fun i hi => ?_
  rw [List.getD_eq_getElem?_getD, List.getElem?_map, List.getElem?_range hi]
  simp only [Option.map_some, Option.getD_some]
  refine sm_congr fun j hj => ?_
  unfold suF
  rw [ha, Int.toNat_natCast, Nat.div_eq_of_lt hi, Nat.mod_eq_of_lt hi]
  congr 1
  omega
end Go.Dd
