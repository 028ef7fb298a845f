/- Plain law: the tensor of any bytes, and a tensor's bytes. -/
import Derived.Test.YtiaojbbgjlpikaaPutCode
namespace Go.Proofs.Ytiaojbbgjlpikaa
open Go Go.Dd Go.RowKit
set_option maxRecDepth 100000

def gtS (b : List (BitVec 8)) : List Int := (b.tail.take (b.headD 0#8).toNat).map fun x => (x.toNat : Int)
def gtL (b : List (BitVec 8)) : List (BitVec 32) := nums (b.drop (1 + (gtS b).length))
def gtK (b : List (BitVec 8)) : Bool := Shapes.ok (gtS b) && decide ((b.length : Int) = 1 + ((gtS b).length : Int) + 4 * Shapes.size (gtS b))
def gtE (b : List (BitVec 8)) : Int := if gtK b then 0 else 4

theorem ofInt8 (x : BitVec 8) : BitVec.ofInt 8 (x.toNat : Int) = x := by
  apply BitVec.eq_of_toNat_eq
  have := x.isLt
  simp
theorem ofInt8_nat {i : Int} (h : 0 ≤ i) (h2 : i < 256) : ((BitVec.ofInt 8 i).toNat : Int) = i := by
  rw [BitVec.toNat_ofInt]
  have : (i % ((2 ^ 8 : Nat) : Int)) = i := Int.emod_eq_of_lt h (by simpa using h2)
  rw [this]; omega
theorem gtS_len (b : List (BitVec 8)) : (gtS b).length = min (b.headD 0#8).toNat (b.length - 1) := by simp [gtS]
theorem gtK_ok {b : List (BitVec 8)} (h : gtK b = true) : Shapes.ok (gtS b) = true ∧ b.length = 1 + (gtS b).length + 4 * (Shapes.size (gtS b)).toNat ∧ (gtL b).length = (Shapes.size (gtS b)).toNat ∧ tok (gtS b) (gtL b) = true := by
  simp only [gtK, Bool.and_eq_true, decide_eq_true_eq] at h
  obtain ⟨h1, h2⟩ := h
  have h3 := Shapes.size_le (gtS b)
  have h4 : b.length = 1 + (gtS b).length + 4 * (Shapes.size (gtS b)).toNat := by omega
  have h5 : (gtL b).length = (Shapes.size (gtS b)).toNat := nums_len _ _ (by rw [List.length_drop]; omega)
  refine ⟨h1, h4, h5, ?_⟩
  simp only [tok, h1, h5, Bool.true_and, decide_eq_true_eq]
  omega
theorem put_get {b : List (BitVec 8)} (h : gtK b = true) : putB (gtS b) (gtL b) = b := by
  obtain ⟨h1, h2, -, -⟩ := gtK_ok h
  have h3 : 0 < Shapes.size (gtS b) := by simpa [Shapes.ok] using h1
  have h4 := gtS_len b
  have h5 : (b.headD 0#8).toNat = (gtS b).length := by omega
  obtain ⟨x, t, rfl⟩ : ∃ x t, b = x :: t := by
    cases b with
    | nil => rw [List.length_nil] at h2; omega
    | cons x t => exact ⟨x, t, rfl⟩
  simp only [List.headD_cons] at h5
  have e1 : fours (gtL (x :: t)) = (x :: t).drop (1 + (gtS (x :: t)).length) := fours_nums (Shapes.size (gtS (x :: t))).toNat _ (by rw [List.length_drop]; omega)
  have e2 : headB (gtS (x :: t)) = x :: t.take x.toNat := by
    unfold headB
    rw [← h5, ofInt8]
    simp only [gtS, List.tail_cons, List.headD_cons, List.map_map]
    congr 1
    conv => rhs; rw [← List.map_id (t.take x.toNat)]
    exact List.map_congr_left fun y _ => ofInt8 y
  unfold putB
  rw [e1, e2, ← h5, Nat.add_comm, List.drop_succ_cons, List.cons_append, List.take_append_drop]
theorem gtS_head {s : List Int} (hs : ∀ x ∈ s, 1 ≤ x ∧ x ≤ 64) (hl : s.length ≤ 4) (r : List (BitVec 8)) : gtS (headB s ++ r) = s := by
  have e1 : (BitVec.ofInt 8 (s.length : Int)).toNat = s.length := by
    have := ofInt8_nat (i := (s.length : Int)) (by omega) (by omega)
    omega
  simp only [gtS, headB, List.cons_append, List.tail_cons, List.headD_cons, e1]
  rw [List.take_left' (by simp), List.map_map]
  conv => rhs; rw [← List.map_id s]
  refine List.map_congr_left fun y hy => ?_
  have := hs y hy
  exact ofInt8_nat (by omega) (by omega)
theorem headB_len (s : List Int) : (headB s).length = 1 + s.length := by simp [headB]; omega
theorem gtK_head {s : List Int} (h : Shapes.ok s = true) (r : List (BitVec 8)) : gtK (headB s ++ r) = decide ((r.length : Int) = 4 * Shapes.size s) := by
  obtain ⟨h1, h2, -⟩ := (Shapes.ok_iff s).1 h
  unfold gtK
  rw [gtS_head h2 h1.2, h, List.length_append, headB_len, Bool.true_and]
  congr 1
  apply propext
  constructor <;> intro _ <;> omega
theorem gtL_head {s : List Int} (h : Shapes.ok s = true) (r : List (BitVec 8)) : gtL (headB s ++ r) = nums r := by
  obtain ⟨h1, h2, -⟩ := (Shapes.ok_iff s).1 h
  unfold gtL
  rw [gtS_head h2 h1.2, ← headB_len, List.drop_left]
theorem get_put {s : List Int} {l : List (BitVec 32)} (h : tok s l = true) : gtK (putB s l) = true ∧ gtS (putB s l) = s ∧ gtL (putB s l) = l := by
  obtain ⟨h1, h2⟩ := tok_ok h
  have h3 := Shapes.size_le s
  obtain ⟨h4, h5, -⟩ := (Shapes.ok_iff s).1 h1
  refine ⟨?_, gtS_head h5 h4.2 _, ?_⟩
  · unfold putB
    rw [gtK_head h1, fours_len]
    simp only [decide_eq_true_eq]
    omega
  · unfold putB
    rw [gtL_head h1, nums_fours]
theorem get_more {s : List Int} {l : List (BitVec 32)} (h : tok s l = true) (r : List (BitVec 8)) (hr : r ≠ []) : gtK (putB s l ++ r) = false := by
  obtain ⟨h1, h2⟩ := tok_ok h
  have h3 := Shapes.size_le s
  have h4 : r.length ≠ 0 := fun e => hr (List.eq_nil_of_length_eq_zero e)
  unfold putB
  rw [List.append_assoc, gtK_head h1, List.length_append, fours_len]
  simp only [decide_eq_false_iff_not]
  omega
theorem get_less {s : List Int} {l : List (BitVec 32)} (h : tok s l = true) : gtK ((putB s l).take ((putB s l).length - 1)) = false := by
  obtain ⟨h1, h2⟩ := tok_ok h
  have h3 := Shapes.size_le s
  have h4 : 0 < Shapes.size s := by simpa [Shapes.ok] using h1
  have h5 := fours_len l
  have h6 := headB_len s
  have e : (putB s l).take ((putB s l).length - 1) = headB s ++ (fours l).take ((fours l).length - 1) := by
    unfold putB
    rw [List.length_append, List.take_append, List.take_of_length_le (by omega), show (headB s).length + (fours l).length - 1 - (headB s).length = (fours l).length - 1 by omega]
  rw [e, gtK_head h1, List.length_take]
  simp only [decide_eq_false_iff_not]
  omega
end Go.Proofs.Ytiaojbbgjlpikaa
