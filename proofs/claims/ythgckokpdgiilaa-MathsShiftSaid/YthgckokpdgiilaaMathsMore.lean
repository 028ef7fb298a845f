/- What the outright statements on maths share, in plain Lean. -/
import Derived.Test.YthgckokpdgiilaaTwinTensor
import Derived.Test.YthgckokpdgiilaaTensorsArg
import Derived.Test.YthgckokpdgiilaaRows
namespace Go.Proofs.Ythgckokpdgiilaa
open Go Go.Dd Go.RowKit Go.ChangeShapes Go.WideShapes Go.ChangeAt

theorem own : ownKnob Try.prog.godebug = none := by kernel_rfl
theorem laidOut : laidOutB Try.prog = true := by kernel_rfl

theorem e1_zero {s : List Int} {l : List (BitVec 32)} (h : tok s l = true) : e1 s l = 0 := by unfold e1; rw [if_pos h]
theorem e2_no {s t : List Int} {l m : List (BitVec 32)} (h1 : tok s l = true) (h2 : tok t m = true) (h : t = s) : e2 s l t m = 0 := by
  unfold e2; rw [h1, h2, if_pos h]; rfl
theorem same_yes {s t : List Int} {l m : List (BitVec 32)} (h1 : s = t) (h2 : l = m) : (decide (s = t) && decide (l = m)) = true := by rw [decide_eq_true h1, decide_eq_true h2]; rfl
theorem same_not {s t : List Int} {l m : List (BitVec 32)} (h1 : s = t) (h2 : l = m) : (!(decide (s = t) && decide (l = m))) = false := by rw [same_yes h1 h2]; rfl
theorem tok_ok {s : List Int} {l : List (BitVec 32)} (h : tok s l = true) : Shapes.ok s = true ∧ l.length = (Shapes.size s).toNat := by
  simp only [tok, Bool.and_eq_true, decide_eq_true_eq] at h
  exact ⟨h.1, by omega⟩
theorem tok_len {s : List Int} {l m : List (BitVec 32)} (h : tok s l = true) (hm : m.length = l.length) : tok s m = true := by simpa [tok, hm] using h
theorem z1_len {f : BitVec 32 → BitVec 32} {s : List Int} {l : List (BitVec 32)} (h : tok s l = true) : (z1 f s l).length = l.length := by simp [z1, (tok_ok h).2]
theorem z1_map {f : BitVec 32 → BitVec 32} {s : List Int} {l : List (BitVec 32)} (h : tok s l = true) : z1 f s l = l.map f := by
  apply List.ext_getElem (by rw [z1_len h, List.length_map])
  intro i h1 h2
  rw [List.length_map] at h2
  simp [z1, h2]
theorem z2_len {f : BitVec 32 → BitVec 32 → BitVec 32} {s : List Int} {l m : List (BitVec 32)} (h : tok s l = true) : (z2 f s l m).length = l.length := by simp [z2, (tok_ok h).2]
theorem z2_map {f : BitVec 32 → BitVec 32 → BitVec 32} {s : List Int} {l m : List (BitVec 32)} (h : tok s l = true) (hm : m.length = l.length) {g : List (BitVec 32)} (hg : g.length = l.length) (he : ∀ i, i < l.length → f (l.getD i default) (m.getD i default) = g.getD i default) : z2 f s l m = g := by
  apply List.ext_getElem (by rw [z2_len h, hg])
  intro i h1 h2
  rw [hg] at h2
  have := he i h2
  simp [z2, h2, hm, hg] at this ⊢
  exact this
theorem getD_map {f : BitVec 32 → BitVec 32} {l : List (BitVec 32)} {i : Nat} (h : i < l.length) : (l.map f).getD i default = f (l.getD i default) := by simp [h]
theorem getD_rep {c : BitVec 32} {n i : Nat} (h : i < n) : (List.replicate n c).getD i default = c := by simp [h]
end Go.Proofs.Ythgckokpdgiilaa
