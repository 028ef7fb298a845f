/- A tensor as a statement's argument. -/
import Derived.Test.YtkhndfaampkbnaaGreatDoorTensorsCode
import Derived.Test.YtkhndfaampkbnaaGreatDoorOpen
namespace Go.Proofs.YtkhndfaampkbnaaGreatDoor
open Go Go.Dd Go.RowKit Go.ChangeShapes Go.WideShapes
set_option maxRecDepth 100000

theorem two_of {α : Type} {l : List α} (h : l.length = 2) : ∃ a b, l = [a, b] := by
  match l, h with
  | [a, b], _ => exact ⟨a, b, rfl⟩

theorem in_ten {H : Type} {enc : TypeId × Value → H} {w : World} {cs : List Value} (h : In enc Tryz.prog w 29 cs) : ∃ a : T4, cs = [a.x, a.y] ∧ a.at w ∧ a.s.length ≤ 17592186044416 ∧ a.l.length ≤ 35184372088832 := by
  obtain ⟨hlen, hel⟩ := h.struct Tryz.underlying29
  have c2 : Tryz.prog.cellsOf 29 = 2 := by kernel_rfl
  have c1 : Tryz.prog.cellsOf 26 = 1 := by kernel_rfl
  have d1 : Tryz.prog.cellsOf 27 = 1 := by kernel_rfl
  rw [c2] at hlen
  obtain ⟨x, y, rfl⟩ := two_of hlen
  obtain ⟨u0, s, e0, h0, q0⟩ := (hel 0 _ rfl).slT un_26 (by kernel_rfl) (fun cs h => (In.int un_3 h).imp fun _ h => h.1)
  obtain ⟨u1, l, e1, h1, q1⟩ := (hel 1 _ rfl).slT un_27 (by kernel_rfl) (fun cs h => In.num (BitVec.ofInt 32) i32 (fun _ h => wf_i32 h) un_21 h)
  have k0 : Tryz.prog.bytesOf 3 = 8 := by kernel_rfl
  have k1 : Tryz.prog.bytesOf 21 = 4 := by kernel_rfl
  rw [k0] at q0
  rw [k1] at q1
  simp [c1, d1] at e0 e1
  subst e0 e1
  have hr : reachBytes ≤ 140737488355328 := by decide
  exact ⟨⟨x, y, s, l⟩, rfl, ⟨h0, h1⟩, by simp only; omega, by simp only; omega⟩

theorem arg_ten {H : Type} {enc : TypeId × Value → H} {w : World} {base : Nat} {v : Value} (ho : Value.okWide Tryz.prog w .any base 29 v) (h : In enc Tryz.prog w 29 v.cells.toList) : ∃ a : T4, v = a.v ∧ a.at w ∧ a.s.length ≤ 17592186044416 ∧ a.l.length ≤ 35184372088832 := by
  obtain ⟨cs, rfl, hin⟩ := arg_struct Tryz.underlying29 ho h
  obtain ⟨a, rfl, h1⟩ := in_ten hin
  exact ⟨a, rfl, h1⟩
end Go.Proofs.YtkhndfaampkbnaaGreatDoor
