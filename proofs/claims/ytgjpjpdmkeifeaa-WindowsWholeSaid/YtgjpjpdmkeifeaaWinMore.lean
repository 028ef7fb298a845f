/- A picture and windows as a statement's argument; what windows tell. -/
import Derived.Test.YtgjpjpdmkeifeaaWinLaw
import Derived.Test.YtgjpjpdmkeifeaaTensorsArg
namespace Go.Proofs.Ytgjpjpdmkeifeaa
open Go Go.Dd Go.RowKit Go.ChangeShapes Go.WideShapes Go.ChangeAt

theorem tok_mk {s : List Int} {l : List (BitVec 32)} (h : Shapes.ok s = true) (hl : l.length = (Shapes.size s).toNat) : tok s l = true := by
  have := Shapes.size_le s
  simp only [tok, h, Bool.true_and, decide_eq_true_eq]
  omega
theorem wofL_len (t w : T4) (step pad : Int) : (wofL t w step pad).length = (Shapes.size (wshS t.s w.s step pad)).toNat := by simp [wofL]
theorem wofE_tok {t w : T4} {step pad : Int} (ht : tok t.s t.l = true) (hw : tok w.s w.l = true) : wofE t w step pad = wshE t.s w.s step pad := by unfold wofE; rw [ht, hw]; rfl
theorem wofE_ok {t w : T4} {step pad : Int} (h : wofE t w step pad = 0) : tok t.s t.l = true ∧ tok w.s w.l = true ∧ wshE t.s w.s step pad = 0 := by
  unfold wofE at h
  split at h
  · rename_i h1
    simp only [Bool.and_eq_true] at h1
    exact ⟨h1.1, h1.2, h⟩
  · cases h
theorem tok_wof {t w : T4} {step pad : Int} (h : wofE t w step pad = 0) : tok (wshS t.s w.s step pad) (wofL t w step pad) = true := by
  obtain ⟨h1, h2, h3⟩ := wofE_ok h
  exact tok_mk (win_ok h1 h2 h3).ok (wofL_len _ _ _ _)
theorem seven_of {α : Type} {l : List α} (h : l.length = 7) : ∃ a b c d e f g, l = [a, b, c, d, e, f, g] := by
  match l, h with
  | [a, b, c, d, e, f, g], _ => exact ⟨a, b, c, d, e, f, g, rfl⟩
theorem arg_sld {H : Type} {enc : TypeId × Value → H} {w : World} {base : Nat} {v : Value} (ho : Value.okWide Try.prog w .any base 42 v) (h : In enc Try.prog w 42 v.cells.toList) : ∃ z : Sld, v = z.v ∧ z.T.at w ∧ z.W.at w ∧ few z.T ∧ few z.W := by
  obtain ⟨cs, rfl, hin⟩ := arg_struct Try.underlying42 ho h
  obtain ⟨hlen, hel⟩ := hin.struct Try.underlying42
  have c7 : Try.prog.cellsOf 42 = 7 := by kernel_rfl
  have c2 : Try.prog.cellsOf 25 = 2 := by kernel_rfl
  have c1 : Try.prog.cellsOf 3 = 1 := by kernel_rfl
  rw [c7] at hlen
  obtain ⟨u0, u1, u2, u3, u4, u5, u6, rfl⟩ := seven_of hlen
  obtain ⟨a, e0, h0, q0, q1⟩ := in_ten (hel 0 _ rfl)
  obtain ⟨b, e1, h1, q2, q3⟩ := in_ten (hel 1 _ rfl)
  obtain ⟨m2, e2, -⟩ := In.int un_3 (hel 2 _ rfl)
  obtain ⟨m3, e3, -⟩ := In.int un_3 (hel 3 _ rfl)
  obtain ⟨m4, e4, -⟩ := In.int un_3 (hel 4 _ rfl)
  simp [c1, c2] at e0 e1 e2 e3 e4
  obtain ⟨rfl, rfl⟩ := e0
  obtain ⟨rfl, rfl⟩ := e1
  subst e2 e3 e4
  exact ⟨⟨a, b, m2, m3, m4⟩, rfl, h0, h1, ⟨by show a.s.length ≤ _; omega, by show a.l.length ≤ _; omega⟩, ⟨by show b.s.length ≤ _; omega, by show b.l.length ≤ _; omega⟩⟩
end Go.Proofs.Ytgjpjpdmkeifeaa
