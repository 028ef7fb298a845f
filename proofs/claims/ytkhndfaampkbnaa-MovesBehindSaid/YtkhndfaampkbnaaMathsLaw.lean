/- Contracts: what the statements on tensors use besides. -/
import Derived.Test.YtkhndfaampkbnaaMathsShiftCode
import Derived.Test.YtkhndfaampkbnaaTensorsLaw
namespace Go.Proofs.Ytkhndfaampkbnaa
open Go Go.Dd Go.RowKit

/-- An answer, as a tensor. -/
theorem Ans.get {W w : World} {r : Value} {e : Int} {s : List Int} {l : List (BitVec 32)} (h : Ans W w r e s l) : ∃ a : T4, r = .tuple #[a.v, .int .i64 e] ∧ a.at w ∧ (e ≠ 0 → a.s = [] ∧ a.l = [] ∧ a.x = .slice none 0 0 ∧ a.y = .slice none 0 0) ∧ (e = 0 → a.s = s ∧ a.l = l ∧ Made1 W w a.x a.y s l) := by
  obtain ⟨x, y, rfl, q1, q2⟩ := h
  by_cases he : e = 0
  · exact ⟨⟨x, y, s, l⟩, rfl, (q2 he).at, fun h => absurd he h, fun _ => ⟨rfl, rfl, q2 he⟩⟩
  · obtain ⟨rfl, rfl⟩ := q1 he
    exact ⟨⟨_, _, [], []⟩, rfl, nilT w, fun _ => ⟨rfl, rfl, rfl, rfl⟩, fun h => absurd h he⟩

/-! What is reckoned, without memory. -/
def e2 (s : List Int) (l : List (BitVec 32)) (t : List Int) (m : List (BitVec 32)) : Int := if tok s l && tok t m then (if t = s then 0 else 10) else 1
def e1 (s : List Int) (l : List (BitVec 32)) : Int := if tok s l then 0 else 1
def z2 (f : BitVec 32 → BitVec 32 → BitVec 32) (s : List Int) (l m : List (BitVec 32)) : List (BitVec 32) := (List.range (Shapes.size s).toNat).map fun i => f (l.getD i default) (m.getD i default)
def z1 (f : BitVec 32 → BitVec 32) (s : List Int) (l : List (BitVec 32)) : List (BitVec 32) := (List.range (Shapes.size s).toNat).map fun i => f (l.getD i default)
theorem ofE_two (a b : T4) : ofE [a, b] a.s = e2 a.s a.l b.s b.l := by
  simp only [ofE, e2, List.all_cons, List.all_nil, T4.ok, Bool.and_true, decide_true, Bool.true_and, decide_eq_true_eq]
theorem ofE_one (a : T4) : ofE [a] a.s = e1 a.s a.l := by
  simp [ofE, e1, T4.ok]

theorem Ans.gets {W w : World} {r : Value} {e : Int} {s : List Int} {l : List (BitVec 32)} (h : Ans W w r e s l) : Gets W w r e s l := by
  obtain ⟨a, h1, h2, h3, h4⟩ := h.get
  exact ⟨a, h1, h2, fun h => ⟨(h3 h).1, (h3 h).2.1⟩, h4⟩
theorem add_p (a b : T4) (W : World) (ha : a.at W) (hb : b.at W) : Fnc Try.prog 16 [a.v, b.v] W (fun r w' => Below W.heap.size W w' ∧ Gets W w' r (e2 a.s a.l b.s b.l) a.s (z2 (· + ·) a.s a.l b.l)) :=
  (add_c a b W ha hb).mono fun r w' ⟨h1, h2⟩ => ⟨h1, by rw [ofE_two] at h2; exact h2.gets⟩




end Go.Proofs.Ytkhndfaampkbnaa
