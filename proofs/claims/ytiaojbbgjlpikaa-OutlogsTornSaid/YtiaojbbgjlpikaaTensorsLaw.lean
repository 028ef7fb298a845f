/- Contracts: what the statements on tensors use besides. -/
import Derived.Test.YtiaojbbgjlpikaaTensorsCode
import Derived.Test.YtiaojbbgjlpikaaTwins
namespace Go.Proofs.Ytiaojbbgjlpikaa
open Go Go.Dd Go.RowKit
set_option maxRecDepth 100000

theorem nilT (w : World) : (T4.mk (.slice none 0 0) (.slice none 0 0) [] []).at w := ⟨Sl.nil w 1, Sl.nil w 1⟩
theorem Made1.at {W w : World} {x y : Value} {s : List Int} {l : List (BitVec 32)} (h : Made1 W w x y s l) : (T4.mk x y s l).at w := ⟨h.sh, own_sl h.own⟩
theorem getD_map {f : BitVec 32 → BitVec 32} {l : List (BitVec 32)} {i : Nat} (h : i < l.length) : (l.map f).getD i default = f (l.getD i default) := by simp [h]
theorem getD_rep {c : BitVec 32} {n i : Nat} (h : i < n) : (List.replicate n c).getD i default = c := by simp [h]
theorem tok_ok {s : List Int} {l : List (BitVec 32)} (h : tok s l = true) : Shapes.ok s = true ∧ l.length = (Shapes.size s).toNat := by
  simp only [tok, Bool.and_eq_true, decide_eq_true_eq] at h
  exact ⟨h.1, by omega⟩
theorem tok_len {s : List Int} {l m : List (BitVec 32)} (h : tok s l = true) (hm : m.length = l.length) : tok s m = true := by simpa [tok, hm] using h
/-- A contract's answer: a tensor of one's own, or none. -/
def Gets (W w : World) (r : Value) (e : Int) (s : List Int) (l : List (BitVec 32)) : Prop :=
  ∃ c : T4, r = .tuple #[c.v, .int .i64 e] ∧ c.at w ∧ (e ≠ 0 → c.s = [] ∧ c.l = []) ∧ (e = 0 → c.s = s ∧ c.l = l ∧ Made1 W w c.x c.y s l)
/-! How great an argument is. -/
def tsz (s : List Int) (l : List (BitVec 32)) : Int := if 1 + (s.length : Int) ≤ 1048576 then 1 + (s.length : Int) + (l.length : Int) else 1 + (s.length : Int)
def bey (n : Int) : List Int → Bool
  | [] => false
  | x :: l => if 1048576 < n + x then true else bey (n + x) l
theorem bey_no : ∀ {l : List Int} {n : Int}, 0 ≤ n → (∀ x ∈ l, 0 ≤ x) → bey n l = false → ∀ x ∈ l, x ≤ 1048576
  | [], _, _, _, _ => by simp
  | x :: l, n, h0, hx, h => by
    have h1 := hx x (by simp)
    simp only [bey] at h
    split at h
    · cases h
    · intro y hy
      rcases List.mem_cons.1 hy with rfl | hy
      · omega
      · exact bey_no (by omega) (fun z hz => hx z (by simp [hz])) h y hy
theorem bey_drop {l : List Int} {i : Nat} {n : Int} (h : i < l.length) : bey n (l.drop i) = (if 1048576 < n + l.getD i default then true else bey (n + l.getD i default) (l.drop (i + 1))) := by
  rw [List.drop_eq_getElem_cons h]; simp [bey, h]

end Go.Proofs.Ytiaojbbgjlpikaa
