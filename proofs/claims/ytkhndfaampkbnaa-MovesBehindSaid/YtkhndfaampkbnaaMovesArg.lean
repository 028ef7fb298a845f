/- Some tensors as a statement's argument; tensors that stay while another's block is written. -/
import Derived.Test.YtkhndfaampkbnaaMovesPl
namespace Go.Proofs.Ytkhndfaampkbnaa
open Go Go.Dd Go.RowKit Go.ChangeShapes Go.WideShapes

theorem tens_of {H : Type} {enc : TypeId × Value → H} {w : World} : ∀ {n : Nat} {xs : List Value}, xs.length = n * 2 → (∀ i, i < n → In enc Try.prog w 25 ((xs.drop (i * 2)).take 2)) →
    ∃ ts : List T4, ts.length = n ∧ cellsOf ts = xs ∧ ∀ t ∈ ts, t.at w ∧ few t
  | 0, xs, hl, _ => by
    obtain rfl : xs = [] := List.eq_nil_of_length_eq_zero (by omega)
    exact ⟨[], rfl, rfl, fun t ht => by simp at ht⟩
  | n + 1, [], hl, _ => by simp at hl
  | n + 1, [_], hl, _ => by simp at hl; omega
  | n + 1, x :: y :: xs, hl, h => by
    obtain ⟨a, ea, ha, b1, b2⟩ := in_ten (h 0 (by omega))
    obtain ⟨ts, h1, h2, h3⟩ := tens_of (n := n) (xs := xs) (by simp at hl; omega) fun i hi => by
      have := h (i + 1) (by omega)
      rw [show (i + 1) * 2 = i * 2 + 1 + 1 by omega] at this
      simpa using this
    simp at ea
    refine ⟨a :: ts, by simp [h1], by rw [cellsOf, h2, ea.1, ea.2], fun t ht => ?_⟩
    rcases List.mem_cons.1 ht with rfl | ht
    · exact ⟨ha, by omega, by omega⟩
    · exact h3 t ht
theorem arg_tens {H : Type} {enc : TypeId × Value → H} {w : World} {base : Nat} {v : Value} (ho : Value.okWide Try.prog w .any base 35 v) (h : In enc Try.prog w 35 v.cells.toList) :
    ∃ ts : List T4, Tens w v ts ∧ ∀ t ∈ ts, few t := by
  obtain ⟨a, len, cap, rfl⟩ := okWide_slice un_35 ho
  obtain ⟨v, n, xs, e, hs, -, hi⟩ := h.slice un_35 (sz := 2) (by kernel_rfl)
  simp [Value.cells] at e
  subst e
  obtain ⟨ts, h1, h2, h3⟩ := tens_of hs.len hi
  subst h1 h2
  exact ⟨ts, ⟨hs, fun t ht => (h3 t ht).1⟩, fun t ht => (h3 t ht).2⟩

/-- None of its numbers lie in this block. -/
def Off (A : Nat) (a : T4) : Prop := (a.s ≠ [] → a.x.ownBlock ≠ some A) ∧ (a.l ≠ [] → a.y.ownBlock ≠ some A)
theorem map_ne {α β : Type} {f : α → β} {l : List α} (h : l.map f ≠ []) : l ≠ [] := fun e => h (by rw [e]; rfl)
theorem at_off {w w' : World} {a : T4} {A : Nat} (h : a.at w) (o : Off A a) (g : w.grownBy w' (some A)) : a.at w' :=
  ⟨Sl.stay h.1 fun b e hne => g.block b (Sl.blk h.1 hne b e) fun e2 => o.1 (map_ne hne) (by rw [e, e2]),
   Sl.stay h.2 fun b e hne => g.block b (Sl.blk h.2 hne b e) fun e2 => o.2 (map_ne hne) (by rw [e, e2])⟩
theorem off_at {w : World} {a : T4} {A : Nat} (h : a.at w) (hA : w.heap.size ≤ A) : Off A a :=
  ⟨fun hne e => by have := Sl.blk h.1 (fun e => hne (List.map_eq_nil_iff.1 e)) A e; omega,
   fun hne e => by have := Sl.blk h.2 (fun e => hne (List.map_eq_nil_iff.1 e)) A e; omega⟩
theorem AnsK.yes {W w : World} {r : Value} {s : List Int} {l : List (BitVec 32)} (h : AnsK W w r 0 s l) : ∃ c : T4, r = .tuple #[c.v, .int .i64 0] ∧ c.at w ∧ c.s = s ∧ c.l = l ∧ ∀ A, A < W.heap.size → Off A c := by
  obtain ⟨x, y, rfl, -, h⟩ := h
  have M := h rfl
  exact ⟨⟨x, y, s, l⟩, rfl, M.at, rfl, rfl, fun A hA => ⟨fun _ e => by have := (M.row.lt A e).1; omega, fun _ e => by have := (M.col.lt A e).1; omega⟩⟩
theorem gets_yes {W w : World} {r : Value} {s : List Int} {l : List (BitVec 32)} (h : Gets W w r 0 s l) : ∃ c : T4, r = .tuple #[c.v, .int .i64 0] ∧ c.at w ∧ c.s = s ∧ c.l = l ∧ ∀ A, A < W.heap.size → Off A c := by
  obtain ⟨c, h1, h2, -, h⟩ := h
  obtain ⟨h3, h4, M⟩ := h rfl
  exact ⟨c, h1, h2, h3, h4, fun A hA => ⟨fun _ e => by have := (M.row.lt A e).1; omega, fun _ e => by have := (own_block M.own A e).1; omega⟩⟩

theorem suE_ok {t : T4} {p : Nat} (h : tok t.s t.l = true) (hp : p < t.s.length) : suE t (p : Int) = 0 := by
  unfold suE; rw [h, decide_eq_true (show (0 : Int) ≤ (p : Int) by omega), decide_eq_true (show (p : Int) < (t.s.length : Int) by omega)]; rfl
theorem su_tok {s : List Int} {l : List (BitVec 32)} {k : Nat} (h : tok s l = true) (hk : k < s.length) : tok (without s k) (suL s l k) = true := by
  obtain ⟨h1, -⟩ := tok_sz h
  exact tok_mk (without_ok h1 hk) (by rw [suL_length h1 hk, wo_prod hk])
theorem e2_ok {s t : List Int} {l m : List (BitVec 32)} (h1 : tok s l = true) (h2 : tok t m = true) (h : t = s) : e2 s l t m = 0 := by
  unfold e2; rw [h1, h2, if_pos h]; rfl
end Go.Proofs.Ytkhndfaampkbnaa
