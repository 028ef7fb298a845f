/- A book of tensors and of lists of whole numbers, kept in any order. -/
import Derived.Test.YtkhndfaampkbnaaGreatDoorBookTen
namespace Go.Proofs.YtkhndfaampkbnaaGreatDoor
open Go Go.Dd Go.RowKit
set_option maxRecDepth 100000

/-- No memory in common. -/
structure Dis (c d : T4) : Prop where
  xx : Apt c.x d.x
  yy : Apt c.y d.y
  xy : Apt c.x d.y
  yx : Apt c.y d.x
theorem Dis.symm {c d : T4} (h : Dis c d) : Dis d c := ⟨h.xx.symm, h.yy.symm, h.yx.symm, h.xy.symm⟩
theorem Held.dis {w w' : World} {lo hi lo' hi' : Nat} {c d : T4} (h : Held w lo hi c) (k : Held w' lo' hi' d) (hd : hi ≤ lo') : Dis c d :=
  ⟨fun b e1 e2 => by have := h.bx b e1; have := k.bx b e2; omega, fun b e1 e2 => by have := h.by' b e1; have := k.by' b e2; omega,
   fun b e1 e2 => by have := h.bx b e1; have := k.by' b e2; omega, fun b e1 e2 => by have := h.by' b e1; have := k.bx b e2; omega⟩
theorem Heldall.dis : ∀ {w : World} {cs : List T4} {base top : Nat}, Heldall w base top cs → cs.Pairwise Dis
  | _, [], _, _, _ => List.Pairwise.nil
  | _, _ :: _, _, _, ⟨_, _, _, _, h3, h4⟩ => List.Pairwise.cons (fun d hd => h3.dis (h4.each d hd) (Nat.le_refl _)) h4.dis
theorem pair_all {l : List T4} (h : l.Pairwise Dis) : ∀ c ∈ l, ∀ d ∈ l, c = d ∨ Dis c d := by
  induction l with
  | nil => intro c hc; cases hc
  | cons f fs ih =>
    obtain ⟨h1, h2⟩ := List.pairwise_cons.1 h
    intro c hc d hd
    rcases List.mem_cons.1 hc with hc1 | hc1
    · rcases List.mem_cons.1 hd with hd1 | hd1
      · exact .inl (hc1.trans hd1.symm)
      · exact .inr (hc1 ▸ h1 d hd1)
    · rcases List.mem_cons.1 hd with hd1 | hd1
      · exact .inr (hd1 ▸ (h1 c hc1).symm)
      · exact ih h2 c hc1 d hd1
/-- The lists of whole numbers, and of numbers, of what a book was given: tensors (true), lists of whole numbers (false). -/
def mxI : List (T4 × Bool) → Int → List Hd
  | [], _ => []
  | (c, true) :: cs, n => newHd c.x c.s.length (c.s.map (Value.int .i64)) (n + 1) :: mxI cs (n + 2)
  | (c, false) :: cs, n => newHd c.x c.s.length (c.s.map (Value.int .i64)) (n + 1) :: mxI cs (n + 1)
def mxN : List (T4 × Bool) → Int → List Hd
  | [], _ => []
  | (c, true) :: cs, n => newHd c.y c.l.length (c.l.map i32) (n + 2) :: mxN cs (n + 2)
  | (_, false) :: cs, n => mxN cs (n + 1)
theorem mxI_in {cs : List (T4 × Bool)} : ∀ {n : Int} {h : Hd}, h ∈ mxI cs n → ∃ c ∈ cs.map (·.1), h.v = c.x ∧ h.k = c.s.length ∧ h.xs = c.s.map (Value.int .i64) ∧ h.g = .slice none 0 0 ∧ n < h.n ∧ h.n ≤ n + 2 * cs.length := by
  induction cs with
  | nil => intro n h hm; cases hm
  | cons c cs ih =>
    intro n h hm
    obtain ⟨c, f⟩ := c
    cases f
    · rcases List.mem_cons.1 hm with rfl | hm
      · exact ⟨c, by simp, rfl, rfl, rfl, rfl, by show n < n + 1; omega, by show n + 1 ≤ _; simp only [List.length_cons]; omega⟩
      · obtain ⟨d, hd, h1, h2, h3, h4, h5, h6⟩ := ih hm
        exact ⟨d, List.mem_cons_of_mem _ hd, h1, h2, h3, h4, by omega, by simp only [List.length_cons]; omega⟩
    · rcases List.mem_cons.1 hm with rfl | hm
      · exact ⟨c, by simp, rfl, rfl, rfl, rfl, by show n < n + 1; omega, by show n + 1 ≤ _; simp only [List.length_cons]; omega⟩
      · obtain ⟨d, hd, h1, h2, h3, h4, h5, h6⟩ := ih hm
        exact ⟨d, List.mem_cons_of_mem _ hd, h1, h2, h3, h4, by omega, by simp only [List.length_cons]; omega⟩
theorem mxN_in {cs : List (T4 × Bool)} : ∀ {n : Int} {h : Hd}, h ∈ mxN cs n → ∃ c ∈ cs.map (·.1), h.v = c.y ∧ h.k = c.l.length ∧ h.xs = c.l.map i32 ∧ h.g = .slice none 0 0 ∧ n < h.n ∧ h.n ≤ n + 2 * cs.length := by
  induction cs with
  | nil => intro n h hm; cases hm
  | cons c cs ih =>
    intro n h hm
    obtain ⟨c, f⟩ := c
    cases f
    · obtain ⟨d, hd, h1, h2, h3, h4, h5, h6⟩ := ih hm
      exact ⟨d, List.mem_cons_of_mem _ hd, h1, h2, h3, h4, by omega, by simp only [List.length_cons]; omega⟩
    · rcases List.mem_cons.1 hm with rfl | hm
      · exact ⟨c, by simp, rfl, rfl, rfl, rfl, by show n < n + 2; omega, by show n + 2 ≤ _; simp only [List.length_cons]; omega⟩
      · obtain ⟨d, hd, h1, h2, h3, h4, h5, h6⟩ := ih hm
        exact ⟨d, List.mem_cons_of_mem _ hd, h1, h2, h3, h4, by omega, by simp only [List.length_cons]; omega⟩
theorem mxI_apt {cs : List (T4 × Bool)} : ∀ (_ : (cs.map (·.1)).Pairwise Dis) (n : Int), (mxI cs n).Pairwise fun a b => Apt a.v b.v := by
  induction cs with
  | nil => intro _ _; exact List.Pairwise.nil
  | cons c cs ih =>
    intro h n
    obtain ⟨c, f⟩ := c
    rw [List.map_cons] at h
    obtain ⟨h1, h2⟩ := List.pairwise_cons.1 h
    cases f
    all_goals exact List.Pairwise.cons (fun x hx => by obtain ⟨d, hd, e, _⟩ := mxI_in hx; rw [e]; exact (h1 d hd).xx) (ih h2 _)
theorem mxN_apt {cs : List (T4 × Bool)} : ∀ (_ : (cs.map (·.1)).Pairwise Dis) (n : Int), (mxN cs n).Pairwise fun a b => Apt a.v b.v := by
  induction cs with
  | nil => intro _ _; exact List.Pairwise.nil
  | cons c cs ih =>
    intro h n
    obtain ⟨c, f⟩ := c
    rw [List.map_cons] at h
    obtain ⟨h1, h2⟩ := List.pairwise_cons.1 h
    cases f
    · exact ih h2 _
    · exact List.Pairwise.cons (fun x hx => by obtain ⟨d, hd, e, _⟩ := mxN_in hx; rw [e]; exact (h1 d hd).yy) (ih h2 _)
theorem mix_keeps {w : World} {cs : List (T4 × Bool)} {base top : Nat} (hh : ∀ c ∈ cs.map (·.1), Held w base top c) (hd : (cs.map (·.1)).Pairwise Dis) {n : Int} (h0 : 0 ≤ n) (h1 : n + 2 * cs.length ≤ 1000000) (hk : ∀ c ∈ cs.map (·.1), c.s.length ≤ 16777216 ∧ c.l.length ≤ 16777216) :
    Keeps w base top (mxI cs n) (mxN cs n) where
  ki := ⟨⟨fun x hx => by obtain ⟨c, hc, _, _, _, _, e5, e6⟩ := mxI_in hx; omega, fun x hx => by obtain ⟨c, hc, _, e2, _⟩ := mxI_in hx; have := hk c hc; omega, mxI_apt hd n, fun x hx => by obtain ⟨c, hc, _, _, _, e4, _⟩ := mxI_in hx; exact e4⟩,
    fun x hx => by obtain ⟨c, hc, e1, e2, e3, _⟩ := mxI_in hx; rw [e1, e2, e3]; exact (hh c hc).rx⟩
  kn := ⟨⟨fun x hx => by obtain ⟨c, hc, _, _, _, _, e5, e6⟩ := mxN_in hx; omega, fun x hx => by obtain ⟨c, hc, _, e2, _⟩ := mxN_in hx; have := hk c hc; omega, mxN_apt hd n, fun x hx => by obtain ⟨c, hc, _, _, _, e4, _⟩ := mxN_in hx; exact e4⟩,
    fun x hx => by obtain ⟨c, hc, e1, e2, e3, _⟩ := mxN_in hx; rw [e1, e2, e3]; exact (hh c hc).ry⟩
  li := fun b ⟨x, hx, e⟩ => by
    obtain ⟨c, hc, e1, _⟩ := mxI_in hx
    rw [e1] at e
    exact ((hh c hc).bx b e).2
  ln := fun b ⟨x, hx, e⟩ => by
    obtain ⟨c, hc, e1, _⟩ := mxN_in hx
    rw [e1] at e
    exact ((hh c hc).by' b e).2
  xin := fun b ⟨x, hx, e⟩ ⟨y, hy, e'⟩ => by
    obtain ⟨c, hc, e1, _⟩ := mxI_in hx
    obtain ⟨d, hd', e2, _⟩ := mxN_in hy
    rw [e1] at e
    rw [e2] at e'
    rcases pair_all hd d hd' c hc with h | h
    · subst h; exact (hh d hd').apart b e' e
    · exact h.yx b e' e
theorem bookInts2_c (w : World) (lo A : Nat) (n : Int) (hb hi hn : List Hd) (ub ui un v : Value) (k : Nat) (xs : List Value) (h : Bk w lo A n hb hi hn ub ui un) (hv : Sl w 1 v k xs) (hf : n ≤ 800) (hf2 : hb.length + hi.length + hn.length ≤ 800) :
    Fnc Tryz.prog 26 [.pointer (some ⟨A, 0, none⟩), v] w (fun r w' => r = .tuple #[] ∧ Below lo w w' ∧ ∃ u', Bk w' lo A (n + 1) hb (hi ++ [newHd v k xs (n + 1)]) hn ub u' un) :=
  (bookInts_c w lo A n hb hi hn ub ui un v k xs h hv hf hf2).mono fun _ _ ⟨h1, h2, h3⟩ => ⟨h1, h.low (fun b e => (own_block h.oi b e).1) h2, h3⟩
/-- A list of whole numbers in memory of its own. -/
abbrev li (v : Value) (l : List Int) : T4 := ⟨v, .slice none 0 0, l, []⟩
theorem held_ints {w : World} {lo hi : Nat} {v : Value} {l : List Int} (h : KRow w lo 3 1 v l.length (l.map (Value.int .i64))) (hb : ∀ b, v.ownBlock = some b → b < hi) : Held w lo hi (li v l) :=
  ⟨h, .inl ⟨rfl, .inl ⟨rfl, rfl⟩⟩, fun b e => ⟨(h.lt b e).1, hb b e⟩, (fun b e => by cases e), (fun b e => by cases e)⟩
/-- A list's twin, with the room behind it. -/
structure TwinI (w : World) (lo hi : Nat) (x : Value) (l : List Int) : Prop where
  held : Held w lo hi (li x l)
  tx : Twn w lo 3 (Value.int .i64) (Value.int .i64 (77)) x l
theorem TwinI.bs {w w' : World} {lo hi : Nat} {x : Value} {l : List Int} (h : TwinI w lo hi x l) (g : Below w.heap.size w w') : TwinI w' lo hi x l := ⟨h.held.bs g, h.tx.bs g⟩
theorem twinI_c (v : Value) (l : List Int) (w : World) (hv : SlT (Value.int .i64) w v l) (hl : l.length ≤ 4194304) :
    Fnc Tryz.prog 17 [v] w (fun r w' => Below w.heap.size w w' ∧ TwinI w' w.heap.size w'.heap.size r l) :=
  (twinInts_c v l w hv hl).mono fun _ _ ⟨h1, h2⟩ => ⟨h2, held_ints (.inl h1.own) (fun b e => (own_block h1.own b e).2), h1⟩
/-- An answer: a list of whole numbers in memory of its own, or none. -/
def GivesI (W w : World) (r : Value) (e : Int) (l : List Int) : Prop :=
  ∃ (v : Value) (m : List Int), r = .tuple #[v, .int .i64 e] ∧ Held w W.heap.size w.heap.size (li v m) ∧ (e ≠ 0 → m = []) ∧ (e = 0 → m = l)
theorem same_int {e : Int} {l l1 l2 : List Int} (a0 : e ≠ 0 → l1 = []) (a1 : e = 0 → l1 = l) (b0 : e ≠ 0 → l2 = []) (b1 : e = 0 → l2 = l) : (!decide (l1 = l2)) = false := by
  have : l1 = l2 := by
    by_cases h : e = 0
    · rw [a1 h, b1 h]
    · rw [a0 h, b0 h]
  rw [this]
  simp
end Go.Proofs.YtkhndfaampkbnaaGreatDoor
