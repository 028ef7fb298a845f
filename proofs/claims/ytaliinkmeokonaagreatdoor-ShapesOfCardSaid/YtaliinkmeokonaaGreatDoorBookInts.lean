/- A book of lists of whole numbers. -/
import Derived.Test.YtaliinkmeokonaaGreatDoorBookLaw
import Derived.Test.YtaliinkmeokonaaGreatDoorTwins
namespace Go.Proofs.YtaliinkmeokonaaGreatDoor
open Go Go.Dd Go.RowKit
set_option maxRecDepth 100000

/-- A list of whole numbers in memory of its own, between two bounds. -/
structure HeldI (w : World) (lo hi : Nat) (v : Value) (l : List Int) : Prop where
  r : KRow w lo 3 1 v l.length (l.map (Value.int .i64))
  b : ∀ b, v.ownBlock = some b → lo ≤ b ∧ b < hi
namespace HeldI
variable {w w' : World} {lo hi : Nat} {v : Value} {l : List Int}
theorem bs (h : HeldI w lo hi v l) (g : Below w.heap.size w w') : HeldI w' lo hi v l := ⟨h.r.bs g, h.b⟩
theorem below {B : Nat} (h : HeldI w lo hi v l) (g : Below B w w') (hB : hi ≤ B) : HeldI w' lo hi v l := ⟨h.r.heap fun b e => g.block b (by have := h.b b e; omega), h.b⟩
theorem sl (h : HeldI w lo hi v l) : SlT (Value.int .i64) w v l := h.r.slT
theorem nil (w : World) (lo hi : Nat) : HeldI w lo hi (.slice none 0 0) [] := ⟨.inl ⟨rfl, .inl ⟨rfl, rfl⟩⟩, fun b e => by cases e⟩
theorem row (h : KRow w lo 3 1 v l.length (l.map (Value.int .i64))) (hb : w.heap.size ≤ hi) : HeldI w lo hi v l := ⟨h, fun b e => by have := h.lt b e; omega⟩
end HeldI
/-- Lists, one behind the other in memory. -/
def AllI (w : World) : Nat → Nat → List (Value × List Int) → Prop
  | base, top, [] => base ≤ top
  | base, top, c :: cs => ∃ lo hi, base ≤ lo ∧ lo ≤ hi ∧ HeldI w lo hi c.1 c.2 ∧ AllI w hi top cs
def hdsI : List (Value × List Int) → Int → List Hd
  | [], _ => []
  | c :: cs, n => newHd c.1 c.2.length (c.2.map (Value.int .i64)) (n + 1) :: hdsI cs (n + 1)
theorem AllI.le : ∀ {w : World} {cs : List (Value × List Int)} {base top : Nat}, AllI w base top cs → base ≤ top
  | _, [], _, _, h => h
  | _, _ :: _, _, _, ⟨_, _, h1, h2, _, h3⟩ => by have := h3.le; omega
theorem hdsI_in {cs : List (Value × List Int)} : ∀ {n : Int} {h : Hd}, h ∈ hdsI cs n → ∃ c ∈ cs, h.v = c.1 ∧ h.k = c.2.length ∧ h.xs = c.2.map (Value.int .i64) ∧ h.g = .slice none 0 0 ∧ n < h.n ∧ h.n ≤ n + cs.length := by
  induction cs with
  | nil => intro n h hm; cases hm
  | cons c cs ih =>
    intro n h hm
    rcases List.mem_cons.1 hm with rfl | hm
    · exact ⟨c, by simp, rfl, rfl, rfl, rfl, by show n < n + 1; omega, by show n + 1 ≤ _; simp only [List.length_cons]; omega⟩
    · obtain ⟨d, hd, h1, h2, h3, h4, h5, h6⟩ := ih hm
      exact ⟨d, by simp [hd], h1, h2, h3, h4, by omega, by simp only [List.length_cons]; omega⟩
theorem AllI.each : ∀ {w : World} {cs : List (Value × List Int)} {base top : Nat}, AllI w base top cs → ∀ c ∈ cs, KRow w base 3 1 c.1 c.2.length (c.2.map (Value.int .i64)) ∧ ∀ b, c.1.ownBlock = some b → base ≤ b ∧ b < top
  | _, [], _, _, _ => fun c hc => by cases hc
  | _, d :: ds, _, _, ⟨lo, hi, h1, h2, h3, h4⟩ => fun c hc => by
    have := h4.le
    rcases List.mem_cons.1 hc with hc | hc
    · subst hc
      exact ⟨h3.r.mono h1, fun b e => by have := h3.b b e; omega⟩
    · obtain ⟨k1, k2⟩ := h4.each c hc
      exact ⟨k1.mono (by omega), fun b e => by have := k2 b e; omega⟩
theorem AllI.apt : ∀ {w : World} {cs : List (Value × List Int)} {base top : Nat} (_ : AllI w base top cs) (n : Int), (hdsI cs n).Pairwise fun a b => Apt a.v b.v
  | _, [], _, _, _, _ => List.Pairwise.nil
  | _, d :: ds, _, _, ⟨lo, hi, h1, h2, h3, h4⟩, n => List.Pairwise.cons (fun h hm b e1 e2 => by
      obtain ⟨c, hc, hv, _⟩ := hdsI_in hm
      rw [hv] at e2
      have := h3.b b e1
      have := (h4.each c hc).2 b e2
      omega) (h4.apt (n + 1))
theorem AllI.bs : ∀ {w w' : World} {cs : List (Value × List Int)} {base top : Nat}, AllI w base top cs → Below w.heap.size w w' → AllI w' base top cs
  | _, _, [], _, _, h, _ => h
  | _, _, _ :: _, _, _, ⟨lo, hi, h1, h2, h3, h4⟩, hn => ⟨lo, hi, h1, h2, h3.bs hn, h4.bs hn⟩
/-- What Apart wants, of lists of whole numbers alone. -/
structure KeepsI (w : World) (base top : Nat) (hi : List Hd) : Prop where
  ki : Kept w base 3 1 hi
  li : ∀ b, blks hi b → b < top
theorem AllI.keeps {w : World} {cs : List (Value × List Int)} {base top : Nat} (h : AllI w base top cs) {n : Int} (h0 : 0 ≤ n) (h1 : n + cs.length ≤ 1000000) (hk : ∀ c ∈ cs, c.2.length ≤ 16777216) : KeepsI w base top (hdsI cs n) where
  ki := ⟨⟨fun x hx => by obtain ⟨c, hc, _, _, _, _, e5, e6⟩ := hdsI_in hx; omega, fun x hx => by obtain ⟨c, hc, _, e2, _⟩ := hdsI_in hx; have := hk c hc; omega, h.apt n, fun x hx => by obtain ⟨c, hc, _, _, _, e4, _⟩ := hdsI_in hx; exact e4⟩,
    fun x hx => by obtain ⟨c, hc, e1, e2, e3, _⟩ := hdsI_in hx; rw [e1, e2, e3]; exact (h.each c hc).1⟩
  li := fun b ⟨x, hx, e⟩ => by
    obtain ⟨c, hc, e1, _⟩ := hdsI_in hx
    rw [e1] at e
    exact ((h.each c hc).2 b e).2
theorem KeepsI.bs {w w' : World} {base top : Nat} {hi : List Hd} (h : KeepsI w base top hi) (g : Below w.heap.size w w') : KeepsI w' base top hi := ⟨h.ki.bs g, h.li⟩
theorem KeepsI.below {w w' : World} {base top : Nat} {hi : List Hd} (h : KeepsI w base top hi) (g : Below top w w') : KeepsI w' base top hi :=
  ⟨⟨h.ki.toKOk, fun x hx => (h.ki.own x hx).heap fun b e => g.block b (h.li b ⟨x, hx, e⟩)⟩, h.li⟩
theorem apartI_c (w : World) (lo A base : Nat) (n : Int) (hi : List Hd) (ub ui un : Value) (h : Bk w lo A n [] hi [] ub ui un) (k : KeepsI w base lo hi) (hbl : base ≤ lo) :
    Fnc Tryz.prog 17 [.pointer (some ⟨A, 0, none⟩)] w (fun r w' => r = .bool true ∧ Below base w w') :=
  apart_c w lo A base n [] hi [] ub ui un h (Kept.nil _ _ _ _) k.ki (Kept.nil _ _ _ _) (fun b ⟨_, h, _⟩ => by cases h) k.li (fun b ⟨_, h, _⟩ => by cases h) (fun b ⟨_, h, _⟩ => by cases h) (fun b ⟨_, h, _⟩ => by cases h) (fun b _ ⟨_, h, _⟩ => by cases h) hbl
theorem bk_new {w : World} {A : Nat} (h : Blk w A bookT (.int .i64 0 :: List.replicate 15 (.slice none 0 0))) : Bk w A A 0 [] [] [] (.slice none 0 0) (.slice none 0 0) (.slice none 0 0) :=
  ⟨h, ⟨rfl, .inl ⟨rfl, rfl⟩⟩, ⟨rfl, .inl ⟨rfl, rfl⟩⟩, ⟨rfl, .inl ⟨rfl, rfl⟩⟩, Nat.le_refl _, (by rintro ⟨⟩), (by rintro ⟨⟩), (by rintro ⟨⟩), (fun b e => by cases e), (fun b e => by cases e), (fun b e => by cases e), by decide, by decide⟩
theorem bookIntsB_c (w : World) (lo A : Nat) (n : Int) (hb hi hn : List Hd) (ub ui un v : Value) (k : Nat) (xs : List Value) (h : Bk w lo A n hb hi hn ub ui un) (hv : Sl w 1 v k xs) (hf : n ≤ 800) (hf2 : hb.length + hi.length + hn.length ≤ 800) :
    Fnc Tryz.prog 16 [.pointer (some ⟨A, 0, none⟩), v] w (fun r w' => r = .tuple #[] ∧ Below lo w w' ∧ ∃ u', Bk w' lo A (n + 1) hb (hi ++ [newHd v k xs (n + 1)]) hn ub u' un) :=
  (bookInts_c w lo A n hb hi hn ub ui un v k xs h hv hf hf2).mono fun _ _ ⟨h1, h2, h3⟩ => ⟨h1, h.low (fun b e => (own_block h.oi b e).1) h2, h3⟩
/-- A list's twin, with the room behind it. -/
structure TwnI (w : World) (lo hi : Nat) (x : Value) (l : List Int) : Prop where
  held : HeldI w lo hi x l
  tx : Twn w lo 3 (Value.int .i64) (Value.int .i64 (77)) x l
theorem TwnI.bs {w w' : World} {lo hi : Nat} {x : Value} {l : List Int} (h : TwnI w lo hi x l) (g : Below w.heap.size w w') : TwnI w' lo hi x l := ⟨h.held.bs g, h.tx.bs g⟩
theorem twn_own {α : Type} {w : World} {base : Nat} {T : TypeId} {enc : α → Value} {mark v : Value} {l : List α} (h : Twn w base T enc mark v l) : w.ownsRow base T 1 v l.length (l.map enc) := by
  obtain ⟨b, cap, rfl, ho⟩ := h
  exact own_short ho (by simp)
theorem twnI_c (v : Value) (l : List Int) (w : World) (hv : SlT (Value.int .i64) w v l) (hl : l.length ≤ 4194304) :
    Fnc Tryz.prog 5 [v] w (fun r w' => Below w.heap.size w w' ∧ TwnI w' w.heap.size w'.heap.size r l) :=
  (twinInts_c v l w hv hl).mono fun _ _ ⟨h1, h2⟩ => ⟨h2, HeldI.row (.inl (twn_own h1)) (Nat.le_refl _), h1⟩
end Go.Proofs.YtaliinkmeokonaaGreatDoor
