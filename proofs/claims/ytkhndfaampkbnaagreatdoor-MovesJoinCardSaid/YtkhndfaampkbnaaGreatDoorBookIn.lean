/- Kept lists between two bounds of memory; Apart of them. -/
import Derived.Test.YtkhndfaampkbnaaGreatDoorBookList
import Derived.Test.YtkhndfaampkbnaaGreatDoorTwinLists
namespace Go.Proofs.YtkhndfaampkbnaaGreatDoor
open Go Go.Dd Go.RowKit
set_option maxRecDepth 100000

/-- Kept lists of one kind, between two blocks. -/
structure KIn (w : World) (lo hi : Nat) (E : TypeId) (sz : Nat) (hs : List Hd) : Prop where
  kept : Kept w lo E sz hs
  top : ∀ b, blks hs b → b < hi
theorem KIn.nil (w : World) (lo hi : Nat) (E : TypeId) (sz : Nat) : KIn w lo hi E sz [] := ⟨Kept.nil _ _ _ _, fun b ⟨_, h, _⟩ => by cases h⟩
theorem KIn.low {w : World} {lo hi : Nat} {E : TypeId} {sz : Nat} {hs : List Hd} (h : KIn w lo hi E sz hs) {b : Nat} (e : blks hs b) : lo ≤ b := (h.kept.blk e).1
theorem KIn.below {w w' : World} {lo hi B : Nat} {E : TypeId} {sz : Nat} {hs : List Hd} (h : KIn w lo hi E sz hs) (g : Below B w w') (hB : hi ≤ B) : KIn w' lo hi E sz hs :=
  ⟨⟨h.kept.toKOk, fun x hx => (h.kept.own x hx).heap fun b e => g.block b (by have := h.top b ⟨x, hx, e⟩; omega)⟩, h.top⟩
theorem KIn.bs {w w' : World} {lo hi : Nat} {E : TypeId} {sz : Nat} {hs : List Hd} (h : KIn w lo hi E sz hs) (g : Below w.heap.size w w') : KIn w' lo hi E sz hs := ⟨h.kept.bs g, h.top⟩
theorem KIn.wide {w : World} {lo hi lo' hi' : Nat} {E : TypeId} {sz : Nat} {hs : List Hd} (h : KIn w lo hi E sz hs) (h1 : lo' ≤ lo) (h2 : hi ≤ hi') : KIn w lo' hi' E sz hs :=
  ⟨⟨h.kept.toKOk, fun x hx => (h.kept.own x hx).mono h1⟩, fun b e => by have := h.top b e; omega⟩
theorem KIn.app {w : World} {a b c d : Nat} {E : TypeId} {sz : Nat} {hs ks : List Hd} (h : KIn w a b E sz hs) (k : KIn w c d E sz ks) (h1 : a ≤ c) (h2 : b ≤ c) (h3 : b ≤ d) : KIn w a d E sz (hs ++ ks) := by
  have two : ∀ {P : Hd → Prop}, (∀ x ∈ hs, P x) → (∀ x ∈ ks, P x) → ∀ x ∈ hs ++ ks, P x := fun p q x hx => (List.mem_append.1 hx).elim (p x) (q x)
  refine ⟨⟨⟨two h.kept.num k.kept.num, two h.kept.few k.kept.few, List.pairwise_append.2 ⟨h.kept.apart, k.kept.apart, fun x hx y hy e e1 e2 => ?_⟩, two h.kept.new k.kept.new⟩, two h.kept.own fun x hx => (k.kept.own x hx).mono h1⟩, fun e ⟨x, hx, ex⟩ => ?_⟩
  · have := h.top e ⟨x, hx, e1⟩
    have := k.low ⟨y, hy, e2⟩
    omega
  · rcases List.mem_append.1 hx with hx | hx
    · have := h.top e ⟨x, hx, ex⟩; omega
    · exact k.top e ⟨x, hx, ex⟩
theorem KIn.one {w : World} {lo hi : Nat} {E : TypeId} {sz k : Nat} {v : Value} {xs : List Value} {n : Int} (h : KRow w lo E sz v k xs) (hb : ∀ b, v.ownBlock = some b → b < hi) (hn : 0 ≤ n) (hn2 : n ≤ 4000000) (hk : k ≤ 16777216) : KIn w lo hi E sz [newHdM v k xs n] :=
  ⟨⟨⟨fun x hx => by rw [List.mem_singleton.1 hx]; exact ⟨hn, hn2⟩, fun x hx => by rw [List.mem_singleton.1 hx]; exact hk, List.pairwise_singleton _ _, fun x hx => by rw [List.mem_singleton.1 hx]⟩, fun x hx => by rw [List.mem_singleton.1 hx]; exact h⟩, fun b ⟨x, hx, e⟩ => by rw [List.mem_singleton.1 hx] at e; exact hb b e⟩
/-- Two heads, one behind the other. -/
theorem KIn.cons {w : World} {a b c d : Nat} {E : TypeId} {sz : Nat} {x : Hd} {ks : List Hd} (h : KIn w a b E sz [x]) (k : KIn w c d E sz ks) (h1 : a ≤ c) (h2 : b ≤ c) (h3 : b ≤ d) : KIn w a d E sz (x :: ks) := h.app k h1 h2 h3
theorem Heldall.kin : ∀ {w : World} {cs : List T4} {base top : Nat} (_ : Heldall w base top cs) {n : Int}, 0 ≤ n → n + 2 * cs.length ≤ 4000000 → (∀ c ∈ cs, c.s.length ≤ 16777216 ∧ c.l.length ≤ 16777216) → KIn w base top 3 1 (hmI n cs) ∧ KIn w base top 21 1 (hmN n cs)
  | _, [], _, _, _, _, _, _, _ => ⟨KIn.nil _ _ _ _ _, KIn.nil _ _ _ _ _⟩
  | w, c :: cs, base, top, ⟨lo, hi, h1, h2, h3, h4⟩, n, n0, n1, hk => by
    simp only [List.length_cons] at n1
    obtain ⟨q1, q2⟩ := h4.kin (n := n + 2) (by omega) (by omega) fun d hd => hk d (by simp [hd])
    have := hk c (by simp)
    have := h4.le
    exact ⟨((KIn.one h3.rx (fun b e => (h3.bx b e).2) (by omega) (by omega) (by omega)).cons q1 (by omega) (Nat.le_refl _) (by omega)).wide h1 (Nat.le_refl _), ((KIn.one h3.ry (fun b e => (h3.by' b e).2) (by omega) (by omega) (by omega)).cons q2 (by omega) (Nat.le_refl _) (by omega)).wide h1 (Nat.le_refl _)⟩
theorem kin_apart {w : World} {a b c d : Nat} {E T : TypeId} {sz tz : Nat} {hs ks : List Hd} (h : KIn w a b E sz hs) (k : KIn w c d T tz ks) (hne : E ≠ T) : ∀ x, blks hs x → ¬ blks ks x := fun x ⟨y, hy, e1⟩ ⟨z, hz, e2⟩ => by
  obtain ⟨cs, h1⟩ := (h.kept.own y hy).ty e1
  obtain ⟨ds, h2⟩ := (k.kept.own z hz).ty e2
  exact hne (blk_tyB h1 h2)
theorem apart_in (w : World) (lo A base : Nat) (n : Int) (hb hi hn ht hd : List Hd) (ub ui un ut ud : Value) (h : Bm w lo A n hb hi hn ht hd ub ui un ut ud) (kb : KIn w base lo 5 1 hb) (ki : KIn w base lo 3 1 hi) (kn : KIn w base lo 21 1 hn) (kt : KIn w base lo 29 2 ht) (kd : KIn w base lo 121 5 hd) (hbl : base ≤ lo) :
    Fnc Tryz.prog 14 [.pointer (some ⟨A, 0, none⟩)] w (fun r w' => r = .bool true ∧ Below base w w') :=
  apart_m w lo A base n hb hi hn ht hd ub ui un ut ud h kb.kept ki.kept kn.kept kt.kept kd.kept kb.top ki.top kn.top kt.top kd.top (kin_apart kb ki (by decide)) (kin_apart kb kn (by decide)) (kin_apart kb kt (by decide)) (kin_apart kb kd (by decide)) (kin_apart ki kn (by decide)) (kin_apart ki kt (by decide)) (kin_apart ki kd (by decide)) (kin_apart kn kt (by decide)) (kin_apart kn kd (by decide)) (kin_apart kt kd (by decide)) hbl
theorem bm_new {w : World} {A : Nat} (h : Blk w A bookT (.int .i64 0 :: List.replicate 15 (.slice none 0 0))) : Bm w A A 0 [] [] [] [] [] (.slice none 0 0) (.slice none 0 0) (.slice none 0 0) (.slice none 0 0) (.slice none 0 0) :=
  ⟨h, ⟨rfl, .inl ⟨rfl, rfl⟩⟩, ⟨rfl, .inl ⟨rfl, rfl⟩⟩, ⟨rfl, .inl ⟨rfl, rfl⟩⟩, ⟨rfl, .inl ⟨rfl, rfl⟩⟩, ⟨rfl, .inl ⟨rfl, rfl⟩⟩, Nat.le_refl _, (by rintro ⟨⟩), (by rintro ⟨⟩), (by rintro ⟨⟩), (by rintro ⟨⟩), (by rintro ⟨⟩), (fun b e => by cases e), (fun b e => by cases e), (fun b e => by cases e), (fun b e => by cases e), (fun b e => by cases e), (fun b e => by cases e), (fun b e => by cases e), (fun b e => by cases e), (fun b e => by cases e), (fun b e => by cases e), rfl⟩
end Go.Proofs.YtkhndfaampkbnaaGreatDoor
