/- The step layer, part 9: what was changed, as a set of blocks; lists that are kept in a book. Nothing here names a program. -/
import Derived.Test.YtkhndfaampkbnaaGreatDoorOwn
namespace Go.Dd
open Go Go.RowKit

/-- Of the blocks that were there, only these were changed. -/
structure Chg (S : Nat → Prop) (w w' : World) : Prop where
  os : w'.os = w.os
  tape : w'.tape = w.tape
  output : w'.output = w.output
  size : w.heap.size ≤ w'.heap.size
  block : ∀ k, k < w.heap.size → ¬ S k → w'.heap[k]? = w.heap[k]?
namespace Chg
variable {S T : Nat → Prop} {a b c : World}
theorem refl (S : Nat → Prop) (w : World) : Chg S w w := ⟨rfl, rfl, rfl, Nat.le_refl _, fun _ _ _ => rfl⟩
theorem trans (h : Chg S a b) (k : Chg S b c) : Chg S a c :=
  ⟨k.os.trans h.os, k.tape.trans h.tape, k.output.trans h.output, Nat.le_trans h.size k.size, fun i hi hs => (k.block i (Nat.lt_of_lt_of_le hi h.size) hs).trans (h.block i hi hs)⟩
theorem mono (h : Chg S a b) (hs : ∀ k, S k → T k) : Chg T a b := ⟨h.os, h.tape, h.output, h.size, fun k hk hn => h.block k hk fun e => hn (hs k e)⟩
theorem below (h : Chg S a b) (k : Below b.heap.size b c) : Chg S a c :=
  ⟨k.os.trans h.os, k.tape.trans h.tape, k.output.trans h.output, Nat.le_trans h.size k.size, fun i hi hs => (k.block i (Nat.lt_of_lt_of_le hi h.size)).trans (h.block i hi hs)⟩
theorem grown (h : Chg S a b) {r : Option Nat} (k : b.grownBy c r) (hr : ∀ n, r = some n → S n ∨ a.heap.size ≤ n) : Chg S a c :=
  ⟨k.os.trans h.os, k.tape.trans h.tape, k.output.trans h.output, Nat.le_trans h.size k.size, fun i hi hs => (k.block i (Nat.lt_of_lt_of_le hi h.size) (fun e => by
    rcases hr i e.symm with h1 | h1
    · exact hs h1
    · omega)).trans (h.block i hi hs)⟩
theorem of_below (h : Below a.heap.size a b) : Chg S a b := (Chg.refl S a).below h
theorem to_below {B : Nat} (h : Chg S a b) (hS : ∀ k, S k → B ≤ k) (hB : B ≤ a.heap.size) : Below B a b :=
  ⟨h.os, h.tape, h.output, h.size, fun k hk => h.block k (by omega) fun e => by have := hS k e; omega⟩
end Chg
theorem Blk.chg {S : Nat → Prop} {w w' : World} {b : Nat} {T : TypeId} {cs : List Value} (h : Blk w b T cs) (g : Chg S w w') (hb : ¬ S b) : Blk w' b T cs := h.keep (g.block b (blk_lt h) hb)
theorem own_chg {S : Nat → Prop} {w w' : World} {base : Nat} {e : TypeId} {sz : Nat} {v : Value} {n : Nat} {xs : List Value} (h : w.ownsRow base e sz v n xs) (g : Chg S w w') (hv : ∀ b, v.ownBlock = some b → ¬ S b) : w'.ownsRow base e sz v n xs := by
  obtain ⟨h1, h2⟩ := h
  rcases h2 with h2 | ⟨b, cap, cur, rfl, hb, hg, h3⟩
  · exact ⟨h1, .inl h2⟩
  · exact ⟨h1, .inr ⟨b, cap, cur, rfl, hb, (g.block b (Array.getElem?_eq_some_iff.1 hg).1 (hv b rfl)).trans hg, h3⟩⟩
theorem KRow.chg {S : Nat → Prop} {w w' : World} {base : Nat} {e : TypeId} {sz : Nat} {v : Value} {n : Nat} {xs : List Value} (h : KRow w base e sz v n xs) (g : Chg S w w') (hv : ∀ b, v.ownBlock = some b → ¬ S b) : KRow w' base e sz v n xs :=
  h.heap fun b e => g.block b (h.lt b e).2 (hv b e)
theorem Sl.chg {S : Nat → Prop} {w w' : World} {sz : Nat} {v : Value} {n : Nat} {xs : List Value} (h : Sl w sz v n xs) (g : Chg S w w') (hv : ∀ b, v.ownBlock = some b → b < w.heap.size → ¬ S b) : Sl w' sz v n xs :=
  h.keep fun b hb e => g.block b hb (hv b e hb)

theorem int_one (k : IntKind) (m : Int) : (Value.int k m).oneCell' = true := rfl
/-- A list that a book keeps: its value, how many elements, what it reads, its number; the longer one. -/
structure Hd where
  v : Value
  k : Nat
  xs : List Value
  n : Int
  g : Value
def Hd.cells (h : Hd) : List Value := [h.v, h.g, .int .i64 h.n]
def hcells : List Hd → List Value
  | [] => []
  | h :: hs => h.v :: h.g :: .int .i64 h.n :: hcells hs
theorem hcells_len : ∀ hs : List Hd, (hcells hs).length = hs.length * 3
  | [] => rfl
  | h :: hs => by simp [hcells, hcells_len hs]; omega
theorem hcells_app : ∀ (a b : List Hd), hcells (a ++ b) = hcells a ++ hcells b
  | [], _ => rfl
  | h :: a, b => by simp [hcells, hcells_app a b]
theorem hcells_at : ∀ {hs : List Hd} {j : Nat} (h : j < hs.length), (hcells hs)[j * 3]? = some hs[j].v ∧ (hcells hs)[j * 3 + 1]? = some hs[j].g ∧ (hcells hs)[j * 3 + 2]? = some (.int .i64 hs[j].n)
  | t :: ts, 0, _ => by simp [hcells]
  | t :: ts, j + 1, h => by
    have := hcells_at (hs := ts) (j := j) (by simpa using h)
    rw [Nat.succ_mul]
    simpa [hcells] using this
theorem hcells_set : ∀ {hs : List Hd} {j : Nat} (h : j < hs.length) (g : Value), (hcells hs).set (j * 3 + 1) g = hcells (hs.set j { hs[j] with g := g })
  | t :: ts, 0, _, g => by simp [hcells]
  | t :: ts, j + 1, h, g => by
    have := hcells_set (hs := ts) (j := j) (by simpa using h) g
    rw [Nat.succ_mul, show j * 3 + 3 + 1 = (j * 3 + 1) + 3 by omega]
    simp [hcells, this]
theorem hcells_three {hs : List Hd} {j : Nat} (h : j < hs.length) : ∀ i, i < 3 → ∃ q, hs[j].cells[i]? = some q ∧ (hcells hs)[j * 3 + i]? = some q := fun i hi => by
  obtain ⟨h1, h2, h3⟩ := hcells_at h
  rcases (show i = 0 ∨ i = 1 ∨ i = 2 by omega) with rfl | rfl | rfl
  · exact ⟨_, rfl, h1⟩
  · exact ⟨_, rfl, h2⟩
  · exact ⟨_, rfl, h3⟩

/-- The blocks of some kept lists. -/
def blks (hs : List Hd) : Nat → Prop := fun b => ∃ h ∈ hs, h.v.ownBlock = some b
/-- Kept lists of one kind: their numbers; no two share memory. -/
structure KOk (hs : List Hd) : Prop where
  num : ∀ h ∈ hs, 0 ≤ h.n ∧ h.n ≤ 4000000
  few : ∀ h ∈ hs, h.k ≤ 16777216
  apart : hs.Pairwise fun a b => Apt a.v b.v
  new : ∀ h ∈ hs, h.g = .slice none 0 0
/-- Kept lists of one kind: each in memory of its own. -/
structure Kept (w : World) (base : Nat) (E : TypeId) (sz : Nat) (hs : List Hd) : Prop extends KOk hs where
  own : ∀ h ∈ hs, KRow w base E sz h.v h.k h.xs
theorem Kept.nil (w : World) (base : Nat) (E : TypeId) (sz : Nat) : Kept w base E sz [] := ⟨⟨by simp, by simp, List.Pairwise.nil, by simp⟩, by simp⟩
theorem Kept.blk {w : World} {base : Nat} {E : TypeId} {sz : Nat} {hs : List Hd} (h : Kept w base E sz hs) {b : Nat} (hb : blks hs b) : base ≤ b ∧ b < w.heap.size := by
  obtain ⟨x, hx, e⟩ := hb
  exact (h.own x hx).lt b e
theorem Kept.chg {w w' : World} {base : Nat} {E : TypeId} {sz : Nat} {hs : List Hd} {S : Nat → Prop} (h : Kept w base E sz hs) (g : Chg S w w') (hS : ∀ b, blks hs b → ¬ S b) : Kept w' base E sz hs :=
  ⟨h.toKOk, fun x hx => (h.own x hx).chg g fun b e => hS b ⟨x, hx, e⟩⟩
theorem Kept.bs {w w' : World} {base : Nat} {E : TypeId} {sz : Nat} {hs : List Hd} (h : Kept w base E sz hs) (g : Below w.heap.size w w') : Kept w' base E sz hs :=
  ⟨h.toKOk, fun x hx => (h.own x hx).bs g⟩
theorem apart_ne {hs : List Hd} (h : hs.Pairwise fun a b => Apt a.v b.v) {i j : Nat} (hi : i < hs.length) (hj : j < hs.length) (hne : i ≠ j) : Apt hs[i].v hs[j].v := by
  rcases Nat.lt_or_gt_of_ne hne with hlt | hgt
  · exact List.pairwise_iff_getElem.1 h i j hi hj hlt
  · exact (List.pairwise_iff_getElem.1 h j i hj hi hgt).symm

/-- As many marks as a list has numbers. -/
def marks (mk : Int → Value) (k : Nat) (n : Int) : List Value := List.replicate k (mk n)
theorem marks_get {mk : Int → Value} {k : Nat} {n : Int} {i : Nat} (h : i < k) : (marks mk k n)[i]? = some (mk n) := by simp [marks, h]
theorem marks_step {mk : Int → Value} {k : Nat} {n : Int} {xs : List Value} {i : Nat} (hx : xs.length = k) (hi : i < k) : (marks mk i n ++ xs.drop i).set i (mk n) = marks mk (i + 1) n ++ xs.drop (i + 1) := by
  have h1 : (marks mk i n).length = i := by simp [marks]
  have hil : i < xs.length := by omega
  rw [List.set_append_right _ _ (by omega), h1, Nat.sub_self, List.drop_eq_getElem_cons hil, List.set_cons_zero, marks, marks, List.replicate_succ', List.append_assoc]
  rfl
theorem marks_len {mk : Int → Value} {k : Nat} {n : Int} {xs : List Value} {i : Nat} (hx : xs.length = k) (hi : i ≤ k) : (marks mk i n ++ xs.drop i).length = k := by simp [marks, hx]; omega
theorem marks_more {mk : Int → Value} {k : Nat} {n : Int} : marks mk k n ++ [mk n] = marks mk (k + 1) n := by simp [marks, List.replicate_succ']

/-- Filled: each kept list is full of its mark. -/
def Full (w : World) (base : Nat) (E : TypeId) (mk : Int → Value) (hs : List Hd) : Prop := ∀ h ∈ hs, KRow w base E 1 h.v h.k (marks mk h.k h.n)
theorem Full.chg {w w' : World} {base : Nat} {E : TypeId} {mk : Int → Value} {hs : List Hd} {S : Nat → Prop} (h : Full w base E mk hs) (g : Chg S w w') (hS : ∀ b, blks hs b → ¬ S b) : Full w' base E mk hs :=
  fun x hx => (h x hx).chg g fun b e => hS b ⟨x, hx, e⟩
theorem Full.blk {w : World} {base : Nat} {E : TypeId} {mk : Int → Value} {hs : List Hd} (h : Full w base E mk hs) {b : Nat} (hb : blks hs b) : base ≤ b ∧ b < w.heap.size := by
  obtain ⟨x, hx, e⟩ := hb
  exact (h x hx).lt b e
/-- Grown: each with its longer one, forty marks more. -/
structure Tall (w : World) (mk : Int → Value) (h : Hd) : Prop where
  l : Sl w 1 h.v h.k (marks mk h.k h.n)
  g : Sl w 1 h.g (h.k + 40) (marks mk (h.k + 40) h.n)
theorem Tall.chg {w w' : World} {mk : Int → Value} {h : Hd} {S : Nat → Prop} (t : Tall w mk h) (g : Chg S w w') (h1 : ∀ b, h.v.ownBlock = some b → b < w.heap.size → ¬ S b) (h2 : ∀ b, h.g.ownBlock = some b → b < w.heap.size → ¬ S b) : Tall w' mk h := ⟨t.l.chg g h1, t.g.chg g h2⟩

/-- The same lists, each with a longer one. -/
structure Grown (w : World) (hs ts : List Hd) : Prop where
  len : ts.length = hs.length
  all : ∀ j (h : j < hs.length) (h' : j < ts.length), ts[j].v = hs[j].v ∧ ts[j].k = hs[j].k ∧ ts[j].n = hs[j].n ∧ ∀ b, ts[j].g.ownBlock = some b → hs[j].v.ownBlock = some b ∨ w.heap.size ≤ b
theorem Grown.refl (w : World) {hs : List Hd} (h : ∀ t ∈ hs, t.g = .slice none 0 0) : Grown w hs hs :=
  ⟨rfl, fun j hj _ => ⟨rfl, rfl, rfl, fun b e => by rw [h _ (List.getElem_mem hj)] at e; cases e⟩⟩
theorem Grown.set {w : World} {hs ts : List Hd} {i : Nat} {g : Value} (h : Grown w hs ts) (hi : i < hs.length) (hit : i < ts.length) (hg : ∀ b, g.ownBlock = some b → hs[i].v.ownBlock = some b ∨ w.heap.size ≤ b) : Grown w hs (ts.set i { ts[i] with g := g }) := by
  refine ⟨by rw [List.length_set]; exact h.len, fun j hj hj' => ?_⟩
  rw [List.getElem_set]
  split
  · rename_i e
    subst e
    obtain ⟨h1, h2, h3, _⟩ := h.all i hi hit
    exact ⟨h1, h2, h3, hg⟩
  · exact h.all j hj (by simpa using hj')
theorem Grown.nums {w : World} {hs ts : List Hd} (h : Grown w hs ts) (hk : KOk hs) : ∀ t ∈ ts, (0 ≤ t.n ∧ t.n ≤ 4000000) ∧ t.k ≤ 16777216 := fun t ht => by
  obtain ⟨j, hj, rfl⟩ := List.mem_iff_getElem.1 ht
  have hj' : j < hs.length := by rw [← h.len]; exact hj
  obtain ⟨_, h2, h3, _⟩ := h.all j hj' hj
  rw [h2, h3]
  exact ⟨hk.num _ (List.getElem_mem hj'), hk.few _ (List.getElem_mem hj')⟩
theorem Grown.tall {w0 w1 w2 : World} {hs ts : List Hd} {mk : Int → Value} {S : Nat → Prop} (h : Grown w0 hs ts) (ht : ∀ t ∈ ts, Tall w1 mk t) (c : Chg S w1 w2) (h1 : ∀ b, blks hs b → ¬ S b) (h2 : ∀ b, w0.heap.size ≤ b → ¬ S b) : ∀ t ∈ ts, Tall w2 mk t := fun t hm => by
  obtain ⟨j, hj, rfl⟩ := List.mem_iff_getElem.1 hm
  have hj' : j < hs.length := by rw [← h.len]; exact hj
  obtain ⟨e1, _, _, e4⟩ := h.all j hj' hj
  refine (ht _ hm).chg c (fun b e _ => h1 b ⟨_, List.getElem_mem hj', by rw [← e1]; exact e⟩) fun b e _ => ?_
  rcases e4 b e with h3 | h3
  · exact h1 b ⟨_, List.getElem_mem hj', h3⟩
  · exact h2 b h3
theorem Tall.bs {w w' : World} {mk : Int → Value} {h : Hd} (t : Tall w mk h) (g : Below w.heap.size w w') : Tall w' mk h := ⟨t.l.bs g, t.g.bs g⟩
theorem own_some {w : World} {base : Nat} {E : TypeId} {sz n : Nat} {v : Value} {xs : List Value} (h : w.ownsRow base E sz v n xs) (hn : 0 < n) : ∃ ad c k, v = .slice (some ad) c k := by
  rcases h.2 with ⟨_, h0⟩ | ⟨b, cap, cur, rfl, _⟩
  · omega
  · exact ⟨_, _, _, rfl⟩
/-- What append leaves of the list that it went on from. -/
theorem grow_keeps {w0 w5 w6 : World} {base : Nat} {E : TypeId} {v g g' : Value} {k m : Nat} {xs ys : List Value} (r0 : KRow w0 base E 1 v k xs) (r6 : KRow w6 base E 1 g' m ys) (hg : w5.grownBy w6 g.ownBlock)
    (hcase : g'.ownBlock = g.ownBlock ∨ ((∀ b, g'.ownBlock = some b → w5.heap.size ≤ b) ∧ Below w5.heap.size w5 w6)) (l5 : Sl w5 1 v k xs) (_hm : k ≤ m) (hys : ys.take k = xs) : Sl w6 1 v k xs := by
  rcases hcase with e | ⟨_, hb⟩
  · obtain ⟨hl, ao, cap, rfl, h1, h2, h3, h4⟩ := l5
    cases ao with
    | none => exact ⟨hl, none, cap, rfl, h1, h2, h3, fun a ha => by cases ha⟩
    | some ad =>
      have had : ad = ⟨ad.block, 0, none⟩ := by
        rcases r0 with r0 | ⟨g0, cur, h0, _⟩
        · rcases r0.2 with ⟨h0, _⟩ | ⟨b, cap', cur, h0, _⟩
          · cases h0
          · cases h0; rfl
        · cases h0; rfl
      by_cases hgo : g.ownBlock = some ad.block
      · rw [hgo] at e
        obtain ⟨_, ao, cap', hv', _, _, _, hc⟩ := r6.sl
        have hao : ao = some ad := by
          rcases r6 with r6 | ⟨g0, cur, h0, _⟩
          · rcases r6.2 with ⟨h0, _⟩ | ⟨b', cap2, _, h0, _⟩
            · rw [h0] at e; cases e
            · rw [h0] at hv' e
              cases hv'
              simp only [Value.ownBlock, Option.some.injEq] at e
              rw [had, e]
          · rw [h0] at hv' e
            cases hv'
            simp only [Value.ownBlock, Option.some.injEq] at e
            rw [had, e]
        refine ⟨hl, some ad, cap, rfl, h1, h2, h3, fun a ha j u hu => hc a (by rw [hao]; exact ha) j u ?_⟩
        rw [← hys, List.getElem?_take] at hu
        split at hu
        · exact hu
        · cases hu
      · exact Sl.by ⟨hl, some ad, cap, rfl, h1, h2, h3, h4⟩ hg (.inr fun h => hgo h.symm)
  · exact l5.bs hb

section
variable {P : Program} {n : Nat} {E : Env} {w : World} {ty t e : TypeId} {x y : Operand} {v u : Value} {sz base : Nat}
theorem append_fresh {w w' : World} {base : Nat} {t ty e : TypeId} {i : TypeInfo} {z : Value} {size bytes : Nat} (ht : P.underlying t = some (.slice e)) (hi : P.info? e = some i) (hz : i.zero = some z)
    (hsize : i.size = size) (hby : i.bytes = bytes) (hsz : 0 < size) {v v' : Value} {n : Nat} {xs : List Value} (hown : w.ownsRow base e size v n xs)
    {a : Addr} {m c : Nat} {news : List Value} (hl : news.length = m * size) (hnews : ∀ j u, news[j]? = some u → w.cell? (a.add j) = some u) (h1 : ∀ u ∈ news, u.oneCell' = true)
    (h63 : n + m ≤ maxLen) (hbytes : (n + m) * bytes ≤ 140737488355328) (hr' : (Builtin.append_ #[t, t] ty #[v, .slice (some a) m c]).run P w = .ok v' w') :
    v'.ownBlock = v.ownBlock ∨ ((∀ b, v'.ownBlock = some b → w.heap.size ≤ b) ∧ Below w.heap.size w w') := by
  subst hsize
  subst hby
  have hsmall : n + m ≤ 9223372036854775807 := by simp only [maxLen] at h63; omega
  rcases hown.2 with ⟨rfl, rfl⟩ | ⟨g, cap, cur, rfl, hbg, hg, hnc, hcm, hcs, htake⟩
  · by_cases hm : m = 0
    · subst hm
      obtain rfl : news = [] := List.eq_nil_of_length_eq_zero (by simpa using hl)
      have hr : (Builtin.append_ #[t, t] ty #[.slice none 0 0, .slice (some a) 0 c]).run P w = .ok (.slice none 0 0) w := by
        simp [Builtin.append_, run_underlying ht, sizeOf, typeInfo, hi, Builtin.lenOf, Builtin.firstCells, loadCells, loadCellsFrom]
      rw [hr] at hr'
      cases hr'
      exact .inl rfl
    · have hr := run_append_nil (P := P) w t ty e i z ht hi hz a m c news hl hnews (by omega) (by omega) (by have hb := hbytes; simp only [Nat.zero_add] at hb; omega)
      rw [hr] at hr'
      cases hr'
      exact .inr ⟨(fun b e => by cases e; exact Nat.le_refl _), ⟨rfl, rfl, rfl, by simp, fun k hk => heap_alloc_old w.drew _ hk⟩⟩
  · by_cases hroom : n + m ≤ cap
    · have hfit : n * i.size + news.length ≤ cur.size := by rw [hl, hcs, ← Nat.add_mul]; exact Nat.mul_le_mul_right _ hroom
      have hr := run_append_room (P := P) w t ty e i ht hi g n cap cur hg a m c news hl hnews h1 hroom hfit
      rw [hr] at hr'
      cases hr'
      exact .inl rfl
    · have holds : ∀ j u, xs[j]? = some u → w.cell? ((⟨g, 0, none⟩ : Addr).add j) = some u := hown.cells (g := g) rfl
      have hr := run_append_grow (P := P) w t ty e i z ht hi hz ⟨g, 0, none⟩ n cap xs hown.1 holds a m c news hl hnews (by omega) (by omega) (growslice_fits (by omega) hbytes)
      rw [hr] at hr'
      cases hr'
      exact .inr ⟨(fun b e => by cases e; exact Nat.le_refl _), ⟨rfl, rfl, rfl, by simp, fun k hk => heap_alloc_old w.drew _ hk⟩⟩
theorem Xw.append3 {k m : Nat} {xs news : List Value} {bytes : Nat} {zs : List Value} (hu : STy P t e sz) (hi : ITy P e zs bytes) (hzl : zs.length = sz) (hz : 0 < sz) (hx : ev E x = some v) (hy : ev E y = some u)
    (hown : w.ownsRow base e sz v k xs) (hsrc : Sl w sz u m news) (hone : news.all (·.oneCell') = true) (hlen : (k + m) * bytes ≤ 140737488355328) (hm : k + m ≤ 9223372036854775807) (hbase : base ≤ w.heap.size) :
    Xw P n E (.call { callee := .builtin .append, args := #[x, y], argTypes := #[t, t] }) ty w (fun v' w' => w'.ownsRow base e sz v' (k + m) (xs ++ news) ∧ w.grownBy w' v.ownBlock ∧ (v'.ownBlock = v.ownBlock ∨ ((∀ b, v'.ownBlock = some b → w.heap.size ≤ b) ∧ Below w.heap.size w w'))) := fun a ha => by
  subst hzl
  obtain ⟨i, h1, h2, h3, zv, h4, h5⟩ := hi.i
  obtain ⟨hl, ao, cap, rfl, hc1, hc2, hc3, hc4⟩ := hsrc
  have hzs : zv.cells.size = zs.length := by rw [h5]; simp
  cases ao with
  | none =>
    have h0 := hc3 rfl
    have hm0 : m = 0 := by omega
    subst hm0
    obtain rfl : news = [] := List.eq_nil_of_length_eq_zero (by simpa using hl)
    subst h0
    have hr := run_append_owned_none (P := P) w base t ty e i zs.length hu.u h1 v k xs hown
    refine ⟨v, w, fun _ _ _ _ => by simp [execOp, resolve, invoke, builtin, ha.ev hx, ha.ev hy, hr], by simpa using hown, grown_refl _ _, .inl rfl⟩
  | some ad =>
    have hm' : k + m ≤ maxLen := by unfold maxLen; omega
    have hone' : ∀ u ∈ news, u.oneCell' = true := fun u hu => List.all_eq_true.1 hone u hu
    obtain ⟨v', w', hr, g1, g2, g3⟩ := run_append_own (P := P) w base t ty e i zv zs.length bytes hu.u h1 h4 h2 h3 hzs hz v k xs hown ad m cap news hl (hc4 ad rfl) hone' hm' hlen hbase
    exact ⟨v', w', fun _ _ _ _ => by simp [execOp, resolve, invoke, builtin, ha.ev hx, ha.ev hy, hr], g1, g2, append_fresh hu.u h1 h4 h2 h3 hz hown hl (hc4 ad rfl) hone' hm' hlen hr⟩
/-- The same for a list whose room may have been cut off. -/
theorem Xw.appendK {k m : Nat} {xs news : List Value} {bytes : Nat} {zs : List Value} (hu : STy P t e sz) (hi : ITy P e zs bytes) (hzl : zs.length = sz) (hz : 0 < sz) (hx : ev E x = some v) (hy : ev E y = some u)
    (hown : KRow w base e sz v k xs) (hsrc : Sl w sz u m news) (hone : news.all (·.oneCell') = true) (hlen : (k + m) * bytes ≤ 140737488355328) (hm : k + m ≤ 9223372036854775807) (hbase : base ≤ w.heap.size) (hm1 : 1 ≤ m) :
    Xw P n E (.call { callee := .builtin .append, args := #[x, y], argTypes := #[t, t] }) ty w (fun v' w' => w'.ownsRow base e sz v' (k + m) (xs ++ news) ∧ w.grownBy w' v.ownBlock ∧ (v'.ownBlock = v.ownBlock ∨ ((∀ b, v'.ownBlock = some b → w.heap.size ≤ b) ∧ Below w.heap.size w w'))) := fun a ha => by
  have hsl := hown.sl
  rcases hown with hown | ⟨g, cur, rfl, h0, hb, h1, h2, h3⟩
  · exact Xw.append3 hu hi hzl hz hx hy hown hsrc hone hlen hm hbase a ha
  · subst hzl
    obtain ⟨i, i1, i2, i3, zv, i4, i5⟩ := hi.i
    obtain ⟨hl, ao, cap, rfl, hc1, hc2, hc3, hc4⟩ := hsrc
    have hzs : zv.cells.size = zs.length := by rw [i5]; simp
    cases ao with
    | none => have := hc3 rfl; omega
    | some ad =>
      obtain ⟨_, ao', cap', hv', _, _, _, hcl⟩ := hsl
      cases hv'
      obtain ⟨v', w', hr, r1, r2⟩ := run_append_arg_grows (P := P) w t ty e i zv zs.length bytes hu.u i1 i4 i2 i3 hzs hz ⟨g, 0, none⟩ k k xs (by rw [h3, List.length_take]; omega) (hcl _ rfl) ad m cap news hl (hc4 ad rfl) (by omega) (by unfold maxLen; omega) hlen
      have hbel : Below w.heap.size w w' := ⟨r2.os, r2.tape, r2.output, r2.size, fun k hk => r2.block k hk (by simp)⟩
      exact ⟨v', w', fun _ _ _ _ => by simp [execOp, resolve, invoke, builtin, ha.ev hx, ha.ev hy, hr], own_mono r1 hbase, below_grown hbel _, .inr ⟨fun b e => (own_block r1 b e).1, hbel⟩⟩
theorem Xu.stK {c j : Nat} {T : TypeId} {xs : List Value} (hag : (sizeOf e).run P w = .ok 1 w) (hx : ev E x = some (elemPtr v j)) (hy : ev E y = some u) (hone : u.oneCell' = true) (h : KRow w base T sz v c xs) (hj : j < xs.length) :
    Xu P n E (.store e x y) ty w (fun w' => KRow w' base T sz v c (xs.set j u) ∧ w.grownBy w' v.ownBlock ∧ w'.heap.size = w.heap.size) := fun a ha => by
  rcases h with h | ⟨g, cur, rfl, h0, hb, h1, h2, rfl⟩
  · obtain ⟨w', q1, q2, q3, q4⟩ := Xu.stO hag hx hy hone h hj a ha
    exact ⟨w', q1, .inl q2, q3, q4⟩
  · have hx' : ev E x = some (.pointer (some ⟨g, j, none⟩)) := by simpa [elemPtr, add_lit] using hx
    rw [List.length_take] at hj
    obtain ⟨w', q1, q2, q3, q4⟩ := Xu.stB (P := P) (ty := ty) hag hx' hy hone hb (by omega) a ha
    exact ⟨w', q1, .inr ⟨g, _, rfl, h0, q2, by simpa using h1, h2, by rw [List.take_set]⟩, q3, q4⟩
end
end Go.Dd
