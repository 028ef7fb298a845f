/- The step layer: lists of elements of several cells that are kept in a book (tensors, nodes). Nothing here names a program. -/
import Derived.Test.YtkhndfaampkbnaaGreatDoorBook
import Derived.Test.YtkhndfaampkbnaaGreatDoorCel
namespace Go.Dd
open Go Go.RowKit

section
variable {P : Program} {n : Nat} {E : Env} {w : World} {e ty t : TypeId} {x y z : Operand} {u v : Value}
/-- Many cells into a list of one's own, or one whose room was cut off. -/
theorem Xu.stKA {c j k : Nat} {base sz : Nat} {T : TypeId} {xs ds : List Value} (hs : (P.info? e).map (·.size) = some k) (hk : ds.length = k) (hx : ev E x = some (elemPtr v j)) (hy : ev E y = some (.agg ds.toArray)) (hone : ds.all (·.oneCell') = true) (h : KRow w base T sz v c xs) (h0 : 0 < c) (hj : j + ds.length ≤ xs.length) :
    Xu P n E (.store e x y) ty w (fun w' => KRow w' base T sz v c (spl xs j ds) ∧ w.grownBy w' v.ownBlock ∧ w'.heap.size = w.heap.size) := fun a ha => by
  rcases h with h | ⟨g, cur, rfl, hb0, hb, h1, h2, rfl⟩
  · rcases h.2 with ⟨_, hc⟩ | ⟨g, cap, cur, rfl, _⟩
    · omega
    · have hx' : ev E x = some (.pointer (some ⟨g, j, none⟩)) := by simpa [elemPtr, add_lit] using hx
      obtain ⟨w', q1, q2, q3, q4⟩ := Xu.stAO (P := P) (ty := ty) hs hk hx' hy hone h rfl hj a ha
      exact ⟨w', q1, .inl q2, q3, q4⟩
  · have hx' : ev E x = some (.pointer (some ⟨g, j, none⟩)) := by simpa [elemPtr, add_lit] using hx
    rw [List.length_take] at hj
    obtain ⟨w', q1, q2, q3, q4⟩ := Xu.stAt (P := P) (ty := ty) hs hk hx' hy hone hb (by omega) a ha
    exact ⟨w', q1, .inr ⟨g, _, rfl, hb0, q2, by rw [spl_len (by omega)]; exact h1, h2, by rw [spl_take (by omega) h1]⟩, q3, q4⟩
end

theorem KRow.ty {w : World} {base sz k g : Nat} {T : TypeId} {v : Value} {xs : List Value} (h : KRow w base T sz v k xs) (hg : v.ownBlock = some g) : ∃ cs, Blk w g T cs := by
  rcases h with h | ⟨g', cur, rfl, _, hb, _⟩
  · obtain ⟨_, cur, _, hb, _⟩ := own_cells h hg
    exact ⟨cur, hb⟩
  · obtain rfl : g' = g := by simpa [Value.ownBlock] using hg
    exact ⟨cur, hb⟩
/-- What append leaves of the list that it went on from: elements of several cells. -/
theorem grow_keepsN {w0 w5 w6 : World} {base sz : Nat} {E : TypeId} {v g g' : Value} {k m : Nat} {xs ys : List Value} (r0 : KRow w0 base E sz v k xs) (r6 : KRow w6 base E sz g' m ys) (hg : w5.grownBy w6 g.ownBlock)
    (hcase : g'.ownBlock = g.ownBlock ∨ ((∀ b, g'.ownBlock = some b → w5.heap.size ≤ b) ∧ Below w5.heap.size w5 w6)) (l5 : Sl w5 sz v k xs) (hys : ys.take (k * sz) = xs) : Sl w6 sz v k xs := by
  rcases hcase with e | ⟨_, hb⟩
  · obtain ⟨hl, ao, cap, rfl, h1, h2, h3, h4⟩ := l5
    cases ao with
    | none => exact ⟨hl, none, cap, rfl, h1, h2, h3, fun a ha => by cases ha⟩
    | some ad =>
      have had : ad = ⟨ad.block, 0, none⟩ := by
        rcases r0 with r0 | ⟨g0, cur, h0, _⟩
        · rcases r0.2 with ⟨h0, _⟩ | ⟨b, cap', cur, h0, _⟩
          · cases h0
          · cases h0; rfl
        · cases h0; rfl
      by_cases hgo : g.ownBlock = some ad.block
      · rw [hgo] at e
        obtain ⟨_, ao, cap', hv', _, _, _, hc⟩ := r6.sl
        have hao : ao = some ad := by
          rcases r6 with r6 | ⟨g0, cur, h0, _⟩
          · rcases r6.2 with ⟨h0, _⟩ | ⟨b', cap2, _, h0, _⟩
            · rw [h0] at e; cases e
            · rw [h0] at hv' e
              cases hv'
              simp only [Value.ownBlock, Option.some.injEq] at e
              rw [had, e]
          · rw [h0] at hv' e
            cases hv'
            simp only [Value.ownBlock, Option.some.injEq] at e
            rw [had, e]
        refine ⟨hl, some ad, cap, rfl, h1, h2, h3, fun a ha j u hu => hc a (by rw [hao]; exact ha) j u ?_⟩
        rw [← hys, List.getElem?_take] at hu
        split at hu
        · exact hu
        · cases hu
      · exact Sl.by ⟨hl, some ad, cap, rfl, h1, h2, h3, h4⟩ hg (.inr fun h => hgo h.symm)
  · exact l5.bs hb

/-- The first ones of a list of one's own: one's own as well, with more room. -/
theorem own_cut0 {w : World} {base sz n m : Nat} {e : TypeId} {v : Value} {xs : List Value} (h : w.ownsRow base e sz v n xs) (hm : m ≤ n) : w.ownsRow base e sz (cut v sz 0 m) m (xs.take (m * sz)) := by
  obtain ⟨h1, h2⟩ := h
  have hle : m * sz ≤ n * sz := Nat.mul_le_mul_right _ hm
  refine ⟨by rw [List.length_take]; omega, ?_⟩
  rcases h2 with ⟨rfl, rfl⟩ | ⟨b, cap, cur, rfl, hb, hg, hnc, hcm, hcs, ht⟩
  · obtain rfl : m = 0 := by omega
    exact .inl ⟨rfl, rfl⟩
  · refine .inr ⟨b, cap, cur, ?_, hb, hg, Nat.le_trans hm hnc, hcm, hcs, ?_⟩
    · show Value.slice (if cap = 0 then _ else Option.map _ _) (m - 0) (cap - 0) = _
      have e0 : (if cap = 0 then some (⟨b, 0, none⟩ : Addr) else (some (⟨b, 0, none⟩ : Addr)).map (·.add (0 * sz))) = some ⟨b, 0, none⟩ := by
        split
        · rfl
        · simp [add_lit]
      rw [e0]; rfl
    · rw [← ht, List.take_take, Nat.min_eq_left hle]
/-- Elements, each of sz cells. -/
def Els (sz k : Nat) (cs : List (List Value)) : Prop := cs.length = k ∧ ∀ c ∈ cs, c.length = sz
theorem Els.len {sz k : Nat} {cs : List (List Value)} (h : Els sz k cs) : cs.flatten.length = k * sz := by
  obtain ⟨rfl, h⟩ := h
  induction cs with
  | nil => simp
  | cons c cs ih =>
    rw [List.flatten_cons, List.length_append, ih fun x hx => h x (List.mem_cons_of_mem _ hx), h c (by simp), List.length_cons, Nat.succ_mul]; omega
theorem Els.snoc {sz k : Nat} {cs : List (List Value)} {c : List Value} (h : Els sz k cs) (hc : c.length = sz) : Els sz (k + 1) (cs ++ [c]) :=
  ⟨by rw [List.length_append, h.1]; rfl, fun x hx => by
    rcases List.mem_append.1 hx with hx | hx
    · exact h.2 x hx
    · rw [List.mem_singleton.1 hx]; exact hc⟩
theorem Els.nil (sz : Nat) : Els sz 0 [] := ⟨rfl, fun _ h => by cases h⟩
theorem Els.take {sz k m : Nat} {cs : List (List Value)} (h : Els sz (k + m) cs) : Els sz k (cs.take k) := ⟨by rw [List.length_take, h.1]; omega, fun c hc => h.2 c (List.mem_of_mem_take hc)⟩
theorem Els.at {sz k : Nat} : ∀ {cs : List (List Value)}, Els sz k cs → ∀ {j : Nat} (hj : j < cs.length) {i : Nat}, i < sz → cs.flatten[j * sz + i]? = cs[j][i]?
  | [], _, j, hj, _, _ => by cases hj
  | c :: cs, h, 0, _, i, hi => by
    rw [List.flatten_cons, Nat.zero_mul, Nat.zero_add, List.getElem?_append_left (by rw [h.2 c (by simp)]; exact hi)]; rfl
  | c :: cs, h, j + 1, hj, i, hi => by
    have hc := h.2 c (by simp)
    have : Els sz cs.length cs := ⟨rfl, fun x hx => h.2 x (List.mem_cons_of_mem _ hx)⟩
    rw [List.flatten_cons, List.getElem?_append_right (by rw [hc, Nat.succ_mul]; omega), hc, show (j + 1) * sz + i - sz = j * sz + i by rw [Nat.succ_mul]; omega, this.at (by simpa using hj) hi]; rfl
theorem Els.cells {sz k : Nat} {cs : List (List Value)} (h : Els sz k cs) {j : Nat} (hj : j < cs.length) : ∀ i, i < sz → ∃ q, cs[j][i]? = some q ∧ cs.flatten[j * sz + i]? = some q := fun i hi => by
  have hl := h.2 _ (List.getElem_mem hj)
  exact ⟨cs[j][i]'(by omega), List.getElem?_eq_getElem _, by rw [h.at hj hi]; exact List.getElem?_eq_getElem _⟩
theorem Els.flat_take {sz k m : Nat} {cs : List (List Value)} (h : Els sz (k + m) cs) : cs.flatten.take (k * sz) = (cs.take k).flatten := by
  have e : cs.flatten = (cs.take k).flatten ++ (cs.drop k).flatten := by rw [← List.flatten_append, List.take_append_drop]
  have := h.take.len
  rw [e, List.take_append_of_le_length (by omega), List.take_of_length_le (by omega)]
/-- One more element is written over. -/
theorem spl_done {sz k i : Nat} {xs : List Value} {ds : List (List Value)} {c : List Value} (hx : xs.length = k * sz) (hd : Els sz i ds) (hc : c.length = sz) (hi : i < k) : spl (ds.flatten ++ xs.drop (i * sz)) (i * sz) c = (ds ++ [c]).flatten ++ xs.drop ((i + 1) * sz) := by
  have h1 := hd.len
  unfold spl
  rw [List.take_append_of_le_length (by rw [h1]; exact Nat.le_refl _), List.take_of_length_le (by rw [h1]; exact Nat.le_refl _), List.drop_append, List.drop_of_length_le (by rw [h1]; omega), List.nil_append, h1, List.drop_drop, hc, List.flatten_append]
  congr 1
  · simp
  · congr 1; rw [Nat.succ_mul]; omega
theorem done_len {sz k i : Nat} {xs : List Value} {ds : List (List Value)} (hx : xs.length = k * sz) (hd : Els sz i ds) (hi : i ≤ k) : (ds.flatten ++ xs.drop (i * sz)).length = k * sz := by
  have := hd.len
  have : i * sz ≤ k * sz := Nat.mul_le_mul_right _ hi
  rw [List.length_append, List.length_drop]; omega

/-- What a mark is: cells, in a world, of a number; it stays where only blocks below B are changed, or such as are not of type I. -/
structure Stays (B : Nat) (I : TypeId) (Φ : Int → World → List Value → Prop) : Prop where
  of : ∀ {n : Int} {w w' : World} {c : List Value} {S : Nat → Prop}, Φ n w c → Chg S w w' → (∀ b, S b → b < B ∨ ∃ T cs, Blk w b T cs ∧ T ≠ I) → Φ n w' c
theorem Stays.chg {B : Nat} {I : TypeId} {Φ : Int → World → List Value → Prop} (h : Stays B I Φ) {n : Int} {w w' : World} {c : List Value} {S : Nat → Prop} (hc : Φ n w c) (g : Chg S w w') (hS : ∀ b, S b → b < B) : Φ n w' c := h.of hc g fun b e => .inl (hS b e)
theorem Stays.bs {B : Nat} {I : TypeId} {Φ : Int → World → List Value → Prop} (h : Stays B I Φ) {n : Int} {w w' : World} {c : List Value} (hc : Φ n w c) (g : Below w.heap.size w w') : Φ n w' c := h.of hc (S := fun _ => False) (Chg.of_below g) (fun _ h => h.elim)
/-- Marks: k elements. -/
structure Mks (Φ : Int → World → List Value → Prop) (sz : Nat) (n : Int) (w : World) (k : Nat) (cs : List (List Value)) : Prop where
  els : Els sz k cs
  each : ∀ c ∈ cs, Φ n w c
theorem Mks.nil (Φ : Int → World → List Value → Prop) (sz : Nat) (n : Int) (w : World) : Mks Φ sz n w 0 [] := ⟨Els.nil sz, fun _ h => by cases h⟩
theorem Mks.snoc {Φ : Int → World → List Value → Prop} {sz k : Nat} {n : Int} {w : World} {cs : List (List Value)} {c : List Value} (h : Mks Φ sz n w k cs) (hl : c.length = sz) (hc : Φ n w c) : Mks Φ sz n w (k + 1) (cs ++ [c]) :=
  ⟨h.els.snoc hl, fun x hx => by
    rcases List.mem_append.1 hx with hx | hx
    · exact h.each x hx
    · rw [List.mem_singleton.1 hx]; exact hc⟩
theorem Mks.chg {Φ : Int → World → List Value → Prop} {B sz k : Nat} {I : TypeId} {n : Int} {w w' : World} {S : Nat → Prop} {cs : List (List Value)} (h : Mks Φ sz n w k cs) (st : Stays B I Φ) (g : Chg S w w') (hS : ∀ b, S b → b < B) : Mks Φ sz n w' k cs := ⟨h.els, fun c hc => st.chg (h.each c hc) g hS⟩
theorem Mks.bs {Φ : Int → World → List Value → Prop} {B sz k : Nat} {I : TypeId} {n : Int} {w w' : World} {cs : List (List Value)} (h : Mks Φ sz n w k cs) (st : Stays B I Φ) (g : Below w.heap.size w w') : Mks Φ sz n w' k cs := ⟨h.els, fun c hc => st.bs (h.each c hc) g⟩
theorem Mks.by {Φ : Int → World → List Value → Prop} {B sz k : Nat} {I : TypeId} {n : Int} {w w' : World} {g : Option Nat} {cs : List (List Value)} (h : Mks Φ sz n w k cs) (st : Stays B I Φ) (hg : w.grownBy w' g) (hT : ∀ b, g = some b → b < B ∨ ∃ T cs, Blk w b T cs ∧ T ≠ I) : Mks Φ sz n w' k cs :=
  ⟨h.els, fun c hc => st.of (h.each c hc) (S := fun b => g = some b) ((Chg.refl _ _).grown hg fun b e => .inl e) hT⟩
theorem Mks.take {Φ : Int → World → List Value → Prop} {sz k m : Nat} {n : Int} {w : World} {cs : List (List Value)} (h : Mks Φ sz n w (k + m) cs) : Mks Φ sz n w k (cs.take k) := ⟨h.els.take, fun c hc => h.each c (List.mem_of_mem_take hc)⟩
/-- Filled with marks. -/
def FullN (w : World) (base : Nat) (E : TypeId) (sz : Nat) (Φ : Int → World → List Value → Prop) (hs : List Hd) : Prop := ∀ h ∈ hs, ∃ cs, Mks Φ sz h.n w h.k cs ∧ KRow w base E sz h.v h.k cs.flatten
theorem FullN.chg {w w' : World} {base sz B : Nat} {E I : TypeId} {Φ : Int → World → List Value → Prop} {hs : List Hd} {S : Nat → Prop} (h : FullN w base E sz Φ hs) (st : Stays B I Φ) (g : Chg S w w') (hB : ∀ b, S b → b < B) (hS : ∀ b, blks hs b → ¬ S b) : FullN w' base E sz Φ hs := fun x hx => by
  obtain ⟨cs, h1, h2⟩ := h x hx
  exact ⟨cs, h1.chg st g hB, h2.chg g fun b e => hS b ⟨x, hx, e⟩⟩
theorem FullN.blk {w : World} {base sz : Nat} {E : TypeId} {Φ : Int → World → List Value → Prop} {hs : List Hd} (h : FullN w base E sz Φ hs) {b : Nat} (hb : blks hs b) : base ≤ b ∧ b < w.heap.size := by
  obtain ⟨x, hx, e⟩ := hb
  obtain ⟨_, _, h2⟩ := h x hx
  exact h2.lt b e
/-- Grown: each with its longer one, forty marks more. -/
structure TallN (w : World) (sz : Nat) (Φ : Int → World → List Value → Prop) (h : Hd) : Prop where
  l : ∃ cs, Mks Φ sz h.n w h.k cs ∧ Sl w sz h.v h.k cs.flatten
  g : ∃ cs, Mks Φ sz h.n w (h.k + 40) cs ∧ Sl w sz h.g (h.k + 40) cs.flatten
theorem TallN.chg {w w' : World} {sz B : Nat} {I : TypeId} {Φ : Int → World → List Value → Prop} {h : Hd} {S : Nat → Prop} (t : TallN w sz Φ h) (st : Stays B I Φ) (g : Chg S w w') (hB : ∀ b, S b → b < B) (h1 : ∀ b, h.v.ownBlock = some b → b < w.heap.size → ¬ S b) (h2 : ∀ b, h.g.ownBlock = some b → b < w.heap.size → ¬ S b) : TallN w' sz Φ h := by
  obtain ⟨⟨cs, q1, q2⟩, ⟨ds, q3, q4⟩⟩ := t
  exact ⟨⟨cs, q1.chg st g hB, q2.chg g h1⟩, ⟨ds, q3.chg st g hB, q4.chg g h2⟩⟩
theorem TallN.bs {w w' : World} {sz B : Nat} {I : TypeId} {Φ : Int → World → List Value → Prop} {h : Hd} (t : TallN w sz Φ h) (st : Stays B I Φ) (g : Below w.heap.size w w') : TallN w' sz Φ h := by
  obtain ⟨⟨cs, q1, q2⟩, ⟨ds, q3, q4⟩⟩ := t
  exact ⟨⟨cs, q1.bs st g, q2.bs g⟩, ⟨ds, q3.bs st g, q4.bs g⟩⟩
theorem Grown.tallN {w0 w1 w2 : World} {B sz : Nat} {I : TypeId} {Φ : Int → World → List Value → Prop} {hs ts : List Hd} {S : Nat → Prop} (h : Grown w0 hs ts) (st : Stays B I Φ) (ht : ∀ t ∈ ts, TallN w1 sz Φ t) (c : Chg S w1 w2) (hB : ∀ b, S b → b < B) (h1 : ∀ b, blks hs b → ¬ S b) (h2 : ∀ b, w0.heap.size ≤ b → ¬ S b) : ∀ t ∈ ts, TallN w2 sz Φ t := fun t hm => by
  obtain ⟨j, hj, rfl⟩ := List.mem_iff_getElem.1 hm
  have hj' : j < hs.length := by rw [← h.len]; exact hj
  obtain ⟨e1, _, _, e4⟩ := h.all j hj' hj
  refine (ht _ hm).chg st c hB (fun b e _ => h1 b ⟨_, List.getElem_mem hj', by rw [← e1]; exact e⟩) fun b e _ => ?_
  rcases e4 b e with h3 | h3
  · exact h1 b ⟨_, List.getElem_mem hj', h3⟩
  · exact h2 b h3
/-- A tensor as a mark: its shape is the number. -/
def phT (B : Nat) (I : TypeId) (n : Int) (w : World) (c : List Value) : Prop := ∃ x, c = [x, .slice none 0 0] ∧ SlT (Value.int .i64) w x [-n] ∧ ∀ b, x.ownBlock = some b → B ≤ b ∧ ∃ cs, Blk w b I cs
theorem blk_tyB {w : World} {b : Nat} {T U : TypeId} {cs ds : List Value} (h : Blk w b T cs) (k : Blk w b U ds) : T = U := by
  unfold Blk at h k
  rw [h] at k
  cases k; rfl
theorem phT_stays (B : Nat) (I : TypeId) : Stays B I (phT B I) := ⟨fun ⟨x, e, h1, h2⟩ g hS => by
  have no : ∀ b, x.ownBlock = some b → ¬ _ := fun b e hs => by
    obtain ⟨q1, ds, q2⟩ := h2 b e
    rcases hS b hs with h | ⟨T, cs, h3, h4⟩
    · omega
    · exact h4 (blk_tyB h3 q2)
  refine ⟨x, e, Sl.chg h1 g fun b e _ hs => no b e hs, fun b e => ?_⟩
  obtain ⟨q1, ds, q2⟩ := h2 b e
  exact ⟨q1, ds, q2.chg g (no b e)⟩⟩
theorem phT_len {B : Nat} {I : TypeId} {n : Int} {w : World} {c : List Value} (h : phT B I n w c) : c.length = 2 ∧ c.all (·.oneCell') = true := by
  obtain ⟨x, rfl, h1, _⟩ := h
  exact ⟨rfl, by rw [List.all_cons, Sl.one' h1]; rfl⟩
/-- A node as a mark: its N is the number. -/
def phN (n : Int) (_ : World) (c : List Value) : Prop := c = [b8 0#8, .slice none 0 0, .slice none 0 0, .int .i64 (-n), .int .i64 0]
theorem phN_stays (B : Nat) (I : TypeId) : Stays B I phN := ⟨fun h _ _ => h⟩
theorem phN_len {n : Int} {w : World} {c : List Value} (h : phN n w c) : c.length = 5 ∧ c.all (·.oneCell') = true := by
  rw [h]; exact ⟨rfl, rfl⟩
end Go.Dd
