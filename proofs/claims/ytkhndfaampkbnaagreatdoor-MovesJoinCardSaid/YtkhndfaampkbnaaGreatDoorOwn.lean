/- The step layer, part 7: a new block and what is put into it, in one step; things of one's own that are written. Nothing here names a program. -/
import Derived.Test.YtkhndfaampkbnaaGreatDoorMore
namespace Go.Dd
open Go Go.RowKit

section
variable {P : Program} {Q : Post} {n : Nat} {E : Env} {w : World} {l0 rest : List Oper} {ty ty2 e : TypeId} {pos pos2 : String} {af af2 : Array Edge} {x y : Operand} {v u : Value}

/-- 'new', and a struct's or an array's value put there. -/
theorem Lw.boxed {d k bytes : Nat} {cs zs : List Value} (hi : ITy P e zs bytes) (hs : (P.info? e).map (·.size) = some k) (hk : cs.length = k) (hz : zs.length = k) (hd : Nat.blt d n = true) (hy : ∀ v, ev ((d, v) :: E) y = some (.agg cs.toArray)) (hone : cs.all (·.oneCell') = true)
    (h : ∀ A w', A = w.heap.size → Blk w' A e cs → Below w.heap.size w w' → w'.heap.size = w.heap.size + 1 → Lw P l0 Q n rest ((d, .pointer (some ⟨A, 0, none⟩)) :: E) w') :
    Lw P l0 Q n (⟨some d, .alloc e, ty, pos, af, none⟩ :: ⟨none, .store e (.tmp d) y, ty2, pos2, af2, none⟩ :: rest) E w := by
  refine Lw.valW (Xw.new hi) hd fun v w1 ⟨hv, hb, hn, hs1⟩ => ?_
  subst hv
  refine Lw.unit (Xu.stA (cs := cs) hs hk (get_cons_self _ _ _) (hy _) hone hb hz) fun w2 ⟨b2, hg, hs2⟩ => ?_
  exact h _ w2 rfl b2 (hn.grown hg (below_size hn) (by rintro _ ⟨⟩; exact Nat.le_refl _)) (by omega)
/-- The same for a value of one cell. -/
theorem Lw.boxed1 {d bytes : Nat} {z : Value} (hi : ITy P e [z] bytes) (hs : ∀ w, (sizeOf e).run P w = .ok 1 w) (hd : Nat.blt d n = true) (hy : ∀ v, ev ((d, v) :: E) y = some u) (hone : u.oneCell' = true)
    (h : ∀ A w', A = w.heap.size → Blk w' A e [u] → Below w.heap.size w w' → w'.heap.size = w.heap.size + 1 → Lw P l0 Q n rest ((d, .pointer (some ⟨A, 0, none⟩)) :: E) w') :
    Lw P l0 Q n (⟨some d, .alloc e, ty, pos, af, none⟩ :: ⟨none, .store e (.tmp d) y, ty2, pos2, af2, none⟩ :: rest) E w := by
  refine Lw.valW (Xw.new hi) hd fun v w1 ⟨hv, hb, hn, hs1⟩ => ?_
  subst hv
  refine Lw.unit (Xu.stB (u := u) (hs _) (get_cons_self _ _ _) (hy _) hone hb (by simp)) fun w2 ⟨b2, hg, hs2⟩ => ?_
  exact h _ w2 rfl b2 (hn.grown hg (below_size hn) (by rintro _ ⟨⟩; exact Nat.le_refl _)) (by omega)
/-- 'new' alone. -/
theorem Lw.newA {d bytes : Nat} {zs : List Value} (hi : ITy P e zs bytes) (hd : Nat.blt d n = true)
    (h : ∀ A w', A = w.heap.size → Blk w' A e zs → Below w.heap.size w w' → w'.heap.size = w.heap.size + 1 → Lw P l0 Q n rest ((d, .pointer (some ⟨A, 0, none⟩)) :: E) w') :
    Lw P l0 Q n (⟨some d, .alloc e, ty, pos, af, none⟩ :: rest) E w := by
  refine Lw.valW (Xw.new hi) hd fun v w1 ⟨hv, hb, hn, hs1⟩ => ?_
  subst hv
  exact h _ w1 rfl hb hn hs1
/-- A parameter in a block of its own. -/
theorem Lw.boxV {d : Nat} {cs : List Value} (hx : ev E x = some v) (hc : v.cells = cs.toArray) (hd : Nat.blt d n = true)
    (h : ∀ A w', A = w.heap.size → Blk w' A e cs → Below w.heap.size w w' → w'.heap.size = w.heap.size + 1 → Lw P l0 Q n rest ((d, .pointer (some ⟨A, 0, none⟩)) :: E) w') :
    Lw P l0 Q n (⟨some d, .box e x, ty, pos, af, none⟩ :: rest) E w := by
  refine Lw.valW (Xw.box hx hc) hd fun v w1 ⟨hv, hb, hn, hs1⟩ => ?_
  subst hv
  exact h _ w1 rfl hb hn hs1
end

theorem own_slT {α : Type} {w : World} {B : Nat} {e : TypeId} {k : Nat} {v : Value} {enc : α → Value} {l : List α} (h : w.ownsRow B e 1 v k (l.map enc)) : SlT enc w v l := by
  have : k = l.length := by have := h.1; simpa using this.symm
  subst this
  exact own_sl h
theorem own_mono {w : World} {B B' : Nat} {e : TypeId} {sz k : Nat} {v : Value} {xs : List Value} (h : w.ownsRow B e sz v k xs) (hb : B' ≤ B) : w.ownsRow B' e sz v k xs :=
  ⟨h.1, by
    rcases h.2 with h | ⟨g, cap, cur, h0, h1, h2⟩
    · exact .inl h
    · exact .inr ⟨g, cap, cur, h0, Nat.le_trans hb h1, h2⟩⟩
theorem grown_more {a b c : World} {r q : Option Nat} (h : a.grownBy b r) (k : b.grownBy c q) (hq : ∀ n, q = some n → a.heap.size ≤ n) : a.grownBy c r :=
  ⟨k.os.trans h.os, k.tape.trans h.tape, k.output.trans h.output, Nat.le_trans h.size k.size, fun i hi hr => (k.block i (Nat.lt_of_lt_of_le hi h.size) (fun e => by have := hq i e.symm; omega)).trans (h.block i hi hr)⟩
/-- A slice stays where only other blocks were written; of an empty one nothing is asked. -/
theorem Sl.stay {w w' : World} {sz : Nat} {v : Value} {n : Nat} {xs : List Value} (h : Sl w sz v n xs) (k : ∀ b, v.ownBlock = some b → xs ≠ [] → w'.heap[b]? = w.heap[b]?) : Sl w' sz v n xs := by
  obtain ⟨h1, ao, cap, rfl, h2, h3, h4, h5⟩ := h
  refine ⟨h1, ao, cap, rfl, h2, h3, h4, h5.keep fun a ha hne => ?_⟩
  subst ha
  exact k _ rfl hne
theorem Sl.blk {w : World} {sz : Nat} {v : Value} {n : Nat} {xs : List Value} (h : Sl w sz v n xs) (hne : xs ≠ []) : ∀ b, v.ownBlock = some b → b < w.heap.size := by
  obtain ⟨h1, ao, cap, rfl, h2, h3, h4, h5⟩ := h
  intro b hb
  cases ao with
  | none => cases hb
  | some a =>
    have := Cells.lt h5 hne
    simp only [Value.ownBlock, Option.some.injEq] at hb
    omega

theorem own_heap {w w' : World} {base : Nat} {e : TypeId} {sz : Nat} {v : Value} {n : Nat} {xs : List Value} (h : w.ownsRow base e sz v n xs) (k : ∀ b, v.ownBlock = some b → w'.heap[b]? = w.heap[b]?) : w'.ownsRow base e sz v n xs := by
  obtain ⟨h1, h2⟩ := h
  rcases h2 with h2 | ⟨b, cap, cur, rfl, hb, hg, h3⟩
  · exact ⟨h1, .inl h2⟩
  · exact ⟨h1, .inr ⟨b, cap, cur, rfl, hb, (k b rfl).trans hg, h3⟩⟩
/-- A list of one's own, or one whose room was cut off. -/
def KRow (w : World) (base : Nat) (e : TypeId) (sz : Nat) (v : Value) (n : Nat) (xs : List Value) : Prop :=
  w.ownsRow base e sz v n xs ∨ ∃ g cur, v = .slice (some ⟨g, 0, none⟩) n n ∧ base ≤ g ∧ Blk w g e cur ∧ n * sz ≤ cur.length ∧ n ≤ maxLen ∧ xs = cur.take (n * sz)
namespace KRow
variable {w w' : World} {base : Nat} {e : TypeId} {sz : Nat} {v : Value} {n : Nat} {xs : List Value}
theorem len (h : KRow w base e sz v n xs) : xs.length = n * sz := by
  rcases h with h | ⟨g, cur, _, _, _, h1, _, rfl⟩
  · exact h.1
  · rw [List.length_take]; omega
theorem sl (h : KRow w base e sz v n xs) : Sl w sz v n xs := by
  have hl := h.len
  rcases h with h | ⟨g, cur, rfl, _, hb, h1, h2, rfl⟩
  · exact own_sl h
  · refine ⟨hl, some ⟨g, 0, none⟩, n, rfl, Nat.le_refl _, h2, (fun h => by cases h), fun a ha j u hu => ?_⟩
    cases ha
    rw [add_lit, Nat.zero_add, hb.cell]
    rw [List.getElem?_take] at hu
    split at hu
    · exact hu
    · cases hu
theorem lt (h : KRow w base e sz v n xs) : ∀ b, v.ownBlock = some b → base ≤ b ∧ b < w.heap.size := by
  rcases h with h | ⟨g, cur, rfl, h0, hb, _⟩
  · exact own_block h
  · intro b e; cases e; exact ⟨h0, blk_lt hb⟩
theorem heap (h : KRow w base e sz v n xs) (k : ∀ b, v.ownBlock = some b → w'.heap[b]? = w.heap[b]?) : KRow w' base e sz v n xs := by
  rcases h with h | ⟨g, cur, rfl, h0, hb, h1⟩
  · exact .inl (own_heap h k)
  · exact .inr ⟨g, cur, rfl, h0, hb.keep (k g rfl), h1⟩
theorem bs (h : KRow w base e sz v n xs) (hb : Below w.heap.size w w') : KRow w' base e sz v n xs := h.heap fun b e => hb.block b (h.lt b e).2
theorem by' (h : KRow w base e sz v n xs) {r : Option Nat} (hg : w.grownBy w' r) (hne : v.ownBlock = none ∨ v.ownBlock ≠ r) : KRow w' base e sz v n xs :=
  h.heap fun b e => hg.block b (h.lt b e).2 (by rcases hne with h | h; · rw [h] at e; cases e
                                                · rw [← e]; exact h)
theorem mono (h : KRow w base e sz v n xs) {B : Nat} (hB : B ≤ base) : KRow w B e sz v n xs := by
  rcases h with ⟨h1, h2⟩ | ⟨g, cur, rfl, h0, h1⟩
  · refine .inl ⟨h1, ?_⟩
    rcases h2 with h | ⟨g, cap, cur, h0, h1, h2⟩
    · exact .inl h
    · exact .inr ⟨g, cap, cur, h0, Nat.le_trans hB h1, h2⟩
  · exact .inr ⟨g, cur, rfl, Nat.le_trans hB h0, h1⟩
theorem clip (h : w.ownsRow base e sz v n xs) : KRow w base e sz (Dd.clip v) n xs := by
  obtain ⟨h1, h2⟩ := h
  rcases h2 with ⟨rfl, rfl⟩ | ⟨g, cap, cur, rfl, hb, hg, hnc, hcm, hcs, ht⟩
  · exact .inl ⟨h1, .inl ⟨rfl, rfl⟩⟩
  · refine .inr ⟨g, cur.toList, rfl, hb, hg, ?_, Nat.le_trans hnc hcm, ht.symm⟩
    rw [Array.length_toList, hcs]
    exact Nat.mul_le_mul_right _ hnc
theorem slT {α : Type} {enc : α → Value} {l : List α} (h : KRow w base e 1 v n (l.map enc)) : SlT enc w v l := by
  have : n = l.length := by have := h.len; simpa using this.symm
  subst this
  exact h.sl
end KRow
/-- A list of one's own, between two bounds. -/
structure Lst {α : Type} (enc : α → Value) (w : World) (E : TypeId) (lo hi : Nat) (v : Value) (l : List α) : Prop where
  own : w.ownsRow lo E 1 v l.length (l.map enc)
  blk : ∀ b, v.ownBlock = some b → lo ≤ b ∧ b < hi
namespace Lst
variable {α : Type} {enc : α → Value} {w w' : World} {E : TypeId} {lo hi : Nat} {v : Value} {l : List α}
theorem sl (h : Lst enc w E lo hi v l) : SlT enc w v l := own_slT h.own
theorem bs (h : Lst enc w E lo hi v l) (hb : Below w.heap.size w w') : Lst enc w' E lo hi v l := ⟨own_bs h.own hb, h.blk⟩
theorem keep (h : Lst enc w E lo hi v l) {r : Option Nat} (hg : w.grownBy w' r) (hr : ∀ b, r = some b → b < lo ∨ hi ≤ b) : Lst enc w' E lo hi v l :=
  ⟨h.own.kept hg (by
    cases hv : v.ownBlock with
    | none => exact .inl rfl
    | some b => exact .inr fun e => by have := hr b e.symm; have := h.blk b hv; omega), h.blk⟩
theorem set (h : Lst enc w E lo hi v l) {i : Nat} {a : α} (ho : w'.ownsRow lo E 1 v l.length ((l.map enc).set i (enc a))) : Lst enc w' E lo hi v (l.set i a) :=
  ⟨by rw [List.length_set, List.map_set]; exact ho, h.blk⟩
/-- What lies below stays below. -/
theorem below (h : Lst enc w E lo hi v l) {w0 : World} (hB : Below lo w0 w) (hlo : lo ≤ w0.heap.size) (hg : w.grownBy w' v.ownBlock) : Below lo w0 w' := hB.grown hg (Nat.le_trans hlo hB.size) (fun b hb => (h.blk b hb).1)
end Lst

/-- A tensor of one's own, boxed, between two bounds. -/
structure Mine (w : World) (T I E : TypeId) (lo hi A : Nat) (x y : Value) (s : List Int) (l : List (BitVec 32)) : Prop where
  box : Blk w A T [x, y]
  row : KRow w lo I 1 x s.length (s.map (Value.int .i64))
  lst : Lst i32 w E lo hi y l
  bA : lo ≤ A ∧ A < hi
  bx : ∀ b, x.ownBlock = some b → lo ≤ b ∧ b < hi ∧ b ≠ A
  yA : y.ownBlock ≠ some A
  yx : ∀ b, y.ownBlock = some b → x.ownBlock ≠ some b
namespace Mine
variable {w w' : World} {T I E : TypeId} {lo hi A : Nat} {x y : Value} {s : List Int} {l : List (BitVec 32)}
theorem bs (h : Mine w T I E lo hi A x y s l) (hb : Below w.heap.size w w') : Mine w' T I E lo hi A x y s l := ⟨h.box.bs hb, h.row.bs hb, h.lst.bs hb, h.bA, h.bx, h.yA, h.yx⟩
theorem keep (h : Mine w T I E lo hi A x y s l) {r : Option Nat} (hg : w.grownBy w' r) (hr : ∀ b, r = some b → b < lo ∨ hi ≤ b) : Mine w' T I E lo hi A x y s l :=
  ⟨h.box.by hg (fun e => by have := hr A e.symm; have := h.bA; omega),
   h.row.heap fun b hb => hg.block b (h.row.lt b hb).2 fun e => by
    have := hr b e.symm
    have := h.bx b hb
    omega,
   h.lst.keep hg hr, h.bA, h.bx, h.yA, h.yx⟩
theorem set (h : Mine w T I E lo hi A x y s l) {i : Nat} {a : BitVec 32} (hg : w.grownBy w' y.ownBlock) (ho : w'.ownsRow lo E 1 y l.length ((l.map i32).set i (i32 a))) : Mine w' T I E lo hi A x y s (l.set i a) :=
  ⟨h.box.by hg (fun e => h.yA e.symm),
   h.row.heap fun b hb => hg.block b (h.row.lt b hb).2 fun e => h.yx b e.symm hb,
   h.lst.set ho, h.bA, h.bx, h.yA, h.yx⟩
theorem sh (h : Mine w T I E lo hi A x y s l) : SlT (Value.int .i64) w x s := h.row.slT
theorem sly (h : Mine w T I E lo hi A x y s l) : SlT i32 w y l := h.lst.sl
theorem below (h : Mine w T I E lo hi A x y s l) {w0 : World} (hB : Below lo w0 w) (hlo : lo ≤ w0.heap.size) (hg : w.grownBy w' y.ownBlock) : Below lo w0 w' := h.lst.below hB hlo hg
theorem other (h : Mine w T I E lo hi A x y s l) {lo' hi' : Nat} (ho : hi ≤ lo' ∨ hi' ≤ lo) : ∀ b, y.ownBlock = some b → b < lo' ∨ hi' ≤ b := fun b hb => by
  have := h.lst.blk b hb; omega
/-- A store into its numbers. -/
theorem st (h : Mine w T I E lo hi A x y s l) {P : Program} {n : Nat} {Ev : Env} {e ty : TypeId} {p q : Operand} {j : Nat} {a : BitVec 32} (hag : (sizeOf e).run P w = .ok 1 w) (hp : ev Ev p = some (elemPtr y j)) (hq : ev Ev q = some (i32 a)) (hj : j < l.length) :
    Xu P n Ev (.store e p q) ty w (fun w' => Mine w' T I E lo hi A x y s (l.set j a) ∧ w.grownBy w' y.ownBlock ∧ w'.heap.size = w.heap.size) := fun ac hac => by
  obtain ⟨w', h1, h2, h3, h4⟩ := Xu.stO (P := P) (ty := ty) hag hp hq rfl h.lst.own (by simpa using hj) ac hac
  exact ⟨w', h1, h.set h3 h2, h3, h4⟩
end Mine

/-! ### A list that is turned number by number -/
section
variable {α : Type} {f l : List α} {i : Nat}
theorem td_len (hf : f.length = l.length) : (f.take i ++ l.drop i).length = l.length := by simp; omega
theorem td_get [Inhabited α] (hf : f.length = l.length) (hi : i < l.length) : (f.take i ++ l.drop i).getD i default = l.getD i default := by
  have h1 : (f.take i).length = i := by simp; omega
  rw [List.getD_eq_getElem?_getD, List.getElem?_append_right (by omega), h1, Nat.sub_self, List.drop_eq_getElem_cons hi]
  simp [hi]
theorem td_set [Inhabited α] (hf : f.length = l.length) (hi : i < l.length) : (f.take i ++ l.drop i).set i (f.getD i default) = f.take (i + 1) ++ l.drop (i + 1) := by
  have h1 : (f.take i).length = i := by simp; omega
  have h2 : i < f.length := by omega
  rw [List.set_append_right _ _ (by omega), h1, Nat.sub_self, List.drop_eq_getElem_cons hi, List.set_cons_zero, List.take_succ_eq_append_getElem h2, List.append_assoc]
  simp [h2]
theorem set_same [Inhabited α] {a : α} (hi : i < l.length) (h : l.getD i default = a) : l.set i a = l := by
  subst h
  apply List.ext_getElem (by simp)
  intro j h1 h2
  rw [List.getElem_set]
  split
  · rename_i e; subst e; simp [hi]
  · rfl
theorem td_zero : f.take 0 ++ l.drop 0 = l := by simp
theorem td_all (hf : f.length = l.length) : f.take l.length ++ l.drop l.length = f := by rw [← hf, List.take_length, hf, List.drop_length, List.append_nil]
end

/-! ### A guard that was itself passed over -/
section
variable {P : Program} {Q : Post} {n : Nat} {E : Env} {w : World} {l0 rest : List Oper} {ty : TypeId} {pos : String} {af : Array Edge} {C : World → Prop} {K : Act → Prop}
theorem yielded_no {a : Act} (ha : Fits n E a) {j dj : Nat} (hj : (nth l0 j).bind (·.dst) = some dj) (hg : get E dj = some undef) : yielded l0.toArray a.tmps j = none := by
  unfold yielded
  rw [List.getElem?_toArray, nth_eq, hj]
  simp [ha.has _ _ hg, undef]
theorem Lw.passN {d : Nat} {op : Op} {j dj : Nat} {g : Bool} (hj : (nth l0 j).bind (·.dst) = some dj) (hg : get E dj = some undef) (hd : Nat.blt d n = true)
    (h : Lw P l0 Q n rest ((d, undef) :: E) w) : Lw P l0 Q n (⟨some d, op, ty, pos, af, some (j, g)⟩ :: rest) E w := fun a ha => by
  unfold wpList
  rw [if_neg]
  · exact h _ (ha.put _ hd)
  · simp [Region.wanted, yielded_no ha hj hg]
theorem Lw.passNU {op : Op} {j dj : Nat} {g : Bool} (hj : (nth l0 j).bind (·.dst) = some dj) (hg : get E dj = some undef)
    (h : Lw P l0 Q n rest E w) : Lw P l0 Q n (⟨none, op, ty, pos, af, some (j, g)⟩ :: rest) E w := fun a ha => by
  unfold wpList
  rw [if_neg]
  · exact h _ (ha.put_none _)
  · simp [Region.wanted, yielded_no ha hj hg]
theorem Qw.passN {d : Nat} {op : Op} {j dj : Nat} {g : Bool} (hj : (nth l0 j).bind (·.dst) = some dj) (hg : get E dj = some undef) (hd : Nat.blt d n = true)
    (h : Qw P l0 C K n rest ((d, undef) :: E)) : Qw P l0 C K n (⟨some d, op, ty, pos, af, some (j, g)⟩ :: rest) E := fun a ha => by
  unfold wpQuiet
  rw [if_neg]
  · exact h _ (ha.put _ hd)
  · simp [Region.wanted, yielded_no ha hj hg]
theorem Aw.passN {i d j dj fuel : Nat} {op : Op} {g : Bool} {listed : Array Bool} (hQ : NoP Q) (hi : nth l0 i = some ⟨some d, op, ty, pos, af, some (j, g)⟩) (hj : (nth l0 j).bind (·.dst) = some dj) (hg : get E dj = some undef) (hs : Region.noSelect l0.toArray = true) (hf : Region.free .any l0.toArray listed i = true)
    (hr : (Region.ready .any l0.toArray listed).contains i = true) (hd : Nat.blt d n = true) (k : Aw P l0 Q n fuel (listed.setIfInBounds i true) ((d, undef) :: E) w) : Aw P l0 Q n (fuel + 1) listed E w := fun a ha =>
  wpAny_take (by rw [List.getElem?_toArray, nth_eq]; exact hi) hs hf hr (fun c a' w' hq => absurd hq (hQ _ _ _)) (.inr ⟨by simp [Region.wanted, yielded_no ha hj hg], rfl⟩) (k _ (ha.put undef hd))
end
end Go.Dd
