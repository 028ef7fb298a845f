/- The step layer, part 13: parts of one width within a list; arrays within a block; stores and copies of many cells. Nothing here names a program. -/
import Derived.Test.YtkhndfaampkbnaaGreatDoorSub
import Derived.Test.YtkhndfaampkbnaaGreatDoorByt
import Derived.Test.YtkhndfaampkbnaaGreatDoorMore
import Derived.Test.YtkhndfaampkbnaaGreatDoorSeg
import Derived.Lib.AppendZerosOnto
import Derived.Laws.Pointers
namespace Go.Dd
open Go Go.RowKit

/-! ### Splicing -/
/-- Some cells of a list are others. -/
def spl (xs : List Value) (o : Nat) (ds : List Value) : List Value := xs.take o ++ ds ++ xs.drop (o + ds.length)
theorem spl_len {xs ds : List Value} {o : Nat} (h : o + ds.length ≤ xs.length) : (spl xs o ds).length = xs.length := by
  simp only [spl, List.length_append, List.length_take, List.length_drop]; omega
theorem spl_get {xs ds : List Value} {o i : Nat} (h : o + ds.length ≤ xs.length) : (spl xs o ds)[i]? = if i < o then xs[i]? else if i < o + ds.length then ds[i - o]? else xs[i]? := by
  have h1 : (xs.take o).length = o := by rw [List.length_take]; omega
  unfold spl
  by_cases hi : i < o
  · rw [if_pos hi, List.append_assoc, List.getElem?_append_left (by omega), List.getElem?_take, if_pos hi]
  · rw [if_neg hi]
    by_cases hj : i < o + ds.length
    · rw [if_pos hj, List.getElem?_append_left (by rw [List.length_append]; omega), List.getElem?_append_right (by omega), h1]
    · rw [if_neg hj, List.getElem?_append_right (by rw [List.length_append]; omega), List.length_append, h1, List.getElem?_drop]
      congr 1; omega
theorem spl_one {xs : List Value} {o : Nat} {u : Value} (h : o < xs.length) : spl xs o [u] = xs.set o u := by
  apply List.ext_getElem?
  intro i
  rw [spl_get (by simp; omega), List.getElem?_set]
  by_cases h1 : i < o
  · rw [if_pos h1, if_neg (by omega)]
  · rw [if_neg h1]
    by_cases h2 : i = o
    · subst h2; simp [h]
    · rw [if_neg (by simp; omega), if_neg (fun e => h2 e.symm)]
theorem spl_take {xs ds : List Value} {o m : Nat} (h : o + ds.length ≤ m) (hm : m ≤ xs.length) : (spl xs o ds).take m = spl (xs.take m) o ds := by
  apply List.ext_getElem?
  intro i
  rw [List.getElem?_take, spl_get (by omega), spl_get (by rw [List.length_take]; omega), List.getElem?_take]
  by_cases h1 : i < m
  · rw [if_pos h1, if_pos h1]
  · rw [if_neg h1, if_neg h1, if_neg (by omega), if_neg (by omega)]

/-! ### Parts of one width -/
def flw {α : Type} (f : α → List Value) (l : List α) : List Value := (l.map f).flatten
section
variable {α : Type} {f : α → List Value} {k : Nat}
theorem flw_nil : flw f [] = [] := rfl
theorem flw_cons {a : α} {l : List α} : flw f (a :: l) = f a ++ flw f l := rfl
theorem flw_app {l m : List α} : flw f (l ++ m) = flw f l ++ flw f m := by simp [flw]
theorem flw_one {a : α} : flw f [a] = f a := by simp [flw]
theorem flw_len : ∀ {l : List α}, (∀ a ∈ l, (f a).length = k) → (flw f l).length = l.length * k
  | [], _ => by simp [flw]
  | a :: l, h => by
    rw [flw_cons, List.length_append, h a (by simp), flw_len (fun b hb => h b (List.mem_cons_of_mem _ hb)), List.length_cons, Nat.succ_mul]; omega
theorem flw_get : ∀ {l : List α} {j i : Nat}, (∀ a ∈ l, (f a).length = k) → (hj : j < l.length) → i < k → (flw f l)[j * k + i]? = (f l[j])[i]?
  | a :: l, 0, i, h, _, hi => by
    rw [flw_cons, Nat.zero_mul, Nat.zero_add, List.getElem?_append_left (by rw [h a (by simp)]; exact hi)]; rfl
  | a :: l, j + 1, i, h, hj, hi => by
    rw [flw_cons, List.getElem?_append_right (by rw [h a (by simp), Nat.succ_mul]; omega), h a (by simp), show (j + 1) * k + i - k = j * k + i by rw [Nat.succ_mul]; omega, flw_get (fun b hb => h b (List.mem_cons_of_mem _ hb)) (by simpa using hj) hi]; rfl
theorem flw_part : ∀ {l : List α} {j : Nat}, (∀ a ∈ l, (f a).length = k) → (hj : j < l.length) → ((flw f l).drop (j * k)).take k = f l[j]
  | a :: l, 0, h, _ => by
    rw [flw_cons, Nat.zero_mul, List.drop_zero, List.take_append_of_le_length (by rw [h a (by simp)]; omega), List.take_of_length_le (by rw [h a (by simp)]; omega)]; rfl
  | a :: l, j + 1, h, hj => by
    have e : (f a).length = k := h a (by simp)
    rw [flw_cons, List.drop_append, e, List.drop_of_length_le (by rw [e, Nat.succ_mul]; omega), List.nil_append, show (j + 1) * k - k = j * k by rw [Nat.succ_mul]; omega, flw_part (fun b hb => h b (List.mem_cons_of_mem _ hb)) (by simpa using hj)]; rfl
theorem flw_lt {l : List α} {j i : Nat} (hj : j < l.length) (hi : i < k) : j * k + i < l.length * k := by
  have := Nat.mul_le_mul_right k (show j + 1 ≤ l.length from hj)
  rw [Nat.succ_mul] at this; omega
theorem flw_le {l : List α} {j i : Nat} (hj : j < l.length) (hi : i ≤ k) : j * k + i ≤ l.length * k := by
  have := Nat.mul_le_mul_right k (show j + 1 ≤ l.length from hj)
  rw [Nat.succ_mul] at this; omega
/-- A part's cells are others: the part is another one. -/
theorem flw_spl {l : List α} {j i : Nat} {ds : List Value} {b : α} (h : ∀ a ∈ l, (f a).length = k) (hj : j < l.length) (hi : i + ds.length ≤ k) (hb : spl (f l[j]) i ds = f b) : spl (flw f l) (j * k + i) ds = flw f (l.set j b) := by
  have hl := flw_len h
  have hlj : (f l[j]).length = k := h _ (List.getElem_mem hj)
  have hbk : (f b).length = k := by rw [← hb, spl_len (by omega), hlj]
  have h' : ∀ a ∈ l.set j b, (f a).length = k := fun a ha => by
    rcases List.mem_or_eq_of_mem_set ha with h1 | h1
    · exact h a h1
    · subst h1; exact hbk
  have hle := flw_le (k := k) hj hi
  apply List.ext_getElem?
  intro m
  rw [spl_get (by rw [hl]; omega)]
  by_cases hm : m < l.length * k
  · have hk : 0 < k := by rcases Nat.eq_zero_or_pos k with h0 | h0; · rw [h0] at hm; simp at hm
                          · exact h0
    obtain ⟨q, hq⟩ : ∃ q, q = m / k := ⟨_, rfl⟩
    obtain ⟨r, hr⟩ : ∃ r, r = m % k := ⟨_, rfl⟩
    have hmq : m = q * k + r := by rw [hq, hr, Nat.mul_comm]; exact (Nat.div_add_mod m k).symm
    have hrk : r < k := by rw [hr]; exact Nat.mod_lt m hk
    have hql : q < l.length := by rw [hq]; exact Nat.div_lt_of_lt_mul (by rw [Nat.mul_comm]; exact hm)
    have hx : (flw f l)[m]? = (f l[q])[r]? := by rw [hmq]; exact flw_get h hql hrk
    have hy : (flw f (l.set j b))[m]? = (f ((l.set j b)[q]'(by simpa using hql)))[r]? := by rw [hmq]; exact flw_get h' (by simpa using hql) hrk
    rw [hx, hy]
    by_cases hjq : q = j
    · subst hjq
      rw [List.getElem_set_self, ← hb, spl_get (by omega)]
      by_cases h1 : r < i
      · rw [if_pos (by omega), if_pos h1]
      · rw [if_neg (by omega), if_neg h1]
        by_cases h2 : r < i + ds.length
        · rw [if_pos (by omega), if_pos h2]; congr 1; omega
        · rw [if_neg (by omega), if_neg h2]
    · rw [List.getElem_set_ne (fun e => hjq e.symm)]
      rcases Nat.lt_or_gt_of_ne hjq with h1 | h1
      · have := Nat.mul_le_mul_right k (show q + 1 ≤ j from h1)
        rw [Nat.succ_mul] at this
        rw [if_pos (by omega)]
      · have := Nat.mul_le_mul_right k (show j + 1 ≤ q from h1)
        rw [Nat.succ_mul] at this
        rw [if_neg (by omega), if_neg (by omega)]
  · rw [if_neg (by omega), if_neg (by omega), List.getElem?_eq_none (by omega), List.getElem?_eq_none (by rw [flw_len h', List.length_set]; omega)]
theorem flw_ones {l : List α} (h : ∀ a ∈ l, (f a).all (·.oneCell') = true) : (flw f l).all (·.oneCell') = true := by
  rw [List.all_eq_true]
  intro v hv
  simp only [flw, List.mem_flatten, List.mem_map] at hv
  obtain ⟨_, ⟨a, ha, rfl⟩, h2⟩ := hv
  exact List.all_eq_true.1 (h a ha) v h2
theorem flw_rep {a : α} {n : Nat} : flw f (List.replicate n a) = (List.replicate n (f a)).flatten := by simp [flw]
end

/-! ### Building from parts -/
theorem fold_spl : ∀ (vs : List Value) (k off : Nat) (cells : Array Value), off + k + vs.length ≤ cells.size → (vs.zipIdx k).foldl (fun cs x => cs.setIfInBounds (off + x.2) x.1) cells = (spl cells.toList (off + k) vs).toArray
  | [], k, off, cells, _ => by simp [spl]
  | v :: vs, k, off, cells, h => by
    have h1 : off + k < cells.size := by simp at h; omega
    rw [List.zipIdx_cons, List.foldl_cons, fold_spl vs (k + 1) off _ (by simp at h ⊢; omega)]
    congr 1
    simp only [Array.toList_setIfInBounds]
    apply List.ext_getElem?
    intro i
    rw [spl_get (by simp at h ⊢; omega), spl_get (by simp at h ⊢; omega), List.getElem?_set]
    simp only [Array.length_toList, List.length_cons]
    by_cases c1 : i < off + k
    · rw [if_pos (by omega), if_pos c1, if_neg (by omega)]
    · rw [if_neg c1]
      by_cases c2 : i = off + k
      · subst c2
        rw [if_pos (by omega), if_pos rfl, if_pos h1, if_pos (by omega), Nat.sub_self, List.getElem?_cons_zero]
      · rw [if_neg (show ¬ i < off + (k + 1) by omega)]
        by_cases c3 : i < off + k + (vs.length + 1)
        · rw [if_pos (show i < off + (k + 1) + vs.length by omega), if_pos c3, show i - (off + k) = (i - (off + (k + 1))) + 1 by omega, List.getElem?_cons_succ]
        · rw [if_neg (show ¬ i < off + (k + 1) + vs.length by omega), if_neg (show ¬ off + k = i by omega), if_neg c3]
theorem fill_one {place : Nat → Option (Nat × Nat)} {cells : Array Value} {i off : Nat} {v : Value} {ds : List Value} (hv : v.cells = ds.toArray) (hp : place i = some (off, ds.length)) (h : off + ds.length ≤ cells.size) : Instr.fill place cells [(i, v)] = some (spl cells.toList off ds).toArray := by
  have hf := fold_spl ds 0 off cells (by omega)
  have e : v.cells.zipIdx.foldl (fun cs (c, j) => cs.setIfInBounds (off + j) c) cells = (spl cells.toList off ds).toArray := by
    rw [hv]
    have : ds.toArray.zipIdx = (ds.zipIdx).toArray := by simp
    rw [this, List.foldl_toArray]
    simpa using hf
  unfold Instr.fill
  simp only [hp, hv, List.size_toArray]
  rw [if_neg (by simp; omega)]
  rw [hv] at e
  rw [e]
  rfl
theorem spl_all {xs ds : List Value} (h : xs.length = ds.length) : spl xs 0 ds = ds := by
  unfold spl
  rw [List.take_zero, List.nil_append, List.drop_of_length_le (by omega), List.append_nil]
section
variable {P : Program} {n : Nat} {E : Env} {w : World} {ty t e : TypeId} {x : Operand} {sz : Nat}
/-- A literal of one element of several cells; one of none. -/
theorem Xw.litA1 {cs zs : List Value} {bytes : Nat} (hu : STy P t e sz) (hi : ITy P e zs bytes) (hx : ev E x = some (.agg cs.toArray)) (hcs : cs.length = sz) (hsz : 0 < sz) (hsm : sz ≤ 16777216) :
    Xw P n E (.buildSlice t 1 #[(0, x)]) ty w (fun v w' => w'.ownsRow w.heap.size e sz v 1 cs ∧ v = .slice (some ⟨w.heap.size, 0, none⟩) 1 1 ∧ Below w.heap.size w w' ∧ w'.heap.size = w.heap.size + 1) := by
  subst hcs
  refine Xw.litA (ps := [(0, x)]) (vs := [(0, .agg cs.toArray)]) hu hi (by simp [pev, hx]) hsz Nat.zero_lt_one (by omega) ?_ (by omega)
  rw [fill_one (off := 0) (ds := cs) rfl (by simp) (by simp)]
  rw [spl_all (by simp)]
theorem Xw.lit0 (hu : STy P t e sz) :
    Xw P n E (.buildSlice t 0 #[]) ty w (fun v w' => w'.ownsRow w.heap.size e sz v 0 [] ∧ v = .slice (some ⟨w.heap.size, 0, none⟩) 0 0 ∧ Below w.heap.size w w' ∧ w'.heap.size = w.heap.size + 1) := fun a ha => by
  have hr : Array.range 0 = #[] := rfl
  refine ⟨.slice (some ⟨w.heap.size, 0, none⟩) 0 0, w.alloc (.cells #[] e), fun _ _ _ _ => ?_, ⟨by simp, .inr ⟨w.heap.size, 0, #[], rfl, Nat.le_refl _, heap_alloc_new w _, Nat.le_refl _, Nat.zero_le _, by simp, by simp⟩⟩, rfl, below_new w _, by simp⟩
  simp [execOp, Instr.buildSlice, run_underlying hu.u, hu.s w, Instr.fill, newRow, hr]
end

/-! ### A list of one's own, by its block -/
theorem own_cells {w : World} {base : Nat} {T : TypeId} {sz n g : Nat} {v : Value} {xs : List Value} (h : w.ownsRow base T sz v n xs) (hg : v.ownBlock = some g) :
    ∃ cap cur, v = .slice (some ⟨g, 0, none⟩) n cap ∧ Blk w g T cur ∧ cur.take (n * sz) = xs ∧ n ≤ cap ∧ cap ≤ maxLen ∧ cur.length = cap * sz ∧ base ≤ g := by
  rcases h.2 with ⟨rfl, _⟩ | ⟨g', cap, cur, rfl, hb, hgg, hnc, hcm, hcs, htake⟩
  · cases hg
  · obtain rfl : g' = g := by simpa [Value.ownBlock] using hg
    exact ⟨cap, cur.toList, rfl, by unfold Blk; simpa using hgg, htake, hnc, hcm, by simpa using hcs, hb⟩
theorem own_back {w : World} {base : Nat} {T : TypeId} {sz n g cap : Nat} {cur : List Value} (h : Blk w g T cur) (hl : cur.length = cap * sz) (hn : n ≤ cap) (hc : cap ≤ maxLen) (hb : base ≤ g) : w.ownsRow base T sz (.slice (some ⟨g, 0, none⟩) n cap) n (cur.take (n * sz)) :=
  ⟨by rw [List.length_take, hl]; exact Nat.min_eq_left (Nat.mul_le_mul_right _ hn), .inr ⟨g, cap, cur.toArray, rfl, hb, h, hn, hc, by simpa using hl, by simp⟩⟩

section
variable {P : Program} {n : Nat} {E : Env} {w : World} {e ty t : TypeId} {x y z : Operand} {u v : Value}
/-- An element's place, by its block. -/
theorem Ex.idxO {k : IntKind} {m : Int} {base sz c g : Nat} {T : TypeId} {xs : List Value} (hu : STy P t e sz) (hx : ev E x = some v) (hy : ev E y = some (.int k m)) (h : w.ownsRow base T sz v c xs) (hg : v.ownBlock = some g) (j : Nat) (hm : m = (j : Int)) (hj : j < c) :
    Ex P n E (.indexAddr t x y) ty w (.pointer (some ⟨g, j * sz, none⟩)) := by
  obtain ⟨cap, cur, rfl, -⟩ := own_cells h hg
  refine (Ex.idx hu hx hy (own_sl h) j hm hj).as ?_
  simp [elemPtr, add_lit]
theorem Ex.ldO {base sz c g o : Nat} {T : TypeId} {xs : List Value} (hag : (isAgg e).run P w = .ok false w) (hx : ev E x = some (.pointer (some ⟨g, o, none⟩))) (h : w.ownsRow base T sz v c xs) (hg : v.ownBlock = some g) (ho : xs[o]? = some u) : Ex P n E (.load e x) ty w u := by
  obtain ⟨cap, cur, rfl, hb, htk, -⟩ := own_cells h hg
  refine Ex.ldB hag hx hb ?_
  rw [← htk, List.getElem?_take] at ho
  split at ho
  · exact ho
  · cases ho
theorem Ex.ldOA {base sz c g o k : Nat} {T : TypeId} {xs ds : List Value} (hag : (isAgg e).run P w = .ok true w) (hs : (sizeOf e).run P w = .ok k w) (hk : ds.length = k) (hx : ev E x = some (.pointer (some ⟨g, o, none⟩))) (h : w.ownsRow base T sz v c xs) (hg : v.ownBlock = some g) (hd : (xs.drop o).take k = ds) : Ex P n E (.load e x) ty w (.agg ds.toArray) := by
  obtain ⟨cap, cur, rfl, hb, htk, -⟩ := own_cells h hg
  refine Ex.ldAt hag hs hk hx hb ?_
  rw [← htk, List.drop_take, List.take_take] at hd
  have hl : ds.length = min (min k (c * sz - o)) ((cur.drop o).length) := by rw [← hd, List.length_take]
  rw [← hd]
  by_cases h0 : k ≤ c * sz - o
  · rw [Nat.min_eq_left h0]
  · omega
/-- Many cells into a block. -/
theorem Xu.stAt {b o k : Nat} {T : TypeId} {cs ds : List Value} (hs : (P.info? e).map (·.size) = some k) (hk : ds.length = k) (hx : ev E x = some (.pointer (some ⟨b, o, none⟩))) (hy : ev E y = some (.agg ds.toArray)) (hone : ds.all (·.oneCell') = true) (h : Blk w b T cs) (ho : o + ds.length ≤ cs.length) :
    Xu P n E (.store e x y) ty w (fun w' => Blk w' b T (spl cs o ds) ∧ w.grownBy w' (some b) ∧ w'.heap.size = w.heap.size) := fun a ha => by
  subst hk
  have hst := run_storeCells_at P b o T ds 0 cs.toArray w h (by simpa using ho) (fun v hv => List.all_eq_true.1 hone v hv)
  simp only [Nat.add_zero] at hst
  refine ⟨w.setRow b (spl cs o ds).toArray, fun _ _ _ _ => ?_, setRow_heap w b _ _ _ _ h, ⟨rfl, rfl, rfl, by simp [World.setRow], fun k _ hk => setRow_other w b k _ (fun e => hk (by simp [e]))⟩, by simp [World.setRow]⟩
  cases hq : P.info? e with
  | none => simp [hq] at hs
  | some i =>
    have hsz : ds.length = i.size := by simp [hq] at hs; omega
    have hv : (storeVar e ⟨b, o, none⟩ (.agg ds.toArray)).run P w = .ok () (w.setRow b (spl cs o ds).toArray) := by
      simp [storeVar, sizeOf, typeInfo, hq, Value.cells, hsz, hst, spl]
    simp [execOp, ha.ev hx, ha.ev hy, Instr.storeAt, Instr.sureAddr, hv]
/-- Many cells into a list of one's own. -/
theorem Xu.stAO {base sz c g o k : Nat} {T : TypeId} {xs ds : List Value} (hs : (P.info? e).map (·.size) = some k) (hk : ds.length = k) (hx : ev E x = some (.pointer (some ⟨g, o, none⟩))) (hy : ev E y = some (.agg ds.toArray)) (hone : ds.all (·.oneCell') = true) (h : w.ownsRow base T sz v c xs) (hg : v.ownBlock = some g) (ho : o + ds.length ≤ xs.length) :
    Xu P n E (.store e x y) ty w (fun w' => w'.ownsRow base T sz v c (spl xs o ds) ∧ w.grownBy w' (some g) ∧ w'.heap.size = w.heap.size) := fun a ha => by
  have hxl := h.1
  obtain ⟨cap, cur, rfl, hb, htk, h1, h2, h3, h4⟩ := own_cells h hg
  have hle : c * sz ≤ cur.length := by rw [h3]; exact Nat.mul_le_mul_right _ h1
  obtain ⟨w', q1, q2, q3, q4⟩ := Xu.stAt (ty := ty) hs hk hx hy hone hb (by omega) a ha
  refine ⟨w', q1, ?_, q3, q4⟩
  have := own_back (base := base) (sz := sz) (n := c) (cap := cap) q2 (by rw [spl_len (by omega)]; exact h3) h1 h2 h4
  rwa [spl_take (by omega) hle, htk] at this
/-- One cell into a list of one's own. -/
theorem Xu.stO1 {base sz c g o : Nat} {T : TypeId} {xs : List Value} (hag : (sizeOf e).run P w = .ok 1 w) (hx : ev E x = some (.pointer (some ⟨g, o, none⟩))) (hy : ev E y = some u) (hone : u.oneCell' = true) (h : w.ownsRow base T sz v c xs) (hg : v.ownBlock = some g) (ho : o < xs.length) :
    Xu P n E (.store e x y) ty w (fun w' => w'.ownsRow base T sz v c (spl xs o [u]) ∧ w.grownBy w' (some g) ∧ w'.heap.size = w.heap.size) := fun a ha => by
  have hxl := h.1
  obtain ⟨cap, cur, rfl, hb, htk, h1, h2, h3, h4⟩ := own_cells h hg
  have hle : c * sz ≤ cur.length := by rw [h3]; exact Nat.mul_le_mul_right _ h1
  obtain ⟨w', q1, q2, q3, q4⟩ := Xu.stB (P := P) (ty := ty) hag hx hy hone hb (by omega) a ha
  refine ⟨w', q1, ?_, q3, q4⟩
  rw [← spl_one (by omega)] at q2
  have := own_back (base := base) (sz := sz) (n := c) (cap := cap) q2 (by rw [spl_len (by simp; omega)]; exact h3) h1 h2 h4
  rwa [spl_take (by simp; omega) hle, htk] at this

/-! ### Arrays within a block -/
theorem blk_sl {b o m cap : Nat} {T : TypeId} {cs : List Value} (h : Blk w b T cs) (hm : o + m ≤ cs.length) (hc : m ≤ cap) (hc2 : cap ≤ maxLen) : Sl w 1 (.slice (some ⟨b, o, none⟩) m cap) m ((cs.drop o).take m) :=
  ⟨by rw [List.length_take, List.length_drop]; omega, some ⟨b, o, none⟩, cap, rfl, hc, hc2, fun h => (by cases h), fun a ha j u hu => by
    cases ha
    rw [add_lit, h.cell]
    rw [List.getElem?_take] at hu
    split at hu
    · rwa [List.getElem?_drop] at hu
    · cases hu⟩
theorem own_arr {base sz c g o m cap : Nat} {T : TypeId} {xs : List Value} (h : w.ownsRow base T sz v c xs) (hg : v.ownBlock = some g) (hm : o + m ≤ xs.length) (hc : m ≤ cap) (hc2 : cap ≤ maxLen) : Sl w 1 (.slice (some ⟨g, o, none⟩) m cap) m ((xs.drop o).take m) := by
  have hxl := h.1
  obtain ⟨cp, cur, rfl, hb, htk, h1, h2, h3, h4⟩ := own_cells h hg
  have hle : c * sz ≤ cur.length := by rw [h3]; exact Nat.mul_le_mul_right _ h1
  have := blk_sl (m := m) (cap := cap) (o := o) hb (by omega) hc hc2
  have e : (xs.drop o).take m = (cur.drop o).take m := by
    rw [← htk, List.drop_take, List.take_take, Nat.min_eq_left (by omega)]
  rwa [e]
/-- An array, as a slice of all of it; of its first ones. -/
theorem Ex.arr {b o c : Nat} (hu : P.underlying t = some (.array c e)) (hsz : ∀ w, (sizeOf e).run P w = .ok 1 w) (hx : ev E x = some (.pointer (some ⟨b, o, none⟩))) : Ex P n E (.slice t x none none none) ty w (.slice (some ⟨b, o, none⟩) c c) := fun a ha _ _ _ _ => by
  simp [execOp, ha.ev hx, Instr.sliceAt, run_underlying hu, Instr.sureAddr, Instr.sliceBounds, hsz w, add_lit]
theorem Ex.arrH {b o c j : Nat} {k : IntKind} (hu : P.underlying t = some (.array c e)) (hsz : ∀ w, (sizeOf e).run P w = .ok 1 w) (hx : ev E x = some (.pointer (some ⟨b, o, none⟩))) (hy : ev E y = some (.int k (j : Int))) (hj : j ≤ c) : Ex P n E (.slice t x none (some y) none) ty w (.slice (some ⟨b, o, none⟩) j c) := fun a ha _ _ _ _ => by
  have h1 : (0 : Int) ≤ (j : Int) ∧ (j : Int) ≤ (c : Int) := by omega
  simp [execOp, ha.ev hx, ha.ev hy, Instr.sliceAt, run_underlying hu, Instr.sureAddr, Instr.sliceBounds, Instr.sliceBound, asIntOf, hj, hsz w, add_lit]
/-- 'copy' into an array within a block. -/
theorem Xw.copyAt {b o dl dc m : Nat} {T t2 : TypeId} {cs news : List Value} (hu : STy P t e 1) (hi : (P.info? e).map (·.size) = some 1) (hx : ev E x = some (.slice (some ⟨b, o, none⟩) dl dc)) (hy : ev E y = some u) (h : Blk w b T cs) (ho : o + dl ≤ cs.length) (hsrc : Sl w 1 u m news) (hmk : m ≤ dl) (hone : news.all (·.oneCell') = true) :
    Xw P n E (.call { callee := .builtin .copy, args := #[x, y], argTypes := #[t, t2] }) ty w (fun r w' => r = .int .i64 (m : Int) ∧ Blk w' b T (spl cs o news) ∧ w.grownBy w' (some b) ∧ w'.heap.size = w.heap.size) := fun a ha => by
  obtain ⟨hl, ao, cap, rfl, hc1, hc2, hc3, hc4⟩ := hsrc
  rw [Nat.mul_one] at hl
  by_cases hm : m = 0
  · subst hm
    obtain rfl : news = [] := List.eq_nil_of_length_eq_zero hl
    have hrun := run_copy_none (P := P) w t t2 ty e (some ⟨b, o, none⟩) ao dl dc 0 cap hu.u hi (by simp)
    exact ⟨_, w, fun _ _ _ _ => by simp [execOp, resolve, invoke, builtin, ha.ev hx, ha.ev hy, hrun, goInt], rfl, by simpa [spl] using h, grown_refl _ _, rfl⟩
  · cases ao with
    | none => have := hc3 rfl; omega
    | some ad =>
      have hmin : Nat.min m dl = m := Nat.min_eq_left hmk
      have hrun := run_copy_row (P := P) w t t2 ty e b o dl dc ad m cap cs.toArray T news hu.u hi h (by rw [hl, hmin]) (hc4 ad rfl) (by simp; omega) (fun u hu => List.all_eq_true.1 hone u hu)
      rw [hl] at hrun
      refine ⟨.int .i64 (m : Int), w.setRow b (spl cs o news).toArray, fun _ _ _ _ => ?_, rfl, setRow_heap w b _ _ _ _ h, ⟨rfl, rfl, rfl, by simp [World.setRow], fun k _ hk => setRow_other w b k _ (fun e => hk (by simp [e]))⟩, by simp [World.setRow]⟩
      simp only [execOp, resolve, invoke, builtin, List.map_toArray, List.map_cons, List.map_nil, ha.ev hx, ha.ev hy]
      simp [hrun, goInt, spl, hl]
/-- 'copy' into an array within a list of one's own. -/
theorem Xw.copyAO {base sz c g o dl dc m : Nat} {T t2 : TypeId} {xs news : List Value} (hu : STy P t e 1) (hi : (P.info? e).map (·.size) = some 1) (hx : ev E x = some (.slice (some ⟨g, o, none⟩) dl dc)) (hy : ev E y = some u) (h : w.ownsRow base T sz v c xs) (hg : v.ownBlock = some g) (ho : o + dl ≤ xs.length) (hsrc : Sl w 1 u m news) (hmk : m ≤ dl) (hone : news.all (·.oneCell') = true) :
    Xw P n E (.call { callee := .builtin .copy, args := #[x, y], argTypes := #[t, t2] }) ty w (fun r w' => r = .int .i64 (m : Int) ∧ w'.ownsRow base T sz v c (spl xs o news) ∧ w.grownBy w' (some g) ∧ w'.heap.size = w.heap.size) := fun a ha => by
  have hxl := h.1
  have hnl := hsrc.1
  obtain ⟨cap, cur, rfl, hb, htk, h1, h2, h3, h4⟩ := own_cells h hg
  have hle : c * sz ≤ cur.length := by rw [h3]; exact Nat.mul_le_mul_right _ h1
  obtain ⟨r, w', q0, q1, q2, q3, q4⟩ := Xw.copyAt (P := P) (ty := ty) (t2 := t2) hu hi hx hy hb (by omega) hsrc hmk hone a ha
  refine ⟨r, w', q0, q1, ?_, q3, q4⟩
  have := own_back (base := base) (sz := sz) (n := c) (cap := cap) q2 (by rw [spl_len (by omega)]; exact h3) h1 h2 h4
  rwa [spl_take (by omega) hle, htk] at this

/-! ### Cut to a place, and room to another one -/
/-- The first j, with no room behind. -/
def cutm (v : Value) (j : Nat) : Value := match v with
  | .slice ao _ _ => .slice ao j j
  | _ => undef
theorem Ex.cutHM {c j : Nat} {k1 k2 : IntKind} {sz : Nat} (hu : STy P t e sz) (hx : ev E x = some v) (hy : ev E y = some (.int k1 (j : Int))) (hz : ev E z = some (.int k2 (j : Int))) (h : Shp v c) (hj : j ≤ c) : Ex P n E (.slice t x none (some y) (some z)) ty w (cutm v j) := fun a ha _ _ _ _ => by
  obtain ⟨ao, cap, rfl, h1, h2, h3⟩ := h
  have hue : P.underlying t = some (.slice (P.elem t)) := by rw [Program.elem, hu.u]
  have he : P.elem t = e := by rw [Program.elem, hu.u]
  have hr := run_slice_hm (P := P) w t ao c cap hue k1 k2 (j : Int) (j : Int) (by omega) (by omega) (by omega)
  simp only [Int.toNat_natCast, he, hu.s w, Result.andThen_ok] at hr
  simp [execOp, ha.ev hx, ha.ev hy, ha.ev hz, Instr.sliceAt, run_underlying hu.u, hr, sliced, Dd.cutm]
  cases ao <;> simp [Addr.add]
theorem Sl.cutm {c j sz : Nat} {xs : List Value} (h : Sl w sz v c xs) (hj : j ≤ c) : Sl w sz (cutm v j) j (xs.take (j * sz)) := by
  obtain ⟨hl, ao, cap, rfl, h1, h2, h3, h4⟩ := h
  refine ⟨by rw [List.length_take, hl]; exact Nat.min_eq_left (Nat.mul_le_mul_right _ hj), ao, j, rfl, Nat.le_refl _, by omega, fun hn => by have := h3 hn; omega, fun a ha i u hu => h4 a ha i u ?_⟩
  rw [List.getElem?_take] at hu
  split at hu
  · exact hu
  · cases hu
theorem cutm_own (v : Value) (j : Nat) : ∀ k, (Dd.cutm v j).ownBlock = some k → v.ownBlock = some k := fun k h => by
  cases v with
  | slice ao n c => cases ao with
    | none => cases h
    | some a => exact h
  | _ => cases h
/-- A part of a list, with no room behind. -/
def cutp (v : Value) (sz i j : Nat) : Value := match v with
  | .slice ao _ _ => .slice (if j = i then ao else ao.map (·.add (i * sz))) (j - i) (j - i)
  | _ => undef
theorem Ex.cutP {c i j : Nat} {x1 x2 x3 : Operand} {k1 k2 k3 : IntKind} {sz : Nat} (hu : STy P t e sz) (hx : ev E x = some v) (hl : ev E x1 = some (.int k1 (i : Int))) (hy : ev E x2 = some (.int k2 (j : Int))) (hz : ev E x3 = some (.int k3 (j : Int))) (h : Shp v c) (hij : i ≤ j) (hj : j ≤ c) : Ex P n E (.slice t x (some x1) (some x2) (some x3)) ty w (cutp v sz i j) := fun a ha _ _ _ _ => by
  obtain ⟨ao, cap, rfl, h1, h2, h3⟩ := h
  have hue : P.underlying t = some (.slice (P.elem t)) := by rw [Program.elem, hu.u]
  have he : P.elem t = e := by rw [Program.elem, hu.u]
  have hr := run_slice_lhm (P := P) w t ao c cap hue k1 k2 k3 (i : Int) (j : Int) (j : Int) (by omega) (by omega) (by omega) (by omega)
  simp only [Int.toNat_natCast, he, hu.s w, Result.andThen_ok] at hr
  simp [execOp, ha.ev hx, ha.ev hl, ha.ev hy, ha.ev hz, Instr.sliceAt, run_underlying hu.u, hr, sliced, Dd.cutp]
theorem Sl.cutp {c i j sz : Nat} {xs : List Value} (h : Sl w sz v c xs) (hij : i ≤ j) (hj : j ≤ c) : Sl w sz (cutp v sz i j) (j - i) ((xs.drop (i * sz)).take ((j - i) * sz)) := by
  obtain ⟨hl, ao, cap, rfl, h1, h2, h3, h4⟩ := h
  have hm : (j - i) * sz ≤ c * sz - i * sz := by rw [← Nat.sub_mul]; exact Nat.mul_le_mul_right _ (by omega)
  refine ⟨by rw [List.length_take, List.length_drop, hl]; exact Nat.min_eq_left hm, _, j - i, rfl, Nat.le_refl _, by omega, fun hn => ?_, fun a ha q u hu => ?_⟩
  · by_cases hji : j = i
    · omega
    · rw [if_neg hji] at hn
      cases ao with
      | none => have := h3 rfl; omega
      | some _ => cases hn
  · by_cases hji : j = i
    · rw [hji] at hu; simp at hu
    · rw [if_neg hji] at ha
      cases ao with
      | none => cases ha
      | some ad =>
        cases ha
        rw [add_add']
        refine h4 ad rfl _ u ?_
        rw [List.getElem?_take] at hu
        split at hu
        · rwa [List.getElem?_drop] at hu
        · cases hu
theorem cutp_own (v : Value) (sz i j : Nat) : ∀ k, (Dd.cutp v sz i j).ownBlock = some k → v.ownBlock = some k := fun k h => by
  cases v with
  | slice ao n c =>
    cases ao with
    | none => simp only [Dd.cutp, Option.map_none, ite_self, Value.ownBlock] at h; cases h
    | some a =>
      simp only [Dd.cutp, Option.map_some] at h
      split at h
      · exact h
      · simpa [Value.ownBlock, add_block] using h
  | _ => cases h
theorem cutp_one {v : Value} {sz i j : Nat} (h : ∃ ao c k, v = .slice ao c k) : (Dd.cutp v sz i j).oneCell' = true := by
  obtain ⟨ao, c, k, rfl⟩ := h; rfl

/-- 'append' of so many noughts. -/
theorem Xw.append0 {base k m bytes : Nat} {kq kn : IntKind} {tn : TypeId} {z0 : Value} {xs : List Value} {g : Nat} (hu : STy P t e 1) (hi : ITy P e [z0] bytes) (hone : z0.oneCell' = true) (htn : P.underlying tn = some (.int kn)) (hx : ev E x = some v) (hy : ev E y = some (.int kq (m : Int))) (hown : w.ownsRow base e 1 v k xs) (hg : v.ownBlock = some g) (hb : (k + m) * bytes ≤ 140737488355328) (hm : k + m ≤ 4611686018427387904) (hbase : base ≤ w.heap.size) :
    Xw P n E (.call { callee := .builtin .append, args := #[x, y], argTypes := #[t, tn] }) ty w (fun v' w' => w'.ownsRow base e 1 v' (k + m) (xs ++ List.replicate m z0) ∧ w.grownBy w' v.ownBlock ∧ (v'.ownBlock = v.ownBlock ∨ ∀ b, v'.ownBlock = some b → w.heap.size ≤ b)) := fun a ha => by
  obtain ⟨i, h1, h2, h3, zv, h4, h5⟩ := hi.i
  subst h3
  have hxl := hown.1
  rw [Nat.mul_one] at hxl
  obtain ⟨cap, cur, rfl, hbk, htk, c1, c2, c3, c4⟩ := own_cells hown hg
  rw [Nat.mul_one] at htk c3
  have hsz : i.size = 1 := h2
  have hz1 : zv.cells = #[z0] := h5
  have hzc : ∀ q, Builtin.zeroCells zv.cells q = (List.replicate q z0).toArray := fun q => by
    apply Array.ext
    · simp [Builtin.zeroCells, hz1]
    · intro j q1 q2
      simp [Builtin.zeroCells, hz1, Nat.mod_one]
  have hw : IntKind.i64.wrap (m : Int) = m := by rw [IntKind.wrap_i64]; omega
  have hbm : m * i.bytes ≤ 281474976710656 := Nat.le_trans (Nat.mul_le_mul_right i.bytes (Nat.le_add_left m k)) (by omega)
  have hbi : ¬ (281474976710656 < (m : Int) * (i.bytes : Int)) := by rw [← Int.natCast_mul]; omega
  by_cases hr : k + m ≤ cap
  · have hst := run_storeCells_at P g k e (List.replicate m z0) 0 cur.toArray w hbk (by simp; omega) (fun v hv => by rw [(List.mem_replicate.1 hv).2]; exact hone)
    simp only [Nat.add_zero, List.length_replicate] at hst
    have hrun : (Builtin.append_ #[t, tn] ty #[.slice (some ⟨g, 0, none⟩) k cap, .int kq (m : Int)]).run P w = .ok (.slice (some ⟨g, 0, none⟩) (k + m) cap) (w.setRow g (spl cur k (List.replicate m z0)).toArray) := by
      have e1 : spl cur k (List.replicate m z0) = cur.take k ++ List.replicate m z0 ++ cur.drop (k + m) := by simp [spl]
      rw [e1]
      by_cases hm0 : m = 0
      · subst hm0
        have e2 : w.setRow g (cur.take k ++ List.replicate 0 z0 ++ cur.drop (k + 0)).toArray = w := by
          simp only [List.replicate_zero, List.append_nil, Nat.add_zero, List.take_append_drop]
          exact setRow_self w g _ _ _ hbk
        rw [e2]
        simp [Builtin.append_, run_underlying hu.u, run_underlying htn, sizeOf, typeInfo, h1, asInt, asIntOf, show IntKind.i64.wrap 0 = 0 from rfl, c1, storeCells]
      · simp [Builtin.append_, run_underlying hu.u, run_underlying htn, sizeOf, typeInfo, zeroValue, h1, h4, asInt, asIntOf, hw, hbi, hr, hsz, hm0, hzc, Addr.add_lit] at hst ⊢
        rw [hst]
        rfl
    refine ⟨.slice (some ⟨g, 0, none⟩) (k + m) cap, w.setRow g (spl cur k (List.replicate m z0)).toArray, fun _ _ _ _ => by simp [execOp, resolve, invoke, builtin, ha.ev hx, ha.ev hy, hrun], ?_, ⟨rfl, rfl, rfl, by simp [World.setRow], fun k _ hk => setRow_other w g k _ (fun e => hk (by simp [e, Value.ownBlock]))⟩, .inl rfl⟩
    have hb' : Blk (w.setRow g (spl cur k (List.replicate m z0)).toArray) g e (spl cur k (List.replicate m z0)) := setRow_heap w g _ _ _ _ hbk
    have := own_back (base := base) (sz := 1) (n := k + m) (cap := cap) hb' (by rw [spl_len (by simp; omega), Nat.mul_one]; exact c3) hr c2 c4
    have e3 : (spl cur k (List.replicate m z0)).take ((k + m) * 1) = xs ++ List.replicate m z0 := by
      rw [Nat.mul_one, ← htk]
      unfold spl
      rw [List.take_append_of_le_length (by simp; omega), List.take_of_length_le (by simp; omega)]
    rwa [e3] at this
  · have hold : (Builtin.firstCells i.size k (.slice (some ⟨g, 0, none⟩) k cap)).run P w.drew = .ok xs.toArray w.drew :=
      run_firstCells_some (P := P) w.drew i.size k ⟨g, 0, none⟩ k cap xs (by rw [hsz, Nat.mul_one]; exact hxl) (fun j u hu => (own_sl hown).ex.choose_spec.choose_spec |> fun h => by
        have := (own_sl hown).2
        obtain ⟨ao', cap', hv', _, _, _, hc⟩ := this
        cases hv'
        exact hc _ rfl j u hu)
    have hrun := Lib.run_append_grow_zeros (P := P) w t tn ty e i zv kq kn hu.u htn h1 h4 (some ⟨g, 0, none⟩) k cap xs hold m (by omega) (by omega) (by omega) (by omega) hbm (growslice_fits (by omega) hb)
    refine ⟨.slice (some ⟨w.heap.size, 0, none⟩) (k + m) (grownCap w (k + m) cap e), w.drew.alloc (.cells (xs.toArray ++ Builtin.zeroCells zv.cells m ++ Builtin.zeroCells zv.cells (grownCap w (k + m) cap e - (k + m))) e), fun _ _ _ _ => by simp [execOp, resolve, invoke, builtin, ha.ev hx, ha.ev hy, hrun], ?_, ⟨rfl, rfl, rfl, by simp, fun k hk _ => heap_alloc_old w.drew _ hk⟩, .inr fun b eb => by cases eb; exact Nat.le_refl _⟩
    have hcap := grownCap_ge w (k + m) cap e
    have hcm := grownCap_le_maxLen w (k + m) cap e (by unfold maxLen; omega)
    refine ⟨by simp [hxl], .inr ⟨w.heap.size, _, _, rfl, hbase, heap_alloc_new w.drew _, hcap, hcm, ?_, ?_⟩⟩
    · simp [hzc, hxl]; omega
    · simp only [hzc, Nat.mul_one, Array.toList_append]
      rw [List.take_append_of_le_length (by simp [hxl]), List.take_of_length_le (by simp [hxl])]
end

/-! ### Numbers of 64 bits; is a pointer nil? -/
section
variable {P : Program} {n : Nat} {E : Env} {w : World} {ty t s : TypeId} {x y : Operand} {p q : BitVec 64}
theorem Ex.and64 (hx : ev E x = some (u64 p)) (hy : ev E y = some (u64 q)) : Ex P n E (.binOp .and t x y s) ty w (u64 (p &&& q)) := Ex.bin hx hy (by
  simp only [binOp_and, Op.intBits, u64]; simp [IntKind.bits, wrap_u64_bv]; rfl)
theorem Ex.shr64 {yk : IntKind} {j : Nat} (hx : ev E x = some (u64 p)) (hy : ev E y = some (.int yk (j : Int))) (hj : j ≤ 64) : Ex P n E (.binOp .shr t x y s) ty w (u64 (p >>> j)) := Ex.bin hx hy (by
  have h0 : ¬ (j : Int) < 0 := by omega
  have h1 : min (Int.toNat (j : Int)) IntKind.u64.bits = j := by simp [IntKind.bits]; omega
  have h2 : (p.toNat : Int).fdiv (2 ^ j) = ((p >>> j).toNat : Int) := by
    rw [BitVec.toNat_ushiftRight, Nat.shiftRight_eq_div_pow, Int.fdiv_eq_ediv_of_nonneg _ (by exact_mod_cast Nat.zero_le _)]
    simp
  simp only [binOp_shr, Op.shift, h0, if_false, h1, h2, u64]; rfl)
theorem Ex.and00 (hx : ev E x = some (.int .i64 0)) (hy : ev E y = some (.int .i64 0)) : Ex P n E (.binOp .and t x y s) ty w (.int .i64 0) := Ex.bin hx hy (by
  simp only [binOp_and, Op.intBits]; rfl)
theorem u64_eq : ((p.toNat : Int) = (q.toNat : Int)) ↔ p = q := by
  constructor
  · intro h; exact BitVec.eq_of_toNat_eq (by omega)
  · intro h; rw [h]
theorem Ex.eql64 (hx : ev E x = some (u64 p)) (hy : ev E y = some (u64 q)) : Ex P n E (.binOp .eql t x y s) ty w (.bool (decide (p = q))) := by
  have := Ex.eql (P := P) (n := n) (w := w) (ty := ty) (t := t) (s := s) hx hy; simp only [u64_eq] at this; exact this
theorem Ex.nilP {a0 : Option Addr} (ht : P.underlying t = some (.pointer (P.pointee t))) (hx : ev E x = some (.pointer a0)) (hy : ev E y = some (.pointer none)) : Ex P n E (.binOp .eql t x y s) ty w (.bool a0.isNone) := fun a ha _ _ _ _ => by
  have hg : eqGuard .eql t x y (.pointer a0) (.pointer none) = pure () := rfl
  have hb : binOp .eql t (.pointer a0) (.pointer none) = (do pure (.bool (← Op.equal t (.pointer a0) (.pointer none)))) := rfl
  have hr := run_equal_pointer_nil (P := P) w t a0 ht
  simp [execOp, ha.ev hx, ha.ev hy, hg, hb, hr]
theorem Ex.nonP {a0 : Option Addr} (ht : P.underlying t = some (.pointer (P.pointee t))) (hx : ev E x = some (.pointer a0)) (hy : ev E y = some (.pointer none)) : Ex P n E (.binOp .neq t x y s) ty w (.bool (!a0.isNone)) := fun a ha _ _ _ _ => by
  have hg : eqGuard .neq t x y (.pointer a0) (.pointer none) = pure () := rfl
  have hb : binOp .neq t (.pointer a0) (.pointer none) = (do pure (.bool (!(← Op.equal t (.pointer a0) (.pointer none))))) := rfl
  have hr := run_equal_pointer_nil (P := P) w t a0 ht
  simp [execOp, ha.ev hx, ha.ev hy, hg, hb, hr]
end
end Go.Dd
