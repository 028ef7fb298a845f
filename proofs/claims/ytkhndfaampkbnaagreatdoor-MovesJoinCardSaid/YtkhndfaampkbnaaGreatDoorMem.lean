/- The step layer, part 3: memory. Nothing here names a program. -/
import Derived.Test.YtkhndfaampkbnaaGreatDoorOps
namespace Go.Dd
open Go Go.RowKit

/-- Block b holds these cells, of elements of type T; none is frozen. -/
def Blk (w : World) (b : Nat) (T : TypeId) (cs : List Value) : Prop := w.heap[b]? = some (.cells cs.toArray T (0, 0))

/-- What can be read from an address on. -/
def Cells (w : World) (ao : Option Addr) (ys : List Value) : Prop := ∀ a, ao = some a → ∀ j u, ys[j]? = some u → w.cell? (a.add j) = some u

/-- A slice value of n elements of sz cells each, that reads so. -/
structure Sl (w : World) (sz : Nat) (v : Value) (n : Nat) (xs : List Value) : Prop where
  len : xs.length = n * sz
  ex : ∃ ao cap, v = .slice ao n cap ∧ n ≤ cap ∧ cap ≤ maxLen ∧ (ao = none → cap = 0) ∧ Cells w ao xs

/-- The place j cells behind a slice's head. -/
def elemPtr (v : Value) (j : Nat) : Value := match v with
  | .slice ao _ _ => .pointer (ao.map (·.add j))
  | _ => undef

/-- A slice value of n elements, whatever it holds. -/
def Shp (v : Value) (n : Nat) : Prop := ∃ ao cap, v = .slice ao n cap ∧ n ≤ cap ∧ cap ≤ maxLen ∧ (ao = none → cap = 0)
theorem Sl.shp {w : World} {sz : Nat} {v : Value} {n : Nat} {xs : List Value} (h : Sl w sz v n xs) : Shp v n := by
  obtain ⟨_, ao, cap, h1, h2, h3, h4, _⟩ := h
  exact ⟨ao, cap, h1, h2, h3, h4⟩

/-- A slice of one-cell elements. -/
abbrev SlT {α : Type} (enc : α → Value) (w : World) (v : Value) (l : List α) : Prop := Sl w 1 v l.length (l.map enc)

theorem blk_lt {w : World} {b : Nat} {T : TypeId} {cs : List Value} (h : Blk w b T cs) : b < w.heap.size := (Array.getElem?_eq_some_iff.1 h).1
theorem add_add (a : Addr) (i j : Nat) : (a.add i).add j = if i + j = 0 then a else { a with off := a.off + (i + j), spot := none } := by
  unfold Addr.add
  by_cases hi : i = 0
  · subst hi; simp
  · by_cases hj : j = 0
    · subst hj; simp [hi]
    · have : ¬ (i + j = 0) := by omega
      simp [hi, hj]; omega
theorem add_add' (a : Addr) (i j : Nat) : (a.add i).add j = a.add (i + j) := by rw [add_add]; rfl
theorem add_block (a : Addr) (i : Nat) : (a.add i).block = a.block := by unfold Addr.add; split <;> rfl
theorem add_lit (b o i : Nat) : (⟨b, o, none⟩ : Addr).add i = ⟨b, o + i, none⟩ := by unfold Addr.add; split <;> simp_all
theorem Blk.cell {w : World} {b : Nat} {T : TypeId} {cs : List Value} (h : Blk w b T cs) (o : Nat) : w.cell? ⟨b, o, none⟩ = cs[o]? := by
  rw [cell_of_row w b o _ T (0, 0) h]; simp

/-! ### What stays -/
theorem Blk.keep {w w' : World} {b : Nat} {T : TypeId} {cs : List Value} (h : Blk w b T cs) (k : w'.heap[b]? = w.heap[b]?) : Blk w' b T cs := by unfold Blk at *; rw [k]; exact h
theorem Blk.bl {w w' : World} {b B : Nat} {T : TypeId} {cs : List Value} (h : Blk w b T cs) (hb : Below B w w') (hB : b < B) : Blk w' b T cs := h.keep (hb.block b hB)
theorem Blk.bs {w w' : World} {b : Nat} {T : TypeId} {cs : List Value} (h : Blk w b T cs) (hb : Below w.heap.size w w') : Blk w' b T cs := h.bl hb (blk_lt h)
theorem Blk.by {w w' : World} {b : Nat} {T : TypeId} {cs : List Value} {r : Option Nat} (h : Blk w b T cs) (hb : w.grownBy w' r) (hne : some b ≠ r) : Blk w' b T cs := h.keep (hb.block b (blk_lt h) hne)

theorem Cells.keep {w w' : World} {ao : Option Addr} {ys : List Value} (h : Cells w ao ys) (k : ∀ a, ao = some a → ys ≠ [] → w'.heap[a.block]? = w.heap[a.block]?) : Cells w' ao ys := fun a ha j u hu => by
  have hne : ys ≠ [] := by intro h0; subst h0; simp at hu
  have h1 := h a ha j u hu
  have : w'.cell? (a.add j) = w.cell? (a.add j) := World.cell?_of_block (by rw [add_block]; exact k a ha hne)
  rw [this]; exact h1
theorem Cells.lt {w : World} {a : Addr} {ys : List Value} (h : Cells w (some a) ys) (hne : ys ≠ []) : a.block < w.heap.size := by
  obtain ⟨u, ys, rfl⟩ := List.exists_cons_of_ne_nil hne
  have := World.block_lt_of_cell? w (a.add 0) (h a rfl 0 u (by simp))
  rwa [add_block] at this
theorem Cells.bs {w w' : World} {ao : Option Addr} {ys : List Value} (h : Cells w ao ys) (hb : Below w.heap.size w w') : Cells w' ao ys := h.keep fun a ha hne => by
  subst ha; exact hb.block _ (Cells.lt h hne)

theorem Sl.keep {w w' : World} {sz : Nat} {v : Value} {n : Nat} {xs : List Value} (h : Sl w sz v n xs) (k : ∀ b, b < w.heap.size → v.ownBlock = some b → w'.heap[b]? = w.heap[b]?) : Sl w' sz v n xs := by
  obtain ⟨h1, ao, cap, rfl, h2, h3, h4, h5⟩ := h
  refine ⟨h1, ao, cap, rfl, h2, h3, h4, h5.keep fun a ha hne => ?_⟩
  subst ha
  exact k _ (Cells.lt h5 hne) rfl
theorem Sl.bs {w w' : World} {sz : Nat} {v : Value} {n : Nat} {xs : List Value} (h : Sl w sz v n xs) (hb : Below w.heap.size w w') : Sl w' sz v n xs := h.keep fun b hlt _ => hb.block b hlt
theorem Sl.by {w w' : World} {sz : Nat} {v : Value} {n : Nat} {xs : List Value} {r : Option Nat} (h : Sl w sz v n xs) (hb : w.grownBy w' r) (hne : v.ownBlock = none ∨ v.ownBlock ≠ r) : Sl w' sz v n xs := h.keep fun b hlt hv => hb.block b hlt (by rcases hne with h | h <;> simp_all)
theorem Sl.le {w : World} {sz : Nat} {v : Value} {n : Nat} {xs : List Value} (h : Sl w sz v n xs) : n ≤ 9223372036854775807 := by
  obtain ⟨_, ao, cap, _, h1, h2, _⟩ := h
  unfold maxLen at h2; omega
theorem Sl.nil (w : World) (sz : Nat) : Sl w sz (.slice none 0 0) 0 [] := ⟨by simp, none, 0, rfl, Nat.le_refl _, Nat.zero_le _, fun _ => rfl, fun a ha => by cases ha⟩

theorem Sl.one {w : World} {sz : Nat} {v : Value} {n : Nat} {xs : List Value} (h : Sl w sz v n xs) : v.cells = [v].toArray := by
  obtain ⟨_, ao, cap, rfl, _⟩ := h; rfl
theorem Sl.one' {w : World} {sz : Nat} {v : Value} {n : Nat} {xs : List Value} (h : Sl w sz v n xs) : v.oneCell' = true := by
  obtain ⟨_, ao, cap, rfl, _⟩ := h; rfl

theorem own_sl {w : World} {base : Nat} {e : TypeId} {sz : Nat} {v : Value} {n : Nat} {xs : List Value} (h : w.ownsRow base e sz v n xs) : Sl w sz v n xs := by
  obtain ⟨h1, h2⟩ := h
  rcases h2 with ⟨rfl, rfl⟩ | ⟨g, cap, cur, rfl, hb, hg, hnc, hcm, hcs, htake⟩
  · have : xs = [] := List.eq_nil_of_length_eq_zero (by simpa using h1)
    subst this; exact Sl.nil w sz
  · refine ⟨h1, some ⟨g, 0, none⟩, cap, rfl, hnc, hcm, (fun h => by cases h), fun a ha j u hu => ?_⟩
    simp only [Option.some.injEq] at ha
    subst ha
    exact World.ownsRow.cells ⟨h1, .inr ⟨g, cap, cur, rfl, hb, hg, hnc, hcm, hcs, htake⟩⟩ (g := g) rfl j u hu

theorem own_block {w : World} {base : Nat} {e : TypeId} {sz : Nat} {v : Value} {n : Nat} {xs : List Value} (h : w.ownsRow base e sz v n xs) : ∀ b, v.ownBlock = some b → base ≤ b ∧ b < w.heap.size := h.lt
theorem own_bs {w w' : World} {base : Nat} {e : TypeId} {sz : Nat} {v : Value} {n : Nat} {xs : List Value} (h : w.ownsRow base e sz v n xs) (hb : Below w.heap.size w w') : w'.ownsRow base e sz v n xs :=
  h.kept (row := none) ⟨hb.os, hb.tape, hb.output, hb.size, fun k hk _ => hb.block k hk⟩ (by cases hv : v.ownBlock <;> simp)
theorem _root_.Go.World.ownsRow.bs {w w' : World} {base : Nat} {e : TypeId} {sz : Nat} {v : Value} {n : Nat} {xs : List Value} (h : w.ownsRow base e sz v n xs) (hb : Below w.heap.size w w') : w'.ownsRow base e sz v n xs := own_bs h hb
/-- A world further on, from the start. -/
theorem _root_.Go.RowKit.Below.bs {a b c : World} (h : Below a.heap.size a b) (k : Below b.heap.size b c) : Below a.heap.size a c := h.trans (k.mono h.size)
theorem grown_below {w w' : World} {r : Option Nat} (h : w.grownBy w' r) {B : Nat} (hB : B ≤ w.heap.size) (hr : ∀ k, r = some k → B ≤ k) : Below B w w' := (Below.refl B w).grown h hB hr
theorem below_grown {w w' : World} (hb : Below w.heap.size w w') (r : Option Nat) : w.grownBy w' r := ⟨hb.os, hb.tape, hb.output, hb.size, fun k hk _ => hb.block k hk⟩
theorem grown_trans {a b c : World} {r : Option Nat} (h : a.grownBy b r) (k : b.grownBy c r) : a.grownBy c r :=
  ⟨k.os.trans h.os, k.tape.trans h.tape, k.output.trans h.output, Nat.le_trans h.size k.size, fun i hi hne => (k.block i (Nat.lt_of_lt_of_le hi h.size) hne).trans (h.block i hi hne)⟩
theorem grown_refl (w : World) (r : Option Nat) : w.grownBy w r := ⟨rfl, rfl, rfl, Nat.le_refl _, fun _ _ _ => rfl⟩
theorem below_size {B : Nat} {w w' : World} (h : Below B w w') : w.heap.size ≤ w'.heap.size := h.size
theorem below_new (w : World) (o : Obj) : Below w.heap.size w (w.alloc o) := (Below.refl _ _).alloc (Nat.le_refl _) o
theorem below_tr {B : Nat} {a b c : World} (h : Below B a b) (k : Below b.heap.size b c) (hB : B ≤ a.heap.size) : Below B a c := h.trans (k.mono (Nat.le_trans hB h.size))

theorem bt {a b c : World} (h : Below a.heap.size a b) (k : Below b.heap.size b c) : Below a.heap.size a c := below_tr h k (Nat.le_refl _)

/-- A slice type: its elements' type, their cells, whether they are structs or arrays. -/
structure STy (P : Program) (t e : TypeId) (sz : Nat) : Prop where
  u : P.underlying t = some (.slice e)
  s : ∀ w, (sizeOf e).run P w = .ok sz w
/-- An element type that can be made anew. -/
structure ITy (P : Program) (e : TypeId) (z : List Value) (bytes : Nat) : Prop where
  i : ∃ i, P.info? e = some i ∧ i.size = z.length ∧ i.bytes = bytes ∧ ∃ zv, i.zero = some zv ∧ zv.cells = z.toArray

section
variable {P : Program} {Q : Post} {n : Nat} {E : Env} {w : World} {l0 rest : List Oper} {ty : TypeId} {pos : String} {af : Array Edge}
variable {x y z : Operand} {v u : Value} {t s e : TypeId} {sz : Nat}

/-! ### Reading -/
theorem Ex.lenS {k : Nat} {xs : List Value} (hu : STy P t e sz) (hx : ev E x = some v) (h : Sl w sz v k xs) : Ex P n E (.call { callee := .builtin .len, args := #[x], argTypes := #[t] }) ty w (.int .i64 (k : Int)) := fun a ha _ _ _ _ => by
  obtain ⟨_, ao, cap, rfl, _⟩ := h
  simp [execOp, resolve, invoke, builtin, ha.ev hx, Builtin.len_, run_underlying hu.u, goInt]
theorem Ex.capS {ao : Option Addr} {k cap : Nat} (hu : STy P t e sz) (hx : ev E x = some (.slice ao k cap)) : Ex P n E (.call { callee := .builtin .cap, args := #[x], argTypes := #[t] }) ty w (.int .i64 (cap : Int)) := fun a ha _ _ _ _ => by
  simp [execOp, resolve, invoke, builtin, ha.ev hx, Builtin.cap_, run_underlying hu.u, goInt]

theorem Ex.idx {k : IntKind} {m : Int} {c : Nat} {xs : List Value} (hu : STy P t e sz) (hx : ev E x = some v) (hy : ev E y = some (.int k m)) (h : Sl w sz v c xs) (j : Nat) (hm : m = (j : Int)) (hj : j < c) :
    Ex P n E (.indexAddr t x y) ty w (elemPtr v (j * sz)) := fun a ha _ _ _ _ => by
  obtain ⟨_, ao, cap, rfl, hc, _, hn, _⟩ := h
  subst hm
  cases ao with
  | none => have := hn rfl; omega
  | some ad =>
    have h1 : (0 : Int) ≤ (j : Int) ∧ (j : Int) < (c : Int) := by omega
    have h2 : ¬ c ≤ j := by omega
    simp [execOp, ha.ev hx, ha.ev hy, Instr.indexAt, asIntOf, run_underlying hu.u, h1, hj, hu.s w, elemPtr]

/-- The same, in whatever world. -/
theorem Ex.idxS {k : IntKind} {m : Int} {c : Nat} (hu : STy P t e 1) (hx : ev E x = some v) (hy : ev E y = some (.int k m)) (h : Shp v c) (j : Nat) (hm : m = (j : Int)) (hj : j < c) : Ex P n E (.indexAddr t x y) ty w (elemPtr v j) := fun a ha _ _ _ _ => by
  obtain ⟨ao, cap, rfl, hc, _, hn⟩ := h
  subst hm
  cases ao with
  | none => have := hn rfl; omega
  | some ad =>
    have h1 : (0 : Int) ≤ (j : Int) ∧ (j : Int) < (c : Int) := by omega
    simp [execOp, ha.ev hx, ha.ev hy, Instr.indexAt, asIntOf, run_underlying hu.u, h1, hj, hu.s w, elemPtr]
theorem Ex.lenV {c : Nat} (hu : STy P t e sz) (hx : ev E x = some v) (h : Shp v c) : Ex P n E (.call { callee := .builtin .len, args := #[x], argTypes := #[t] }) ty w (.int .i64 (c : Int)) := fun a ha _ _ _ _ => by
  obtain ⟨ao, cap, rfl, _⟩ := h
  simp [execOp, resolve, invoke, builtin, ha.ev hx, Builtin.len_, run_underlying hu.u, goInt]
theorem Ex.ld {c j : Nat} {xs : List Value} (hag : (isAgg e).run P w = .ok false w) (hx : ev E x = some (elemPtr v j)) (h : Sl w sz v c xs) (hj : xs[j]? = some u) : Ex P n E (.load e x) ty w u := fun a ha _ _ _ _ => by
  obtain ⟨hl, ao, cap, rfl, hc, _, hn, hce⟩ := h
  cases ao with
  | none =>
    have h0 := hn rfl
    have h1 : j < xs.length := by
      rcases Nat.lt_or_ge j xs.length with h | h
      · exact h
      · simp [List.getElem?_eq_none h] at hj
    have : c = 0 := by omega
    subst this; rw [hl] at h1; simp at h1
  | some ad =>
    have h1 := hce ad rfl j u hj
    have hx' : ev E x = some (.pointer (some (ad.add j))) := by simpa [elemPtr] using hx
    simp [execOp, ha.ev hx', Instr.loadAt, Instr.sureAddr, loadVar, hag, h1]

/-- An element of a slice of one-cell elements. -/
theorem Ex.idxT {α : Type} {enc : α → Value} {l : List α} {k : IntKind} {m : Int} (hu : STy P t e 1) (hx : ev E x = some v) (hy : ev E y = some (.int k m)) (h : SlT enc w v l) (j : Nat) (hm : m = (j : Int)) (hj : j < l.length) :
    Ex P n E (.indexAddr t x y) ty w (elemPtr v j) := by
  have := Ex.idx (ty := ty) (n := n) hu hx hy h j hm hj
  rwa [Nat.mul_one] at this
theorem Ex.ldT {α : Type} [Inhabited α] {enc : α → Value} {l : List α} {j : Nat} (hag : (isAgg e).run P w = .ok false w) (hx : ev E x = some (elemPtr v j)) (h : SlT enc w v l) (hj : j < l.length) :
    Ex P n E (.load e x) ty w (enc (l.getD j default)) := Ex.ld hag hx h (by simp [List.getElem?_eq_getElem hj])

/-- A cell of a known block. -/
theorem Ex.ldB {b o : Nat} {T : TypeId} {cs : List Value} (hag : (isAgg e).run P w = .ok false w) (hx : ev E x = some (.pointer (some ⟨b, o, none⟩))) (h : Blk w b T cs) (ho : cs[o]? = some u) : Ex P n E (.load e x) ty w u := fun a ha _ _ _ _ => by
  have h1 := (h.cell o).trans ho
  simp [execOp, ha.ev hx, Instr.loadAt, Instr.sureAddr, loadVar, hag, h1]
/-- A whole struct or array out of a block of its own. -/
theorem Ex.ldA {b k : Nat} {T : TypeId} {cs : List Value} (hag : (isAgg e).run P w = .ok true w) (hs : (sizeOf e).run P w = .ok k w) (hk : cs.length = k) (hx : ev E x = some (.pointer (some ⟨b, 0, none⟩))) (h : Blk w b T cs) : Ex P n E (.load e x) ty w (.agg cs.toArray) := fun a ha _ _ _ _ => by
  subst hk
  have hl := run_loadCells_list (P := P) w ⟨b, 0, none⟩ cs (fun j v hv => by rw [add_lit, Nat.zero_add, h.cell]; exact hv)
  simp [execOp, ha.ev hx, Instr.loadAt, Instr.sureAddr, loadVar, hag, hs, hl]
theorem Pw.retC {fn : Func} {R : Value → World → Prop} {p b k : Nat} {T : TypeId} {cs : List Value} {d : TypeDesc} (hr : fn.results = #[.cell p e]) (hp : get E p = some (.pointer (some ⟨b, 0, none⟩))) (hb : Blk w b T cs)
    (hu : P.underlying e = some d) (hd : (match d with | .struct _ | .array _ _ => true | _ => false) = true) (hi : (P.info? e).map (·.size) = some k) (hk : cs.length = k) (h : R (.agg cs.toArray) w) : Pw n E (Ret P fn R .ret) w := fun a ha => by
  subst hk
  exact
  bodyPost_ret (v := .agg cs.toArray) (results_cell_row hr a.tmps w b T cs.toArray (0, 0) d (by simp [Array.getD_eq_getD_getElem?, ha.has _ _ hp]) hb hu hd (by simpa using hi)) ha.dfr ⟨_, rfl, h⟩

/-- An array's element's place. -/
theorem Ex.idxB {k : IntKind} {m : Int} {b o c : Nat} (hu : P.underlying t = some (.array c e)) (hsz : ∀ w, (sizeOf e).run P w = .ok sz w) (hx : ev E x = some (.pointer (some ⟨b, o, none⟩))) (hy : ev E y = some (.int k m)) (j : Nat) (hm : m = (j : Int)) (hj : j < c) :
    Ex P n E (.indexAddr t x y) ty w (.pointer (some ⟨b, o + j * sz, none⟩)) := fun a ha _ _ _ _ => by
  subst hm
  have h1 : (0 : Int) ≤ (j : Int) ∧ (j : Int) < (c : Int) := by omega
  have h2 : ¬ c ≤ j := by omega
  simp [execOp, ha.ev hx, ha.ev hy, Instr.indexAt, asIntOf, run_underlying hu, h1, hj, hsz w, Instr.sureAddr, add_lit]
theorem Ex.fieldAddr {b o f q : Nat} {fs : Array Field} {fd : Field} (hu : P.underlying t = some (.struct fs)) (hf : fs[f]? = some fd) (hq : (sizeOf fd.type).run P w = .ok (q + 1) w) (hx : ev E x = some (.pointer (some ⟨b, o, none⟩))) :
    Ex P n E (.fieldAddr t x f) ty w (.pointer (some ⟨b, o + fd.offset, none⟩)) := fun a ha _ _ _ _ => by
  simp [execOp, ha.ev hx, Instr.fieldAt, Instr.sureAddr, fieldPlace, run_underlying hu, hf, hq, add_lit]
/-- A field of a struct value. -/
theorem Ex.field {f : Nat} {fs : Array Field} {fd : Field} {cs : List Value} (hu : P.underlying t = some (.struct fs)) (hf : fs[f]? = some fd) (hag : (isAgg fd.type).run P w = .ok false w) (hx : ev E x = some (.agg cs.toArray)) (hv : cs[fd.offset]? = some v) :
    Ex P n E (.field t x f) ty w v := fun a ha _ _ _ _ => by
  simp [execOp, ha.ev hx, Instr.field, run_underlying hu, hf, asAgg, part, hag, hv]

/-! ### Making -/
theorem Xw.alloc {zs : List Value} {zv : Value} (hz : (zeroValue e).run P w = .ok zv w) (hc : zv.cells = zs.toArray) : Xw P n E (.alloc e) ty w (fun v w' => v = .pointer (some ⟨w.heap.size, 0, none⟩) ∧ Blk w' w.heap.size e zs ∧ Below w.heap.size w w' ∧ w'.heap.size = w.heap.size + 1) := fun a ha => by
  refine ⟨_, w.alloc (.cells zs.toArray e), fun _ _ _ _ => ?_, rfl, heap_alloc_new w _, below_new w _, by simp⟩
  simp [execOp, Instr.alloc, hz, newVar, newRow, hc]
theorem Xw.new {zs : List Value} {bytes : Nat} (hi : ITy P e zs bytes) : Xw P n E (.alloc e) ty w (fun v w' => v = .pointer (some ⟨w.heap.size, 0, none⟩) ∧ Blk w' w.heap.size e zs ∧ Below w.heap.size w w' ∧ w'.heap.size = w.heap.size + 1) := by
  obtain ⟨i, h1, h2, h3, zv, h4, h5⟩ := hi.i
  exact Xw.alloc (zv := zv) (by simp [zeroValue, typeInfo, h1, h4]) h5
theorem Xw.box {cs : List Value} (hx : ev E x = some v) (hc : v.cells = cs.toArray) : Xw P n E (.box e x) ty w (fun v w' => v = .pointer (some ⟨w.heap.size, 0, none⟩) ∧ Blk w' w.heap.size e cs ∧ Below w.heap.size w w' ∧ w'.heap.size = w.heap.size + 1) := fun a ha => by
  refine ⟨_, w.alloc (.cells cs.toArray e), fun _ _ _ _ => ?_, rfl, heap_alloc_new w _, below_new w _, by simp⟩
  simp [execOp, ha.ev hx, Instr.box, newVar, newRow, hc]

theorem setCell_blk {b o : Nat} {T : TypeId} {cs : List Value} (h : Blk w b T cs) (u : Value) : Blk (w.setCell ⟨b, o, none⟩ u) b T (cs.set o u) ∧ w.grownBy (w.setCell ⟨b, o, none⟩ u) (some b) := by
  refine ⟨?_, ⟨rfl, rfl, rfl, by simp, fun k _ hk => heap_setCell_other w ⟨b, o, none⟩ k u (fun e => hk (by simp [e]))⟩⟩
  have := heap_setCell_same w b o cs.toArray T u h
  unfold Blk
  rw [this]
  simp

/-- A store into a cell of a known block. -/
theorem Xu.stB {b o : Nat} {T : TypeId} {cs : List Value} (hag : (sizeOf e).run P w = .ok 1 w) (hx : ev E x = some (.pointer (some ⟨b, o, none⟩))) (hy : ev E y = some u) (hone : u.oneCell' = true) (h : Blk w b T cs) (ho : o < cs.length) :
    Xu P n E (.store e x y) ty w (fun w' => Blk w' b T (cs.set o u) ∧ w.grownBy w' (some b) ∧ w'.heap.size = w.heap.size) := fun a ha => by
  refine ⟨w.setCell ⟨b, o, none⟩ u, fun _ _ _ _ => ?_, (setCell_blk h u).1, (setCell_blk h u).2, by simp⟩
  have hcell : w.cell? ⟨b, o, none⟩ = some cs[o] := by rw [h.cell, List.getElem?_eq_getElem ho]
  have hfr : w.frozen? ⟨b, o, none⟩ = false := by simp [World.frozen?, show w.heap[b]? = _ from h]
  have hcs : u.cells = #[u] := by cases u <;> first | rfl | simp [Value.oneCell'] at hone
  have hst := run_store P w ⟨b, o, none⟩ u .plain hone
  simp only [hcell, hfr] at hst
  simp [execOp, ha.ev hx, ha.ev hy, Instr.storeAt, Instr.sureAddr, storeVar, hag, hcs, storeCells, add_lit, hst]
/-- A whole struct or array into a block of its own. -/
theorem Xu.stA {b k : Nat} {T : TypeId} {old cs : List Value} (hs : (P.info? e).map (·.size) = some k) (hk : cs.length = k) (hx : ev E x = some (.pointer (some ⟨b, 0, none⟩))) (hy : ev E y = some (.agg cs.toArray)) (hone : cs.all (·.oneCell') = true) (h : Blk w b T old) (ho : old.length = k) :
    Xu P n E (.store e x y) ty w (fun w' => Blk w' b T cs ∧ w.grownBy w' (some b) ∧ w'.heap.size = w.heap.size) := fun a ha => by
  subst hk
  have hrun := run_storeVar_row (P := P) w b T e old.toArray cs.toArray h (by simpa using hs) (by simpa using ho) (by simpa using hone)
  refine ⟨w.setRow b cs.toArray, fun _ _ _ _ => ?_, setRow_heap w b _ _ _ _ h, ⟨rfl, rfl, rfl, by simp [World.setRow], fun k _ hk => setRow_other w b k _ (fun e => hk (by simp [e]))⟩, by simp [World.setRow]⟩
  simp [execOp, ha.ev hx, ha.ev hy, Instr.storeAt, Instr.sureAddr, hrun]

/-- A store into an element of a slice of the call's own. -/
theorem Xu.stO {base c j : Nat} {T : TypeId} {xs : List Value} (hag : (sizeOf e).run P w = .ok 1 w) (hx : ev E x = some (elemPtr v j)) (hy : ev E y = some u) (hone : u.oneCell' = true) (h : w.ownsRow base T sz v c xs) (hj : j < xs.length) :
    Xu P n E (.store e x y) ty w (fun w' => w'.ownsRow base T sz v c (xs.set j u) ∧ w.grownBy w' v.ownBlock ∧ w'.heap.size = w.heap.size) := fun a ha => by
  rcases h.2 with ⟨rfl, rfl⟩ | ⟨g, cap, cur, rfl, hb, hg, hnc, hcm, hcs, htake⟩
  · have := h.1; simp at this; subst this; simp at hj
  · have hst := World.ownsRow.stored h j u
    refine ⟨w.setCell ⟨g, j, none⟩ u, fun _ _ _ _ => ?_, hst.1, hst.2, by simp⟩
    have hx' : ev E x = some (.pointer (some ⟨g, j, none⟩)) := by simpa [elemPtr, add_lit] using hx
    have hcell : w.cell? ⟨g, j, none⟩ = some xs[j] := by
      rw [World.ownsRow.cellAt h j (by rw [← h.1]; exact hj), List.getElem?_eq_getElem hj]
    have hfr := World.ownsRow.frozenAt h j
    have hcs' : u.cells = #[u] := by cases u <;> first | rfl | simp [Value.oneCell'] at hone
    have hrun := run_store P w ⟨g, j, none⟩ u .plain hone
    simp only [hcell, hfr] at hrun
    simp [execOp, ha.ev hx', ha.ev hy, Instr.storeAt, Instr.sureAddr, storeVar, hag, hcs', storeCells, add_lit, hrun]

/-- 'make([]T, l, c)'. -/
theorem Xw.make {l c : Nat} {zs : List Value} {bytes : Nat} (hu : STy P t e sz) (hi : ITy P e zs bytes) (hzl : zs.length = sz) (hx : ev E x = some (.int .i64 (l : Int))) (hy : ev E y = some (.int .i64 (c : Int))) (hlc : l ≤ c) (hb : bytes * c ≤ 281474976710656) (hm : c ≤ 9223372036854775807) :
    Xw P n E (.makeSlice t x y) ty w (fun v w' => w'.ownsRow w.heap.size e sz v l ((List.replicate l zs).flatten) ∧ v = .slice (some ⟨w.heap.size, 0, none⟩) l c ∧ Below w.heap.size w w' ∧ w'.heap.size = w.heap.size + 1) := fun a ha => by
  subst hzl
  obtain ⟨i, h1, h2, h3, zv, h4, h5⟩ := hi.i
  subst h3
  have hrun := run_make (P := P) w t e i zv hu.u h1 h4 .i64 .i64 l c (by omega) (by omega) (by have := hb; omega) (by omega)
  simp only [Int.toNat_natCast] at hrun
  refine ⟨_, w.alloc (.cells (madeCells zv.cells (c * i.size)) e), fun _ _ _ _ => by simp [execOp, ha.ev hx, ha.ev hy, hrun], ?_, rfl, below_new w _, by simp⟩
  refine ⟨by simp, .inr ⟨w.heap.size, c, _, rfl, Nat.le_refl _, heap_alloc_new w _, hlc, by unfold maxLen; omega, by rw [size_madeCells, h2], ?_⟩⟩
  rw [h5, h2]
  apply List.ext_getElem?
  intro k
  by_cases hk : k < l * zs.length
  · have hk2 : k < c * zs.length := Nat.lt_of_lt_of_le hk (Nat.mul_le_mul_right _ hlc)
    have hz : 0 < zs.length := by rcases Nat.eq_zero_or_pos zs.length with h | h; · rw [h] at hk; simp at hk
                                  · exact h
    have hf : ((List.replicate l zs).flatten)[k]? = zs[k % zs.length]? := by
      clear hk2 hrun hb hm hlc hx hy
      induction l generalizing k with
      | zero => simp at hk
      | succ l ih =>
        rw [List.replicate_succ, List.flatten_cons, List.getElem?_append]
        by_cases hlt : k < zs.length
        · simp [hlt, Nat.mod_eq_of_lt hlt]
        · simp only [hlt, if_false]
          rw [ih (k - zs.length) (by rw [Nat.succ_mul] at hk; omega)]
          rw [← Nat.mod_eq_sub_mod (by omega)]
    rw [hf]
    simp only [List.getElem?_take, hk, if_true]
    simp [madeCells, hk2, Nat.mod_lt k hz]
  · have : ((List.replicate l zs).flatten).length = l * zs.length := by simp
    rw [List.getElem?_eq_none (l := (List.replicate l zs).flatten) (by rw [this]; omega)]
    simp [List.getElem?_take, hk]

/-- The parts of a literal, in their order. -/
def ordered : Nat → List (Nat × Operand) → Option (List Operand)
  | _, [] => some []
  | k, p :: r => match Nat.beq p.1 k, ordered (k + 1) r with
    | true, some l => some (p.2 :: l)
    | _, _ => none
def fromN : Nat → List Value → List (Nat × Value)
  | _, [] => []
  | k, v :: l => (k, v) :: fromN (k + 1) l

theorem ordered_evs {a : Act} (ha : Fits n E a) : ∀ (ps : List (Nat × Operand)) (k : Nat) (xs : List Operand) (vs : List Value), ordered k ps = some xs → evs E xs = some vs → ps.map (fun p => (p.1, a.eval p.2)) = fromN k vs
  | [], k, xs, vs, h, hx => by
    simp only [ordered, Option.some.injEq] at h
    subst h
    simp only [evs, Option.some.injEq] at hx
    subst hx; rfl
  | p :: r, k, xs, vs, h, hx => by
    simp only [ordered] at h
    split at h
    · rename_i l hb hl
      simp only [Option.some.injEq] at h
      subst h
      simp only [evs] at hx
      split at hx
      · rename_i v us h1 h2
        simp only [Option.some.injEq] at hx
        subst hx
        have := Nat.eq_of_beq_eq_true hb
        simp [fromN, this, ha.ev h1, ordered_evs ha r (k + 1) l us hl h2]
      · simp at hx
    · simp at h

theorem fill_from : ∀ (vs : List Value) (k : Nat) (cells : Array Value), cells.size = k + vs.length → vs.all (·.oneCell') = true →
    Instr.fill (fun i => some (i * 1, 1)) cells (fromN k vs) = some ((cells.toList.take k ++ vs).toArray)
  | [], k, cells, h, _ => by
    have : cells.toList.take k = cells.toList := List.take_of_length_le (by simp at h ⊢; omega)
    simp [fromN, Instr.fill, this]
  | v :: vs, k, cells, h, h1 => by
    simp only [List.all_cons, Bool.and_eq_true] at h1
    have hc : v.cells = #[v] := by cases v <;> first | rfl | simp [Value.oneCell'] at h1
    have hk : k < cells.size := by simp at h; omega
    have hn : ¬ (k + 1 > cells.size) := by omega
    have ih := fill_from vs (k + 1) (cells.setIfInBounds k v) (by simp at h ⊢; omega) h1.2
    simp only [fromN, Instr.fill, hc, Nat.mul_one]
    rw [if_neg (by simp; omega)]
    have hz : (#[v].zipIdx.foldl (fun cs (c, j) => cs.setIfInBounds (k + j) c) cells) = cells.setIfInBounds k v := by simp [Array.zipIdx]
    simp only [hz]
    simp only [Nat.mul_one] at ih
    rw [ih]
    congr 2
    apply List.ext_getElem?
    intro j
    simp only [Array.toList_setIfInBounds, List.getElem?_append, List.length_take, List.length_set, Array.length_toList, List.getElem?_take, List.getElem?_set]
    by_cases hj : j < k
    · have a1 : j < min (k + 1) cells.size := by omega
      have a2 : j < min k cells.size := by omega
      have a3 : j < k + 1 := by omega
      have a4 : ¬ k = j := by omega
      simp [hj, a1, a2, a3, a4]
    · by_cases hj2 : j = k
      · subst hj2; simp [hk, show min j cells.size = j by omega, show min (j + 1) cells.size = j + 1 by omega]
      · simp [show ¬ j < k by omega, show ¬ j < k + 1 by omega, show min k cells.size = k by omega, show min (k + 1) cells.size = k + 1 by omega, show j - k = (j - (k + 1)) + 1 by omega]

/-- A literal slice of one-cell elements ('[]T{..}', a variadic call's list). -/
theorem Xw.lit {ps : List (Nat × Operand)} {xs : List Operand} {vs : List Value} {z0 : Value} {bytes k : Nat} (hu : STy P t e 1) (hi : ITy P e [z0] bytes) (hp : ordered 0 ps = some xs) (hx : evs E xs = some vs) (hk : vs.length = k) (hone : vs.all (·.oneCell') = true) (hsm : Nat.ble k 16777216 = true) :
    Xw P n E (.buildSlice t k ps.toArray) ty w (fun v w' => w'.ownsRow w.heap.size e 1 v k vs ∧ v = .slice (some ⟨w.heap.size, 0, none⟩) k k ∧ Below w.heap.size w w' ∧ w'.heap.size = w.heap.size + 1) := fun a ha => by
  obtain ⟨i, h1, h2, h3, zv, h4, h5⟩ := hi.i
  have hsm' : ¬ (k * 1 > 2 ^ 24) := by have := Nat.le_of_ble_eq_true hsm; omega
  refine ⟨.slice (some ⟨w.heap.size, 0, none⟩) k k, w.alloc (.cells vs.toArray e), fun _ _ _ _ => ?_, ⟨by simpa using hk, .inr ⟨w.heap.size, k, vs.toArray, rfl, Nat.le_refl _, heap_alloc_new w _, Nat.le_refl _, by have := Nat.le_of_ble_eq_true hsm; unfold maxLen; omega, by simpa using hk, ?_⟩⟩, rfl, below_new w _, by simp⟩
  · have hmap : (ps.toArray.map fun (i, x) => (i, a.eval x)).toList = fromN 0 vs := by
      rw [← ordered_evs ha ps 0 xs vs hp hx]; simp
    have hf : ∀ (cells : Array Value), cells.size = k → Instr.fill (fun i => some (i * 1, 1)) cells (fromN 0 vs) = some vs.toArray := fun cells hc => by
      rw [fill_from vs 0 cells (by omega) hone]; simp
    have hz : (zeroValue e).run P w = .ok zv w := by simp [zeroValue, typeInfo, h1, h4]
    have hs := hu.s w
    simp only [execOp, Instr.buildSlice, Sem.run_bind, run_underlying hu.u, Result.andThen_ok, hs, Sem.run_ite, if_neg hsm', Sem.run_pure, hmap]
    by_cases h0 : k * 1 = 0
    · have : vs = [] := List.eq_nil_of_length_eq_zero (by omega)
      subst this
      obtain rfl : k = 0 := by simpa using hk.symm
      have hr : Array.range 0 = #[] := rfl
      simp [fromN, Instr.fill, newRow, hr]
    · simp only [if_neg h0, hz, Result.andThen_ok]
      rw [hf _ (by simp)]
      simp [newRow]
  · rw [List.take_of_length_le (by simp [hk])]
end
end Go.Dd
