/- The step layer, part 5: what the arguments that come in read as; from a walk to the row. Nothing here names a program. -/
import Derived.Test.YtkhndfaampkbnaaGreatDoorReg
import Derived.ProofKit
import Derived.OpenShut
import Derived.SizedLaws
namespace Go.Dd
open Go Go.RowKit

section
variable {H : Type} {enc : TypeId × Value → H} {P : Program} {w : World}

/-- These cells read as some datum of type t, within the form's own reach. -/
def In (enc : TypeId × Value → H) (P : Program) (w : World) (t : TypeId) (cs : List Value) : Prop :=
  ∃ fuel d ps, DataW.trod enc P w 0 (fun _ => true) true fuel t cs = some (d, ps) ∧ ∀ x ∈ d.weights P t, x ≤ reachBytes

theorem In.int {t : TypeId} {k : IntKind} {cs : List Value} (hu : P.underlying t = some (.int k)) (h : In enc P w t cs) : ∃ m, cs = [.int k m] ∧ (Lit.int k m).wf = true := by
  obtain ⟨fuel, d, ps, h, _⟩ := h
  cases fuel with
  | zero => simp [DataW.trod] at h
  | succ fuel =>
    unfold DataW.trod at h
    rw [hu] at h
    split at h <;> simp_all

theorem In.bool {t : TypeId} {cs : List Value} (hu : P.underlying t = some .bool) (h : In enc P w t cs) : ∃ b, cs = [.bool b] := by
  obtain ⟨fuel, d, ps, h, _⟩ := h
  cases fuel with
  | zero => simp [DataW.trod] at h
  | succ fuel =>
    unfold DataW.trod at h
    rw [hu] at h
    split at h <;> simp_all

theorem mapM_get {α β : Type} {f : α → Option β} : ∀ {l : List α} {r : List β}, l.mapM f = some r → ∀ (i : Nat) (a : α), l[i]? = some a → ∃ b, f a = some b ∧ r[i]? = some b
  | [], r, h, i, a, hi => by simp at hi
  | x :: l, r, h, i, a, hi => by
    simp only [List.mapM_cons, Option.bind_eq_bind, Option.pure_def] at h
    cases hx : f x with
    | none => simp [hx] at h
    | some b =>
      cases hl : l.mapM f with
      | none => simp [hx, hl] at h
      | some r' =>
        simp only [hx, hl, Option.bind_some, Option.some.injEq] at h
        subst h
        cases i with
        | zero => simp at hi; subst hi; exact ⟨b, hx, by simp⟩
        | succ i => simpa using mapM_get hl i a (by simpa using hi)
theorem mapM_len {α β : Type} {f : α → Option β} : ∀ {l : List α} {r : List β}, l.mapM f = some r → r.length = l.length
  | [], r, h => by simp at h; simp [← h]
  | x :: l, r, h => by
    simp only [List.mapM_cons, Option.bind_eq_bind, Option.pure_def] at h
    cases hx : f x with
    | none => simp [hx] at h
    | some b =>
      cases hl : l.mapM f with
      | none => simp [hx, hl] at h
      | some r' =>
        simp only [hx, hl, Option.bind_some, Option.some.injEq] at h
        subst h
        simpa using mapM_len hl

theorem cells_get {base n : Nat} {a : Addr} {cs : List Value} (h : w.cells? base a n = some cs) : cs.length = n ∧ ∀ j u, cs[j]? = some u → w.cell? (a.add j) = some u := by
  unfold World.cells? at h
  split at h
  · refine ⟨by simpa using mapM_len h, fun j u hu => ?_⟩
    have hj : j < n := by
      have := mapM_len h
      have hlt : j < cs.length := by
        rcases Nat.lt_or_ge j cs.length with h | h
        · exact h
        · simp [List.getElem?_eq_none h] at hu
      simp at this; omega
    obtain ⟨b, hb, hr⟩ := mapM_get h j j (by simp [hj])
    rw [hr] at hu
    simp only [Option.some.injEq] at hu
    rw [hb, hu]
  · cases h

theorem weightsAll_mem {e : TypeId} : ∀ {ds : List (DataW H)} {i : Nat} {d : DataW H}, ds[i]? = some d → ∀ x ∈ d.weights P e, x ∈ DataW.weightsAll P e ds
  | d0 :: ds, 0, d, hd, x, hx => by
    simp only [List.getElem?_cons_zero, Option.some.injEq] at hd
    subst hd
    simp only [DataW.weightsAll, List.mem_append]; exact .inl hx
  | d0 :: ds, i + 1, d, hd, x, hx => by
    simp only [List.getElem?_cons_succ] at hd
    simp only [DataW.weightsAll, List.mem_append]; exact .inr (weightsAll_mem hd x hx)
  | [], _, _, hd, _, _ => by simp at hd

theorem flatten_at {sz : Nat} : ∀ {css : List (List Value)} (_ : ∀ c ∈ css, c.length = sz) (i : Nat) (c : List Value), css[i]? = some c → (css.flatten.drop (i * sz)).take sz = c
  | c0 :: css, hl, 0, c, hc => by
    simp only [List.getElem?_cons_zero, Option.some.injEq] at hc
    subst hc
    have := hl c0 (by simp)
    simp [List.flatten_cons, ← this]
  | c0 :: css, hl, i + 1, c, hc => by
    simp only [List.getElem?_cons_succ] at hc
    have h0 := hl c0 (by simp)
    have ih := flatten_at (fun c hc => hl c (by simp [hc])) i c hc
    rw [List.flatten_cons, show (i + 1) * sz = c0.length + i * sz by rw [h0, Nat.succ_mul]; omega, ← List.drop_drop, List.drop_left]
    exact ih
  | [], _, _, _, hc => by simp at hc

theorem flatten_get {sz : Nat} : ∀ {css : List (List Value)} (_ : ∀ c ∈ css, c.length = sz) (j : Nat) (u : Value), css.flatten[j]? = some u → ∃ i c, css[i]? = some c ∧ c[j - i * sz]? = some u ∧ i * sz ≤ j
  | [], _, j, u, h => by simp at h
  | c0 :: css, hl, j, u, h => by
    have h0 := hl c0 (by simp)
    rw [List.flatten_cons, List.getElem?_append] at h
    split at h
    · exact ⟨0, c0, by simp, by simpa using h, by simp⟩
    · obtain ⟨i, c, h1, h2, h3⟩ := flatten_get (fun c hc => hl c (by simp [hc])) (j - c0.length) u h
      refine ⟨i + 1, c, by simpa using h1, ?_, by rw [Nat.succ_mul]; omega⟩
      rw [← h2]; congr 1; rw [Nat.succ_mul]; omega

/-- A slice that came in: its elements' cells, each reading as a datum. -/
theorem In.slice {t e : TypeId} {sz : Nat} {cs : List Value} (hu : P.underlying t = some (.slice e)) (hsz : P.cellsOf e = sz) (h : In enc P w t cs) :
    ∃ v n xs, cs = [v] ∧ Sl w sz v n xs ∧ n * P.bytesOf e ≤ reachBytes ∧ ∀ i, i < n → In enc P w e ((xs.drop (i * sz)).take sz) := by
  obtain ⟨fuel, d, ps, h, hw⟩ := h
  cases fuel with
  | zero => simp [DataW.trod] at h
  | succ fuel =>
    unfold DataW.trod at h
    rw [hu] at h
    split at h <;> try (simp_all; done)
    · exact ⟨_, 0, [], rfl, Sl.nil w sz, by simp, fun i hi => by omega⟩
    · rename_i e' a len cap heq
      simp only [Option.some.injEq, TypeDesc.slice.injEq] at heq
      subst heq
      simp only at h
      split at h
      · rename_i hc
        obtain ⟨_, hlc, hcm⟩ := hc
        cases hel : (List.range len).mapM (fun i => (w.cells? 0 (a.add (i * P.cellsOf e)) (P.cellsOf e)).bind (DataW.trod enc P w 0 (fun _ => true) true fuel e)) with
        | none => simp [hel] at h
        | some elems =>
          rw [hel] at h
          simp only [Option.bind_some, Option.map_eq_some_iff] at h
          obtain ⟨rest, hrest, h⟩ := h
          simp only [Prod.mk.injEq] at h
          obtain ⟨h, _⟩ := h
          subst h
          rw [hsz] at hel
          have hlen : elems.length = len := by simpa using mapM_len hel
          have hcells : ∀ i, i < len → ∃ c, w.cells? 0 (a.add (i * sz)) sz = some c ∧ ∃ b, DataW.trod enc P w 0 (fun _ => true) true fuel e c = some b ∧ elems[i]? = some b := by
            intro i hi
            obtain ⟨b, hb, hr⟩ := mapM_get hel i i (by simp [hi])
            cases hcc : w.cells? 0 (a.add (i * sz)) sz with
            | none => simp [hcc] at hb
            | some c => rw [hcc] at hb; exact ⟨c, rfl, b, hb, hr⟩
          have hex : ∃ css : List (List Value), css.length = len ∧ ∀ i c, css[i]? = some c → w.cells? 0 (a.add (i * sz)) sz = some c := by
            refine ⟨(List.range len).map (fun i => (w.cells? 0 (a.add (i * sz)) sz).getD []), by simp, fun i c hc => ?_⟩
            have hi : i < len := by
              rcases Nat.lt_or_ge i len with h | h
              · exact h
              · rw [List.getElem?_eq_none (by simpa using h)] at hc; cases hc
            obtain ⟨c', hc', _⟩ := hcells i hi
            simp [hi, hc'] at hc
            rw [hc', hc]
          obtain ⟨css, hcl, hcs⟩ := hex
          have hcsz : ∀ c ∈ css, c.length = sz := fun c hc => by
            obtain ⟨i, hi⟩ := List.mem_iff_getElem?.1 hc
            exact (cells_get (hcs i c hi)).1
          have hfl : ∀ (l : List (List Value)), (∀ c ∈ l, c.length = sz) → l.flatten.length = l.length * sz := by
            intro l
            induction l with
            | nil => intro _; simp
            | cons c l ih => intro h; rw [List.flatten_cons, List.length_append, ih (fun c hc => h c (by simp [hc])), h c (by simp), List.length_cons, Nat.succ_mul]; omega
          refine ⟨_, len, css.flatten, rfl, ⟨by rw [hfl css hcsz, hcl], some a, cap, rfl, hlc, hcm, (fun h => by cases h), fun a' ha j u hju => ?_⟩, ?_, fun i hi => ?_⟩
          · cases ha
            obtain ⟨i, c, h1, h2, h3⟩ := flatten_get hcsz j u hju
            have := (cells_get (hcs i c h1)).2 _ _ h2
            rw [add_add'] at this
            rwa [show i * sz + (j - i * sz) = j by omega] at this
          · have := hw ((elems.length + rest.length) * P.bytesOf e) (by simp [DataW.weights, hu])
            rw [hlen] at this
            exact Nat.le_trans (Nat.mul_le_mul_right _ (Nat.le_add_right _ _)) this
          · obtain ⟨c, hc, b, hb, hr⟩ := hcells i hi
            have hci : css[i]? = some c := by
              have hlt : i < css.length := by omega
              have h1 := hcs i css[i] (List.getElem?_eq_getElem hlt)
              rw [hc] at h1
              rw [List.getElem?_eq_getElem hlt]
              exact h1.symm
            rw [flatten_at hcsz i c hci]
            refine ⟨fuel, b.1, b.2, by simpa using hb, fun x hx => hw x ?_⟩
            simp only [DataW.weights, hu, List.mem_cons, List.mem_append]
            right; left
            exact weightsAll_mem (i := i) (d := b.1) (by simp [hr]) x hx
      · cases h

theorem In.struct {t : TypeId} {fs : Array Field} {cs : List Value} (hu : P.underlying t = some (.struct fs)) (h : In enc P w t cs) :
    cs.length = P.cellsOf t ∧ ∀ (i : Nat) (f : Field), fs[i]? = some f → In enc P w f.type ((cs.drop f.offset).take (P.cellsOf f.type)) := by
  obtain ⟨fuel, d, ps, h, hw⟩ := h
  cases fuel with
  | zero => simp [DataW.trod] at h
  | succ fuel =>
    unfold DataW.trod at h
    rw [hu] at h
    split at h <;> try (simp_all; done)
    rename_i fs' cs' heq
    simp only [Option.some.injEq, TypeDesc.struct.injEq] at heq
    subst heq
    split at h
    · rename_i hl
      simp only [Option.map_eq_some_iff] at h
      obtain ⟨xs, hxs, h⟩ := h
      simp only [Prod.mk.injEq] at h
      obtain ⟨h, _⟩ := h
      subst h
      refine ⟨hl, fun i f hf => ?_⟩
      obtain ⟨b, hb, hr⟩ := mapM_get hxs i f (by simpa using hf)
      refine ⟨fuel, b.1, b.2, by simpa using hb, fun x hx => hw x ?_⟩
      simp only [DataW.weights, hu]
      exact DataW.weights_mem_each (j := i) (t := f.type) (d := b.1) (by simp [hf]) (by simp [hr]) x hx
    · cases h

theorem In.array {t e : TypeId} {k : Nat} {cs : List Value} (hu : P.underlying t = some (.array k e)) (h : In enc P w t cs) :
    cs.length = P.cellsOf t ∧ ∀ i, i < k → In enc P w e ((cs.drop (i * P.cellsOf e)).take (P.cellsOf e)) := by
  obtain ⟨fuel, d, ps, h, hw⟩ := h
  cases fuel with
  | zero => simp [DataW.trod] at h
  | succ fuel =>
    unfold DataW.trod at h
    rw [hu] at h
    split at h <;> try (simp_all; done)
    rename_i n' e' cs' heq
    simp only [Option.some.injEq, TypeDesc.array.injEq] at heq
    obtain ⟨rfl, rfl⟩ := heq
    split at h
    · rename_i hl
      simp only [Option.map_eq_some_iff] at h
      obtain ⟨xs, hxs, h⟩ := h
      simp only [Prod.mk.injEq] at h
      obtain ⟨h, _⟩ := h
      subst h
      refine ⟨hl, fun i hi => ?_⟩
      obtain ⟨b, hb, hr⟩ := mapM_get hxs i i (by simp [hi])
      refine ⟨fuel, b.1, b.2, by simpa using hb, fun x hx => hw x ?_⟩
      simp only [DataW.weights, hu]
      exact weightsAll_mem (i := i) (d := b.1) (by simp [hr]) x hx
    · cases h

/-! ### The kinds of element that occur -/
theorem wf_u8 {m : Int} (h : (Lit.int .u8 m).wf = true) : Value.int .u8 m = b8 (BitVec.ofInt 8 m) := by
  simp [Lit.wf, IntKind.min, IntKind.max, IntKind.signed, IntKind.bits] at h
  have : ((BitVec.ofInt 8 m).toNat : Int) = m := by rw [BitVec.toNat_ofInt]; omega
  unfold b8; rw [this]
theorem wf_u16 {m : Int} (h : (Lit.int .u16 m).wf = true) : Value.int .u16 m = u16 (BitVec.ofInt 16 m) := by
  simp [Lit.wf, IntKind.min, IntKind.max, IntKind.signed, IntKind.bits] at h
  have : ((BitVec.ofInt 16 m).toNat : Int) = m := by rw [BitVec.toNat_ofInt]; omega
  unfold u16; rw [this]
theorem wf_u32 {m : Int} (h : (Lit.int .u32 m).wf = true) : Value.int .u32 m = u32 (BitVec.ofInt 32 m) := by
  simp [Lit.wf, IntKind.min, IntKind.max, IntKind.signed, IntKind.bits] at h
  have : ((BitVec.ofInt 32 m).toNat : Int) = m := by rw [BitVec.toNat_ofInt]; omega
  unfold u32; rw [this]
theorem wf_u64 {m : Int} (h : (Lit.int .u64 m).wf = true) : Value.int .u64 m = u64 (BitVec.ofInt 64 m) := by
  simp [Lit.wf, IntKind.min, IntKind.max, IntKind.signed, IntKind.bits] at h
  have : ((BitVec.ofInt 64 m).toNat : Int) = m := by rw [BitVec.toNat_ofInt]; omega
  unfold u64; rw [this]
theorem wf_i32 {m : Int} (h : (Lit.int .i32 m).wf = true) : Value.int .i32 m = i32 (BitVec.ofInt 32 m) := by
  simp [Lit.wf, IntKind.min, IntKind.max, IntKind.signed, IntKind.bits] at h
  have : (BitVec.ofInt 32 m).toInt = m := by rw [BitVec.toInt_ofInt, Int.bmod_def]; omega
  unfold i32; rw [this]
theorem wf_i64 {m : Int} (h : (Lit.int .i64 m).wf = true) : -9223372036854775808 ≤ m ∧ m ≤ 9223372036854775807 := by
  simp [Lit.wf, IntKind.min, IntKind.max, IntKind.signed, IntKind.bits] at h
  omega

theorem In.num {α : Type} {e : TypeId} {k : IntKind} (f : Int → α) (g : α → Value) (hf : ∀ m, (Lit.int k m).wf = true → Value.int k m = g (f m)) (hu : P.underlying e = some (.int k)) {cs : List Value} (h : In enc P w e cs) : ∃ a, cs = [g a] := by
  obtain ⟨m, rfl, hm⟩ := h.int hu
  exact ⟨f m, by rw [hf m hm]⟩

/-- A slice of elements of one cell, each of some kind. -/
theorem In.slT {α : Type} {t e : TypeId} {g : α → Value} {cs : List Value} (hu : P.underlying t = some (.slice e)) (hsz : P.cellsOf e = 1) (hg : ∀ cs, In enc P w e cs → ∃ a, cs = [g a]) (h : In enc P w t cs) :
    ∃ v l, cs = [v] ∧ SlT g w v l ∧ l.length * P.bytesOf e ≤ reachBytes := by
  obtain ⟨v, n, xs, rfl, hs, hb, hin⟩ := h.slice hu hsz
  have hall : ∀ i, i < n → ∃ a, xs[i]? = some (g a) := by
    intro i hi
    obtain ⟨a, ha⟩ := hg _ (hin i hi)
    refine ⟨a, ?_⟩
    have := congrArg (fun l => l[0]?) ha
    simpa [List.getElem?_take, List.getElem?_drop] using this
  have hlen : xs.length = n := by have := hs.len; omega
  have hex : ∀ (ys : List Value), (∀ i, i < ys.length → ∃ a, ys[i]? = some (g a)) → ∃ l : List α, ys = l.map g := by
    intro ys
    induction ys with
    | nil => intro _; exact ⟨[], rfl⟩
    | cons y ys ih =>
      intro h
      obtain ⟨a, ha⟩ := h 0 (by simp)
      obtain ⟨l, rfl⟩ := ih (fun i hi => by simpa using h (i + 1) (by simpa using hi))
      simp only [List.getElem?_cons_zero, Option.some.injEq] at ha
      exact ⟨a :: l, by simp [ha]⟩
  obtain ⟨l, rfl⟩ := hex xs (by rw [hlen]; exact hall)
  have hln : l.length = n := by simpa using hlen
  subst hln
  exact ⟨v, l, rfl, hs, hb⟩

/-- The arguments' openers speak of In. -/
theorem in_of {ts : List TypeId} {ds : List (DataW H)} {j : Nat} {t : TypeId} {v : Value} {d : DataW H} {ps : List MemPlace} (hz : (DataW.weightsEach P ts ds).all (· ≤ reachBytes) = true) (ht : ts[j]? = some t) (hd : ds[j]? = some d)
    (h : DataW.Trod enc P w 0 (fun _ => true) true t v d ps) : In enc P w t v.cells.toList := by
  obtain ⟨fuel, h⟩ := h
  exact ⟨fuel, d, ps, h, fun x hx => by simpa using List.all_eq_true.1 hz x (DataW.weights_mem_each ht hd x hx)⟩
theorem cells_one {v u : Value} (h : v.cells.toList = [u]) (hv : ∀ cs, v ≠ .agg cs) : v = u := by
  cases v <;> simp_all [Value.cells]

open Go.WideShapes in
theorem arg_int {base : Nat} {t : TypeId} {k : IntKind} {v : Value} (hu : P.underlying t = some (.int k)) (ho : Value.okWide P w .any base t v) (h : In enc P w t v.cells.toList) : ∃ m, v = .int k m ∧ (Lit.int k m).wf = true := by
  obtain ⟨m, rfl⟩ := okWide_int hu ho
  obtain ⟨m', he, hw⟩ := h.int hu
  simp [Value.cells] at he
  exact ⟨m, rfl, he ▸ hw⟩
theorem arg_num {α : Type} {base : Nat} {t : TypeId} {k : IntKind} {v : Value} (f : Int → α) (g : α → Value) (hf : ∀ m, (Lit.int k m).wf = true → Value.int k m = g (f m)) (hu : P.underlying t = some (.int k)) (ho : Value.okWide P w .any base t v) (h : In enc P w t v.cells.toList) : ∃ a, v = g a := by
  obtain ⟨m, rfl, hm⟩ := arg_int hu ho h
  exact ⟨f m, hf m hm⟩
open Go.WideShapes in
theorem arg_bool {base : Nat} {t : TypeId} {v : Value} (hu : P.underlying t = some .bool) (ho : Value.okWide P w .any base t v) : ∃ b, v = .bool b := okWide_bool hu ho
open Go.WideShapes in
theorem arg_slT {α : Type} {base : Nat} {t e : TypeId} {g : α → Value} {v : Value} (hu : P.underlying t = some (.slice e)) (hsz : P.cellsOf e = 1) (hg : ∀ cs, In enc P w e cs → ∃ a, cs = [g a]) (ho : Value.okWide P w .any base t v) (h : In enc P w t v.cells.toList) :
    ∃ l, SlT g w v l ∧ l.length * P.bytesOf e ≤ reachBytes := by
  obtain ⟨a, len, cap, rfl⟩ := okWide_slice hu ho
  obtain ⟨v, l, he, hs, hb⟩ := h.slT hu hsz hg
  simp [Value.cells] at he
  subst he
  exact ⟨l, hs, hb⟩
open Go.WideShapes in
theorem arg_struct {base : Nat} {t : TypeId} {fs : Array Field} {v : Value} (hu : P.underlying t = some (.struct fs)) (ho : Value.okWide P w .any base t v) (h : In enc P w t v.cells.toList) : ∃ cs : List Value, v = .agg cs.toArray ∧ In enc P w t cs := by
  obtain ⟨cs, rfl, _⟩ := okWide_struct hu ho
  exact ⟨cs.toList, by simp, by simpa [Value.cells] using h⟩
theorem arg_array {base k : Nat} {t e : TypeId} {v : Value} (hu : P.underlying t = some (.array k e)) (ho : Value.okWide P w .any base t v) (h : In enc P w t v.cells.toList) : ∃ cs : List Value, v = .agg cs.toArray ∧ In enc P w t cs := by
  simp only [Value.okWide, hu] at ho
  obtain ⟨cs, rfl, _⟩ := ho
  exact ⟨cs.toList, by simp, by simpa [Value.cells] using h⟩

/-- A law's walk, as the row wants it. -/
theorem law_calls {f : FuncId} {args : Array Value} (h : Fnc P f args.toList w (fun r w' => r = .bool true ∧ Below w.heap.size w w')) :
    Calls P f args w fun e w' => e = .returned (.bool true) ∧ Below w.heap.size w w' := by
  have := h.2
  rw [Array.toArray_toList] at this
  exact this.mono fun e w' ⟨v, he, hv, hb⟩ => ⟨by rw [he, hv], hb⟩
end
end Go.Dd
