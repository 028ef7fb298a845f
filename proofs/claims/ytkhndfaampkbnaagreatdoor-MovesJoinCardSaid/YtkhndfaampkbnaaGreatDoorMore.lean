/- The step layer, part 6: struct values, elements of several cells, nil slices, clips. Nothing here names a program. -/
import Derived.Test.YtkhndfaampkbnaaGreatDoorReg
import Derived.Laws.Tables
namespace Go.Dd
open Go Go.RowKit

section
variable {P : Program} {n : Nat} {E : Env} {w : World} {ty t e : TypeId} {x y z : Operand} {v u : Value} {sz : Nat}

/-- The parts of a struct's value. -/
def pev (E : Env) : List (Nat × Operand) → Option (List (Nat × Value))
  | [] => some []
  | (i, x) :: l => match ev E x, pev E l with
    | some v, some vs => some ((i, v) :: vs)
    | _, _ => none
theorem Fits.pev {a : Act} (h : Fits n E a) : ∀ {l : List (Nat × Operand)} {vs : List (Nat × Value)}, pev E l = some vs → l.map (fun p => (p.1, a.eval p.2)) = vs
  | [], vs, hp => by simp only [Dd.pev, Option.some.injEq] at hp; subst hp; rfl
  | (i, x) :: l, vs, hp => by
    simp only [Dd.pev] at hp
    split at hp
    · rename_i v vs' h1 h2
      simp only [Option.some.injEq] at hp
      subst hp
      rw [List.map_cons, h.pev h2, h.ev h1]
    · cases hp
theorem Ex.build {ps : List (Nat × Operand)} {vs : List (Nat × Value)} {cs : List Value} (hp : pev E ps = some vs) (h : P.built t vs = some cs.toArray) : Ex P n E (.build t ps.toArray) ty w (.agg cs.toArray) := fun a ha _ _ _ _ => by
  have hmap : ps.toArray.map (fun (i, x) => (i, a.eval x)) = vs.toArray := by rw [List.map_toArray, ← ha.pev hp]
  have hr := run_build (P := P) w t vs.toArray cs.toArray (by simpa using h)
  simp only [execOp, hmap, Sem.run_bind, hr, Result.andThen_ok]
  rfl

/-- A literal of elements of several cells. -/
theorem Xw.litA {ps : List (Nat × Operand)} {vs : List (Nat × Value)} {cs zs : List Value} {bytes k : Nat} (hu : STy P t e sz) (hi : ITy P e zs bytes) (hp : pev E ps = some vs) (hsz : 0 < sz) (hk : 0 < k) (hsm : k * sz ≤ 16777216)
    (hf : Instr.fill (fun i => some (i * sz, sz)) ((Array.range (k * sz)).map (zs.toArray[· % zs.toArray.size]!)) vs = some cs.toArray) (hcs : cs.length = k * sz) :
    Xw P n E (.buildSlice t k ps.toArray) ty w (fun v w' => w'.ownsRow w.heap.size e sz v k cs ∧ v = .slice (some ⟨w.heap.size, 0, none⟩) k k ∧ Below w.heap.size w w' ∧ w'.heap.size = w.heap.size + 1) := fun a ha => by
  obtain ⟨i, h1, h2, h3, zv, h4, h5⟩ := hi.i
  have hmap : ps.toArray.map (fun (i, x) => (i, a.eval x)) = vs.toArray := by rw [List.map_toArray, ← ha.pev hp]
  have hsm' : ¬ (k * sz > 2 ^ 24) := by omega
  have hkle : k * 1 ≤ k * sz := Nat.mul_le_mul_left k hsz
  have hz : (zeroValue e).run P w = .ok zv w := by simp [zeroValue, typeInfo, h1, h4]
  have hne : ¬ (k * sz = 0) := by omega
  refine ⟨.slice (some ⟨w.heap.size, 0, none⟩) k k, w.alloc (.cells cs.toArray e), fun _ _ _ _ => ?_, ⟨hcs, .inr ⟨w.heap.size, k, cs.toArray, rfl, Nat.le_refl _, heap_alloc_new w _, Nat.le_refl _, by unfold maxLen; omega, by simpa using hcs, ?_⟩⟩, rfl, below_new w _, by simp⟩
  · simp only [execOp, Instr.buildSlice, Sem.run_bind, run_underlying hu.u, Result.andThen_ok, hu.s w, Sem.run_ite, if_neg hsm', Sem.run_pure, hmap, if_neg hne, hz, h5, hf]
    simp [newRow]
  · rw [List.take_of_length_le (by simp [hcs])]

/-- Is a slice nil? -/
theorem run_equalIn_slice (d : Nat) (ao : Option Addr) (c cap : Nat) (ht : P.underlying t = some (.slice e)) : (Op.equalIn (d + 1) t (.slice ao c cap) (.slice none 0 0)).run P w = .ok ao.isNone w := by
  cases ao <;> simp [Op.equalIn, run_underlying ht]
theorem Ex.nilS {t1 t2 : TypeId} {ao : Option Addr} {c cap : Nat} (ht : P.underlying t1 = some (.slice e)) (hx : ev E x = some (.slice ao c cap)) (hy : ev E y = some (.slice none 0 0)) : Ex P n E (.binOp .eql t1 x y t2) ty w (.bool ao.isNone) := fun a ha _ _ _ _ => by
  have hg : eqGuard .eql t1 x y (.slice ao c cap) (.slice none 0 0) = pure () := rfl
  have hb : binOp .eql t1 (.slice ao c cap) (.slice none 0 0) = (do pure (.bool (← Op.equal t1 (.slice ao c cap) (.slice none 0 0)))) := rfl
  have hr := run_equalIn_slice (P := P) (w := w) 9999 ao c cap ht
  simp [execOp, ha.ev hx, ha.ev hy, hg, hb, Op.equal, Op.maxDepth, hr]

/-- The slice value that 'x[:len(x):len(x)]' makes. -/
def clip (v : Value) : Value := match v with
  | .slice ao k _ => .slice ao k k
  | _ => undef
theorem Sl.clip {c : Nat} {xs : List Value} (h : Sl w sz v c xs) : Sl w sz (clip v) c xs := by
  obtain ⟨hl, ao, cap, rfl, h1, h2, h3, h4⟩ := h
  exact ⟨hl, ao, c, rfl, Nat.le_refl _, by omega, fun hn => by have := h3 hn; omega, h4⟩
theorem clip_block (v : Value) (h : ∃ ao k c, v = .slice ao k c) : (clip v).ownBlock = v.ownBlock := by
  obtain ⟨ao, k, c, rfl⟩ := h
  cases ao <;> rfl
theorem Ex.clip {c : Nat} {y2 : Operand} {k1 k2 : IntKind} (hu : STy P t e sz) (hx : ev E x = some v) (hy : ev E y = some (.int k1 (c : Int))) (hz : ev E y2 = some (.int k2 (c : Int))) (h : Shp v c) : Ex P n E (.slice t x none (some y) (some y2)) ty w (clip v) := fun a ha _ _ _ _ => by
  obtain ⟨ao, cap, rfl, h1, h2, h3⟩ := h
  have hue : P.underlying t = some (.slice (P.elem t)) := by rw [Program.elem, hu.u]
  have he : P.elem t = e := by rw [Program.elem, hu.u]
  have hr := run_slice_hm (P := P) w t ao c cap hue k1 k2 (c : Int) (c : Int) (by omega) (by omega) (by omega)
  simp only [Int.toNat_natCast, he, hu.s w, Result.andThen_ok] at hr
  have e0 : (if c = 0 then ao else ao.map (·.add (0 * sz))) = ao := by
    split
    · rfl
    · cases ao <;> simp [Addr.add]
  simp [execOp, ha.ev hx, ha.ev hy, ha.ev hz, Instr.sliceAt, run_underlying hu.u, hr, sliced, Dd.clip]
  cases ao <;> simp [Addr.add]

theorem Ex.ldE {c k o : Nat} {xs cs : List Value} (hag : (isAgg e).run P w = .ok true w) (hs : (sizeOf e).run P w = .ok k w) (hx : ev E x = some (elemPtr v o)) (h : Sl w sz v c xs) (hk : cs.length = k) (hk0 : 0 < k) (hcs : ∀ i, i < k → ∃ q, cs[i]? = some q ∧ xs[o + i]? = some q) : Ex P n E (.load e x) ty w (.agg cs.toArray) := fun a ha _ _ _ _ => by
  subst hk
  obtain ⟨_, ao, cap, rfl, h1, h2, h3, h4⟩ := h
  cases ao with
  | none =>
    have := h3 rfl
    obtain ⟨q, _, h6⟩ := hcs 0 hk0
    have hlt := (List.getElem?_eq_some_iff.1 h6).1
    have : xs.length = 0 := by subst this; obtain rfl : c = 0 := by omega
                               simp_all
    omega
  | some ad =>
    have hl := run_loadCells_list (P := P) w (ad.add o) cs (fun j u hu => by
      have hj : j < cs.length := (List.getElem?_eq_some_iff.1 hu).1
      obtain ⟨q, h5, h6⟩ := hcs j hj
      rw [h5] at hu
      cases hu
      rw [add_add']
      exact h4 ad rfl _ _ h6)
    simp [execOp, ha.ev hx, elemPtr, Instr.loadAt, Instr.sureAddr, loadVar, hag, hs, hl]

/-- A part of a block, of several cells. -/
theorem Ex.ldAO {b o k : Nat} {T : TypeId} {cs ds : List Value} (hag : (isAgg e).run P w = .ok true w) (hs : (sizeOf e).run P w = .ok k w) (hx : ev E x = some (.pointer (some ⟨b, o, none⟩))) (h : Blk w b T cs) (hk : ds.length = k) (hcs : ∀ i, i < k → ∃ q, ds[i]? = some q ∧ cs[o + i]? = some q) : Ex P n E (.load e x) ty w (.agg ds.toArray) := fun a ha _ _ _ _ => by
  subst hk
  have hl := run_loadCells_list (P := P) w ⟨b, o, none⟩ ds (fun j u hu => by
    have hj : j < ds.length := (List.getElem?_eq_some_iff.1 hu).1
    obtain ⟨q, h5, h6⟩ := hcs j hj
    rw [h5] at hu
    cases hu
    rw [add_lit, h.cell]
    exact h6)
  simp [execOp, ha.ev hx, Instr.loadAt, Instr.sureAddr, loadVar, hag, hs, hl]

theorem Ex.fieldAddrE {o f q : Nat} {fs : Array Field} {fd : Field} (hu : P.underlying t = some (.struct fs)) (hf : fs[f]? = some fd) (hq : (sizeOf fd.type).run P w = .ok (q + 1) w) (hx : ev E x = some (elemPtr v o)) (hv : ∃ ad c k, v = .slice (some ad) c k) :
    Ex P n E (.fieldAddr t x f) ty w (elemPtr v (o + fd.offset)) := fun a ha _ _ _ _ => by
  obtain ⟨ad, c, k, rfl⟩ := hv
  simp [execOp, ha.ev hx, elemPtr, Instr.fieldAt, Instr.sureAddr, fieldPlace, run_underlying hu, hf, hq, add_add']

theorem results_cellT {fn : Func} {p q : Tmp} {t0 : TypeId} (h : fn.results = #[.cell p t0, .tmp q]) (tmps : Array Value) (w : World) (g : Nat) (t1 : TypeId) (cs : Array Value) (fr : Nat × Nat) (d : TypeDesc)
    (hp : tmps.getD p undef = .pointer (some ⟨g, 0, none⟩)) (hg : w.heap[g]? = some (.cells cs t1 fr))
    (hu : P.underlying t0 = some d) (hd : (match d with | .struct _ | .array _ _ => true | _ => false) = true) (hi : (P.info? t0).map (·.size) = some cs.size) :
    (results fn tmps).run P w = .ok (.tuple #[.agg cs, tmps.getD q undef]) w := by
  have hp' : tmps[p]?.getD undef = .pointer (some ⟨g, 0, none⟩) := by simpa using hp
  simp [results, h, hp', asAddr, run_loadVar_row w g t1 t0 cs fr d hg hu hd hi]
theorem Pw.retCT {fn : Func} {R : Value → World → Prop} {p q b k : Nat} {T : TypeId} {cs : List Value} {d : TypeDesc} (hr : fn.results = #[.cell p e, .tmp q]) (hp : get E p = some (.pointer (some ⟨b, 0, none⟩))) (hq : get E q = some u) (hb : Blk w b T cs)
    (hu : P.underlying e = some d) (hd : (match d with | .struct _ | .array _ _ => true | _ => false) = true) (hi : (P.info? e).map (·.size) = some k) (hk : cs.length = k) (h : R (.tuple #[.agg cs.toArray, u]) w) : Pw n E (Ret P fn R .ret) w := fun a ha => by
  subst hk
  have := results_cellT hr a.tmps w b T cs.toArray (0, 0) d (by simp [Array.getD_eq_getD_getElem?, ha.has _ _ hp]) hb hu hd (by simpa using hi)
  rw [show a.tmps.getD q undef = u by simp [Array.getD_eq_getD_getElem?, ha.has _ _ hq]] at this
  exact bodyPost_ret this ha.dfr ⟨_, rfl, h⟩

/-! ### Code that comes to its end, with a frame that is told -/
def Mid (n : Nat) (F : Env) (I : World → Prop) : Post := fun x a w => x = .normal ∧ Fits n F a ∧ I w
theorem Cw.mid {c : Code} {F : Env} {I : World → Prop} {K : Act → World → Prop} {Q : Post} (h : Cw P (Mid n F I) n c E w) (k : ∀ w', I w' → Pw n F K w') : Cw P (Then K Q) n c E w := fun a ha =>
  Code.wp_mono (fun x a' w' hm => by
    obtain ⟨rfl, hf, hi⟩ := hm
    exact k w' hi a' hf) (h a ha)
theorem Pw.mid {F : Env} {I : World → Prop} (hs : Sub E F) (hi : I w) : Pw n E (Mid n F I .normal) w := fun _ ha => ⟨rfl, ha.sub hs, hi⟩
end
end Go.Dd
