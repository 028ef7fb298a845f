/- The step layer, part 15: three results; strings that differ. Nothing here names a program. -/
import Derived.Test.YtiaojbbgjlpikaaStr
import Derived.Test.YtiaojbbgjlpikaaMore
import Derived.OwnWalk
namespace Go.Dd
open Go Go.RowKit
section
variable {P : Program} {Q : Post} {n : Nat} {E : Env} {w : World} {ty t s e : TypeId} {x y : Operand} {a b : ByteArray} {u v z : Value}
theorem Pw.ret3 {fn : Func} {R : Value → World → Prop} {p q r : Nat} (hr : fn.results = #[.tmp p, .tmp q, .tmp r]) (hp : get E p = some u) (hq : get E q = some v) (hz : get E r = some z) (h : R (.tuple #[u, v, z]) w) : Pw n E (Ret P fn R .ret) w := fun a ha =>
  bodyPost_ret (v := .tuple #[u, v, z]) (by rw [results_tmp3 hr]; simp [Array.getD_eq_getD_getElem?, ha.has _ _ hp, ha.has _ _ hq, ha.has _ _ hz]) ha.dfr ⟨_, rfl, h⟩
theorem results_cellTT {fn : Func} {p q r : Tmp} {t0 : TypeId} (h : fn.results = #[.cell p t0, .tmp q, .tmp r]) (tmps : Array Value) (w : World) (g : Nat) (t1 : TypeId) (cs : Array Value) (fr : Nat × Nat) (d : TypeDesc)
    (hp : tmps.getD p undef = .pointer (some ⟨g, 0, none⟩)) (hg : w.heap[g]? = some (.cells cs t1 fr))
    (hu : P.underlying t0 = some d) (hd : (match d with | .struct _ | .array _ _ => true | _ => false) = true) (hi : (P.info? t0).map (·.size) = some cs.size) :
    (results fn tmps).run P w = .ok (.tuple #[.agg cs, tmps.getD q undef, tmps.getD r undef]) w := by
  have hp' : tmps[p]?.getD undef = .pointer (some ⟨g, 0, none⟩) := by simpa using hp
  simp [results, h, hp', asAddr, run_loadVar_row w g t1 t0 cs fr d hg hu hd hi]
theorem Pw.retCTT {fn : Func} {R : Value → World → Prop} {p q r b k : Nat} {T : TypeId} {cs : List Value} {d : TypeDesc} (hr : fn.results = #[.cell p e, .tmp q, .tmp r]) (hp : get E p = some (.pointer (some ⟨b, 0, none⟩))) (hq : get E q = some u) (hz : get E r = some v) (hb : Blk w b T cs)
    (hu : P.underlying e = some d) (hd : (match d with | .struct _ | .array _ _ => true | _ => false) = true) (hi : (P.info? e).map (·.size) = some k) (hk : cs.length = k) (h : R (.tuple #[.agg cs.toArray, u, v]) w) : Pw n E (Ret P fn R .ret) w := fun a ha => by
  subst hk
  have := results_cellTT hr a.tmps w b T cs.toArray (0, 0) d (by simp [Array.getD_eq_getD_getElem?, ha.has _ _ hp]) hb hu hd (by simpa using hi)
  rw [show a.tmps.getD q undef = u by simp [Array.getD_eq_getD_getElem?, ha.has _ _ hq], show a.tmps.getD r undef = v by simp [Array.getD_eq_getD_getElem?, ha.has _ _ hz]] at this
  exact bodyPost_ret this ha.dfr ⟨_, rfl, h⟩
theorem Ex.neqS (hx : ev E x = some (.string a)) (hy : ev E y = some (.string b)) : Ex P n E (.binOp .neq t x y s) ty w (.bool (!decide (a = b))) := fun ac ha _ _ _ _ => by
  have h : (a.toList == b.toList) = decide (a = b) := by
    by_cases h : a = b
    · subst h; simp
    · simp [h, ByteArray.toList_eq]
      exact fun e => h (ByteArray.ext e)
  simp only [execOp, ha.ev hx, ha.ev hy, eqGuard_string]
  simp [binOp_string_neq, h]
theorem strB_inj {l m : List (BitVec 8)} (h : strB l = strB m) : l = m := by
  have h1 : (l.map UInt8.ofBitVec).toArray = (m.map UInt8.ofBitVec).toArray := by
    simpa [strB] using h
  have h2 := congrArg Array.toList h1
  simp only at h2
  have h3 := congrArg (List.map UInt8.toBitVec) h2
  simpa [Function.comp_def] using h3
/-- Cells read the same when a row is marked. -/
theorem cell_freeze (w : World) (a : Addr) (m : Nat) (b : Addr) : (w.freeze a m).cell? b = w.cell? b := by
  unfold World.freeze
  split
  · rfl
  · by_cases h : a.block = b.block
    · simp only [World.cell?, Array.getElem?_modify, if_pos h]
      cases w.heap[b.block]? with
      | none => rfl
      | some o => cases o <;> rfl
    · simp only [World.cell?, Array.getElem?_modify, if_neg h]
theorem grown_freeze (w : World) (a : Addr) (m : Nat) : w.grownBy (w.freeze a m) (some a.block) ∧ (w.freeze a m).heap.size = w.heap.size := by
  unfold World.freeze
  split
  · exact ⟨⟨rfl, rfl, rfl, Nat.le_refl _, fun _ _ _ => rfl⟩, rfl⟩
  · refine ⟨⟨rfl, rfl, rfl, by simp, fun k hk hne => ?_⟩, by simp⟩
    have : a.block ≠ k := fun e => hne (by rw [e])
    simp [Array.getElem?_modify, this]
/-- A list of bytes as one: what a conversion of a text's letters is. -/
theorem Xw.convS {g c k : Nat} {T : TypeId} {xs cs : List Value} (hu : P.underlying t = some (.slice e)) (he : P.underlying e = some (.int .u8)) (hx : ev E x = some (.slice (some ⟨g, 0, none⟩) k c)) (hb : Blk w g T cs) (hs : Sl w 1 (.slice (some ⟨g, 0, none⟩) k c) k xs) :
    Xw P n E (.convert t t x) ty w (fun v w' => v = .slice (some ⟨g, 0, none⟩) k c ∧ Sl w' 1 v k xs ∧ w.grownBy w' (some g) ∧ w'.heap.size = w.heap.size) := fun ac ha => by
  have hsh : w.shape? g = some (T, cs.length) := by simp [World.shape?, show w.heap[g]? = _ from hb]
  obtain ⟨g1, g2⟩ := grown_freeze w ⟨g, cs.length, none⟩ 1
  refine ⟨.slice (some ⟨g, 0, none⟩) k c, w.freeze ⟨g, cs.length, none⟩ 1, fun _ _ _ _ => ?_, rfl, ?_, g1, g2⟩
  · simp [execOp, ha.ev hx, convert, run_underlying hu, run_underlying he, markStringish, hsh]
  · obtain ⟨h1, ao, cap, hv, h2, h3, h4, h5⟩ := hs
    refine ⟨h1, ao, cap, hv, h2, h3, h4, fun a ha' j u hu' => ?_⟩
    rw [cell_freeze]
    exact h5 a ha' j u hu'
end
end Go.Dd
