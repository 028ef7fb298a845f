/- The step layer, part 14: a list of bytes as a string. Nothing here names a program. -/
import Derived.Test.YtiaojbbgjlpikaaByt
import Derived.Laws.IdiomStrings
import Derived.Laws.BytesArg
namespace Go.Dd
open Go Go.RowKit
def strB (l : List (BitVec 8)) : ByteArray := ⟨(l.map UInt8.ofBitVec).toArray⟩
section
variable {P : Program} {Q : Post} {n : Nat} {E : Env} {w : World} {l0 rest : List Oper} {ty : TypeId} {pos : String} {af : Array Edge}
variable {x y z : Operand} {v u : Value} {t s e t2 : TypeId} {l : List (BitVec 8)} {a b : ByteArray}
theorem Ex.strOf (hu : STy P t e 1) (he : P.underlying e = some (.int .u8)) (hd : P.underlying t2 = some .string) (hx : ev E x = some v) (hv : SlT b8 w v l) : Ex P n E (.convert t t2 x) ty w (.string (strB l)) := fun a ha _ _ _ _ => by
  obtain ⟨hl, ao, cap, rfl, h1, h2, h3, h4⟩ := hv
  have hrun : (convert t t2 (.slice ao l.length cap)).run P w = .ok (.string (strB l)) w := by
    cases ao with
    | none =>
      have hn : l = [] := by
        have := h3 rfl
        exact List.eq_nil_of_length_eq_zero (by omega)
      subst hn
      exact run_convert_bytes_nil w t e hu.u he _ _ t2 hd
    | some ad =>
      have := run_convert_bytes_back (P := P) w t t2 e ad cap (l.map UInt8.ofBitVec) hu.u he hd (fun j hj => by
        have hj' : j < l.length := by simpa using hj
        have := h4 ad rfl j (b8 l[j]) (by simp [hj'])
        rw [this]
        simp [b8])
      rwa [List.length_map] at this
  simp [execOp, ha.ev hx, hrun]
theorem eqGuard_string {op : BinOp} : eqGuard op t x y (.string a) u = pure () := by cases op <;> rfl
theorem Ex.eqlS (hx : ev E x = some (.string a)) (hy : ev E y = some (.string b)) : Ex P n E (.binOp .eql t x y s) ty w (.bool (decide (a = b))) := fun ac ha _ _ _ _ => by
  have h : (a.toList == b.toList) = decide (a = b) := by
    by_cases h : a = b
    · subst h; simp
    · simp [h, ByteArray.toList_eq]
      exact fun e => h (ByteArray.ext e)
  simp only [execOp, ha.ev hx, ha.ev hy, eqGuard_string]
  simp [binOp_string_eql, h]
end
end Go.Dd
