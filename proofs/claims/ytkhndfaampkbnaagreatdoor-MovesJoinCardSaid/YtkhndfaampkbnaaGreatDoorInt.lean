/- The step layer, part 8: small integers, shifts. Nothing here names a program. -/
import Derived.Test.YtkhndfaampkbnaaGreatDoorOwn
namespace Go.Dd
open Go Go.RowKit

/-! ### Small integers -/
section
variable {P : Program} {n : Nat} {E : Env} {w : World} {ty t s : TypeId} {x y : Operand}
theorem Ex.rem8 {p : BitVec 8} {c : Nat} (hx : ev E x = some (b8 p)) (hy : ev E y = some (.int .u8 (c : Int))) (hc : 0 < c) : Ex P n E (.binOp .rem t x y s) ty w (.int .u8 ((p.toNat % c : Nat) : Int)) := Ex.bin hx hy (by
  have h2 : ((p.toNat : Int)).tmod (c : Int) = ((p.toNat % c : Nat) : Int) := by
    rw [Int.tmod_eq_emod_of_nonneg (Int.natCast_nonneg _), Int.natCast_emod]
  have h4 : ¬ c = 0 := by omega
  simp only [go_sem, Op.intDiv]
  simp [h2, h4])
theorem ofInt_mul_pow (z : Int) (j : Nat) : BitVec.ofInt 32 (z * 2 ^ j) = BitVec.ofInt 32 z <<< j := by
  rw [BitVec.ofInt_mul, BitVec.shiftLeft_eq_mul_twoPow]
  congr 1
  apply BitVec.eq_of_toNat_eq
  rw [BitVec.toNat_twoPow, BitVec.toNat_ofInt]
  have : (2 : Int) ^ j % ((2 ^ 32 : Nat) : Int) = ((2 ^ j % 2 ^ 32 : Nat) : Int) := by simp
  rw [this, Int.toNat_natCast]
theorem Ex.shli32 {yk : IntKind} {p : BitVec 32} {j : Nat} (hx : ev E x = some (i32 p)) (hy : ev E y = some (.int yk (j : Int))) (hj : j ≤ 32) : Ex P n E (.binOp .shl t x y s) ty w (i32 (p <<< j)) := Ex.bin hx hy (by
  have h0 : ¬ (j : Int) < 0 := by omega
  have h1 : min (Int.toNat (j : Int)) IntKind.i32.bits = j := by simp [IntKind.bits]; omega
  have h2 : IntKind.i32.wrap (p.toInt * 2 ^ j) = (p <<< j).toInt := by rw [wrap_i32_bv, ofInt_mul_pow, ofInt_toInt]
  simp only [binOp_shl, Op.shift, h0, if_false, h1, h2, i32]; rfl)
/-- What eight bits with a sign hold of a number. -/
def low8 (p : BitVec 32) : BitVec 32 := BitVec.ofInt 32 (IntKind.i8.wrap p.toInt)
theorem low8_in (p : BitVec 32) : -128 ≤ (low8 p).toInt ∧ (low8 p).toInt ≤ 127 := by
  have h : -128 ≤ IntKind.i8.wrap p.toInt ∧ IntKind.i8.wrap p.toInt ≤ 127 := by
    simp only [IntKind.wrap, IntKind.bits, IntKind.signed]
    simp
    omega
  unfold low8
  rw [BitVec.toInt_ofInt, Int.bmod_def]
  omega
theorem Ex.toi8 {p : BitVec 32} (hs : (P.underlying s).isSome = true) (hd : P.underlying t = some (.int .i8)) (hx : ev E x = some (i32 p)) : Ex P n E (.convert s t x) ty w (.int .i8 (IntKind.i8.wrap p.toInt)) := Ex.convI hs hd hx
theorem Ex.ofi8 {m : Int} {p : BitVec 32} (hs : (P.underlying s).isSome = true) (hd : P.underlying t = some (.int .i32)) (hx : ev E x = some (.int .i8 m)) (hm : m = IntKind.i8.wrap p.toInt) : Ex P n E (.convert s t x) ty w (i32 (low8 p)) := by
  have := Ex.convi32 (P := P) (n := n) (w := w) (ty := ty) hs hd hx
  subst hm
  exact this
end
end Go.Dd
