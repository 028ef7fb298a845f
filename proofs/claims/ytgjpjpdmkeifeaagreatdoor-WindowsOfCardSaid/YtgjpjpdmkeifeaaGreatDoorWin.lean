/- Plain law: windows that slide over a picture; the greatest of squares. Nothing here names a program. -/
import Derived.Test.YtgjpjpdmkeifeaaGreatDoorSum
import Derived.Test.YtgjpjpdmkeifeaaGreatDoorShp
import Derived.Test.YtgjpjpdmkeifeaaGreatDoorOps
namespace Go.Dd
open Go Go.RowKit

/-- A picture's number; 0 beyond it. -/
def pic (l : List (BitVec 32)) (rows wide c y x : Int) : BitVec 32 := if y < 0 ∨ rows ≤ y ∨ x < 0 ∨ wide ≤ x then 0#32 else l.getD ((c * rows + y) * wide + x).toNat default

/-- How many places there are. -/
def slid (rows look step : Int) : Int := if rows < look then 0 else (rows - look) / step + 1
def wshS (t w : List Int) (step pad : Int) : List Int := [w.getD 0 default, slid (t.getD 1 default + 2 * pad) (w.getD 2 default) step, slid (t.getD 2 default + 2 * pad) (w.getD 3 default) step]
def wshA (t w : List Int) (step pad : Int) : Bool := !Shapes.ok t || !Shapes.ok w || decide (step < 1) || decide (8 < step) || decide (pad < 0) || decide (8 < pad)
def wshB (t w : List Int) : Bool := decide (t.length = 3) && decide (w.length = 4) && decide (t.getD 0 default = w.getD 1 default)
def wshE (t w : List Int) (step pad : Int) : Int := if wshA t w step pad then 1 else if wshB t w && Shapes.ok (wshS t w step pad) then 0 else 10
def pshS (t : List Int) (wide : Int) : List Int := [t.getD 0 default, slid (t.getD 1 default) wide wide, slid (t.getD 2 default) wide wide]
def pshA (t : List Int) (wide : Int) : Bool := !Shapes.ok t || decide (wide < 1) || decide (64 < wide)
def pshB (t : List Int) (wide : Int) : Bool := decide (t.length = 3) && decide (wide ≤ t.getD 1 default) && decide (wide ≤ t.getD 2 default)
def poolE (t : List Int) (wide : Int) : Int := if pshA t wide then 1 else if pshB t wide then 0 else 10
theorem good_at {s : List Int} (h : Shapes.good s) {k : Nat} (hk : k < s.length) : 1 ≤ s.getD k default ∧ s.getD k default ≤ 64 := by
  have : s.getD k default ∈ s := by simp [hk]
  exact h _ this
/-- Spot number i of a shape of three directions. -/
def spc (s : List Int) (i : Int) : Int := i / (s.getD 1 default * s.getD 2 default)
def spy (s : List Int) (i : Int) : Int := i / s.getD 2 default % s.getD 1 default
def spx (s : List Int) (i : Int) : Int := i % s.getD 2 default
def spotV (s : List Int) (i : Nat) : Value := .agg #[.int .i64 (spc s i), .int .i64 (spy s i), .int .i64 (spx s i)]
/-- The number at a place: the sum over one window. -/
def winT (tl wl : List (BitVec 32)) (t s ws : List Int) (one : Nat) (step pad : Int) (i j : Nat) : BitVec 32 :=
  pic tl (t.getD 1 default) (t.getD 2 default) (spc ws j) (spy s i * step - pad + spy ws j) (spx s i * step - pad + spx ws j) * wl.getD ((spc s i).toNat * one + j) default
def winS (tl wl : List (BitVec 32)) (t s ws : List Int) (one : Nat) (step pad : Int) (i : Nat) (n : Nat) : BitVec 32 := sm n fun j => winT tl wl t s ws one step pad i j
theorem range_pre {N : Nat} {pre : List Nat} {x : Nat} (h : pre ++ [x] <+: List.range N) : x = pre.length ∧ pre.length < N ∧ pre = List.range pre.length := by
  have hl := h.length_le
  rw [List.length_append, List.length_singleton, List.length_range] at hl
  have h1 : (List.range N).take (pre ++ [x]).length = pre ++ [x] := (List.prefix_iff_eq_take.1 h).symm
  rw [List.length_append, List.length_singleton, List.take_range, Nat.min_eq_left hl, List.range_succ] at h1
  have h2 := List.append_inj' h1 rfl
  exact ⟨by simpa using h2.2.symm, hl, h2.1.symm⟩
theorem pre_range {i N : Nat} (h : i < N) : List.range i ++ [i] <+: List.range N := by
  rw [← List.range_succ]
  exact List.prefix_iff_eq_take.2 (by rw [List.length_range, List.take_range, Nat.min_eq_left h])
theorem spc_in {s : List Int} {i : Int} (hok : Shapes.ok s = true) (hl : s.length = 3) (h : 0 ≤ i ∧ i < Shapes.size s) : 0 ≤ spc s i ∧ spc s i < s.getD 0 default := by
  have hS := (Shapes.ok_iff s).1 hok
  have s0 := good_at hS.2.1 (k := 0) (by omega)
  have s1 := good_at hS.2.1 (k := 1) (by omega)
  have s2 := good_at hS.2.1 (k := 2) (by omega)
  have e : Shapes.size s = s.getD 0 default * (s.getD 1 default * s.getD 2 default) := by
    rw [Shapes.size_ok hok]
    match s, hl with
    | [a, b, c], _ => simp [Shapes.prod]
  have q1 : 1 * 1 ≤ s.getD 1 default * s.getD 2 default := Int.mul_le_mul s1.1 s2.1 (by decide) (by omega)
  rw [e] at h
  unfold spc
  exact ⟨Int.ediv_nonneg h.1 (by omega), Int.ediv_lt_of_lt_mul (by omega) h.2⟩
end Go.Dd
