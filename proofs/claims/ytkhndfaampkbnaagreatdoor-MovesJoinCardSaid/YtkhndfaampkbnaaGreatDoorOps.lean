/- The step layer, part 2: rules for one operation each. Nothing here names a program. -/
import Derived.Test.YtkhndfaampkbnaaGreatDoorBase
namespace Go.Dd
open Go Go.RowKit

abbrev b8 (x : BitVec 8) : Value := .int .u8 (x.toNat : Int)
abbrev u16 (x : BitVec 16) : Value := .int .u16 (x.toNat : Int)
abbrev u32 (x : BitVec 32) : Value := .int .u32 (x.toNat : Int)
abbrev u64 (x : BitVec 64) : Value := .int .u64 (x.toNat : Int)
abbrev i32 (x : BitVec 32) : Value := .int .i32 x.toInt

/-- The operation yields v and leaves the world alone. -/
def Ex (P : Program) (n : Nat) (E : Env) (op : Op) (ty : TypeId) (w : World) (v : Value) : Prop :=
  ∀ a, Fits n E a → ∀ d pos af g, (execOp a.eval ⟨d, op, ty, pos, af, g⟩).run P w = .ok (.value v) w
/-- The operation yields a value and a world of that kind. -/
def Xw (P : Program) (n : Nat) (E : Env) (op : Op) (ty : TypeId) (w : World) (R : Value → World → Prop) : Prop :=
  ∀ a, Fits n E a → ∃ v w', (∀ d pos af g, (execOp a.eval ⟨d, op, ty, pos, af, g⟩).run P w = .ok (.value v) w') ∧ R v w'
/-- The operation yields nothing, and a world of that kind. -/
def Xu (P : Program) (n : Nat) (E : Env) (op : Op) (ty : TypeId) (w : World) (R : World → Prop) : Prop :=
  ∀ a, Fits n E a → ∃ w', (∀ d pos af g, (execOp a.eval ⟨d, op, ty, pos, af, g⟩).run P w = .ok .skip w') ∧ R w'
/-- The operation calls that function. -/
def Xc (P : Program) (n : Nat) (E : Env) (op : Op) (ty : TypeId) (w : World) (f : FuncId) (args : List Value) : Prop :=
  ∀ a, Fits n E a → ∀ d pos af g, (execOp a.eval ⟨d, op, ty, pos, af, g⟩).run P w = .ok (.enter f args.toArray) w

def nth : List Oper → Nat → Option Oper
  | [], _ => none
  | o :: _, 0 => some o
  | _ :: l, k + 1 => nth l k

theorem nth_eq : ∀ (l : List Oper) (k : Nat), l[k]? = nth l k
  | [], _ => by simp [nth]
  | _ :: _, 0 => by simp [nth]
  | _ :: l, k + 1 => by simpa [nth] using nth_eq l k

section
variable {P : Program} {Q : Post} {n : Nat} {E : Env} {w : World} {l0 rest : List Oper} {ty : TypeId} {pos : String} {af : Array Edge}

theorem Lw.val {d : Nat} {op : Op} {v : Value} (h : Ex P n E op ty w v) (hd : Nat.blt d n = true) (k : Lw P l0 Q n rest ((d, v) :: E) w) : Lw P l0 Q n (⟨some d, op, ty, pos, af, none⟩ :: rest) E w :=
  fun a ha => wpList_plain rfl fun K hK => by
    unfold Oper.wp; rw [h a ha]; exact hK _ _ (k _ (ha.put v hd))
theorem Lw.valW {d : Nat} {op : Op} {R : Value → World → Prop} (h : Xw P n E op ty w R) (hd : Nat.blt d n = true) (k : ∀ v w', R v w' → Lw P l0 Q n rest ((d, v) :: E) w') : Lw P l0 Q n (⟨some d, op, ty, pos, af, none⟩ :: rest) E w :=
  fun a ha => wpList_plain rfl fun K hK => by
    obtain ⟨v, w', hr, hR⟩ := h a ha
    unfold Oper.wp; rw [hr]; exact hK _ _ (k v w' hR _ (ha.put v hd))
theorem Lw.unit {op : Op} {R : World → Prop} (h : Xu P n E op ty w R) (k : ∀ w', R w' → Lw P l0 Q n rest E w') : Lw P l0 Q n (⟨none, op, ty, pos, af, none⟩ :: rest) E w :=
  fun a ha => wpList_plain rfl fun K hK => by
    obtain ⟨w', hr, hR⟩ := h a ha
    unfold Oper.wp; rw [hr]; exact hK _ _ (k w' hR _ (ha.put_none _))
theorem Lw.call {d : Nat} {op : Op} {f : FuncId} {args : List Value} {R : Value → World → Prop} (h : Xc P n E op ty w f args) (hd : Nat.blt d n = true) (hf : Fnc P f args w R)
    (k : ∀ v w', R v w' → Lw P l0 Q n rest ((d, v) :: E) w') : Lw P l0 Q n (⟨some d, op, ty, pos, af, none⟩ :: rest) E w :=
  fun a ha => wpList_plain rfl fun K hK => by
    unfold Oper.wp; rw [h a ha]
    exact hf.2.mono fun e w' ⟨v, he, hR⟩ => by subst he; exact hK _ _ (k v w' hR _ (ha.put v hd))
theorem Lw.callU {op : Op} {f : FuncId} {args : List Value} {R : Value → World → Prop} (h : Xc P n E op ty w f args) (hf : Fnc P f args w R)
    (k : ∀ v w', R v w' → Lw P l0 Q n rest E w') : Lw P l0 Q n (⟨none, op, ty, pos, af, none⟩ :: rest) E w :=
  fun a ha => wpList_plain rfl fun K hK => by
    unfold Oper.wp; rw [h a ha]
    exact hf.2.mono fun e w' ⟨v, he, hR⟩ => by subst he; exact hK _ _ (k v w' hR _ (ha.put_none v))

theorem Lw.know {l : List Oper} (d : Nat) {v v' : Value} (hd : get E d = some v) (hv : v = v') (h : Lw P l0 Q n l ((d, v') :: E) w) : Lw P l0 Q n l E w := fun a ha => h a <| by
  subst hv
  refine ⟨ha.dfr, ha.size, fun i u hu => ?_⟩
  by_cases hi : d = i
  · subst hi; rw [get_cons_self] at hu; exact ha.has _ _ (hd.trans hu)
  · rw [get_cons_ne _ _ hi] at hu; exact ha.has _ _ hu
theorem Lw.sub {l : List Oper} {F : Env} (hs : Sub E F) (h : Lw P l0 Q n l F w) : Lw P l0 Q n l E w := fun a ha => h a (ha.sub hs)

/-- A guard's slot, parted. -/
theorem Lw.part {l : List Oper} (d : Nat) {g : Bool} (hd : get E d = some (.bool g)) (yes : g = true → Lw P l0 Q n l ((d, .bool true) :: E) w) (no : g = false → Lw P l0 Q n l ((d, .bool false) :: E) w) : Lw P l0 Q n l E w := by
  cases g with
  | true => exact Lw.know d hd rfl (yes rfl)
  | false => exact Lw.know d hd rfl (no rfl)

theorem yielded_of {a : Act} (ha : Fits n E a) {j dj : Nat} {g : Bool} (hj : (nth l0 j).bind (·.dst) = some dj) (hg : get E dj = some (.bool g)) : yielded l0.toArray a.tmps j = some g := by
  unfold yielded
  rw [List.getElem?_toArray, nth_eq, hj]
  simp [ha.has _ _ hg]

/-- A guarded operation that is carried out. -/
theorem Lw.take {d : Option Tmp} {op : Op} {j dj : Nat} {g : Bool} (hj : (nth l0 j).bind (·.dst) = some dj) (hg : get E dj = some (.bool g))
    (h : Lw P l0 Q n (⟨d, op, ty, pos, af, none⟩ :: rest) E w) : Lw P l0 Q n (⟨d, op, ty, pos, af, some (j, g)⟩ :: rest) E w := fun a ha => by
  have h1 := h a ha
  unfold wpList at h1 ⊢
  rw [if_pos (by simp [Region.wanted])] at h1
  rw [if_pos (by simp [Region.wanted, yielded_of ha hj hg])]
  exact h1
/-- One that is passed over. -/
theorem Lw.pass {d : Nat} {op : Op} {j dj : Nat} {g g' : Bool} (hj : (nth l0 j).bind (·.dst) = some dj) (hg : get E dj = some (.bool g')) (hne : (g == g') = false) (hd : Nat.blt d n = true)
    (h : Lw P l0 Q n rest ((d, undef) :: E) w) : Lw P l0 Q n (⟨some d, op, ty, pos, af, some (j, g)⟩ :: rest) E w := fun a ha => by
  unfold wpList
  rw [if_neg]
  · exact h _ (ha.put _ hd)
  · simp only [Region.wanted, yielded_of ha hj hg]
    cases g <;> cases g' <;> simp_all
theorem Lw.passU {op : Op} {j dj : Nat} {g g' : Bool} (hj : (nth l0 j).bind (·.dst) = some dj) (hg : get E dj = some (.bool g')) (hne : (g == g') = false)
    (h : Lw P l0 Q n rest E w) : Lw P l0 Q n (⟨none, op, ty, pos, af, some (j, g)⟩ :: rest) E w := fun a ha => by
  unfold wpList
  rw [if_neg]
  · exact h _ (ha.put_none _)
  · simp only [Region.wanted, yielded_of ha hj hg]
    cases g <;> cases g' <;> simp_all

/-! ### Pure operations -/
section
variable {x y z : Operand} {v u : Value} {t s : TypeId}

theorem Ex.move (hx : ev E x = some v) : Ex P n E (.move x) ty w v := fun a ha _ _ _ _ => by simp [execOp, ha.ev hx]
theorem Ex.assign (hx : ev E x = some v) : Ex P n E (.assign x) ty w v := fun a ha _ _ _ _ => by simp [execOp, ha.ev hx]
/-- A value told otherwise. -/
theorem Ex.as {op : Op} (h : Ex P n E op ty w v) (e : v = u) : Ex P n E op ty w u := e ▸ h
theorem Ex.pickT (hc : ev E x = some (.bool true)) (hy : ev E y = some v) : Ex P n E (.pick x y z) ty w v := fun a ha _ _ _ _ => by simp [execOp, ha.ev hc, ha.ev hy, asBool]
theorem Ex.pickF (hc : ev E x = some (.bool false)) (hz : ev E z = some v) : Ex P n E (.pick x y z) ty w v := fun a ha _ _ _ _ => by simp [execOp, ha.ev hc, ha.ev hz, asBool]
theorem Ex.nilCheck {a0 : Addr} (hx : ev E x = some (.pointer (some a0))) : Ex P n E (.nilCheck x) ty w (.pointer (some a0)) := fun a ha _ _ _ _ => by simp [execOp, ha.ev hx]
theorem Ex.nilCheckF {fn : FuncId} {p q : Array Value} (hx : ev E x = some (.func (.func fn) p q)) : Ex P n E (.nilCheck x) ty w (.func (.func fn) p q) := fun a ha _ _ _ _ => by simp [execOp, ha.ev hx]

theorem guard_int {op : BinOp} {k : IntKind} {m : Int} : eqGuard op t x y (.int k m) u = pure () := by cases op <;> rfl

section ints
variable {k : IntKind} {m q : Int}
theorem Ex.bin {op : BinOp} {r : Value} (hx : ev E x = some (.int k m)) (hy : ev E y = some u) (h : (binOp op t (.int k m) u).run P w = .ok r w) : Ex P n E (.binOp op t x y s) ty w r := fun a ha _ _ _ _ => by
  simp only [execOp, ha.ev hx, ha.ev hy, guard_int]
  simp [h]

theorem Ex.add (hx : ev E x = some (.int k m)) (hy : ev E y = some (.int k q)) : Ex P n E (.binOp .add t x y s) ty w (.int k (k.wrap (m + q))) := Ex.bin hx hy (by simp [go_sem, Op.intArith])
theorem Ex.subt (hx : ev E x = some (.int k m)) (hy : ev E y = some (.int k q)) : Ex P n E (.binOp .sub t x y s) ty w (.int k (k.wrap (m - q))) := Ex.bin hx hy (by simp [go_sem, Op.intArith])
theorem Ex.mul (hx : ev E x = some (.int k m)) (hy : ev E y = some (.int k q)) : Ex P n E (.binOp .mul t x y s) ty w (.int k (k.wrap (m * q))) := Ex.bin hx hy (by simp [go_sem, Op.intArith])
theorem Ex.addI (hx : ev E x = some (.int .i64 m)) (hy : ev E y = some (.int .i64 q)) (h : -9223372036854775808 ≤ m + q ∧ m + q ≤ 9223372036854775807) : Ex P n E (.binOp .add t x y s) ty w (.int .i64 (m + q)) := by
  have := Ex.add (P := P) (n := n) (w := w) (ty := ty) (t := t) (s := s) hx hy; rwa [IntWalk.i64_in _ h] at this
theorem Ex.subI (hx : ev E x = some (.int .i64 m)) (hy : ev E y = some (.int .i64 q)) (h : -9223372036854775808 ≤ m - q ∧ m - q ≤ 9223372036854775807) : Ex P n E (.binOp .sub t x y s) ty w (.int .i64 (m - q)) := by
  have := Ex.subt (P := P) (n := n) (w := w) (ty := ty) (t := t) (s := s) hx hy; rwa [IntWalk.i64_in _ h] at this
theorem Ex.mulI (hx : ev E x = some (.int .i64 m)) (hy : ev E y = some (.int .i64 q)) (h : -9223372036854775808 ≤ m * q ∧ m * q ≤ 9223372036854775807) : Ex P n E (.binOp .mul t x y s) ty w (.int .i64 (m * q)) := by
  have := Ex.mul (P := P) (n := n) (w := w) (ty := ty) (t := t) (s := s) hx hy; rwa [IntWalk.i64_in _ h] at this
/-- Sums of natural numbers stay such. -/
theorem Ex.addN {i j : Nat} (hx : ev E x = some (.int .i64 (i : Int))) (hy : ev E y = some (.int .i64 (j : Int))) (h : i + j ≤ 9223372036854775807) : Ex P n E (.binOp .add t x y s) ty w (.int .i64 ((i + j : Nat) : Int)) := by
  have := Ex.addI (P := P) (n := n) (w := w) (ty := ty) (t := t) (s := s) hx hy (by omega)
  rwa [← Int.natCast_add] at this
theorem Ex.mulN {i j : Nat} (hx : ev E x = some (.int .i64 (i : Int))) (hy : ev E y = some (.int .i64 (j : Int))) (h : i * j ≤ 9223372036854775807) : Ex P n E (.binOp .mul t x y s) ty w (.int .i64 ((i * j : Nat) : Int)) := by
  have e : (i : Int) * (j : Int) = ((i * j : Nat) : Int) := (Int.natCast_mul i j).symm
  have := Ex.mulI (P := P) (n := n) (w := w) (ty := ty) (t := t) (s := s) hx hy (by rw [e]; omega)
  rwa [e] at this
theorem Ex.quoI (hx : ev E x = some (.int .i64 m)) (hy : ev E y = some (.int .i64 q)) (h0 : 0 ≤ m ∧ m ≤ 9223372036854775807) (h1 : 1 ≤ q) : Ex P n E (.binOp .quo t x y s) ty w (.int .i64 (m / q)) := Ex.bin hx hy (by
  have : ¬ q = 0 := by omega
  simp [go_sem, Op.intDiv, this, IntWalk.i64_quo m q ⟨h0.1, h0.2, h1⟩])
theorem Ex.quoN {i j : Nat} (hx : ev E x = some (.int .i64 (i : Int))) (hy : ev E y = some (.int .i64 (j : Int))) (h0 : i ≤ 9223372036854775807) (h1 : 1 ≤ j) : Ex P n E (.binOp .quo t x y s) ty w (.int .i64 ((i / j : Nat) : Int)) := by
  have := Ex.quoI (P := P) (n := n) (w := w) (ty := ty) (t := t) (s := s) hx hy (by omega) (by omega)
  rwa [← Int.natCast_ediv] at this
theorem Ex.remI (hx : ev E x = some (.int .i64 m)) (hy : ev E y = some (.int .i64 q)) (h0 : 0 ≤ m) (h1 : q ≠ 0) : Ex P n E (.binOp .rem t x y s) ty w (.int .i64 (m % q)) := Ex.bin hx hy (by
  simp [go_sem, Op.intDiv, h1, IntWalk.rem_in m q h0])
theorem Ex.remN {i j : Nat} (hx : ev E x = some (.int .i64 (i : Int))) (hy : ev E y = some (.int .i64 (j : Int))) (h1 : 1 ≤ j) : Ex P n E (.binOp .rem t x y s) ty w (.int .i64 ((i % j : Nat) : Int)) := by
  have := Ex.remI (P := P) (n := n) (w := w) (ty := ty) (t := t) (s := s) hx hy (by omega) (by omega)
  rwa [← Int.natCast_emod] at this

theorem Ex.lss (hx : ev E x = some (.int k m)) (hy : ev E y = some (.int k q)) : Ex P n E (.binOp .lss t x y s) ty w (.bool (decide (m < q))) := Ex.bin hx hy (by simp [go_sem])
theorem Ex.leq (hx : ev E x = some (.int k m)) (hy : ev E y = some (.int k q)) : Ex P n E (.binOp .leq t x y s) ty w (.bool (decide (m ≤ q))) := Ex.bin hx hy (by simp [go_sem])
theorem Ex.gtr (hx : ev E x = some (.int k m)) (hy : ev E y = some (.int k q)) : Ex P n E (.binOp .gtr t x y s) ty w (.bool (decide (q < m))) := Ex.bin hx hy (by simp [go_sem])
theorem Ex.geq (hx : ev E x = some (.int k m)) (hy : ev E y = some (.int k q)) : Ex P n E (.binOp .geq t x y s) ty w (.bool (decide (q ≤ m))) := Ex.bin hx hy (by simp [go_sem])
theorem beq_dec (m q : Int) : (m == q) = decide (m = q) := by by_cases h : m = q <;> simp [h]
theorem Ex.eql (hx : ev E x = some (.int k m)) (hy : ev E y = some (.int k q)) : Ex P n E (.binOp .eql t x y s) ty w (.bool (decide (m = q))) := Ex.bin hx hy (by rw [binOp_eql, beq_dec]; rfl)
theorem Ex.neq (hx : ev E x = some (.int k m)) (hy : ev E y = some (.int k q)) : Ex P n E (.binOp .neq t x y s) ty w (.bool (!decide (m = q))) := Ex.bin hx hy (by rw [binOp_neq, bne, beq_dec]; rfl)

theorem Ex.shlI {k' : IntKind} {j : Nat} (hx : ev E x = some (.int .i64 m)) (hy : ev E y = some (.int k' (j : Int))) (hj : j ≤ 64) (h : -9223372036854775808 ≤ m * 2 ^ j ∧ m * 2 ^ j ≤ 9223372036854775807) : Ex P n E (.binOp .shl t x y s) ty w (.int .i64 (m * 2 ^ j)) := Ex.bin hx hy (by
  have hmin : min j IntKind.i64.bits = j := Nat.min_eq_left hj
  simp [go_sem, Op.shift, hmin, IntWalk.i64_in _ h])
theorem Ex.shrI {k' : IntKind} {j : Nat} (hx : ev E x = some (.int .i64 m)) (hy : ev E y = some (.int k' (j : Int))) (hj : j ≤ 64) : Ex P n E (.binOp .shr t x y s) ty w (.int .i64 (m / 2 ^ j)) := Ex.bin hx hy (by
  have hmin : min j IntKind.i64.bits = j := Nat.min_eq_left hj
  have hp : (0 : Int) ≤ 2 ^ j := Int.le_of_lt (Int.pow_pos (by decide))
  simp [go_sem, Op.shift, hmin, Int.fdiv_eq_ediv_of_nonneg _ hp])
theorem Ex.convI {m : Int} (hs : (P.underlying s).isSome = true) (hd : P.underlying t = some (.int k)) {k' : IntKind} (hx : ev E x = some (.int k' m)) : Ex P n E (.convert s t x) ty w (.int k (k.wrap m)) := fun a ha _ _ _ _ => by
  obtain ⟨d, hd'⟩ := Option.isSome_iff_exists.mp hs
  simp [execOp, ha.ev hx, convert, run_underlying hd', run_underlying hd, Conv.intToInt]
theorem Ex.convI64 {m : Int} (hs : (P.underlying s).isSome = true) (hd : P.underlying t = some (.int .i64)) {k' : IntKind} (hx : ev E x = some (.int k' m)) (h : -9223372036854775808 ≤ m ∧ m ≤ 9223372036854775807) : Ex P n E (.convert s t x) ty w (.int .i64 m) := by
  have := Ex.convI (P := P) (n := n) (w := w) (ty := ty) hs hd hx; rwa [IntWalk.i64_in _ h] at this

theorem Ex.min2 (hx : ev E x = some (.int k m)) (hy : ev E y = some (.int k q)) {ts : Array TypeId} : Ex P n E (.call { callee := .builtin .min, args := #[x, y], argTypes := ts }) ty w (.int k (if q < m then q else m)) := fun a ha _ _ _ _ => by
  simp [execOp, resolve, invoke, builtin, ha.ev hx, ha.ev hy, Builtin.min_, Builtin.min2]
theorem Ex.min3 {r : Int} (hx : ev E x = some (.int k m)) (hy : ev E y = some (.int k q)) (hz : ev E z = some (.int k r)) {ts : Array TypeId} : Ex P n E (.call { callee := .builtin .min, args := #[x, y, z], argTypes := ts }) ty w (.int k (if r < (if q < m then q else m) then r else (if q < m then q else m))) := fun a ha _ _ _ _ => by
  simp [execOp, resolve, invoke, builtin, ha.ev hx, ha.ev hy, ha.ev hz, Builtin.min_, Builtin.min2]
theorem Ex.max2 (hx : ev E x = some (.int k m)) (hy : ev E y = some (.int k q)) {ts : Array TypeId} : Ex P n E (.call { callee := .builtin .max, args := #[x, y], argTypes := ts }) ty w (.int k (if m < q then q else m)) := fun a ha _ _ _ _ => by
  simp [execOp, resolve, invoke, builtin, ha.ev hx, ha.ev hy, Builtin.max_, Builtin.max2]
end ints

/-! ### Bits -/
theorem ofInt_toNat {k : Nat} (x : BitVec k) : BitVec.ofInt k (x.toNat : Int) = x := by
  apply BitVec.eq_of_toNat_eq
  simp
theorem ofInt_toInt {k : Nat} (x : BitVec k) : BitVec.ofInt k x.toInt = x := BitVec.ofInt_toInt
theorem wrap_u8_bv (x : BitVec 8) : IntKind.u8.wrap (x.toNat : Int) = x.toNat := IntWalk.u8_in _ (by have := x.isLt; omega)
theorem wrap_u16_bv (x : BitVec 16) : IntKind.u16.wrap (x.toNat : Int) = x.toNat := IntWalk.u16_in _ (by have := x.isLt; omega)
theorem wrap_u32_bv (x : BitVec 32) : IntKind.u32.wrap (x.toNat : Int) = x.toNat := IntWalk.u32_in _ (by have := x.isLt; omega)
theorem wrap_u64_bv (x : BitVec 64) : IntKind.u64.wrap (x.toNat : Int) = x.toNat := IntWalk.u64_in _ (by have := x.isLt; omega)
theorem wrap_i32_bv (n : Int) : IntKind.i32.wrap n = (BitVec.ofInt 32 n).toInt := by
  rw [BitVec.toInt_ofInt, IntKind.wrap_i32, Int.bmod_def]
  omega
theorem wrap_u32_int (n : Int) : IntKind.u32.wrap n = ((BitVec.ofInt 32 n).toNat : Int) := by
  rw [BitVec.toNat_ofInt, IntKind.wrap_u32]; omega
theorem wrap_u8_int (n : Int) : IntKind.u8.wrap n = ((BitVec.ofInt 8 n).toNat : Int) := by
  rw [BitVec.toNat_ofInt, IntKind.wrap_u8]; omega
theorem wrap_u16_int (n : Int) : IntKind.u16.wrap n = ((BitVec.ofInt 16 n).toNat : Int) := by
  rw [BitVec.toNat_ofInt]; simp [IntKind.wrap, IntKind.bits, IntKind.signed]; try omega
theorem wrap_u64_int (n : Int) : IntKind.u64.wrap n = ((BitVec.ofInt 64 n).toNat : Int) := by
  rw [BitVec.toNat_ofInt, IntKind.wrap_u64]; omega

section u32
variable {p q : BitVec 32}
theorem Ex.xor32 (hx : ev E x = some (u32 p)) (hy : ev E y = some (u32 q)) : Ex P n E (.binOp .xor t x y s) ty w (u32 (p ^^^ q)) := Ex.bin hx hy (by
  simp only [binOp_xor, Op.intBits, u32]; simp [IntKind.bits, wrap_u32_bv]; rfl)
theorem Ex.and32 (hx : ev E x = some (u32 p)) (hy : ev E y = some (u32 q)) : Ex P n E (.binOp .and t x y s) ty w (u32 (p &&& q)) := Ex.bin hx hy (by
  simp only [binOp_and, Op.intBits, u32]; simp [IntKind.bits, wrap_u32_bv]; rfl)
theorem Ex.or32 (hx : ev E x = some (u32 p)) (hy : ev E y = some (u32 q)) : Ex P n E (.binOp .or t x y s) ty w (u32 (p ||| q)) := Ex.bin hx hy (by
  simp only [binOp_or, Op.intBits, u32]; simp [IntKind.bits, wrap_u32_bv]; rfl)
theorem Ex.shr32 {yk : IntKind} {j : Nat} (hx : ev E x = some (u32 p)) (hy : ev E y = some (.int yk (j : Int))) (hj : j ≤ 32) : Ex P n E (.binOp .shr t x y s) ty w (u32 (p >>> j)) := Ex.bin hx hy (by
  have h0 : ¬ (j : Int) < 0 := by omega
  have h1 : min (Int.toNat (j : Int)) IntKind.u32.bits = j := by simp [IntKind.bits]; omega
  have h2 : (p.toNat : Int).fdiv (2 ^ j) = ((p >>> j).toNat : Int) := by
    rw [BitVec.toNat_ushiftRight, Nat.shiftRight_eq_div_pow, Int.fdiv_eq_ediv_of_nonneg _ (by exact_mod_cast Nat.zero_le _)]
    simp
  simp only [binOp_shr, Op.shift, h0, if_false, h1, h2, u32]; rfl)
theorem Ex.shl32 {yk : IntKind} {j : Nat} (hx : ev E x = some (u32 p)) (hy : ev E y = some (.int yk (j : Int))) (hj : j ≤ 32) : Ex P n E (.binOp .shl t x y s) ty w (u32 (p <<< j)) := Ex.bin hx hy (by
  have h0 : ¬ (j : Int) < 0 := by omega
  have h1 : min (Int.toNat (j : Int)) IntKind.u32.bits = j := by simp [IntKind.bits]; omega
  have h2 : IntKind.u32.wrap ((p.toNat : Int) * 2 ^ j) = ((p <<< j).toNat : Int) := by
    rw [IntKind.wrap_u32, BitVec.toNat_shiftLeft, Nat.shiftLeft_eq]
    simp
  simp only [binOp_shl, Op.shift, h0, if_false, h1, h2, u32]; rfl)
theorem Ex.add32 (hx : ev E x = some (u32 p)) (hy : ev E y = some (u32 q)) : Ex P n E (.binOp .add t x y s) ty w (u32 (p + q)) := by
  refine (Ex.add hx hy).as ?_
  have : IntKind.u32.wrap ((p.toNat : Int) + q.toNat) = ((p + q).toNat : Int) := by rw [IntKind.wrap_u32, BitVec.toNat_add]; omega
  rw [this]
theorem Ex.neg32 {t : TypeId} (hx : ev E x = some (u32 p)) : Ex P n E (.unOp .neg t x) ty w (u32 (-p)) := fun a ha _ _ _ _ => by
  have : IntKind.u32.wrap (-(p.toNat : Int)) = ((-p).toNat : Int) := by rw [IntKind.wrap_u32, BitVec.toNat_neg]; have := p.isLt; omega
  simp [execOp, ha.ev hx, Op.unary, Op.intArith, this]
theorem Ex.not32 {t : TypeId} (hx : ev E x = some (u32 p)) : Ex P n E (.unOp .xor t x) ty w (u32 (~~~p)) := fun a ha _ _ _ _ => by
  have h1 : BitVec.ofInt 32 (IntKind.u32.max) = BitVec.allOnes 32 := by decide
  simp only [execOp, ha.ev hx, Op.unary, Op.intBits, IntKind.signed, u32]
  have h2 : BitVec.ofInt 32 IntKind.u32.max ^^^ BitVec.ofInt 32 (p.toNat : Int) = ~~~p := by rw [h1, ofInt_toNat, BitVec.allOnes_xor]
  have h3 : IntKind.u32.wrap ((BitVec.ofInt 32 IntKind.u32.max ^^^ BitVec.ofInt 32 (p.toNat : Int)).toNat : Int) = ((~~~p).toNat : Int) := by rw [h2, wrap_u32_bv]
  have h4 : IntKind.u32.wrap ((BitVec.ofInt IntKind.u32.bits IntKind.u32.max ^^^ BitVec.ofInt IntKind.u32.bits (p.toNat : Int)).toNat : Int) = ((~~~p).toNat : Int) := h3
  simp only [Sem.run_bind, Sem.run_pure, Result.andThen_ok, Bool.false_eq_true, if_false, h4]
theorem u32_eq : ((p.toNat : Int) = (q.toNat : Int)) ↔ p = q := by
  constructor
  · intro h; exact BitVec.eq_of_toNat_eq (by omega)
  · intro h; rw [h]
theorem Ex.eql32 (hx : ev E x = some (u32 p)) (hy : ev E y = some (u32 q)) : Ex P n E (.binOp .eql t x y s) ty w (.bool (decide (p = q))) := by
  have := Ex.eql (P := P) (n := n) (w := w) (ty := ty) (t := t) (s := s) hx hy; simp only [u32_eq] at this; exact this
theorem Ex.neq32 (hx : ev E x = some (u32 p)) (hy : ev E y = some (u32 q)) : Ex P n E (.binOp .neq t x y s) ty w (.bool (!decide (p = q))) := by
  have := Ex.neq (P := P) (n := n) (w := w) (ty := ty) (t := t) (s := s) hx hy; simp only [u32_eq] at this; exact this
end u32

section b8
variable {p q : BitVec 8}
theorem Ex.xor8 (hx : ev E x = some (b8 p)) (hy : ev E y = some (b8 q)) : Ex P n E (.binOp .xor t x y s) ty w (b8 (p ^^^ q)) := Ex.bin hx hy (by
  simp only [binOp_xor, Op.intBits, b8]; simp [IntKind.bits, wrap_u8_bv]; rfl)
theorem b8_eq : ((p.toNat : Int) = (q.toNat : Int)) ↔ p = q := by
  constructor
  · intro h; exact BitVec.eq_of_toNat_eq (by omega)
  · intro h; rw [h]
theorem Ex.eql8 (hx : ev E x = some (b8 p)) (hy : ev E y = some (b8 q)) : Ex P n E (.binOp .eql t x y s) ty w (.bool (decide (p = q))) := by
  have := Ex.eql (P := P) (n := n) (w := w) (ty := ty) (t := t) (s := s) hx hy; simp only [b8_eq] at this; exact this
theorem Ex.neq8 (hx : ev E x = some (b8 p)) (hy : ev E y = some (b8 q)) : Ex P n E (.binOp .neq t x y s) ty w (.bool (!decide (p = q))) := by
  have := Ex.neq (P := P) (n := n) (w := w) (ty := ty) (t := t) (s := s) hx hy; simp only [b8_eq] at this; exact this
end b8

section i32
variable {p q : BitVec 32}
theorem Ex.addi32 (hx : ev E x = some (i32 p)) (hy : ev E y = some (i32 q)) : Ex P n E (.binOp .add t x y s) ty w (i32 (p + q)) := by
  refine (Ex.add hx hy).as ?_
  rw [wrap_i32_bv, BitVec.ofInt_add, ofInt_toInt, ofInt_toInt]
theorem Ex.subi32 (hx : ev E x = some (i32 p)) (hy : ev E y = some (i32 q)) : Ex P n E (.binOp .sub t x y s) ty w (i32 (p - q)) := by
  refine (Ex.subt hx hy).as ?_
  rw [wrap_i32_bv, Int.sub_eq_add_neg, BitVec.ofInt_add, BitVec.ofInt_neg, ofInt_toInt, ofInt_toInt, ← BitVec.sub_eq_add_neg]
theorem Ex.muli32 (hx : ev E x = some (i32 p)) (hy : ev E y = some (i32 q)) : Ex P n E (.binOp .mul t x y s) ty w (i32 (p * q)) := by
  refine (Ex.mul hx hy).as ?_
  rw [wrap_i32_bv, BitVec.ofInt_mul, ofInt_toInt, ofInt_toInt]
theorem i32_eq : (p.toInt = q.toInt) ↔ p = q := BitVec.toInt_inj
theorem Ex.eqli32 (hx : ev E x = some (i32 p)) (hy : ev E y = some (i32 q)) : Ex P n E (.binOp .eql t x y s) ty w (.bool (decide (p = q))) := by
  have := Ex.eql (P := P) (n := n) (w := w) (ty := ty) (t := t) (s := s) hx hy; simp only [i32_eq] at this; exact this
theorem Ex.neqi32 (hx : ev E x = some (i32 p)) (hy : ev E y = some (i32 q)) : Ex P n E (.binOp .neq t x y s) ty w (.bool (!decide (p = q))) := by
  have := Ex.neq (P := P) (n := n) (w := w) (ty := ty) (t := t) (s := s) hx hy; simp only [i32_eq] at this; exact this
theorem Ex.xori32 (hx : ev E x = some (i32 p)) (hy : ev E y = some (i32 q)) : Ex P n E (.binOp .xor t x y s) ty w (i32 (p ^^^ q)) := Ex.bin hx hy (by
  have h2 : IntKind.i32.wrap (((p ^^^ q).toNat : Nat) : Int) = (p ^^^ q).toInt := by rw [wrap_i32_bv, ofInt_toNat]
  have h3 : IntKind.i32.wrap (((BitVec.ofInt IntKind.i32.bits p.toInt ^^^ BitVec.ofInt IntKind.i32.bits q.toInt).toNat : Nat) : Int) = (p ^^^ q).toInt := by
    have e1 : BitVec.ofInt IntKind.i32.bits p.toInt = p := ofInt_toInt p
    have e2 : BitVec.ofInt IntKind.i32.bits q.toInt = q := ofInt_toInt q
    rw [e1, e2]; exact h2
  simp only [binOp_xor, Op.intBits, i32]
  rw [h3, Sem.run_pure])
theorem Ex.negi32 {t : TypeId} (hx : ev E x = some (i32 p)) : Ex P n E (.unOp .neg t x) ty w (i32 (-p)) := fun a ha _ _ _ _ => by
  have : IntKind.i32.wrap (-p.toInt) = (-p).toInt := by rw [wrap_i32_bv, BitVec.ofInt_neg, ofInt_toInt]
  simp [execOp, ha.ev hx, Op.unary, Op.intArith, this]
end i32

/-! ### Conversions -/
theorem Ex.conv8 {k' : IntKind} {m : Int} (hs : (P.underlying s).isSome = true) (hd : P.underlying t = some (.int .u8)) (hx : ev E x = some (.int k' m)) : Ex P n E (.convert s t x) ty w (b8 (BitVec.ofInt 8 m)) := by
  have := Ex.convI (P := P) (n := n) (w := w) (ty := ty) hs hd hx; rwa [wrap_u8_int] at this
theorem Ex.conv32 {k' : IntKind} {m : Int} (hs : (P.underlying s).isSome = true) (hd : P.underlying t = some (.int .u32)) (hx : ev E x = some (.int k' m)) : Ex P n E (.convert s t x) ty w (u32 (BitVec.ofInt 32 m)) := by
  have := Ex.convI (P := P) (n := n) (w := w) (ty := ty) hs hd hx; rwa [wrap_u32_int] at this
theorem Ex.convi32 {k' : IntKind} {m : Int} (hs : (P.underlying s).isSome = true) (hd : P.underlying t = some (.int .i32)) (hx : ev E x = some (.int k' m)) : Ex P n E (.convert s t x) ty w (i32 (BitVec.ofInt 32 m)) := by
  have := Ex.convI (P := P) (n := n) (w := w) (ty := ty) hs hd hx; rwa [wrap_i32_bv] at this
theorem ofInt8_32 (p : BitVec 32) : BitVec.ofInt 8 (p.toNat : Int) = p.setWidth 8 := by
  apply BitVec.eq_of_toNat_eq; simp <;> omega
theorem ofInt32_8 (p : BitVec 8) : BitVec.ofInt 32 (p.toNat : Int) = p.setWidth 32 := by
  apply BitVec.eq_of_toNat_eq; simp <;> omega
/-- u32 to u8; u8 to u32. -/
theorem Ex.conv32_8 {p : BitVec 32} (hs : (P.underlying s).isSome = true) (hd : P.underlying t = some (.int .u8)) (hx : ev E x = some (u32 p)) : Ex P n E (.convert s t x) ty w (b8 (p.setWidth 8)) := by
  have := Ex.conv8 (P := P) (n := n) (w := w) (ty := ty) hs hd hx; rwa [ofInt8_32] at this
theorem Ex.conv8_32 {p : BitVec 8} (hs : (P.underlying s).isSome = true) (hd : P.underlying t = some (.int .u32)) (hx : ev E x = some (b8 p)) : Ex P n E (.convert s t x) ty w (u32 (p.setWidth 32)) := by
  have := Ex.conv32 (P := P) (n := n) (w := w) (ty := ty) hs hd hx; rwa [ofInt32_8] at this
/-- i32 to u32 and back. -/
theorem Ex.convi32_32 {p : BitVec 32} (hs : (P.underlying s).isSome = true) (hd : P.underlying t = some (.int .u32)) (hx : ev E x = some (i32 p)) : Ex P n E (.convert s t x) ty w (u32 p) := by
  have := Ex.conv32 (P := P) (n := n) (w := w) (ty := ty) hs hd hx; rwa [ofInt_toInt] at this
theorem Ex.conv32_i32 {p : BitVec 32} (hs : (P.underlying s).isSome = true) (hd : P.underlying t = some (.int .i32)) (hx : ev E x = some (u32 p)) : Ex P n E (.convert s t x) ty w (i32 p) := by
  have := Ex.convi32 (P := P) (n := n) (w := w) (ty := ty) hs hd hx; rwa [ofInt_toNat] at this

theorem Ex.conv8_I {p : BitVec 8} (hs : (P.underlying s).isSome = true) (hd : P.underlying t = some (.int .i64)) (hx : ev E x = some (b8 p)) : Ex P n E (.convert s t x) ty w (.int .i64 (p.toNat : Int)) := Ex.convI64 hs hd hx (by have := p.isLt; omega)
theorem Ex.conv16_I {p : BitVec 16} (hs : (P.underlying s).isSome = true) (hd : P.underlying t = some (.int .i64)) (hx : ev E x = some (u16 p)) : Ex P n E (.convert s t x) ty w (.int .i64 (p.toNat : Int)) := Ex.convI64 hs hd hx (by have := p.isLt; omega)
theorem Ex.conv32_I {p : BitVec 32} (hs : (P.underlying s).isSome = true) (hd : P.underlying t = some (.int .i64)) (hx : ev E x = some (u32 p)) : Ex P n E (.convert s t x) ty w (.int .i64 (p.toNat : Int)) := Ex.convI64 hs hd hx (by have := p.isLt; omega)
theorem Ex.convi32_I {p : BitVec 32} (hs : (P.underlying s).isSome = true) (hd : P.underlying t = some (.int .i64)) (hx : ev E x = some (i32 p)) : Ex P n E (.convert s t x) ty w (.int .i64 p.toInt) := Ex.convI64 hs hd hx (by have h1 := BitVec.toInt_lt (x := p); have h2 := BitVec.le_toInt (x := p); omega)
theorem Ex.negI {m : Int} {t : TypeId} (hx : ev E x = some (.int .i64 m)) (h : -9223372036854775807 ≤ m ∧ m ≤ 9223372036854775807) : Ex P n E (.unOp .neg t x) ty w (.int .i64 (-m)) := fun a ha _ _ _ _ => by
  have : IntKind.i64.wrap (-m) = -m := IntWalk.i64_in _ (by omega)
  simp [execOp, ha.ev hx, Op.unary, Op.intArith, this]

/-! ### Bools -/
theorem Ex.not {b : Bool} {t : TypeId} (hx : ev E x = some (.bool b)) : Ex P n E (.unOp .not t x) ty w (.bool (!b)) := fun a ha _ _ _ _ => by simp [execOp, ha.ev hx, Op.unary]
theorem eqGuard_bool (b : Bool) {op : BinOp} : eqGuard op t x y (.bool b) u = pure () := by cases op <;> rfl
theorem run_equalIn_bool (d : Nat) (a b : Bool) (ht : P.underlying t = some .bool) : (Op.equalIn (d + 1) t (.bool a) (.bool b)).run P w = .ok (a == b) w := by
  simp [Op.equalIn, run_underlying ht]
theorem Ex.eqlB {b c : Bool} (ht : P.underlying t = some .bool) (hx : ev E x = some (.bool b)) (hy : ev E y = some (.bool c)) : Ex P n E (.binOp .eql t x y s) ty w (.bool (b == c)) := fun a ha _ _ _ _ => by
  simp only [execOp, ha.ev hx, ha.ev hy, eqGuard_bool]
  simp [binOp, Op.equal, Op.maxDepth, run_equalIn_bool 9999 b c ht]
theorem Ex.neqB {b c : Bool} (ht : P.underlying t = some .bool) (hx : ev E x = some (.bool b)) (hy : ev E y = some (.bool c)) : Ex P n E (.binOp .neq t x y s) ty w (.bool (!(b == c))) := fun a ha _ _ _ _ => by
  simp only [execOp, ha.ev hx, ha.ev hy, eqGuard_bool]
  simp [binOp, Op.equal, Op.maxDepth, run_equalIn_bool 9999 b c ht]

/-! ### Tuples -/
theorem Ex.extract {vs : List Value} {i : Nat} (hx : ev E x = some (.tuple vs.toArray)) (hv : vs[i]? = some v) : Ex P n E (.extract x i) ty w v := fun a ha _ _ _ _ => by
  simp [execOp, ha.ev hx, Instr.extract, hv]

/-! ### Calls -/
theorem run_callFunc {f : FuncId} {args : Array Value} (hf : ∃ fn, P.funcs[f]? = some fn ∧ (fn.name == "runtime.NumGoroutine") = false ∧ fn.body.isSome = true) : (callFunc f args).run P w = .ok (.enter f args) w := by
  obtain ⟨fn, h1, h2, h3⟩ := hf
  have h4 : fn.body.isNone = false := by cases hb : fn.body <;> simp_all
  unfold callFunc
  simp only [Sem.run_bind, program, Sem.run, Result.andThen_ok, h1, h2, h4, Bool.false_eq_true, if_false]
  rfl

def evs (E : Env) : List Operand → Option (List Value)
  | [] => some []
  | x :: l => match ev E x, evs E l with
    | some v, some vs => some (v :: vs)
    | _, _ => none

theorem Fits.evs {a : Act} (h : Fits n E a) : ∀ {l : List Operand} {vs : List Value}, evs E l = some vs → l.map a.eval = vs
  | [], vs, hl => by simp [Dd.evs] at hl; simp [hl]
  | x :: l, vs, hl => by
    simp only [Dd.evs] at hl
    split at hl
    · rename_i v us h1 h2
      simp only [Option.some.injEq] at hl
      subst hl
      simp [h.ev h1, Fits.evs h h2]
    · simp at hl

theorem Ex.mkFn {f : FuncId} {xs ys : List Operand} {vs us : List Value} (hx : Dd.evs E xs = some vs) (hy : Dd.evs E ys = some us) : Ex P n E (.makeFunc (.func f) xs.toArray ys.toArray) ty w (.func (.func f) vs.toArray us.toArray) := fun a ha _ _ _ _ => by
  have h1 : xs.toArray.map a.eval = vs.toArray := by rw [List.map_toArray, ha.evs hx]
  have h2 : ys.toArray.map a.eval = us.toArray := by rw [List.map_toArray, ha.evs hy]
  simp [execOp, h1, h2, Instr.makeFunc]
theorem Xc.mk {f : FuncId} {xs : List Operand} {vs : List Value} {ts : Array TypeId} (hf : ∃ fn, P.funcs[f]? = some fn ∧ (fn.name == "runtime.NumGoroutine") = false ∧ fn.body.isSome = true) (hx : Dd.evs E xs = some vs) :
    Xc P n E (.call { callee := .value (.func f), args := xs.toArray, argTypes := ts }) ty w f vs := fun a ha _ _ _ _ => by
  have hmap : xs.toArray.map a.eval = vs.toArray := by rw [List.map_toArray, ha.evs hx]
  simp [execOp, resolve, hmap, Act.eval, Deferred.ofValue, invoke, run_callFunc (P := P) (w := w) hf]
/-- A call of a function value. -/
theorem Xc.val {f : FuncId} {c : Operand} {p q : List Value} {xs : List Operand} {vs : List Value} {ts : Array TypeId} (hf : ∃ fn, P.funcs[f]? = some fn ∧ (fn.name == "runtime.NumGoroutine") = false ∧ fn.body.isSome = true)
    (hc : ev E c = some (.func (.func f) p.toArray q.toArray)) (hx : Dd.evs E xs = some vs) :
    Xc P n E (.call { callee := .value c, args := xs.toArray, argTypes := ts }) ty w f (p ++ vs ++ q) := fun a ha _ _ _ _ => by
  have hmap : xs.toArray.map a.eval = vs.toArray := by rw [List.map_toArray, ha.evs hx]
  simp [execOp, resolve, hmap, ha.ev hc, Deferred.ofValue, invoke, run_callFunc (P := P) (w := w) hf]

theorem Lw.callF {d : Nat} {f : FuncId} {xs : List Operand} {vs : List Value} {ts : Array TypeId} {R : Value → World → Prop} (hx : evs E xs = some vs) (hd : Nat.blt d n = true) (hf : Fnc P f vs w R)
    (k : ∀ v w', R v w' → Lw P l0 Q n rest ((d, v) :: E) w') : Lw P l0 Q n (⟨some d, .call { callee := .value (.func f), args := xs.toArray, argTypes := ts }, ty, pos, af, none⟩ :: rest) E w :=
  Lw.call (Xc.mk hf.1 hx) hd hf k
theorem Lw.callFU {f : FuncId} {xs : List Operand} {vs : List Value} {ts : Array TypeId} {R : Value → World → Prop} (hx : evs E xs = some vs) (hf : Fnc P f vs w R)
    (k : ∀ v w', R v w' → Lw P l0 Q n rest E w') : Lw P l0 Q n (⟨none, .call { callee := .value (.func f), args := xs.toArray, argTypes := ts }, ty, pos, af, none⟩ :: rest) E w :=
  Lw.callU (Xc.mk hf.1 hx) hf k
theorem Lw.callV {d : Nat} {f : FuncId} {c : Operand} {p q : List Value} {xs : List Operand} {vs : List Value} {ts : Array TypeId} {R : Value → World → Prop} (hc : ev E c = some (.func (.func f) p.toArray q.toArray)) (hx : evs E xs = some vs) (hd : Nat.blt d n = true)
    (hf : Fnc P f (p ++ vs ++ q) w R) (k : ∀ v w', R v w' → Lw P l0 Q n rest ((d, v) :: E) w') : Lw P l0 Q n (⟨some d, .call { callee := .value c, args := xs.toArray, argTypes := ts }, ty, pos, af, none⟩ :: rest) E w :=
  Lw.call (Xc.val hf.1 hc hx) hd hf k
end
end
end Go.Dd
