/- The step layer, part 13: numbers as bytes; copy; room made ahead. Nothing here names a program. -/
import Derived.Test.YtkhndfaampkbnaaGreatDoorSeg
import Derived.Test.YtkhndfaampkbnaaGreatDoorSeg
import Derived.Test.YtkhndfaampkbnaaGreatDoorCrc
import Derived.Lib.AppendZeros
import Derived.Laws.CopyRow
import Derived.Laws.IdiomCopy
namespace Go.Dd
open Go Go.RowKit

/-! ### Plain -/
def le4 (a b c d : BitVec 8) : BitVec 32 := a.setWidth 32 ||| b.setWidth 32 <<< 8 ||| c.setWidth 32 <<< 16 ||| d.setWidth 32 <<< 24
theorem le4_nat (a b c d : BitVec 8) : (le4 a b c d).toNat = a.toNat + 256 * b.toNat + 65536 * c.toNat + 16777216 * d.toNat := by
  have h1 := a.isLt; have h2 := b.isLt; have h3 := c.isLt; have h4 := d.isLt
  have e1 : a.setWidth 32 ||| b.setWidth 32 <<< 8 = a.setWidth 32 + b.setWidth 32 <<< 8 := by
    refine (BitVec.add_eq_or_of_and_eq_zero _ _ ?_).symm
    ext i hi
    simp only [BitVec.getElem_and, BitVec.getElem_shiftLeft, BitVec.getElem_setWidth, BitVec.getElem_zero]
    by_cases h : i < 8
    · simp [h]
    · simp [BitVec.getLsbD_of_ge a i (by omega)]
  have e2 : (a.setWidth 32 + b.setWidth 32 <<< 8) ||| c.setWidth 32 <<< 16 = (a.setWidth 32 + b.setWidth 32 <<< 8) + c.setWidth 32 <<< 16 := by
    refine (BitVec.add_eq_or_of_and_eq_zero _ _ ?_).symm
    rw [← e1]
    ext i hi
    simp only [BitVec.getElem_and, BitVec.getElem_or, BitVec.getElem_shiftLeft, BitVec.getElem_setWidth, BitVec.getElem_zero]
    by_cases h : i < 16
    · simp [h]
    · simp [BitVec.getLsbD_of_ge a i (by omega), BitVec.getLsbD_of_ge b (i - 8) (by omega)]
  have e3 : ((a.setWidth 32 + b.setWidth 32 <<< 8) + c.setWidth 32 <<< 16) ||| d.setWidth 32 <<< 24 = ((a.setWidth 32 + b.setWidth 32 <<< 8) + c.setWidth 32 <<< 16) + d.setWidth 32 <<< 24 := by
    refine (BitVec.add_eq_or_of_and_eq_zero _ _ ?_).symm
    rw [← e2, ← e1]
    ext i hi
    simp only [BitVec.getElem_and, BitVec.getElem_or, BitVec.getElem_shiftLeft, BitVec.getElem_setWidth, BitVec.getElem_zero]
    by_cases h : i < 24
    · simp [h]
    · simp [BitVec.getLsbD_of_ge a i (by omega), BitVec.getLsbD_of_ge b (i - 8) (by omega), BitVec.getLsbD_of_ge c (i - 16) (by omega)]
  unfold le4
  rw [e1, e2, e3]
  simp only [BitVec.toNat_add, BitVec.toNat_setWidth, BitVec.toNat_shiftLeft, Nat.shiftLeft_eq]
  omega
theorem le4_four (n : BitVec 32) : le4 (n.setWidth 8) ((n >>> 8).setWidth 8) ((n >>> 16).setWidth 8) ((n >>> 24).setWidth 8) = n := by
  apply BitVec.eq_of_toNat_eq
  rw [le4_nat]
  have := n.isLt
  simp only [BitVec.toNat_setWidth, BitVec.toNat_ushiftRight, Nat.shiftRight_eq_div_pow]
  omega
theorem four_le4 (a b c d : BitVec 8) : Crc.four (le4 a b c d) = [a, b, c, d] := by
  have h1 := a.isLt; have h2 := b.isLt; have h3 := c.isLt; have h4 := d.isLt
  have e := le4_nat a b c d
  unfold Crc.four
  congr 1
  · apply BitVec.eq_of_toNat_eq; simp only [BitVec.toNat_setWidth]; omega
  congr 1
  · apply BitVec.eq_of_toNat_eq; simp only [BitVec.toNat_setWidth, BitVec.toNat_ushiftRight, Nat.shiftRight_eq_div_pow]; omega
  congr 1
  · apply BitVec.eq_of_toNat_eq; simp only [BitVec.toNat_setWidth, BitVec.toNat_ushiftRight, Nat.shiftRight_eq_div_pow]; omega
  congr 1
  apply BitVec.eq_of_toNat_eq; simp only [BitVec.toNat_setWidth, BitVec.toNat_ushiftRight, Nat.shiftRight_eq_div_pow]; omega
/-- Numbers' bytes, one behind the other. -/
def fours (l : List (BitVec 32)) : List (BitVec 8) := (l.map Crc.four).flatten
theorem fours_len (l : List (BitVec 32)) : (fours l).length = 4 * l.length := by
  unfold fours
  induction l with
  | nil => rfl
  | cons x l ih => rw [List.map_cons, List.flatten_cons, List.length_append, ih, List.length_cons]; simp [Crc.four]; omega
theorem fours_cons (x : BitVec 32) (l : List (BitVec 32)) : fours (x :: l) = Crc.four x ++ fours l := rfl
theorem fours_append (l m : List (BitVec 32)) : fours (l ++ m) = fours l ++ fours m := by unfold fours; simp
/-- Bytes' numbers. -/
def nums : List (BitVec 8) → List (BitVec 32)
  | a :: b :: c :: d :: l => le4 a b c d :: nums l
  | _ => []
theorem nums_fours : ∀ (l : List (BitVec 32)), nums (fours l) = l
  | [] => rfl
  | x :: l => by
    rw [fours_cons]
    show le4 _ _ _ _ :: nums (fours l) = _
    rw [le4_four, nums_fours l]
theorem fours_nums : ∀ (n : Nat) (l : List (BitVec 8)), l.length = 4 * n → fours (nums l) = l
  | 0, l, h => by
    obtain rfl : l = [] := List.eq_nil_of_length_eq_zero (by omega)
    rfl
  | n + 1, a :: b :: c :: d :: l, h => by
    have ih := fours_nums n l (by simp at h; omega)
    show fours (le4 a b c d :: nums l) = _
    rw [fours_cons, four_le4, ih]
    rfl
  | n + 1, [], h => by simp at h
  | n + 1, [_], h => by simp at h; omega
  | n + 1, [_, _], h => by simp at h; omega
  | n + 1, [_, _, _], h => by simp at h; omega
theorem nums_len : ∀ (n : Nat) (l : List (BitVec 8)), l.length = 4 * n → (nums l).length = n := fun n l h => by
  have := congrArg List.length (fours_nums n l h)
  rw [fours_len] at this
  omega
theorem nums_len' : ∀ (l : List (BitVec 8)), (nums l).length = l.length / 4
  | a :: b :: c :: d :: l => by
    have := nums_len' l
    show (le4 a b c d :: nums l).length = _
    rw [List.length_cons, this]
    simp only [List.length_cons]
    omega
  | [] => rfl
  | [_] => by simp [nums]
  | [_, _] => by simp [nums]
  | [_, _, _] => by simp [nums]
/-- Four bytes more are one number more. -/
theorem nums_drop : ∀ (l : List (BitVec 8)) (i : Nat), 4 * i + 4 ≤ l.length → nums (l.drop (4 * i)) = le4 (l.getD (4 * i) default) (l.getD (4 * i + 1) default) (l.getD (4 * i + 2) default) (l.getD (4 * i + 3) default) :: nums (l.drop (4 * (i + 1))) := fun l i h => by
  rw [List.drop_eq_getElem_cons (show 4 * i < l.length by omega), List.drop_eq_getElem_cons (show 4 * i + 1 < l.length by omega), List.drop_eq_getElem_cons (show 4 * i + 1 + 1 < l.length by omega), List.drop_eq_getElem_cons (show 4 * i + 1 + 1 + 1 < l.length by omega)]
  show le4 _ _ _ _ :: nums _ = _
  rw [show 4 * i + 1 + 1 + 1 + 1 = 4 * (i + 1) by omega]
  simp [show 4 * i < l.length by omega, show 4 * i + 1 < l.length by omega, show 4 * i + 2 < l.length by omega, show 4 * i + 3 < l.length by omega]
theorem nums_short {l : List (BitVec 8)} (h : l.length < 4) : nums l = [] := by
  match l, h with
  | [], _ => rfl
  | [_], _ => rfl
  | [_, _], _ => rfl
  | [_, _, _], _ => rfl
  | _ :: _ :: _ :: _ :: _, h => simp at h; omega

/-- Lists with their values, one behind the other. -/
theorem cat_step {α : Type} {ps : List (Value × List α)} {i : Nat} (h : i < ps.length) : ((ps.take (i + 1)).map (·.2)).flatten = ((ps.take i).map (·.2)).flatten ++ (ps.getD i default).2 := by
  rw [List.take_succ_eq_append_getElem h, List.map_append, List.flatten_append]
  congr 1
  simp [h]
theorem cat_le {α : Type} {ps : List (Value × List α)} (i : Nat) : ((ps.take i).map (·.2)).flatten.length ≤ (ps.map (·.2)).flatten.length := by
  have h : ps.map (·.2) = (ps.take i).map (·.2) ++ (ps.drop i).map (·.2) := by rw [← List.map_append, List.take_append_drop]
  rw [h, List.flatten_append, List.length_append]
  omega
theorem getD_mem {α : Type} [Inhabited α] {l : List α} {i : Nat} (h : i < l.length) : l.getD i default ∈ l := by
  simp [h]
theorem rep_flat {α : Type} {enc : α → Value} {z : α} : ∀ (n : Nat), (List.replicate n [enc z]).flatten = (List.replicate n z).map enc
  | 0 => rfl
  | n + 1 => by rw [List.replicate_succ, List.replicate_succ, List.flatten_cons, rep_flat n]; rfl
theorem cut_own {v : Value} {sz i j b : Nat} (h : (cut v sz i j).ownBlock = some b) : v.ownBlock = some b := by
  unfold cut at h
  split at h
  · rename_i ao k cap
    cases ao with
    | none => split at h <;> cases h
    | some a =>
      split at h
      · exact h
      · simp only [Value.ownBlock, Option.map_some, Option.some.injEq, add_block] at h ⊢
        exact h
  · cases h

/-! ### Operations -/
section
variable {P : Program} {Q : Post} {n : Nat} {E : Env} {w : World} {l0 rest : List Oper} {ty : TypeId} {pos : String} {af : Array Edge}
variable {x y z : Operand} {v u : Value} {t s e : TypeId} {sz : Nat} {p q : BitVec 32}
theorem Ex.mul32 (hx : ev E x = some (u32 p)) (hy : ev E y = some (u32 q)) : Ex P n E (.binOp .mul t x y s) ty w (u32 (p * q)) := by
  refine (Ex.mul hx hy).as ?_
  have : IntKind.u32.wrap ((p.toNat : Int) * q.toNat) = ((p * q).toNat : Int) := by rw [IntKind.wrap_u32, BitVec.toNat_mul]; simp
  rw [this]
theorem Ex.quo32 (hx : ev E x = some (u32 p)) (hy : ev E y = some (u32 q)) (h0 : q ≠ 0) : Ex P n E (.binOp .quo t x y s) ty w (u32 (p / q)) := Ex.bin hx hy (by
  have h1 : ¬ q.toNat = 0 := fun h => h0 (BitVec.eq_of_toNat_eq (by simpa using h))
  have h2 : IntKind.u32.wrap ((p.toNat : Int) / q.toNat) = ((p / q).toNat : Int) := by
    rw [show (p / q).toNat = p.toNat / q.toNat from BitVec.toNat_udiv .., IntKind.wrap_u32, ← Int.natCast_ediv]
    have := Nat.div_le_self p.toNat q.toNat
    have := p.isLt
    generalize p.toNat / q.toNat = r at *
    omega
  simp [go_sem, Op.intDiv, h1, h2])
theorem Ex.rem32 (hx : ev E x = some (u32 p)) (hy : ev E y = some (u32 q)) (h0 : q ≠ 0) : Ex P n E (.binOp .rem t x y s) ty w (u32 (p % q)) := Ex.bin hx hy (by
  have h1 : ¬ q.toNat = 0 := fun h => h0 (BitVec.eq_of_toNat_eq (by simpa using h))
  have h2 : (p.toNat : Int).tmod q.toNat = ((p % q).toNat : Int) := by
    rw [show (p % q).toNat = p.toNat % q.toNat from BitVec.toNat_umod .., Int.tmod_eq_emod_of_nonneg (by omega), ← Int.natCast_emod]
  simp [go_sem, Op.intDiv, h1, h2])
theorem Ex.capNil (hu : STy P t e sz) (hx : ev E x = some (.slice none 0 0)) : Ex P n E (.call { callee := .builtin .cap, args := #[x], argTypes := #[t] }) ty w (.int .i64 0) := Ex.capS hu hx
/-- 'append' of so many noughts, onto nothing. -/
theorem Xw.grow0 {k bytes : Nat} {kq kn : IntKind} {tn : TypeId} {zs : List Value} (hu : STy P t e sz) (hi : ITy P e zs bytes) (hzl : zs.length = sz) (hz : 0 < sz) (htn : P.underlying tn = some (.int kn)) (hx : ev E x = some (.slice none 0 0)) (hy : ev E y = some (.int kq (k : Int))) (h0 : 0 < k) (hb : k * bytes ≤ 140737488355328) (hm : k ≤ 4611686018427387904) :
    Xw P n E (.call { callee := .builtin .append, args := #[x, y], argTypes := #[t, tn] }) ty w (fun v w' => ∃ cap xs, v = .slice (some ⟨w.heap.size, 0, none⟩) k cap ∧ w'.ownsRow w.heap.size e sz v k xs ∧ Below w.heap.size w w') := fun a ha => by
  subst hzl
  obtain ⟨i, h1, h2, h3, zv, h4, h5⟩ := hi.i
  subst h3
  have hrun := Lib.run_append_nil_zeros (P := P) w t tn ty e i zv kq kn hu.u htn h1 h4 k h0 (by omega) (by omega) (by omega)
  have hcap := grownCap_ge w k 0 e
  have hcm := grownCap_le_maxLen w k 0 e (by unfold maxLen; omega)
  have hzs : zv.cells.size = zs.length := by rw [h5]; simp
  have hsz1 : ∀ m, (Builtin.zeroCells zv.cells m).size = m * zs.length := fun m => by simp [Builtin.zeroCells, hzs]
  refine ⟨_, _, fun _ _ _ _ => by simp [execOp, resolve, invoke, builtin, ha.ev hx, ha.ev hy, hrun], grownCap w k 0 e, ((Builtin.zeroCells zv.cells k ++ Builtin.zeroCells zv.cells (grownCap w k 0 e - k)).toList.take (k * zs.length)), rfl, ⟨?_, .inr ⟨w.heap.size, _, _, rfl, Nat.le_refl _, heap_alloc_new w.drew _, hcap, hcm, ?_, rfl⟩⟩, ?_⟩
  · simp only [List.length_take, Array.length_toList, Array.size_append, hsz1]; omega
  · simp only [Array.size_append, hsz1]; rw [← Nat.add_mul]; congr 1; omega
  · exact ⟨rfl, rfl, rfl, by simp, fun k hk => heap_alloc_old w.drew _ hk⟩
/-- 'copy' into a list of one's own. -/
theorem Xw.copy {k m base : Nat} {t2 : TypeId} {xs news : List Value} (hu : STy P t e 1) (hi : (P.info? e).map (·.size) = some 1) (hx : ev E x = some v) (hy : ev E y = some u) (hown : w.ownsRow base e 1 v k xs) (hsrc : Sl w 1 u m news) (hmk : m ≤ k) (hone : news.all (·.oneCell') = true) :
    Xw P n E (.call { callee := .builtin .copy, args := #[x, y], argTypes := #[t, t2] }) ty w (fun r w' => r = .int .i64 (m : Int) ∧ w'.ownsRow base e 1 v k (news ++ xs.drop m) ∧ w.grownBy w' v.ownBlock ∧ w'.heap.size = w.heap.size) := fun a ha => by
  obtain ⟨hl, ao, cap, rfl, hc1, hc2, hc3, hc4⟩ := hsrc
  have hlx := hown.1
  rw [Nat.mul_one] at hl hlx
  by_cases hm : m = 0
  · subst hm
    obtain rfl : news = [] := List.eq_nil_of_length_eq_zero hl
    rcases hown.2 with ⟨rfl, rfl⟩ | ⟨g, cap', cur, rfl, hb, hg, hnc, hcm, hcs, htake⟩
    · have hrun := run_copy_none (P := P) w t t2 ty e none ao 0 0 0 cap hu.u hi (by simp)
      exact ⟨_, w, fun _ _ _ _ => by simp [execOp, resolve, invoke, builtin, ha.ev hx, ha.ev hy, hrun, goInt], rfl, by simpa using hown, grown_refl _ _, rfl⟩
    · have hrun := run_copy_none (P := P) w t t2 ty e (some ⟨g, 0, none⟩) ao k cap' 0 cap hu.u hi (by simp)
      exact ⟨_, w, fun _ _ _ _ => by simp [execOp, resolve, invoke, builtin, ha.ev hx, ha.ev hy, hrun, goInt], rfl, by simpa using hown, grown_refl _ _, rfl⟩
  · rcases hown.2 with ⟨rfl, rfl⟩ | ⟨g, cap', cur, rfl, hb, hg, hnc, hcm, hcs, htake⟩
    · omega
    · cases ao with
      | none => have := hc3 rfl; omega
      | some ad =>
        rw [Nat.mul_one] at htake
        rw [Nat.mul_one] at hcs
        have hone' : ∀ u ∈ news, u.oneCell' = true := fun u hu => List.all_eq_true.1 hone u hu
        have hmin : Nat.min m k = m := Nat.min_eq_left hmk
        have hrun := run_copy_row (P := P) w t t2 ty e g 0 k cap' ad m cap cur e news hu.u hi hg (by rw [hl, hmin]) (hc4 ad rfl) (by omega) hone'
        rw [hl] at hrun
        simp only [List.take_zero, List.nil_append, Nat.zero_add] at hrun
        refine ⟨.int .i64 (m : Int), w.setRow g (news ++ cur.toList.drop m).toArray, fun _ _ _ _ => by simp only [execOp, resolve, invoke, builtin, Array.map_push, List.map_toArray, List.map_cons, List.map_nil, ha.ev hx, ha.ev hy]; simp [hrun, goInt], rfl, ⟨by simp [hl, hlx]; omega, .inr ⟨g, cap', _, rfl, hb, setRow_heap w g _ _ _ _ hg, hnc, hcm, ?_, ?_⟩⟩, ⟨rfl, rfl, rfl, by simp [World.setRow], fun k _ hk => setRow_other w g k _ (fun e => hk (by simp [e, Value.ownBlock]))⟩, by simp [World.setRow]⟩
        · simp [hl, hcs]; omega
        · rw [← htake]
          apply List.ext_getElem?
          intro j
          simp only [Nat.mul_one, List.getElem?_take, List.getElem?_append, List.getElem?_drop, hl]
          by_cases h1 : j < m
          · simp [h1, show j < k by omega]
          · simp only [h1, if_false]
            by_cases h2 : j < k
            · simp [h2, show m + (j - m) < k by omega]
            · simp [h2, show ¬ (m + (j - m) < k) by omega]
end
end Go.Dd
