/- Texts of this proof, one behind the other: RefNode, RefProducts, RefWin, RefMoves, RefGraph, RefShapes, MeansWork, MeansGreat, MeansAt, MeansSim, MeansNeeds. -/
import Derived.Test.YtmipoeanpnnjoaaGreatPk6
import Derived.Test.YtmipoeanpnnjoaaGreatPk5
import Derived.Test.YtmipoeanpnnjoaaGreatPk2
import Derived.Test.YtmipoeanpnnjoaaGreatPk3
import Derived.Test.YtmipoeanpnnjoaaGreatPk4

/-! Contract: the document's: is a node one of its kind? -/
namespace Go.Proofs.YtmipoeanpnnjoaaGreat
open Go Go.Dd Go.RowKit
set_option maxRecDepth 100000

/-- How many a kind takes in. -/
def tkR (k : BitVec 8) : Int × Int × Bool := match kdOf k with
 | some (a :: b :: _) => (a, b, true)
 | _ => (0, 0, false)
theorem takes_c (k : BitVec 8) (w : World) : Fnc Tryz.prog 132 [b8 k] w (fun r w' => r = .tuple #[.int .i64 (tkR k).1, .int .i64 (tkR k).2.1, .bool (tkR k).2.2] ∧ Below w.heap.size w w') := by
 refine Fnc.enter (n := 23) Tryz.func132 (by kernel_rfl) rfl rfl rfl <| Cw.seq <| Cw.region <| Lw.val (Ex.assign rfl) rfl <| Lw.val (Ex.assign rfl) rfl <| Lw.val (Ex.assign rfl) rfl <| Lw.nil <| Pw.thenN <| Cw.out <| Cw.seq <| Cw.seq <| Cw.region <| Lw.val (Ex.move rfl) rfl <| Lw.nil <| Pw.thenN <| Cw.out <| Cw.block <| Cw.seq <| Cw.seq <| Cw.region <| Lw.val (Ex.eql8 rfl (show _ = some (b8 (1#8)) from rfl)) rfl <| Lw.val (Ex.assign rfl) rfl <| Lw.nil <| Pw.thenN <| Cw.out <| Cw.cond rfl ?_ ?_
 ·intro g
  have g : k = 1#8 := of_decide_eq_true g
  refine Cw.skip <| Pw.thenN <| Cw.out <| Cw.condB rfl true ((decide_eq_true g)) <| Cw.seq <| Cw.region <| Lw.val (Ex.assign rfl) rfl <| Lw.val (Ex.assign rfl) rfl <| Lw.val (Ex.assign rfl) rfl <| Lw.nil <| Pw.thenN <| Cw.out <| Cw.ret <| Pw.blkR <| Pw.thenR <| Pw.ret3 rfl rfl rfl rfl ?_
  rw [g]
  exact ⟨by kernel_rfl, Below.refl _ _⟩
 intro g1
 have g1 : ¬ k = 1#8 := of_decide_eq_false g1
 refine Cw.region <| Lw.val (Ex.eql8 rfl (show _ = some (b8 (2#8)) from rfl)) rfl <| Lw.val (Ex.assign rfl) rfl <| Lw.nil <| Pw.thenN <| Cw.out <| Cw.cond rfl ?_ ?_
 ·intro g
  have g : k = 2#8 := of_decide_eq_true g
  refine Cw.seq <| Cw.region <| Lw.val (Ex.assign rfl) rfl <| Lw.val (Ex.assign rfl) rfl <| Lw.val (Ex.assign rfl) rfl <| Lw.nil <| Pw.thenN <| Cw.out <| Cw.ret <| Pw.blkR <| Pw.thenR <| Pw.ret3 rfl rfl rfl rfl ?_
  rw [g]
  exact ⟨by kernel_rfl, Below.refl _ _⟩
 intro g2
 have g2 : ¬ k = 2#8 := of_decide_eq_false g2
 refine Cw.seq <| Cw.seq <| Cw.region <| Lw.val (Ex.eql8 rfl (show _ = some (b8 (3#8)) from rfl)) rfl <| Lw.val (Ex.assign rfl) rfl <| Lw.nil <| Pw.thenN <| Cw.out <| Cw.cond rfl ?_ ?_
 ·intro g
  have g : k = 3#8 := of_decide_eq_true g
  refine Cw.skip <| Pw.thenN <| Cw.out <| Cw.condB rfl true ((decide_eq_true g)) <| Cw.seq <| Cw.region <| Lw.val (Ex.assign rfl) rfl <| Lw.val (Ex.assign rfl) rfl <| Lw.val (Ex.assign rfl) rfl <| Lw.nil <| Pw.thenN <| Cw.out <| Cw.ret <| Pw.blkR <| Pw.thenR <| Pw.ret3 rfl rfl rfl rfl ?_
  rw [g]
  exact ⟨by kernel_rfl, Below.refl _ _⟩
 intro g3
 have g3 : ¬ k = 3#8 := of_decide_eq_false g3
 refine Cw.seq <| Cw.region <| Lw.val (Ex.eql8 rfl (show _ = some (b8 (4#8)) from rfl)) rfl <| Lw.val (Ex.assign rfl) rfl <| Lw.nil <| Pw.thenN <| Cw.out <| Cw.cond rfl ?_ ?_
 ·intro g
  have g : k = 4#8 := of_decide_eq_true g
  refine Cw.skip <| Pw.thenN <| Cw.out <| Cw.condB rfl true ((decide_eq_true g)) <| Cw.seq <| Cw.region <| Lw.val (Ex.assign rfl) rfl <| Lw.val (Ex.assign rfl) rfl <| Lw.val (Ex.assign rfl) rfl <| Lw.nil <| Pw.thenN <| Cw.out <| Cw.ret <| Pw.blkR <| Pw.thenR <| Pw.ret3 rfl rfl rfl rfl ?_
  rw [g]
  exact ⟨by kernel_rfl, Below.refl _ _⟩
 intro g4
 have g4 : ¬ k = 4#8 := of_decide_eq_false g4
 refine Cw.seq <| Cw.region <| Lw.val (Ex.eql8 rfl (show _ = some (b8 (7#8)) from rfl)) rfl <| Lw.val (Ex.assign rfl) rfl <| Lw.nil <| Pw.thenN <| Cw.out <| Cw.cond rfl ?_ ?_
 ·intro g
  have g : k = 7#8 := of_decide_eq_true g
  refine Cw.skip <| Pw.thenN <| Cw.out <| Cw.condB rfl true ((decide_eq_true g)) <| Cw.seq <| Cw.region <| Lw.val (Ex.assign rfl) rfl <| Lw.val (Ex.assign rfl) rfl <| Lw.val (Ex.assign rfl) rfl <| Lw.nil <| Pw.thenN <| Cw.out <| Cw.ret <| Pw.blkR <| Pw.thenR <| Pw.ret3 rfl rfl rfl rfl ?_
  rw [g]
  exact ⟨by kernel_rfl, Below.refl _ _⟩
 intro g7
 have g7 : ¬ k = 7#8 := of_decide_eq_false g7
 refine Cw.region <| Lw.val (Ex.eql8 rfl (show _ = some (b8 (8#8)) from rfl)) rfl <| Lw.val (Ex.assign rfl) rfl <| Lw.nil <| Pw.thenN <| Cw.out <| Cw.cond rfl ?_ ?_
 ·intro g
  have g : k = 8#8 := of_decide_eq_true g
  refine Cw.seq <| Cw.region <| Lw.val (Ex.assign rfl) rfl <| Lw.val (Ex.assign rfl) rfl <| Lw.val (Ex.assign rfl) rfl <| Lw.nil <| Pw.thenN <| Cw.out <| Cw.ret <| Pw.blkR <| Pw.thenR <| Pw.ret3 rfl rfl rfl rfl ?_
  rw [g]
  exact ⟨by kernel_rfl, Below.refl _ _⟩
 intro g8
 have g8 : ¬ k = 8#8 := of_decide_eq_false g8
 refine Cw.seq <| Cw.seq <| Cw.region <| Lw.val (Ex.eql8 rfl (show _ = some (b8 (5#8)) from rfl)) rfl <| Lw.val (Ex.assign rfl) rfl <| Lw.nil <| Pw.thenN <| Cw.out <| Cw.cond rfl ?_ ?_
 ·intro g
  have g : k = 5#8 := of_decide_eq_true g
  refine Cw.skip <| Pw.thenN <| Cw.out <| Cw.condB rfl true ((decide_eq_true g)) <| Cw.seq <| Cw.region <| Lw.val (Ex.assign rfl) rfl <| Lw.val (Ex.assign rfl) rfl <| Lw.val (Ex.assign rfl) rfl <| Lw.nil <| Pw.thenN <| Cw.out <| Cw.ret <| Pw.blkR <| Pw.thenR <| Pw.ret3 rfl rfl rfl rfl ?_
  rw [g]
  exact ⟨by kernel_rfl, Below.refl _ _⟩
 intro g5
 have g5 : ¬ k = 5#8 := of_decide_eq_false g5
 refine Cw.seq <| Cw.region <| Lw.val (Ex.eql8 rfl (show _ = some (b8 (6#8)) from rfl)) rfl <| Lw.val (Ex.assign rfl) rfl <| Lw.nil <| Pw.thenN <| Cw.out <| Cw.cond rfl ?_ ?_
 ·intro g
  have g : k = 6#8 := of_decide_eq_true g
  refine Cw.skip <| Pw.thenN <| Cw.out <| Cw.condB rfl true ((decide_eq_true g)) <| Cw.seq <| Cw.region <| Lw.val (Ex.assign rfl) rfl <| Lw.val (Ex.assign rfl) rfl <| Lw.val (Ex.assign rfl) rfl <| Lw.nil <| Pw.thenN <| Cw.out <| Cw.ret <| Pw.blkR <| Pw.thenR <| Pw.ret3 rfl rfl rfl rfl ?_
  rw [g]
  exact ⟨by kernel_rfl, Below.refl _ _⟩
 intro g6
 have g6 : ¬ k = 6#8 := of_decide_eq_false g6
 refine Cw.seq <| Cw.region <| Lw.val (Ex.eql8 rfl (show _ = some (b8 (9#8)) from rfl)) rfl <| Lw.val (Ex.assign rfl) rfl <| Lw.nil <| Pw.thenN <| Cw.out <| Cw.cond rfl ?_ ?_
 ·intro g
  have g : k = 9#8 := of_decide_eq_true g
  refine Cw.skip <| Pw.thenN <| Cw.out <| Cw.condB rfl true ((decide_eq_true g)) <| Cw.seq <| Cw.region <| Lw.val (Ex.assign rfl) rfl <| Lw.val (Ex.assign rfl) rfl <| Lw.val (Ex.assign rfl) rfl <| Lw.nil <| Pw.thenN <| Cw.out <| Cw.ret <| Pw.blkR <| Pw.thenR <| Pw.ret3 rfl rfl rfl rfl ?_
  rw [g]
  exact ⟨by kernel_rfl, Below.refl _ _⟩
 intro g9
 have g9 : ¬ k = 9#8 := of_decide_eq_false g9
 refine Cw.seq <| Cw.region <| Lw.val (Ex.eql8 rfl (show _ = some (b8 (10#8)) from rfl)) rfl <| Lw.val (Ex.assign rfl) rfl <| Lw.nil <| Pw.thenN <| Cw.out <| Cw.cond rfl ?_ ?_
 ·intro g
  have g : k = 10#8 := of_decide_eq_true g
  refine Cw.skip <| Pw.thenN <| Cw.out <| Cw.condB rfl true ((decide_eq_true g)) <| Cw.seq <| Cw.region <| Lw.val (Ex.assign rfl) rfl <| Lw.val (Ex.assign rfl) rfl <| Lw.val (Ex.assign rfl) rfl <| Lw.nil <| Pw.thenN <| Cw.out <| Cw.ret <| Pw.blkR <| Pw.thenR <| Pw.ret3 rfl rfl rfl rfl ?_
  rw [g]
  exact ⟨by kernel_rfl, Below.refl _ _⟩
 intro g10
 have g10 : ¬ k = 10#8 := of_decide_eq_false g10
 refine Cw.seq <| Cw.region <| Lw.val (Ex.eql8 rfl (show _ = some (b8 (11#8)) from rfl)) rfl <| Lw.val (Ex.assign rfl) rfl <| Lw.nil <| Pw.thenN <| Cw.out <| Cw.cond rfl ?_ ?_
 ·intro g
  have g : k = 11#8 := of_decide_eq_true g
  refine Cw.skip <| Pw.thenN <| Cw.out <| Cw.condB rfl true ((decide_eq_true g)) <| Cw.seq <| Cw.region <| Lw.val (Ex.assign rfl) rfl <| Lw.val (Ex.assign rfl) rfl <| Lw.val (Ex.assign rfl) rfl <| Lw.nil <| Pw.thenN <| Cw.out <| Cw.ret <| Pw.blkR <| Pw.thenR <| Pw.ret3 rfl rfl rfl rfl ?_
  rw [g]
  exact ⟨by kernel_rfl, Below.refl _ _⟩
 intro g11
 have g11 : ¬ k = 11#8 := of_decide_eq_false g11
 refine Cw.region <| Lw.val (Ex.eql8 rfl (show _ = some (b8 (13#8)) from rfl)) rfl <| Lw.val (Ex.assign rfl) rfl <| Lw.nil <| Pw.thenN <| Cw.out <| Cw.cond rfl ?_ ?_
 ·intro g
  have g : k = 13#8 := of_decide_eq_true g
  refine Cw.seq <| Cw.region <| Lw.val (Ex.assign rfl) rfl <| Lw.val (Ex.assign rfl) rfl <| Lw.val (Ex.assign rfl) rfl <| Lw.nil <| Pw.thenN <| Cw.out <| Cw.ret <| Pw.blkR <| Pw.thenR <| Pw.ret3 rfl rfl rfl rfl ?_
  rw [g]
  exact ⟨by kernel_rfl, Below.refl _ _⟩
 intro g13
 have g13 : ¬ k = 13#8 := of_decide_eq_false g13
 refine Cw.seq <| Cw.region <| Lw.val (Ex.eql8 rfl (show _ = some (b8 (12#8)) from rfl)) rfl <| Lw.val (Ex.assign rfl) rfl <| Lw.nil <| Pw.thenN <| Cw.out <| Cw.cond rfl ?_ ?_
 ·intro g
  have g : k = 12#8 := of_decide_eq_true g
  refine Cw.seq <| Cw.region <| Lw.val (Ex.assign rfl) rfl <| Lw.val (Ex.assign rfl) rfl <| Lw.val (Ex.assign rfl) rfl <| Lw.nil <| Pw.thenN <| Cw.out <| Cw.ret <| Pw.blkR <| Pw.thenR <| Pw.ret3 rfl rfl rfl rfl ?_
  rw [g]
  exact ⟨by kernel_rfl, Below.refl _ _⟩
 intro g12
 have g12 : ¬ k = 12#8 := of_decide_eq_false g12
 refine Cw.skip <| Pw.blkN <| Pw.thenN <| Cw.out <| Cw.seq <| Cw.region <| Lw.val (Ex.assign rfl) rfl <| Lw.val (Ex.assign rfl) rfl <| Lw.val (Ex.assign rfl) rfl <| Lw.nil <| Pw.thenN <| Cw.out <| Cw.ret <| Pw.ret3 rfl rfl rfl rfl ?_
 have e : kdOf k = none := by
  cases h : kdOf k with
  | none => rfl
  | some r =>
   have := kd_some k (by rw [h]; rfl)
   rcases this with h | h | h | h | h | h | h | h | h | h | h | h | h <;> contradiction
 rw [show tkR k = (0, 0, false) by unfold tkR; rw [e]]
 exact ⟨rfl, Below.refl _ _⟩
theorem within10_c (n a b : Int) (w : World) : Fnc Tryz.prog 133 [.int .i64 n, .int .i64 a, .int .i64 b] w (fun r w' => r = .bool (decide (a ≤ n) && decide (n ≤ b)) ∧ Below w.heap.size w w') := by
 refine Fnc.enter (n := 15) Tryz.func133 (by kernel_rfl) rfl rfl rfl <| Cw.seq <| Cw.region <| Lw.val (Ex.assign rfl) rfl <| Lw.nil <| Pw.thenN <| Cw.out <| Cw.seq <| Cw.region <| Lw.val (Ex.move rfl) rfl <| Lw.val (Ex.move rfl) rfl <| Lw.val (Ex.geq rfl rfl) rfl <| Lw.val (Ex.move rfl) rfl ?_
 refine Lw.part 10 rfl ?_ ?_
 ·intro g
  refine Lw.take (dj := 10) rfl rfl <| Lw.val (Ex.move rfl) rfl <| Lw.take (dj := 10) rfl rfl <| Lw.val (Ex.move rfl) rfl <| Lw.take (dj := 10) rfl rfl <| Lw.val (Ex.leq rfl rfl) rfl <| Lw.val (Ex.pickT rfl rfl) rfl <| Lw.val (Ex.assign rfl) rfl <| Lw.nil <| Pw.thenN <| Cw.out <| Cw.ret <| Pw.ret1 rfl rfl ?_
  rw [g]
  exact ⟨rfl, Below.refl _ _⟩
 intro g
 refine Lw.pass (dj := 10) rfl rfl rfl rfl <| Lw.pass (dj := 10) rfl rfl rfl rfl <| Lw.pass (dj := 10) rfl rfl rfl rfl <| Lw.val (Ex.pickF rfl rfl) rfl <| Lw.val (Ex.assign rfl) rfl <| Lw.nil <| Pw.thenN <| Cw.out <| Cw.ret <| Pw.ret1 rfl rfl ?_
 rw [g]
 exact ⟨rfl, Below.refl _ _⟩
def shpB (f : Int) (s : List Int) : Bool := if f = 0 then decide (s.length = 0) else if f = 1 then Shapes.ok s else gord s
theorem kindF_eq {k : BitVec 8} {i s : List Int} {n p a b c d e f : Int} (hk : kdOf k = some [a, b, c, d, e, f]) (h1 : a ≤ (i.length : Int)) (h2 : (i.length : Int) ≤ b) :
  kindF k i s n p = (decide (c ≤ n ∧ n ≤ d ∧ 0 ≤ p ∧ p ≤ e) && shpB f s) := by
 unfold kindF
 rw [hk]
 show kindB a b c d e f i s n p = _
 rw [Bool.eq_iff_iff, kindB_iff, Bool.and_eq_true, decide_eq_true_iff]
 unfold shpB
 constructor
 ·rintro ⟨⟨-, -, q1, q2, q3, q4⟩, q5⟩; exact ⟨⟨q1, q2, q3, q4⟩, q5⟩
 ·rintro ⟨⟨q1, q2, q3, q4⟩, q5⟩; exact ⟨⟨h1, h2, q1, q2, q3, q4⟩, q5⟩
theorem kindF_no {k : BitVec 8} {i s : List Int} {n p a b c d e f : Int} (hk : kdOf k = some [a, b, c, d, e, f]) (h : ¬ (a ≤ (i.length : Int) ∧ (i.length : Int) ≤ b)) : kindF k i s n p = false := by
 cases hf : kindF k i s n p with
 | false => rfl
 | true =>
  have := (kindF_at hf hk).1
  exact absurd ⟨this.1, this.2.1⟩ h
theorem fl_ge {l : List Int} : ∀ m : Nat, (∀ i : Nat, i < m → 1 ≤ cn (i : Int) l) → m ≤ fl (m : Int) l
 | 0, _ => Nat.zero_le _
 | m + 1, h => by
  have := fl_ge m fun i hi => h i (by omega)
  have := h m (by omega)
  rw [fl_succ]; omega
theorem fl_gt {l : List Int} {j : Nat} (hj : 2 ≤ cn (j : Int) l) : ∀ m : Nat, j < m → (∀ i : Nat, i < m → 1 ≤ cn (i : Int) l) → m + 1 ≤ fl (m : Int) l
 | 0, h, _ => by omega
 | m + 1, h, hh => by
  rw [fl_succ]
  by_cases e : j = m
  ·have := fl_ge m fun i hi => hh i (by omega)
   rw [← e] at this ⊢; omega
  ·have := fl_gt hj m (by omega) fun i hi => hh i (by omega)
   have := hh m (by omega)
   omega
theorem cn_none {i : Int} : ∀ {l : List Int}, i ∉ l → cn i l = 0
 | [], _ => rfl
 | x :: l, h => by
  simp only [cn]
  rw [cn_none fun hm => h (List.mem_cons_of_mem _ hm), if_neg fun e => h (by rw [e]; simp)]
/-- Two words for an order of directions. -/
theorem gord_ord (s : List Int) : gord s = (decide (s.length ≤ 4) && ordOk s) := by
 unfold gord
 by_cases h4 : s.length ≤ 4
 ·rw [decide_eq_true h4, Bool.and_true, Bool.true_and, Bool.eq_iff_iff]
  constructor
  ·intro hc
   have hm : ∀ i : Nat, i < s.length → 1 ≤ cn (i : Int) s := fun i hi => cn_mem (by simpa using cov_iff.1 hc i hi)
   refine cn_ord fun i hi => ?_
   have h1 := hm i hi
   by_cases e : 2 ≤ cn (i : Int) s
   ·have := fl_gt e s.length hi hm
    have := fl_le (s.length : Int) s
    omega
   ·omega
  ·intro ho
   refine cov_iff.2 fun j hj => ?_
   have := ord_cn ho h4 hj
   cases hc : s.contains (j : Int) with
   | true => rfl
   | false =>
    exfalso
    have hno : (j : Int) ∉ s := by simpa using hc
    have h0 : cn (j : Int) s = 0 := cn_none hno
    omega
 ·rw [decide_eq_false h4]; simp
theorem kd_rest : ∀ k : BitVec 8, ((decide (k = 1#8) || decide (k = 2#8) || decide (k = 10#8) || decide (k = 11#8)) || (match kdOf k with
  | some [_, _, c, d, e, f] => decide (f = 0) && (decide (k = 8#8) || decide (e = 0)) && (decide (k = 6#8) || decide (k = 8#8) || decide (k = 9#8) || decide (k = 12#8) || decide (k = 13#8) || (decide (c = 0) && decide (d = 0)))
  | _ => true)) = true := by decide +kernel
theorem kdOf_none {k : BitVec 8} {i s : List Int} {n p : Int} (h : kdOf k = none) : kindF k i s n p = false := by unfold kindF; rw [h]
theorem tk_cases (k : BitVec 8) : (kdOf k = none ∧ tkR k = (0, 0, false)) ∨ ∃ a b c d e f, kdOf k = some [a, b, c, d, e, f] ∧ tkR k = (a, b, true) := by
 cases h : kdOf k with
 | none => exact .inl ⟨rfl, by unfold tkR; rw [h]⟩
 | some r =>
  have := (kd_look h).2.2
  obtain ⟨a, b, c, d, e, f, rfl⟩ := six_of this
  exact .inr ⟨a, b, c, d, e, f, rfl, by unfold tkR; rw [h]⟩
theorem rnode_c (x : N5) (W : World) (hx : N5.at W x) : Fnc Tryz.prog 123 [x.v] W (fun r w' => r = .bool (kindF x.k x.i x.s x.n x.p) ∧ Below W.heap.size W w') := by
 have hB := Below.refl W.heap.size W
 have h_i := hx.i
 have h_s := hx.s
 refine Fnc.enter (n := 112) Tryz.func123 (by kernel_rfl) rfl rfl rfl <| Cw.seq <| Cw.region <| Lw.boxV (cs := x.cells) rfl rfl rfl ?_
 rintro A_x w eA_x b_x hn -
 replace hB := hB.bs hn
 replace h_i := h_i.bs hn
 replace h_s := h_s.bs hn
 clear hn
 refine Lw.val (Ex.assign rfl) rfl <| Lw.nil <| Pw.thenN <| Cw.out <| Cw.seq <| Cw.region <| Lw.val (Ex.fieldAddr (q := 0) Tryz.underlying45 rfl (sz_43 _) rfl) rfl <| Lw.val (Ex.ldB (ag_43 _) rfl (by assumption) rfl) rfl ?_
 refine Lw.callF rfl rfl (takes_c x.k _) ?_
 rintro _ w ⟨rfl, hn⟩
 replace hB := hB.bs hn
 replace h_i := h_i.bs hn
 replace h_s := h_s.bs hn
 replace b_x := b_x.bs hn
 clear hn
 rcases tk_cases x.k with ⟨e1, e2⟩ | ⟨a, b, c, d, e, f, e1, e2⟩
 ·rw [e2]
  refine Lw.val (Ex.move rfl) rfl <| Lw.val (Ex.extract (i := 0) rfl rfl) rfl <| Lw.val (Ex.extract (i := 1) rfl rfl) rfl <| Lw.val (Ex.extract (i := 2) rfl rfl) rfl <| Lw.val (Ex.assign rfl) rfl <| Lw.val (Ex.assign rfl) rfl <| Lw.val (Ex.assign rfl) rfl <| Lw.nil <| Pw.thenN <| Cw.out <| Cw.seq <| Cw.seq <| Cw.region <| Lw.val (Ex.move rfl) rfl <| Lw.val (Ex.not rfl) rfl <| Lw.val (Ex.move rfl) rfl <| Lw.know 15 (v' := .bool true) rfl (congrArg Value.bool (rfl)) <| Lw.pass (dj := 15) rfl rfl rfl rfl <| Lw.pass (dj := 15) rfl rfl rfl rfl <| Lw.pass (dj := 15) rfl rfl rfl rfl <| Lw.pass (dj := 15) rfl rfl rfl rfl <| Lw.pass (dj := 15) rfl rfl rfl rfl <| Lw.pass (dj := 15) rfl rfl rfl rfl <| Lw.pass (dj := 15) rfl rfl rfl rfl <| Lw.val (Ex.pickT rfl rfl) rfl <| Lw.nil <| Pw.thenN <| Cw.out <| Cw.condT rfl <| Cw.seq <| Cw.region <| Lw.val (Ex.assign rfl) rfl <| Lw.nil <| Pw.thenN <| Cw.out <| Cw.ret <| Pw.thenR <| Pw.ret1 rfl rfl ?_
  exact ⟨by rw [kdOf_none e1], hB⟩
 rw [e2]
 refine Lw.val (Ex.move rfl) rfl <| Lw.val (Ex.extract (i := 0) rfl rfl) rfl <| Lw.val (Ex.extract (i := 1) rfl rfl) rfl <| Lw.val (Ex.extract (i := 2) rfl rfl) rfl <| Lw.val (Ex.assign rfl) rfl <| Lw.val (Ex.assign rfl) rfl <| Lw.val (Ex.assign rfl) rfl <| Lw.nil <| Pw.thenN <| Cw.out <| Cw.seq <| Cw.seq <| Cw.region <| Lw.val (Ex.move rfl) rfl <| Lw.val (Ex.not rfl) rfl <| Lw.val (Ex.move rfl) rfl <| Lw.know 15 (v' := .bool false) rfl (congrArg Value.bool (rfl)) <| Lw.take (dj := 15) rfl rfl <| Lw.val (Ex.fieldAddr (q := 0) Tryz.underlying45 rfl (sz_26 _) rfl) rfl <| Lw.take (dj := 15) rfl rfl <| Lw.val (Ex.ldB (ag_26 _) rfl (by assumption) rfl) rfl ?_
 refine Lw.take (dj := 15) rfl rfl <| Lw.val (Ex.lenS st_26 rfl (by assumption)) rfl ?_
 refine Lw.take (dj := 15) rfl rfl <| Lw.val (Ex.move rfl) rfl <| Lw.take (dj := 15) rfl rfl <| Lw.val (Ex.move rfl) rfl <| Lw.take (dj := 15) rfl rfl <| Lw.callF rfl rfl (within10_c (x.i.length : Int) a b w) ?_
 rintro _ w ⟨rfl, hn⟩
 replace hB := hB.bs hn
 replace h_i := h_i.bs hn
 replace h_s := h_s.bs hn
 replace b_x := b_x.bs hn
 clear hn
 refine Lw.take (dj := 15) rfl rfl <| Lw.val (Ex.not rfl) rfl <| Lw.val (Ex.pickF rfl rfl) rfl <| Lw.nil <| Pw.thenN <| Cw.out <| Cw.cond rfl ?_ ?_
 ·intro q
  refine Cw.seq <| Cw.region <| Lw.val (Ex.assign rfl) rfl <| Lw.nil <| Pw.thenN <| Cw.out <| Cw.ret <| Pw.thenR <| Pw.ret1 rfl rfl ?_
  have q : ¬ (a ≤ (x.i.length : Int) ∧ (x.i.length : Int) ≤ b) := by simp at q; omega
  exact ⟨by rw [kindF_no e1 q], hB⟩
 intro q
 have q : a ≤ (x.i.length : Int) ∧ (x.i.length : Int) ≤ b := by simp at q; omega
 obtain ⟨h1, h2⟩ := q
 clear e2
 refine Cw.skip <| Pw.thenN <| Cw.out <| Cw.seq <| Cw.seq <| Cw.region <| Lw.val (Ex.fieldAddr (q := 0) Tryz.underlying45 rfl (sz_43 _) rfl) rfl <| Lw.val (Ex.ldB (ag_43 _) rfl (by assumption) rfl) rfl ?_
 refine Lw.nil <| Pw.thenN <| Cw.out <| Cw.block <| Cw.seq <| Cw.seq <| Cw.region <| Lw.val (Ex.eql8 rfl (show _ = some (b8 (1#8)) from rfl)) rfl <| Lw.val (Ex.assign rfl) rfl <| Lw.nil <| Pw.thenN <| Cw.out <| Cw.cond rfl ?_ ?_
 ·intro q
  have g : x.k = 1#8 := of_decide_eq_true q
  refine Cw.skip <| Pw.thenN <| Cw.out <| Cw.condB rfl true (q) <| Cw.seq <| Cw.region <| Lw.val (Ex.fieldAddr (q := 0) Tryz.underlying45 rfl (sz_26 _) rfl) rfl <| Lw.val (Ex.ldB (ag_26 _) rfl (by assumption) rfl) rfl ?_
  have K8 : kindF x.k x.i x.s x.n x.p = (Shapes.ok x.s && decide (x.n = 0) && decide (x.p = 0)) := by
   have e2 := e1
   rw [g, kd_1] at e2
   cases e2
   rw [kindF_eq e1 h1 h2, Bool.eq_iff_iff]
   show ((decide _ && Shapes.ok x.s) = true) ↔ _
   simp only [Bool.and_eq_true, decide_eq_true_eq]
   constructor
   ·rintro ⟨q1, q2⟩; exact ⟨⟨q2, by omega⟩, by omega⟩
   ·rintro ⟨⟨q1, q2⟩, q3⟩; exact ⟨by omega, q1⟩
  rw [K8]
  refine Lw.callF rfl rfl (rcheck_c x.y x.s _ h_s) ?_
  rintro _ w ⟨rfl, hn⟩
  replace hB := hB.bs hn
  replace h_i := h_i.bs hn
  replace h_s := h_s.bs hn
  replace b_x := b_x.bs hn
  clear hn
  refine Lw.val (Ex.move rfl) rfl ?_
  refine Lw.part 33 rfl ?_ ?_
  ·intro q1
   refine Lw.take (dj := 33) rfl rfl <| Lw.val (Ex.fieldAddr (q := 0) Tryz.underlying45 rfl (sz_3 _) rfl) rfl <| Lw.take (dj := 33) rfl rfl <| Lw.val (Ex.ldB (ag_3 _) rfl (by assumption) rfl) rfl ?_
   refine Lw.take (dj := 33) rfl rfl <| Lw.val (Ex.eql rfl rfl) rfl <| Lw.val (Ex.pickT rfl rfl) rfl <| Lw.val (Ex.move rfl) rfl ?_
   refine Lw.part 38 rfl ?_ ?_
   ·intro q2
    refine Lw.take (dj := 38) rfl rfl <| Lw.val (Ex.fieldAddr (q := 0) Tryz.underlying45 rfl (sz_3 _) rfl) rfl <| Lw.take (dj := 38) rfl rfl <| Lw.val (Ex.ldB (ag_3 _) rfl (by assumption) rfl) rfl ?_
    refine Lw.take (dj := 38) rfl rfl <| Lw.val (Ex.eql rfl rfl) rfl <| Lw.val (Ex.pickT rfl rfl) rfl <| Lw.val (Ex.assign rfl) rfl <| Lw.nil <| Pw.thenN <| Cw.out <| Cw.ret <| Pw.blkR <| Pw.thenR <| Pw.ret1 rfl rfl ?_
    rw [q1, q2]
    exact ⟨rfl, hB⟩
   intro q2
   refine Lw.pass (dj := 38) rfl rfl rfl rfl <| Lw.pass (dj := 38) rfl rfl rfl rfl <| Lw.pass (dj := 38) rfl rfl rfl rfl <| Lw.val (Ex.pickF rfl rfl) rfl <| Lw.val (Ex.assign rfl) rfl <| Lw.nil <| Pw.thenN <| Cw.out <| Cw.ret <| Pw.blkR <| Pw.thenR <| Pw.ret1 rfl rfl ?_
   rw [q1, q2]
   exact ⟨rfl, hB⟩
  intro q1
  refine Lw.pass (dj := 33) rfl rfl rfl rfl <| Lw.pass (dj := 33) rfl rfl rfl rfl <| Lw.pass (dj := 33) rfl rfl rfl rfl <| Lw.val (Ex.pickF rfl rfl) rfl <| Lw.val (Ex.move rfl) rfl <| Lw.pass (dj := 38) rfl rfl rfl rfl <| Lw.pass (dj := 38) rfl rfl rfl rfl <| Lw.pass (dj := 38) rfl rfl rfl rfl <| Lw.val (Ex.pickF rfl rfl) rfl <| Lw.val (Ex.assign rfl) rfl <| Lw.nil <| Pw.thenN <| Cw.out <| Cw.ret <| Pw.blkR <| Pw.thenR <| Pw.ret1 rfl rfl ?_
  rw [q1]
  exact ⟨rfl, hB⟩
 intro q1
 refine Cw.seq <| Cw.region <| Lw.val (Ex.eql8 rfl (show _ = some (b8 (2#8)) from rfl)) rfl <| Lw.val (Ex.assign rfl) rfl <| Lw.nil <| Pw.thenN <| Cw.out <| Cw.cond rfl ?_ ?_
 ·intro q
  have g : x.k = 2#8 := of_decide_eq_true q
  refine Cw.skip <| Pw.thenN <| Cw.out <| Cw.condB rfl true (q) <| Cw.seq <| Cw.region <| Lw.val (Ex.fieldAddr (q := 0) Tryz.underlying45 rfl (sz_26 _) rfl) rfl <| Lw.val (Ex.ldB (ag_26 _) rfl (by assumption) rfl) rfl ?_
  have K8 : kindF x.k x.i x.s x.n x.p = (Shapes.ok x.s && decide (x.n = 0) && decide (x.p = 0)) := by
   have e2 := e1
   rw [g, kd_2] at e2
   cases e2
   rw [kindF_eq e1 h1 h2, Bool.eq_iff_iff]
   show ((decide _ && Shapes.ok x.s) = true) ↔ _
   simp only [Bool.and_eq_true, decide_eq_true_eq]
   constructor
   ·rintro ⟨q1, q2⟩; exact ⟨⟨q2, by omega⟩, by omega⟩
   ·rintro ⟨⟨q1, q2⟩, q3⟩; exact ⟨by omega, q1⟩
  rw [K8]
  refine Lw.callF rfl rfl (rcheck_c x.y x.s _ h_s) ?_
  rintro _ w ⟨rfl, hn⟩
  replace hB := hB.bs hn
  replace h_i := h_i.bs hn
  replace h_s := h_s.bs hn
  replace b_x := b_x.bs hn
  clear hn
  refine Lw.val (Ex.move rfl) rfl ?_
  refine Lw.part 33 rfl ?_ ?_
  ·intro q1
   refine Lw.take (dj := 33) rfl rfl <| Lw.val (Ex.fieldAddr (q := 0) Tryz.underlying45 rfl (sz_3 _) rfl) rfl <| Lw.take (dj := 33) rfl rfl <| Lw.val (Ex.ldB (ag_3 _) rfl (by assumption) rfl) rfl ?_
   refine Lw.take (dj := 33) rfl rfl <| Lw.val (Ex.eql rfl rfl) rfl <| Lw.val (Ex.pickT rfl rfl) rfl <| Lw.val (Ex.move rfl) rfl ?_
   refine Lw.part 38 rfl ?_ ?_
   ·intro q2
    refine Lw.take (dj := 38) rfl rfl <| Lw.val (Ex.fieldAddr (q := 0) Tryz.underlying45 rfl (sz_3 _) rfl) rfl <| Lw.take (dj := 38) rfl rfl <| Lw.val (Ex.ldB (ag_3 _) rfl (by assumption) rfl) rfl ?_
    refine Lw.take (dj := 38) rfl rfl <| Lw.val (Ex.eql rfl rfl) rfl <| Lw.val (Ex.pickT rfl rfl) rfl <| Lw.val (Ex.assign rfl) rfl <| Lw.nil <| Pw.thenN <| Cw.out <| Cw.ret <| Pw.blkR <| Pw.thenR <| Pw.ret1 rfl rfl ?_
    rw [q1, q2]
    exact ⟨rfl, hB⟩
   intro q2
   refine Lw.pass (dj := 38) rfl rfl rfl rfl <| Lw.pass (dj := 38) rfl rfl rfl rfl <| Lw.pass (dj := 38) rfl rfl rfl rfl <| Lw.val (Ex.pickF rfl rfl) rfl <| Lw.val (Ex.assign rfl) rfl <| Lw.nil <| Pw.thenN <| Cw.out <| Cw.ret <| Pw.blkR <| Pw.thenR <| Pw.ret1 rfl rfl ?_
   rw [q1, q2]
   exact ⟨rfl, hB⟩
  intro q1
  refine Lw.pass (dj := 33) rfl rfl rfl rfl <| Lw.pass (dj := 33) rfl rfl rfl rfl <| Lw.pass (dj := 33) rfl rfl rfl rfl <| Lw.val (Ex.pickF rfl rfl) rfl <| Lw.val (Ex.move rfl) rfl <| Lw.pass (dj := 38) rfl rfl rfl rfl <| Lw.pass (dj := 38) rfl rfl rfl rfl <| Lw.pass (dj := 38) rfl rfl rfl rfl <| Lw.val (Ex.pickF rfl rfl) rfl <| Lw.val (Ex.assign rfl) rfl <| Lw.nil <| Pw.thenN <| Cw.out <| Cw.ret <| Pw.blkR <| Pw.thenR <| Pw.ret1 rfl rfl ?_
  rw [q1]
  exact ⟨rfl, hB⟩
 intro q2
 refine Cw.region <| Lw.val (Ex.eql8 rfl (show _ = some (b8 (10#8)) from rfl)) rfl <| Lw.val (Ex.assign rfl) rfl <| Lw.nil <| Pw.thenN <| Cw.out <| Cw.cond rfl ?_ ?_
 ·intro q
  have g : x.k = 10#8 := of_decide_eq_true q
  have K8 : kindF x.k x.i x.s x.n x.p = (Shapes.ok x.s && decide (x.n = 0) && decide (x.p = 0)) := by
   have e2 := e1
   rw [g, kd_10] at e2
   cases e2
   rw [kindF_eq e1 h1 h2, Bool.eq_iff_iff]
   show ((decide _ && Shapes.ok x.s) = true) ↔ _
   simp only [Bool.and_eq_true, decide_eq_true_eq]
   constructor
   ·rintro ⟨q1, q2⟩; exact ⟨⟨q2, by omega⟩, by omega⟩
   ·rintro ⟨⟨q1, q2⟩, q3⟩; exact ⟨by omega, q1⟩
  rw [K8]
  refine Cw.seq <| Cw.region <| Lw.val (Ex.fieldAddr (q := 0) Tryz.underlying45 rfl (sz_26 _) rfl) rfl <| Lw.val (Ex.ldB (ag_26 _) rfl (by assumption) rfl) rfl ?_
  refine Lw.callF rfl rfl (rcheck_c x.y x.s _ h_s) ?_
  rintro _ w ⟨rfl, hn⟩
  replace hB := hB.bs hn
  replace h_i := h_i.bs hn
  replace h_s := h_s.bs hn
  replace b_x := b_x.bs hn
  clear hn
  refine Lw.val (Ex.move rfl) rfl ?_
  refine Lw.part 33 rfl ?_ ?_
  ·intro q1
   refine Lw.take (dj := 33) rfl rfl <| Lw.val (Ex.fieldAddr (q := 0) Tryz.underlying45 rfl (sz_3 _) rfl) rfl <| Lw.take (dj := 33) rfl rfl <| Lw.val (Ex.ldB (ag_3 _) rfl (by assumption) rfl) rfl ?_
   refine Lw.take (dj := 33) rfl rfl <| Lw.val (Ex.eql rfl rfl) rfl <| Lw.val (Ex.pickT rfl rfl) rfl <| Lw.val (Ex.move rfl) rfl ?_
   refine Lw.part 38 rfl ?_ ?_
   ·intro q2
    refine Lw.take (dj := 38) rfl rfl <| Lw.val (Ex.fieldAddr (q := 0) Tryz.underlying45 rfl (sz_3 _) rfl) rfl <| Lw.take (dj := 38) rfl rfl <| Lw.val (Ex.ldB (ag_3 _) rfl (by assumption) rfl) rfl ?_
    refine Lw.take (dj := 38) rfl rfl <| Lw.val (Ex.eql rfl rfl) rfl <| Lw.val (Ex.pickT rfl rfl) rfl <| Lw.val (Ex.assign rfl) rfl <| Lw.nil <| Pw.thenN <| Cw.out <| Cw.ret <| Pw.blkR <| Pw.thenR <| Pw.ret1 rfl rfl ?_
    rw [q1, q2]
    exact ⟨rfl, hB⟩
   intro q2
   refine Lw.pass (dj := 38) rfl rfl rfl rfl <| Lw.pass (dj := 38) rfl rfl rfl rfl <| Lw.pass (dj := 38) rfl rfl rfl rfl <| Lw.val (Ex.pickF rfl rfl) rfl <| Lw.val (Ex.assign rfl) rfl <| Lw.nil <| Pw.thenN <| Cw.out <| Cw.ret <| Pw.blkR <| Pw.thenR <| Pw.ret1 rfl rfl ?_
   rw [q1, q2]
   exact ⟨rfl, hB⟩
  intro q1
  refine Lw.pass (dj := 33) rfl rfl rfl rfl <| Lw.pass (dj := 33) rfl rfl rfl rfl <| Lw.pass (dj := 33) rfl rfl rfl rfl <| Lw.val (Ex.pickF rfl rfl) rfl <| Lw.val (Ex.move rfl) rfl <| Lw.pass (dj := 38) rfl rfl rfl rfl <| Lw.pass (dj := 38) rfl rfl rfl rfl <| Lw.pass (dj := 38) rfl rfl rfl rfl <| Lw.val (Ex.pickF rfl rfl) rfl <| Lw.val (Ex.assign rfl) rfl <| Lw.nil <| Pw.thenN <| Cw.out <| Cw.ret <| Pw.blkR <| Pw.thenR <| Pw.ret1 rfl rfl ?_
  rw [q1]
  exact ⟨rfl, hB⟩
 intro q10
 refine Cw.seq <| Cw.region <| Lw.val (Ex.eql8 rfl (show _ = some (b8 (11#8)) from rfl)) rfl <| Lw.val (Ex.assign rfl) rfl <| Lw.nil <| Pw.thenN <| Cw.out <| Cw.cond rfl ?_ ?_
 ·intro q
  have g : x.k = 11#8 := of_decide_eq_true q
  have K8 : kindF x.k x.i x.s x.n x.p = (decide (x.s.length ≤ 4) && ordOk x.s && decide (x.n = 0) && decide (x.p = 0)) := by
   have e2 := e1
   rw [g, kd_11] at e2
   cases e2
   rw [kindF_eq e1 h1 h2, Bool.eq_iff_iff]
   show ((decide _ && gord x.s) = true) ↔ _
   rw [gord_ord]
   simp only [Bool.and_eq_true, decide_eq_true_eq]
   constructor
   ·rintro ⟨q1, q2, q3⟩; exact ⟨⟨⟨q2, q3⟩, by omega⟩, by omega⟩
   ·rintro ⟨⟨⟨q1, q2⟩, q3⟩, q4⟩; exact ⟨by omega, q1, q2⟩
  rw [K8]
  refine Cw.seq <| Cw.region <| Lw.val (Ex.fieldAddr (q := 0) Tryz.underlying45 rfl (sz_26 _) rfl) rfl <| Lw.val (Ex.ldB (ag_26 _) rfl (by assumption) rfl) rfl ?_
  refine Lw.val (Ex.lenS st_26 rfl (by assumption)) rfl ?_
  refine Lw.val (Ex.leq rfl rfl) rfl <| Lw.val (Ex.move rfl) rfl ?_
  refine Lw.part 49 rfl ?_ ?_
  ·intro q4
   have l4 : x.s.length ≤ 4 := by have := of_decide_eq_true q4; omega
   refine Lw.take (dj := 49) rfl rfl <| Lw.val (Ex.fieldAddr (q := 0) Tryz.underlying45 rfl (sz_26 _) rfl) rfl <| Lw.take (dj := 49) rfl rfl <| Lw.val (Ex.ldB (ag_26 _) rfl (by assumption) rfl) rfl ?_
   refine Lw.take (dj := 49) rfl rfl <| Lw.val (Ex.fieldAddr (q := 0) Tryz.underlying45 rfl (sz_26 _) rfl) rfl <| Lw.take (dj := 49) rfl rfl <| Lw.val (Ex.ldB (ag_26 _) rfl (by assumption) rfl) rfl ?_
   refine Lw.take (dj := 49) rfl rfl <| Lw.val (Ex.lenS st_26 rfl (by assumption)) rfl ?_
   refine Lw.take (dj := 49) rfl rfl <| Lw.callF rfl rfl (rorder_c x.y x.s x.s.length _ h_s l4) ?_
   rintro _ w ⟨rfl, hn⟩
   replace hB := hB.bs hn
   replace h_i := h_i.bs hn
   replace h_s := h_s.bs hn
   replace b_x := b_x.bs hn
   clear hn
   rw [decide_eq_true (show x.s.length = x.s.length from rfl), Bool.true_and, decide_eq_true l4]
   refine Lw.val (Ex.pickT rfl rfl) rfl <| Lw.val (Ex.move rfl) rfl ?_
   refine Lw.part 57 rfl ?_ ?_
   ·intro q5
    refine Lw.take (dj := 57) rfl rfl <| Lw.val (Ex.fieldAddr (q := 0) Tryz.underlying45 rfl (sz_3 _) rfl) rfl <| Lw.take (dj := 57) rfl rfl <| Lw.val (Ex.ldB (ag_3 _) rfl (by assumption) rfl) rfl ?_
    refine Lw.take (dj := 57) rfl rfl <| Lw.val (Ex.eql rfl rfl) rfl <| Lw.val (Ex.pickT rfl rfl) rfl <| Lw.val (Ex.move rfl) rfl ?_
    refine Lw.part 62 rfl ?_ ?_
    ·intro q6
     refine Lw.take (dj := 62) rfl rfl <| Lw.val (Ex.fieldAddr (q := 0) Tryz.underlying45 rfl (sz_3 _) rfl) rfl <| Lw.take (dj := 62) rfl rfl <| Lw.val (Ex.ldB (ag_3 _) rfl (by assumption) rfl) rfl ?_
     refine Lw.take (dj := 62) rfl rfl <| Lw.val (Ex.eql rfl rfl) rfl <| Lw.val (Ex.pickT rfl rfl) rfl <| Lw.val (Ex.assign rfl) rfl <| Lw.nil <| Pw.thenN <| Cw.out <| Cw.ret <| Pw.blkR <| Pw.thenR <| Pw.ret1 rfl rfl ?_
     rw [q5, q6]
     exact ⟨rfl, hB⟩
    intro q6
    refine Lw.pass (dj := 62) rfl rfl rfl rfl <| Lw.pass (dj := 62) rfl rfl rfl rfl <| Lw.pass (dj := 62) rfl rfl rfl rfl <| Lw.val (Ex.pickF rfl rfl) rfl <| Lw.val (Ex.assign rfl) rfl <| Lw.nil <| Pw.thenN <| Cw.out <| Cw.ret <| Pw.blkR <| Pw.thenR <| Pw.ret1 rfl rfl ?_
    rw [q5, q6]
    exact ⟨rfl, hB⟩
   intro q5
   refine Lw.pass (dj := 57) rfl rfl rfl rfl <| Lw.pass (dj := 57) rfl rfl rfl rfl <| Lw.pass (dj := 57) rfl rfl rfl rfl <| Lw.val (Ex.pickF rfl rfl) rfl <| Lw.val (Ex.move rfl) rfl <| Lw.pass (dj := 62) rfl rfl rfl rfl <| Lw.pass (dj := 62) rfl rfl rfl rfl <| Lw.pass (dj := 62) rfl rfl rfl rfl <| Lw.val (Ex.pickF rfl rfl) rfl <| Lw.val (Ex.assign rfl) rfl <| Lw.nil <| Pw.thenN <| Cw.out <| Cw.ret <| Pw.blkR <| Pw.thenR <| Pw.ret1 rfl rfl ?_
   rw [q5]
   exact ⟨rfl, hB⟩
  intro q4
  have l4 : ¬ x.s.length ≤ 4 := by have := of_decide_eq_false q4; omega
  refine Lw.pass (dj := 49) rfl rfl rfl rfl <| Lw.pass (dj := 49) rfl rfl rfl rfl <| Lw.pass (dj := 49) rfl rfl rfl rfl <| Lw.pass (dj := 49) rfl rfl rfl rfl <| Lw.pass (dj := 49) rfl rfl rfl rfl <| Lw.pass (dj := 49) rfl rfl rfl rfl <| Lw.val (Ex.pickF rfl rfl) rfl <| Lw.val (Ex.move rfl) rfl <| Lw.pass (dj := 57) rfl rfl rfl rfl <| Lw.pass (dj := 57) rfl rfl rfl rfl <| Lw.pass (dj := 57) rfl rfl rfl rfl <| Lw.val (Ex.pickF rfl rfl) rfl <| Lw.val (Ex.move rfl) rfl <| Lw.pass (dj := 62) rfl rfl rfl rfl <| Lw.pass (dj := 62) rfl rfl rfl rfl <| Lw.pass (dj := 62) rfl rfl rfl rfl <| Lw.val (Ex.pickF rfl rfl) rfl <| Lw.val (Ex.assign rfl) rfl <| Lw.nil <| Pw.thenN <| Cw.out <| Cw.ret <| Pw.blkR <| Pw.thenR <| Pw.ret1 rfl rfl ?_
  rw [decide_eq_false l4]
  exact ⟨rfl, hB⟩
 intro q11
 have hr := kd_rest x.k
 rw [q1, q2, q10, q11, e1] at hr
 simp only [Bool.or_false, Bool.false_or, Bool.and_eq_true, Bool.or_eq_true, decide_eq_true_eq] at hr
 obtain ⟨⟨f0, e8⟩, cd⟩ := hr
 have K : kindF x.k x.i x.s x.n x.p = (decide (c ≤ x.n ∧ x.n ≤ d ∧ 0 ≤ x.p ∧ x.p ≤ e) && decide (x.s.length = 0)) := by
  rw [kindF_eq e1 h1 h2, f0]; rfl
 clear q1 q2 q10 q11 f0
 refine Cw.skip <| Pw.blkN <| Pw.thenN <| Cw.out <| Cw.seq <| Cw.seq <| Cw.region <| Lw.val (Ex.fieldAddr (q := 0) Tryz.underlying45 rfl (sz_26 _) rfl) rfl <| Lw.val (Ex.ldB (ag_26 _) rfl (by assumption) rfl) rfl ?_
 refine Lw.val (Ex.lenS st_26 rfl (by assumption)) rfl ?_
 refine Lw.val (Ex.gtr rfl rfl) rfl <| Lw.val (Ex.move rfl) rfl ?_
 refine Lw.part 71 rfl ?_ ?_
 ·intro q
  have q : ¬ x.s.length = 0 := by have := of_decide_eq_true q; omega
  refine Lw.pass (dj := 71) rfl rfl rfl rfl <| Lw.pass (dj := 71) rfl rfl rfl rfl <| Lw.pass (dj := 71) rfl rfl rfl rfl <| Lw.pass (dj := 71) rfl rfl rfl rfl <| Lw.passN (dj := 75) rfl rfl rfl <| Lw.passN (dj := 75) rfl rfl rfl <| Lw.passN (dj := 75) rfl rfl rfl <| Lw.pass (dj := 71) rfl rfl rfl rfl <| Lw.val (Ex.pickT rfl rfl) rfl <| Lw.nil <| Pw.thenN <| Cw.out <| Cw.condT rfl <| Cw.seq <| Cw.region <| Lw.val (Ex.assign rfl) rfl <| Lw.nil <| Pw.thenN <| Cw.out <| Cw.ret <| Pw.thenR <| Pw.ret1 rfl rfl ?_
  exact ⟨by rw [K, decide_eq_false q, Bool.and_false], hB⟩
 intro q
 have l0 : x.s.length = 0 := by have := of_decide_eq_false q; omega
 refine Lw.take (dj := 71) rfl rfl <| Lw.val (Ex.fieldAddr (q := 0) Tryz.underlying45 rfl (sz_43 _) rfl) rfl <| Lw.take (dj := 71) rfl rfl <| Lw.val (Ex.ldB (ag_43 _) rfl (by assumption) rfl) rfl ?_
 refine Lw.take (dj := 71) rfl rfl <| Lw.val (Ex.neq8 rfl (show _ = some (b8 (8#8)) from rfl)) rfl <| Lw.take (dj := 71) rfl rfl <| Lw.val (Ex.move rfl) rfl ?_
 refine Lw.part 75 rfl ?_ ?_
 ·intro q8
  have k8 : ¬ x.k = 8#8 := by simpa using q8
  have e0 : e = 0 := e8.resolve_left k8
  refine Lw.take (dj := 75) rfl rfl <| Lw.val (Ex.fieldAddr (q := 0) Tryz.underlying45 rfl (sz_3 _) rfl) rfl <| Lw.take (dj := 75) rfl rfl <| Lw.val (Ex.ldB (ag_3 _) rfl (by assumption) rfl) rfl ?_
  refine Lw.take (dj := 75) rfl rfl <| Lw.val (Ex.neq rfl rfl) rfl <| Lw.take (dj := 71) rfl rfl <| Lw.val (Ex.pickT rfl rfl) rfl <| Lw.val (Ex.pickF rfl rfl) rfl <| Lw.nil <| Pw.thenN <| Cw.out <| Cw.cond rfl ?_ ?_
  ·intro q
   have p0 : ¬ x.p = 0 := by simpa using q
   refine Cw.seq <| Cw.region <| Lw.val (Ex.assign rfl) rfl <| Lw.nil <| Pw.thenN <| Cw.out <| Cw.ret <| Pw.thenR <| Pw.ret1 rfl rfl ?_
   exact ⟨by rw [K, decide_eq_false (show ¬ (c ≤ x.n ∧ x.n ≤ d ∧ 0 ≤ x.p ∧ x.p ≤ e) by omega), Bool.false_and], hB⟩
  intro q
  have p0 : x.p = 0 := by simpa using q
  refine Cw.skip <| Pw.thenN <| Cw.out <| Cw.seq <| Cw.seq <| Cw.region <| Lw.val (Ex.fieldAddr (q := 0) Tryz.underlying45 rfl (sz_43 _) rfl) rfl <| Lw.val (Ex.ldB (ag_43 _) rfl (by assumption) rfl) rfl ?_
  refine Lw.nil <| Pw.thenN <| Cw.out <| Cw.block <| Cw.seq <| Cw.region <| Lw.val (Ex.eql8 rfl (show _ = some (b8 (6#8)) from rfl)) rfl <| Lw.val (Ex.assign rfl) rfl <| Lw.nil <| Pw.thenN <| Cw.out <| Cw.cond rfl ?_ ?_
  ·intro q
   have g : x.k = 6#8 := of_decide_eq_true q
   have e2 := e1
   rw [g, kd_6] at e2
   cases e2
   refine Cw.seq <| Cw.region <| Lw.val (Ex.fieldAddr (q := 0) Tryz.underlying45 rfl (sz_3 _) rfl) rfl <| Lw.val (Ex.ldB (ag_3 _) rfl (by assumption) rfl) rfl ?_
   refine Lw.callF rfl rfl (within10_c x.n 0 31 _) ?_
   rintro _ w ⟨rfl, hn⟩
   replace hB := hB.bs hn
   replace h_i := h_i.bs hn
   replace h_s := h_s.bs hn
   replace b_x := b_x.bs hn
   clear hn
   refine Lw.val (Ex.assign rfl) rfl <| Lw.nil <| Pw.thenN <| Cw.out <| Cw.ret <| Pw.blkR <| Pw.thenR <| Pw.ret1 rfl rfl ?_
   refine ⟨congrArg Value.bool ?_, hB⟩
   rw [K, Bool.eq_iff_iff]
   simp only [Bool.and_eq_true, decide_eq_true_eq]
   omega
  intro q6
  refine Cw.seq <| Cw.region <| Lw.val (Ex.eql8 rfl (show _ = some (b8 (8#8)) from rfl)) rfl <| Lw.val (Ex.assign rfl) rfl <| Lw.nil <| Pw.thenN <| Cw.out <| Cw.condB rfl false ((decide_eq_false k8)) <| Cw.seq <| Cw.region <| Lw.val (Ex.eql8 rfl (show _ = some (b8 (9#8)) from rfl)) rfl <| Lw.val (Ex.assign rfl) rfl <| Lw.nil <| Pw.thenN <| Cw.out <| Cw.cond rfl ?_ ?_
  ·intro q
   have g : x.k = 9#8 := of_decide_eq_true q
   have e2 := e1
   rw [g, kd_9] at e2
   cases e2
   refine Cw.seq <| Cw.region <| Lw.val (Ex.fieldAddr (q := 0) Tryz.underlying45 rfl (sz_3 _) rfl) rfl <| Lw.val (Ex.ldB (ag_3 _) rfl (by assumption) rfl) rfl ?_
   refine Lw.callF rfl rfl (within10_c x.n 1 64 _) ?_
   rintro _ w ⟨rfl, hn⟩
   replace hB := hB.bs hn
   replace h_i := h_i.bs hn
   replace h_s := h_s.bs hn
   replace b_x := b_x.bs hn
   clear hn
   refine Lw.val (Ex.assign rfl) rfl <| Lw.nil <| Pw.thenN <| Cw.out <| Cw.ret <| Pw.blkR <| Pw.thenR <| Pw.ret1 rfl rfl ?_
   refine ⟨congrArg Value.bool ?_, hB⟩
   rw [K, Bool.eq_iff_iff]
   simp only [Bool.and_eq_true, decide_eq_true_eq]
   omega
  intro q9
  refine Cw.seq <| Cw.seq <| Cw.region <| Lw.val (Ex.eql8 rfl (show _ = some (b8 (12#8)) from rfl)) rfl <| Lw.val (Ex.assign rfl) rfl <| Lw.nil <| Pw.thenN <| Cw.out <| Cw.cond rfl ?_ ?_
  ·intro qq
   have g : x.k = 12#8 := of_decide_eq_true qq
   have e2 := e1
   rw [g, kd_12] at e2
   cases e2
   refine Cw.skip <| Pw.thenN <| Cw.out <| Cw.condB rfl true (qq) <| Cw.seq <| Cw.region <| Lw.val (Ex.fieldAddr (q := 0) Tryz.underlying45 rfl (sz_3 _) rfl) rfl <| Lw.val (Ex.ldB (ag_3 _) rfl (by assumption) rfl) rfl ?_
   refine Lw.callF rfl rfl (within10_c x.n 0 3 _) ?_
   rintro _ w ⟨rfl, hn⟩
   replace hB := hB.bs hn
   replace h_i := h_i.bs hn
   replace h_s := h_s.bs hn
   replace b_x := b_x.bs hn
   clear hn
   refine Lw.val (Ex.assign rfl) rfl <| Lw.nil <| Pw.thenN <| Cw.out <| Cw.ret <| Pw.blkR <| Pw.thenR <| Pw.ret1 rfl rfl ?_
   refine ⟨congrArg Value.bool ?_, hB⟩
   rw [K, Bool.eq_iff_iff]
   simp only [Bool.and_eq_true, decide_eq_true_eq]
   omega
  intro q12
  refine Cw.region <| Lw.val (Ex.eql8 rfl (show _ = some (b8 (13#8)) from rfl)) rfl <| Lw.val (Ex.assign rfl) rfl <| Lw.nil <| Pw.thenN <| Cw.out <| Cw.cond rfl ?_ ?_
  ·intro q
   have g : x.k = 13#8 := of_decide_eq_true q
   have e2 := e1
   rw [g, kd_13] at e2
   cases e2
   refine Cw.seq <| Cw.region <| Lw.val (Ex.fieldAddr (q := 0) Tryz.underlying45 rfl (sz_3 _) rfl) rfl <| Lw.val (Ex.ldB (ag_3 _) rfl (by assumption) rfl) rfl ?_
   refine Lw.callF rfl rfl (within10_c x.n 0 3 _) ?_
   rintro _ w ⟨rfl, hn⟩
   replace hB := hB.bs hn
   replace h_i := h_i.bs hn
   replace h_s := h_s.bs hn
   replace b_x := b_x.bs hn
   clear hn
   refine Lw.val (Ex.assign rfl) rfl <| Lw.nil <| Pw.thenN <| Cw.out <| Cw.ret <| Pw.blkR <| Pw.thenR <| Pw.ret1 rfl rfl ?_
   refine ⟨congrArg Value.bool ?_, hB⟩
   rw [K, Bool.eq_iff_iff]
   simp only [Bool.and_eq_true, decide_eq_true_eq]
   omega
  intro q13
  have cd0 : c = 0 ∧ d = 0 := by
   rcases cd with ((((h | h) | h) | h) | h) | h
   ·exact absurd (decide_eq_true h) (by rw [q6]; decide)
   ·exact absurd h k8
   ·exact absurd (decide_eq_true h) (by rw [q9]; decide)
   ·exact absurd (decide_eq_true h) (by rw [q12]; decide)
   ·exact absurd (decide_eq_true h) (by rw [q13]; decide)
   ·exact h
  refine Cw.skip <| Pw.blkN <| Pw.thenN <| Cw.out <| Cw.seq <| Cw.region <| Lw.val (Ex.fieldAddr (q := 0) Tryz.underlying45 rfl (sz_3 _) rfl) rfl <| Lw.val (Ex.ldB (ag_3 _) rfl (by assumption) rfl) rfl ?_
  refine Lw.val (Ex.eql rfl rfl) rfl <| Lw.val (Ex.assign rfl) rfl <| Lw.nil <| Pw.thenN <| Cw.out <| Cw.ret <| Pw.ret1 rfl rfl ?_
  refine ⟨congrArg Value.bool ?_, hB⟩
  rw [K, Bool.eq_iff_iff]
  simp only [Bool.and_eq_true, decide_eq_true_eq]
  omega
 intro q8
 have g : x.k = 8#8 := by simpa using q8
 have e2 := e1
 rw [g, kd_8] at e2
 cases e2
 refine Lw.pass (dj := 75) rfl rfl rfl rfl <| Lw.pass (dj := 75) rfl rfl rfl rfl <| Lw.pass (dj := 75) rfl rfl rfl rfl <| Lw.take (dj := 71) rfl rfl <| Lw.val (Ex.pickF rfl rfl) rfl <| Lw.val (Ex.pickF rfl rfl) rfl <| Lw.nil <| Pw.thenN <| Cw.out <| Cw.condF rfl <| Cw.skip <| Pw.thenN <| Cw.out <| Cw.seq <| Cw.seq <| Cw.region <| Lw.val (Ex.fieldAddr (q := 0) Tryz.underlying45 rfl (sz_43 _) rfl) rfl <| Lw.val (Ex.ldB (ag_43 _) rfl (by assumption) rfl) rfl ?_
 refine Lw.nil <| Pw.thenN <| Cw.out <| Cw.block <| Cw.seq <| Cw.region <| Lw.val (Ex.eql8 rfl (show _ = some (b8 (6#8)) from rfl)) rfl <| Lw.val (Ex.assign rfl) rfl <| Lw.nil <| Pw.thenN <| Cw.out <| Cw.condB rfl false ((by rw [g]; rfl)) <| Cw.seq <| Cw.region <| Lw.val (Ex.eql8 rfl (show _ = some (b8 (8#8)) from rfl)) rfl <| Lw.val (Ex.assign rfl) rfl <| Lw.nil <| Pw.thenN <| Cw.out <| Cw.condB rfl true ((by rw [g]; rfl)) <| Cw.seq <| Cw.region <| Lw.val (Ex.fieldAddr (q := 0) Tryz.underlying45 rfl (sz_3 _) rfl) rfl <| Lw.val (Ex.ldB (ag_3 _) rfl (by assumption) rfl) rfl ?_
 refine Lw.callF rfl rfl (within10_c x.n 1 8 _) ?_
 rintro _ w ⟨rfl, hn⟩
 replace hB := hB.bs hn
 replace h_i := h_i.bs hn
 replace h_s := h_s.bs hn
 replace b_x := b_x.bs hn
 clear hn
 refine Lw.val (Ex.move rfl) rfl ?_
 refine Lw.part 93 rfl ?_ ?_
 ·intro q9
  refine Lw.take (dj := 93) rfl rfl <| Lw.val (Ex.fieldAddr (q := 0) Tryz.underlying45 rfl (sz_3 _) rfl) rfl <| Lw.take (dj := 93) rfl rfl <| Lw.val (Ex.ldB (ag_3 _) rfl (by assumption) rfl) rfl ?_
  refine Lw.take (dj := 93) rfl rfl <| Lw.callF rfl rfl (within10_c x.p 0 8 _) ?_
  rintro _ w ⟨rfl, hn⟩
  replace hB := hB.bs hn
  replace h_i := h_i.bs hn
  replace h_s := h_s.bs hn
  replace b_x := b_x.bs hn
  clear hn
  refine Lw.val (Ex.pickT rfl rfl) rfl <| Lw.val (Ex.assign rfl) rfl <| Lw.nil <| Pw.thenN <| Cw.out <| Cw.ret <| Pw.blkR <| Pw.thenR <| Pw.ret1 rfl rfl ?_
  have q9' : 1 ≤ x.n ∧ x.n ≤ 8 := by simpa using q9
  refine ⟨congrArg Value.bool ?_, hB⟩
  rw [K, Bool.eq_iff_iff]
  simp only [Bool.and_eq_true, decide_eq_true_eq]
  omega
 intro q9
 have q9' : ¬ (1 ≤ x.n ∧ x.n ≤ 8) := by simp at q9; omega
 refine Lw.pass (dj := 93) rfl rfl rfl rfl <| Lw.pass (dj := 93) rfl rfl rfl rfl <| Lw.pass (dj := 93) rfl rfl rfl rfl <| Lw.val (Ex.pickF rfl rfl) rfl <| Lw.val (Ex.assign rfl) rfl <| Lw.nil <| Pw.thenN <| Cw.out <| Cw.ret <| Pw.blkR <| Pw.thenR <| Pw.ret1 rfl rfl ?_
 exact ⟨by rw [K, decide_eq_false (show ¬ (1 ≤ x.n ∧ x.n ≤ 8 ∧ 0 ≤ x.p ∧ x.p ≤ 8) by omega), Bool.false_and], hB⟩
end Go.Proofs.YtmipoeanpnnjoaaGreat

/-! Contracts: the document's rows with columns. -/
namespace Go.Proofs.YtmipoeanpnnjoaaGreat
open Go Go.Dd Go.RowKit
set_option maxRecDepth 100000

theorem rpshape_c (u v : Value) (a b : List Int) (W : World) (hu : SlT (Value.int .i64) W u a) (hv : SlT (Value.int .i64) W v b) :
  Fnc Tryz.prog 136 [u, v] W (fun r w' => Below W.heap.size W w' ∧ PShp W w' r a b) := by
 have hB := Below.refl W.heap.size W
 refine Fnc.enter (n := 38) Tryz.func136 (by kernel_rfl) rfl rfl rfl <| Cw.seq <| Cw.region <| Lw.val (Ex.assign rfl) rfl <| Lw.val (Ex.assign rfl) rfl <| Lw.nil <| Pw.thenN <| Cw.out <| Cw.seq <| Cw.seq <| Cw.region <| Lw.val (Ex.move rfl) rfl <| Lw.callF rfl rfl (rcheck_c u a _ hu) ?_
 rintro _ w ⟨rfl, hn⟩
 replace hB := hB.bs hn
 replace hu := hu.bs hn
 replace hv := hv.bs hn
 clear hn
 refine Lw.val (Ex.not rfl) rfl <| Lw.val (Ex.move rfl) rfl ?_
 refine Lw.part 9 rfl ?_ ?_
 ·intro g
  have e := pshE_no (a := a) (b := b) (.inl (by simpa using g))
  refine Lw.pass (dj := 9) rfl rfl rfl rfl <| Lw.pass (dj := 9) rfl rfl rfl rfl <| Lw.pass (dj := 9) rfl rfl rfl rfl <| Lw.val (Ex.pickT rfl rfl) rfl <| Lw.nil <| Pw.thenN <| Cw.out <| Cw.condT rfl <| Cw.seq <| Cw.region <| Lw.val (Ex.assign rfl) rfl <| Lw.val (Ex.assign rfl) rfl <| Lw.nil <| Pw.thenN <| Cw.out <| Cw.ret <| Pw.thenR <| Pw.ret2 rfl rfl rfl ?_
  exact ⟨hB, _, by rw [e], fun _ => rfl, fun h => by rw [e] at h; cases h⟩
 intro g
 have ka : Shapes.ok a = true := by simpa using g
 refine Lw.take (dj := 9) rfl rfl <| Lw.val (Ex.move rfl) rfl <| Lw.take (dj := 9) rfl rfl <| Lw.callF rfl rfl (rcheck_c v b _ hv) ?_
 rintro _ w ⟨rfl, hn⟩
 replace hB := hB.bs hn
 replace hu := hu.bs hn
 replace hv := hv.bs hn
 clear hn
 refine Lw.take (dj := 9) rfl rfl <| Lw.val (Ex.not rfl) rfl <| Lw.val (Ex.pickF rfl rfl) rfl <| Lw.nil <| Pw.thenN <| Cw.out <| Cw.cond rfl ?_ ?_
 ·intro g
  have e := pshE_no (a := a) (b := b) (.inr (by simpa using g))
  refine Cw.seq <| Cw.region <| Lw.val (Ex.assign rfl) rfl <| Lw.val (Ex.assign rfl) rfl <| Lw.nil <| Pw.thenN <| Cw.out <| Cw.ret <| Pw.thenR <| Pw.ret2 rfl rfl rfl ?_
  exact ⟨hB, _, by rw [e], fun _ => rfl, fun h => by rw [e] at h; cases h⟩
 intro g
 have kb : Shapes.ok b = true := by simpa using g
 refine Cw.skip <| Pw.thenN <| Cw.out <| Cw.seq <| Cw.seq <| Cw.quiet mixed (by kernel_rfl) <| Qw.val (fun w1 hq => Ex.move rfl) rfl <| Qw.val (fun w1 hq => Ex.lenS st_26 rfl (Sl.bs (by assumption) hq)) rfl ?_
 refine Qw.val (fun w1 hq => Ex.neq rfl rfl) rfl <| Qw.val (fun w1 hq => Ex.move rfl) rfl ?_
 refine Qw.part 17 rfl ?_ ?_
 ·intro g
  have e : pshE a b = 10 := pshE_ten ka kb fun h => by simp [h.1] at g
  refine Qw.pass (dj := 17) rfl rfl rfl rfl <| Qw.pass (dj := 17) rfl rfl rfl rfl <| Qw.pass (dj := 17) rfl rfl rfl rfl <| Qw.val (fun w1 hq => Ex.pickT rfl rfl) rfl <| Qw.val (fun w1 hq => Ex.move rfl) rfl <| Qw.pass (dj := 22) rfl rfl rfl rfl <| Qw.pass (dj := 22) rfl rfl rfl rfl <| Qw.pass (dj := 22) rfl rfl rfl rfl <| Qw.pass (dj := 22) rfl rfl rfl rfl <| Qw.pass (dj := 22) rfl rfl rfl rfl <| Qw.pass (dj := 22) rfl rfl rfl rfl <| Qw.pass (dj := 22) rfl rfl rfl rfl <| Qw.val (fun w1 hq => Ex.pickT rfl rfl) rfl ?_
  refine Qw.nil (fun w2 hq => ?_)
  refine Pw.thenN <| Cw.out <| Cw.condT rfl <| Cw.seq <| Cw.region <| Lw.val (Ex.assign rfl) rfl <| Lw.val (Ex.assign rfl) rfl <| Lw.nil <| Pw.thenN <| Cw.out <| Cw.ret <| Pw.thenR <| Pw.ret2 rfl rfl rfl ?_
  exact ⟨bt hB hq, _, by rw [e], fun _ => rfl, fun h => by rw [e] at h; cases h⟩
 intro g
 have la : a.length = 2 := by simp at g; omega
 refine Qw.take (dj := 17) rfl rfl <| Qw.val (fun w1 hq => Ex.move rfl) rfl <| Qw.take (dj := 17) rfl rfl <| Qw.val (fun w1 hq => Ex.lenS st_26 rfl (Sl.bs (by assumption) hq)) rfl ?_
 refine Qw.take (dj := 17) rfl rfl <| Qw.val (fun w1 hq => Ex.neq rfl rfl) rfl <| Qw.val (fun w1 hq => Ex.pickF rfl rfl) rfl <| Qw.val (fun w1 hq => Ex.move rfl) rfl ?_
 refine Qw.part 22 rfl ?_ ?_
 ·intro g
  have e : pshE a b = 10 := pshE_ten ka kb fun h => by simp [h.2.1] at g
  refine Qw.pass (dj := 22) rfl rfl rfl rfl <| Qw.pass (dj := 22) rfl rfl rfl rfl <| Qw.pass (dj := 22) rfl rfl rfl rfl <| Qw.pass (dj := 22) rfl rfl rfl rfl <| Qw.pass (dj := 22) rfl rfl rfl rfl <| Qw.pass (dj := 22) rfl rfl rfl rfl <| Qw.pass (dj := 22) rfl rfl rfl rfl <| Qw.val (fun w1 hq => Ex.pickT rfl rfl) rfl ?_
  refine Qw.nil (fun w2 hq => ?_)
  refine Pw.thenN <| Cw.out <| Cw.condT rfl <| Cw.seq <| Cw.region <| Lw.val (Ex.assign rfl) rfl <| Lw.val (Ex.assign rfl) rfl <| Lw.nil <| Pw.thenN <| Cw.out <| Cw.ret <| Pw.thenR <| Pw.ret2 rfl rfl rfl ?_
  exact ⟨bt hB hq, _, by rw [e], fun _ => rfl, fun h => by rw [e] at h; cases h⟩
 intro g
 have lb : b.length = 2 := by simp at g; omega
 refine Qw.take (dj := 22) rfl rfl <| Qw.val (fun w1 hq => Ex.move rfl) rfl <| Qw.take (dj := 22) rfl rfl <| Qw.val (fun w1 hq => Ex.idxT st_26 rfl rfl (Sl.bs (by assumption) hq) 1 rfl (by omega)) rfl ?_
 refine Qw.take (dj := 22) rfl rfl <| Qw.val (fun w1 hq => Ex.ldT (ag_3 _) rfl (Sl.bs (by assumption) hq) (by omega)) rfl ?_
 refine Qw.take (dj := 22) rfl rfl <| Qw.val (fun w1 hq => Ex.move rfl) rfl <| Qw.take (dj := 22) rfl rfl <| Qw.val (fun w1 hq => Ex.idxT st_26 rfl rfl (Sl.bs (by assumption) hq) 0 rfl (by omega)) rfl ?_
 refine Qw.take (dj := 22) rfl rfl <| Qw.val (fun w1 hq => Ex.ldT (ag_3 _) rfl (Sl.bs (by assumption) hq) (by omega)) rfl ?_
 refine Qw.take (dj := 22) rfl rfl <| Qw.val (fun w1 hq => Ex.neq rfl rfl) rfl <| Qw.val (fun w1 hq => Ex.pickF rfl rfl) rfl ?_
 refine Qw.nil (fun w2 hq => ?_)
 refine Pw.thenN <| Cw.out <| Cw.cond rfl ?_ ?_
 ·intro g
  have e : pshE a b = 10 := pshE_ten ka kb fun h => by simp at g; exact g (by simpa using h.2.2)
  refine Cw.seq <| Cw.region <| Lw.val (Ex.assign rfl) rfl <| Lw.val (Ex.assign rfl) rfl <| Lw.nil <| Pw.thenN <| Cw.out <| Cw.ret <| Pw.thenR <| Pw.ret2 rfl rfl rfl ?_
  exact ⟨bt hB hq, _, by rw [e], fun _ => rfl, fun h => by rw [e] at h; cases h⟩
 intro g
 have e : pshE a b = 0 := pshE_yes ka kb ⟨la, lb, by simpa using g⟩
 replace hB := hB.bs hq
 replace hu := hu.bs hq
 replace hv := hv.bs hq
 clear hq
 refine Cw.skip <| Pw.thenN <| Cw.out <| Cw.seq <| Cw.tail 6 mixed (by kernel_rfl) <| Qw.val (fun w1 hq => Ex.move rfl) rfl <| Qw.val (fun w1 hq => Ex.idxT st_26 rfl rfl (Sl.bs (by assumption) hq) 0 rfl (by omega)) rfl ?_
 refine Qw.val (fun w1 hq => Ex.ldT (ag_3 _) rfl (Sl.bs (by assumption) hq) (by omega)) rfl ?_
 refine Qw.val (fun w1 hq => Ex.move rfl) rfl <| Qw.val (fun w1 hq => Ex.idxT st_26 rfl rfl (Sl.bs (by assumption) hq) 1 rfl (by omega)) rfl ?_
 refine Qw.val (fun w1 hq => Ex.ldT (ag_3 _) rfl (Sl.bs (by assumption) hq) (by omega)) rfl ?_
 refine Qw.done (fun w3 hq => ?_)
 replace hB := hB.bs hq
 replace hu := hu.bs hq
 replace hv := hv.bs hq
 clear hq
 refine Lw.valW (Xw.lit (vs := [a.getD 0 default, b.getD 1 default].map (Value.int .i64)) st_26 it_3 rfl rfl rfl rfl rfl) rfl ?_
 rintro x w4 ⟨ho, -, hn, -⟩
 have z := hB.size
 replace hB := hB.bs hn
 replace hu := hu.bs hn
 replace hv := hv.bs hn
 refine Lw.val (Ex.assign rfl) rfl <| Lw.val (Ex.assign rfl) rfl <| Lw.nil <| Pw.thenN <| Cw.out <| Cw.ret <| Pw.ret2 rfl rfl rfl ?_
 exact ⟨hB, x, by rw [e], fun h => absurd e h, fun _ => own_mono ho z⟩

end Go.Proofs.YtmipoeanpnnjoaaGreat

/-! Contracts: windows, as the document has them. -/
namespace Go.Proofs.YtmipoeanpnnjoaaGreat
open Go Go.Dd Go.RowKit
set_option maxRecDepth 100000

theorem pshB_1 {t : List Int} {wide : Int} (h : ¬ t.length = 3) : pshB t wide = false := by simp only [pshB, decide_eq_false h, Bool.false_and]
theorem pshB_2 {t : List Int} {wide : Int} (h : ¬ wide ≤ t.getD 1 default) : pshB t wide = false := by simp only [pshB, decide_eq_false h, Bool.false_and, Bool.and_false]
theorem pshB_3 {t : List Int} {wide : Int} (h : ¬ wide ≤ t.getD 2 default) : pshB t wide = false := by simp only [pshB, decide_eq_false h, Bool.and_false]
theorem rwpshape_c (t : List Int) (wide : Int) (u : Value) (W : World) (h_u : SlT (Value.int .i64) W u t) :
  Fnc Tryz.prog 138 [u, .int .i64 wide] W (fun r w' => Below W.heap.size W w' ∧ GotI W w' r (poolE t wide) (pshS t wide)) := by
 have hB := Below.refl W.heap.size W
 refine Fnc.enter (n := 48) Tryz.func138 (by kernel_rfl) rfl rfl rfl <| Cw.seq <| Cw.region <| Lw.val (Ex.assign rfl) rfl <| Lw.val (Ex.assign rfl) rfl <| Lw.nil <| Pw.thenN <| Cw.out <| Cw.seq <| Cw.seq <| Cw.region <| Lw.val (Ex.move rfl) rfl <| Lw.callF rfl rfl (rcheck_c u t _ h_u) ?_
 rintro _ w ⟨rfl, hn⟩
 replace hB := hB.bs hn
 replace h_u := h_u.bs hn
 clear hn
 refine Lw.val (Ex.not rfl) rfl <| Lw.val (Ex.move rfl) rfl ?_
 refine Lw.part 9 rfl ?_ ?_
 ·intro g1
  refine Lw.pass (dj := 9) rfl rfl rfl rfl <| Lw.pass (dj := 9) rfl rfl rfl rfl <| Lw.val (Ex.pickT rfl rfl) rfl <| Lw.val (Ex.move rfl) rfl <| Lw.pass (dj := 13) rfl rfl rfl rfl <| Lw.pass (dj := 13) rfl rfl rfl rfl <| Lw.val (Ex.pickT rfl rfl) rfl <| Lw.nil <| Pw.thenN <| Cw.out <| Cw.condT rfl <| Cw.seq <| Cw.region <| Lw.val (Ex.assign rfl) rfl <| Lw.val (Ex.assign rfl) rfl <| Lw.nil <| Pw.thenN <| Cw.out <| Cw.ret <| Pw.thenR <| Pw.ret2 rfl rfl rfl ?_
  rw [show poolE t wide = 1 by simp [poolE, show pshA t wide = true by simp_all [pshA]]]
  exact ⟨hB, gotI_no (by decide)⟩
 intro g1
 refine Lw.take (dj := 9) rfl rfl <| Lw.val (Ex.move rfl) rfl <| Lw.take (dj := 9) rfl rfl <| Lw.val (Ex.lss rfl rfl) rfl <| Lw.val (Ex.pickF rfl rfl) rfl <| Lw.val (Ex.move rfl) rfl ?_
 refine Lw.part 13 rfl ?_ ?_
 ·intro g2
  refine Lw.pass (dj := 13) rfl rfl rfl rfl <| Lw.pass (dj := 13) rfl rfl rfl rfl <| Lw.val (Ex.pickT rfl rfl) rfl <| Lw.nil <| Pw.thenN <| Cw.out <| Cw.condT rfl <| Cw.seq <| Cw.region <| Lw.val (Ex.assign rfl) rfl <| Lw.val (Ex.assign rfl) rfl <| Lw.nil <| Pw.thenN <| Cw.out <| Cw.ret <| Pw.thenR <| Pw.ret2 rfl rfl rfl ?_
  rw [show poolE t wide = 1 by simp [poolE, show pshA t wide = true by simp_all [pshA]]]
  exact ⟨hB, gotI_no (by decide)⟩
 intro g2
 refine Lw.take (dj := 13) rfl rfl <| Lw.val (Ex.move rfl) rfl <| Lw.take (dj := 13) rfl rfl <| Lw.val (Ex.gtr rfl rfl) rfl <| Lw.val (Ex.pickF rfl rfl) rfl <| Lw.nil <| Pw.thenN <| Cw.out <| Cw.cond rfl ?_ ?_
 ·intro g3
  refine Cw.seq <| Cw.region <| Lw.val (Ex.assign rfl) rfl <| Lw.val (Ex.assign rfl) rfl <| Lw.nil <| Pw.thenN <| Cw.out <| Cw.ret <| Pw.thenR <| Pw.ret2 rfl rfl rfl ?_
  rw [show poolE t wide = 1 by simp [poolE, show pshA t wide = true by simp_all [pshA]]]
  exact ⟨hB, gotI_no (by decide)⟩
 intro g3
 have gA : pshA t wide = false := by simp_all [pshA]
 have gT : Shapes.ok t = true := by simpa using g1
 have w1 : 1 ≤ wide := by simpa using g2
 have w2 : wide ≤ 64 := by simpa using g3
 have hT := (Shapes.ok_iff t).1 gT
 clear g1 g2 g3
 refine Cw.skip <| Pw.thenN <| Cw.out <| Cw.seq <| Cw.seq <| Cw.region <| Lw.val (Ex.move rfl) rfl <| Lw.val (Ex.lenS st_26 rfl (by assumption)) rfl ?_
 refine Lw.val (Ex.neq rfl rfl) rfl <| Lw.val (Ex.move rfl) rfl ?_
 refine Lw.part 20 rfl ?_ ?_
 ·intro g4
  have lt : ¬ t.length = 3 := by have := g4; simp at this; omega
  refine Lw.pass (dj := 20) rfl rfl rfl rfl <| Lw.pass (dj := 20) rfl rfl rfl rfl <| Lw.pass (dj := 20) rfl rfl rfl rfl <| Lw.pass (dj := 20) rfl rfl rfl rfl <| Lw.pass (dj := 20) rfl rfl rfl rfl <| Lw.val (Ex.pickT rfl rfl) rfl <| Lw.val (Ex.move rfl) rfl <| Lw.pass (dj := 27) rfl rfl rfl rfl <| Lw.pass (dj := 27) rfl rfl rfl rfl <| Lw.pass (dj := 27) rfl rfl rfl rfl <| Lw.pass (dj := 27) rfl rfl rfl rfl <| Lw.pass (dj := 27) rfl rfl rfl rfl <| Lw.val (Ex.pickT rfl rfl) rfl <| Lw.nil <| Pw.thenN <| Cw.out <| Cw.condT rfl <| Cw.seq <| Cw.region <| Lw.val (Ex.assign rfl) rfl <| Lw.val (Ex.assign rfl) rfl <| Lw.nil <| Pw.thenN <| Cw.out <| Cw.ret <| Pw.thenR <| Pw.ret2 rfl rfl rfl ?_
  rw [show poolE t wide = 10 by rw [poolE, gA, pshB_1 lt]; rfl]
  exact ⟨hB, gotI_no (by decide)⟩
 intro g4
 have lt : t.length = 3 := by have := g4; simp at this; omega
 have t0 := good_at hT.2.1 (k := 0) (by omega)
 have t1 := good_at hT.2.1 (k := 1) (by omega)
 have t2 := good_at hT.2.1 (k := 2) (by omega)
 clear g4
 refine Lw.take (dj := 20) rfl rfl <| Lw.val (Ex.move rfl) rfl <| Lw.take (dj := 20) rfl rfl <| Lw.val (Ex.idxT st_26 rfl rfl (by assumption) 1 rfl (by omega)) rfl ?_
 refine Lw.take (dj := 20) rfl rfl <| Lw.val (Ex.ldT (ag_3 _) rfl (by assumption) (by omega)) rfl ?_
 refine Lw.take (dj := 20) rfl rfl <| Lw.val (Ex.move rfl) rfl <| Lw.take (dj := 20) rfl rfl <| Lw.val (Ex.lss rfl rfl) rfl <| Lw.val (Ex.pickF rfl rfl) rfl <| Lw.val (Ex.move rfl) rfl ?_
 refine Lw.part 27 rfl ?_ ?_
 ·intro g5
  have g5 : ¬ wide ≤ t.getD 1 default := by have := of_decide_eq_true g5; omega
  refine Lw.pass (dj := 27) rfl rfl rfl rfl <| Lw.pass (dj := 27) rfl rfl rfl rfl <| Lw.pass (dj := 27) rfl rfl rfl rfl <| Lw.pass (dj := 27) rfl rfl rfl rfl <| Lw.pass (dj := 27) rfl rfl rfl rfl <| Lw.val (Ex.pickT rfl rfl) rfl <| Lw.nil <| Pw.thenN <| Cw.out <| Cw.condT rfl <| Cw.seq <| Cw.region <| Lw.val (Ex.assign rfl) rfl <| Lw.val (Ex.assign rfl) rfl <| Lw.nil <| Pw.thenN <| Cw.out <| Cw.ret <| Pw.thenR <| Pw.ret2 rfl rfl rfl ?_
  rw [show poolE t wide = 10 by rw [poolE, gA, pshB_2 g5]; rfl]
  exact ⟨hB, gotI_no (by decide)⟩
 intro g5
 have g5 : wide ≤ t.getD 1 default := by have := of_decide_eq_false g5; omega
 refine Lw.take (dj := 27) rfl rfl <| Lw.val (Ex.move rfl) rfl <| Lw.take (dj := 27) rfl rfl <| Lw.val (Ex.idxT st_26 rfl rfl (by assumption) 2 rfl (by omega)) rfl ?_
 refine Lw.take (dj := 27) rfl rfl <| Lw.val (Ex.ldT (ag_3 _) rfl (by assumption) (by omega)) rfl ?_
 refine Lw.take (dj := 27) rfl rfl <| Lw.val (Ex.move rfl) rfl <| Lw.take (dj := 27) rfl rfl <| Lw.val (Ex.lss rfl rfl) rfl <| Lw.val (Ex.pickF rfl rfl) rfl <| Lw.nil <| Pw.thenN <| Cw.out <| Cw.cond rfl ?_ ?_
 ·intro g6
  have g6 : ¬ wide ≤ t.getD 2 default := by have := of_decide_eq_true g6; omega
  refine Cw.seq <| Cw.region <| Lw.val (Ex.assign rfl) rfl <| Lw.val (Ex.assign rfl) rfl <| Lw.nil <| Pw.thenN <| Cw.out <| Cw.ret <| Pw.thenR <| Pw.ret2 rfl rfl rfl ?_
  rw [show poolE t wide = 10 by rw [poolE, gA, pshB_3 g6]; rfl]
  exact ⟨hB, gotI_no (by decide)⟩
 intro g6
 have g6 : wide ≤ t.getD 2 default := by have := of_decide_eq_false g6; omega
 have gB : pshB t wide = true := by rw [pshB, decide_eq_true lt, decide_eq_true g5, decide_eq_true g6]; rfl
 obtain ⟨c1, -⟩ := slid_same w1 g5
 obtain ⟨c2, -⟩ := slid_same w1 g6
 have eS : pshS t wide = [t.getD 0 default, t.getD 1 default / wide, t.getD 2 default / wide] := by unfold pshS; rw [c1, c2]
 refine Cw.skip <| Pw.thenN <| Cw.out <| Cw.seq <| Cw.tail 13 mixed (by kernel_rfl) <| Qw.val (fun w1 hq => Ex.move rfl) rfl <| Qw.val (fun w1 hq => Ex.idxT st_26 rfl rfl (Sl.bs (by assumption) hq) 0 rfl (by omega)) rfl ?_
 refine Qw.val (fun w1 hq => Ex.ldT (ag_3 _) rfl (Sl.bs (by assumption) hq) (by omega)) rfl ?_
 refine Qw.val (fun w1 hq => Ex.move rfl) rfl <| Qw.val (fun w1 hq => Ex.idxT st_26 rfl rfl (Sl.bs (by assumption) hq) 1 rfl (by omega)) rfl ?_
 refine Qw.val (fun w1 hq => Ex.ldT (ag_3 _) rfl (Sl.bs (by assumption) hq) (by omega)) rfl ?_
 refine Qw.val (fun w1 hq => Ex.move rfl) rfl <| Qw.val (fun w1 hq => Ex.quoI rfl rfl (by omega) (by omega)) rfl <| Qw.val (fun w1 hq => Ex.move rfl) rfl <| Qw.val (fun w1 hq => Ex.idxT st_26 rfl rfl (Sl.bs (by assumption) hq) 2 rfl (by omega)) rfl ?_
 refine Qw.val (fun w1 hq => Ex.ldT (ag_3 _) rfl (Sl.bs (by assumption) hq) (by omega)) rfl ?_
 refine Qw.val (fun w1 hq => Ex.move rfl) rfl <| Qw.val (fun w1 hq => Ex.quoI rfl rfl (by omega) (by omega)) rfl ?_
 refine Qw.done (fun w3 hq => ?_)
 replace hB := hB.bs hq
 replace h_u := h_u.bs hq
 clear hq
 have zw := below_size hB
 refine Lw.valW (Xw.lit (vs := (pshS t wide).map (Value.int .i64)) st_26 it_3 rfl (by rw [eS]; rfl) rfl rfl rfl) rfl ?_
 rintro x w ⟨ho, -, hn, -⟩
 have ho := own_mono ho zw
 replace hB := hB.bs hn
 replace h_u := h_u.bs hn
 clear hn
 refine Lw.val (Ex.assign rfl) rfl <| Lw.val (Ex.assign rfl) rfl <| Lw.nil <| Pw.thenN <| Cw.out <| Cw.ret <| Pw.ret2 rfl rfl rfl ?_
 rw [show poolE t wide = 0 by simp [poolE, gA, gB]]
 exact ⟨hB, x, _, rfl, ho, fun h => absurd rfl h, fun _ => rfl⟩
theorem wsh_no {t s : List Int} {step pad : Int} (h : t.getD 1 default + 2 * pad < s.getD 2 default ∨ t.getD 2 default + 2 * pad < s.getD 3 default) : Shapes.ok (wshS t s step pad) = false := by
 cases hk : Shapes.ok (wshS t s step pad) with
 | false => rfl
 | true =>
  have g := ((Shapes.ok_iff _).1 hk).2.1
  have l3 : (wshS t s step pad).length = 3 := rfl
  have g1 : 1 ≤ slid (t.getD 1 default + 2 * pad) (s.getD 2 default) step := (good_at g (k := 1) (by omega)).1
  have g2 : 1 ≤ slid (t.getD 2 default + 2 * pad) (s.getD 3 default) step := (good_at g (k := 2) (by omega)).1
  unfold slid at g1 g2
  rcases h with h | h
  ·rw [if_pos h] at g1; omega
  ·rw [if_pos h] at g2; omega
theorem rwshape_c (t s : List Int) (step pad : Int) (u v : Value) (W : World) (h_u : SlT (Value.int .i64) W u t) (h_v : SlT (Value.int .i64) W v s) :
  Fnc Tryz.prog 137 [u, v, .int .i64 step, .int .i64 pad] W (fun r w' => Below W.heap.size W w' ∧ GotI W w' r (wshE t s step pad) (wshS t s step pad)) := by
 have hB := Below.refl W.heap.size W
 refine Fnc.enter (n := 110) Tryz.func137 (by kernel_rfl) rfl rfl rfl <| Cw.seq <| Cw.region <| Lw.val (Ex.assign rfl) rfl <| Lw.val (Ex.assign rfl) rfl <| Lw.nil <| Pw.thenN <| Cw.out <| Cw.seq <| Cw.seq <| Cw.region <| Lw.val (Ex.move rfl) rfl <| Lw.callF rfl rfl (rcheck_c u t _ h_u) ?_
 rintro _ w ⟨rfl, hn⟩
 replace hB := hB.bs hn
 replace h_u := h_u.bs hn
 replace h_v := h_v.bs hn
 clear hn
 refine Lw.val (Ex.not rfl) rfl <| Lw.val (Ex.move rfl) rfl ?_
 refine Lw.part 14 rfl ?_ ?_
 ·intro g1
  refine Lw.pass (dj := 14) rfl rfl rfl rfl <| Lw.pass (dj := 14) rfl rfl rfl rfl <| Lw.pass (dj := 14) rfl rfl rfl rfl <| Lw.val (Ex.pickT rfl rfl) rfl <| Lw.val (Ex.move rfl) rfl <| Lw.pass (dj := 19) rfl rfl rfl rfl <| Lw.pass (dj := 19) rfl rfl rfl rfl <| Lw.val (Ex.pickT rfl rfl) rfl <| Lw.val (Ex.move rfl) rfl <| Lw.pass (dj := 23) rfl rfl rfl rfl <| Lw.pass (dj := 23) rfl rfl rfl rfl <| Lw.val (Ex.pickT rfl rfl) rfl <| Lw.val (Ex.move rfl) rfl <| Lw.pass (dj := 27) rfl rfl rfl rfl <| Lw.pass (dj := 27) rfl rfl rfl rfl <| Lw.val (Ex.pickT rfl rfl) rfl <| Lw.val (Ex.move rfl) rfl <| Lw.pass (dj := 31) rfl rfl rfl rfl <| Lw.pass (dj := 31) rfl rfl rfl rfl <| Lw.val (Ex.pickT rfl rfl) rfl <| Lw.nil <| Pw.thenN <| Cw.out <| Cw.condT rfl <| Cw.seq <| Cw.region <| Lw.val (Ex.assign rfl) rfl <| Lw.val (Ex.assign rfl) rfl <| Lw.nil <| Pw.thenN <| Cw.out <| Cw.ret <| Pw.thenR <| Pw.ret2 rfl rfl rfl ?_
  rw [show wshE t s step pad = 1 by simp [wshE, show wshA t s step pad = true by simp_all [wshA]]]
  exact ⟨hB, gotI_no (by decide)⟩
 intro g1
 refine Lw.take (dj := 14) rfl rfl <| Lw.val (Ex.move rfl) rfl <| Lw.take (dj := 14) rfl rfl <| Lw.callF rfl rfl (rcheck_c v s _ h_v) ?_
 rintro _ w ⟨rfl, hn⟩
 replace hB := hB.bs hn
 replace h_u := h_u.bs hn
 replace h_v := h_v.bs hn
 clear hn
 refine Lw.take (dj := 14) rfl rfl <| Lw.val (Ex.not rfl) rfl <| Lw.val (Ex.pickF rfl rfl) rfl <| Lw.val (Ex.move rfl) rfl ?_
 refine Lw.part 19 rfl ?_ ?_
 ·intro g2
  refine Lw.pass (dj := 19) rfl rfl rfl rfl <| Lw.pass (dj := 19) rfl rfl rfl rfl <| Lw.val (Ex.pickT rfl rfl) rfl <| Lw.val (Ex.move rfl) rfl <| Lw.pass (dj := 23) rfl rfl rfl rfl <| Lw.pass (dj := 23) rfl rfl rfl rfl <| Lw.val (Ex.pickT rfl rfl) rfl <| Lw.val (Ex.move rfl) rfl <| Lw.pass (dj := 27) rfl rfl rfl rfl <| Lw.pass (dj := 27) rfl rfl rfl rfl <| Lw.val (Ex.pickT rfl rfl) rfl <| Lw.val (Ex.move rfl) rfl <| Lw.pass (dj := 31) rfl rfl rfl rfl <| Lw.pass (dj := 31) rfl rfl rfl rfl <| Lw.val (Ex.pickT rfl rfl) rfl <| Lw.nil <| Pw.thenN <| Cw.out <| Cw.condT rfl <| Cw.seq <| Cw.region <| Lw.val (Ex.assign rfl) rfl <| Lw.val (Ex.assign rfl) rfl <| Lw.nil <| Pw.thenN <| Cw.out <| Cw.ret <| Pw.thenR <| Pw.ret2 rfl rfl rfl ?_
  rw [show wshE t s step pad = 1 by simp [wshE, show wshA t s step pad = true by simp_all [wshA]]]
  exact ⟨hB, gotI_no (by decide)⟩
 intro g2
 refine Lw.take (dj := 19) rfl rfl <| Lw.val (Ex.move rfl) rfl <| Lw.take (dj := 19) rfl rfl <| Lw.val (Ex.lss rfl rfl) rfl <| Lw.val (Ex.pickF rfl rfl) rfl <| Lw.val (Ex.move rfl) rfl ?_
 refine Lw.part 23 rfl ?_ ?_
 ·intro g3
  refine Lw.pass (dj := 23) rfl rfl rfl rfl <| Lw.pass (dj := 23) rfl rfl rfl rfl <| Lw.val (Ex.pickT rfl rfl) rfl <| Lw.val (Ex.move rfl) rfl <| Lw.pass (dj := 27) rfl rfl rfl rfl <| Lw.pass (dj := 27) rfl rfl rfl rfl <| Lw.val (Ex.pickT rfl rfl) rfl <| Lw.val (Ex.move rfl) rfl <| Lw.pass (dj := 31) rfl rfl rfl rfl <| Lw.pass (dj := 31) rfl rfl rfl rfl <| Lw.val (Ex.pickT rfl rfl) rfl <| Lw.nil <| Pw.thenN <| Cw.out <| Cw.condT rfl <| Cw.seq <| Cw.region <| Lw.val (Ex.assign rfl) rfl <| Lw.val (Ex.assign rfl) rfl <| Lw.nil <| Pw.thenN <| Cw.out <| Cw.ret <| Pw.thenR <| Pw.ret2 rfl rfl rfl ?_
  rw [show wshE t s step pad = 1 by simp [wshE, show wshA t s step pad = true by simp_all [wshA]]]
  exact ⟨hB, gotI_no (by decide)⟩
 intro g3
 refine Lw.take (dj := 23) rfl rfl <| Lw.val (Ex.move rfl) rfl <| Lw.take (dj := 23) rfl rfl <| Lw.val (Ex.gtr rfl rfl) rfl <| Lw.val (Ex.pickF rfl rfl) rfl <| Lw.val (Ex.move rfl) rfl ?_
 refine Lw.part 27 rfl ?_ ?_
 ·intro g4
  refine Lw.pass (dj := 27) rfl rfl rfl rfl <| Lw.pass (dj := 27) rfl rfl rfl rfl <| Lw.val (Ex.pickT rfl rfl) rfl <| Lw.val (Ex.move rfl) rfl <| Lw.pass (dj := 31) rfl rfl rfl rfl <| Lw.pass (dj := 31) rfl rfl rfl rfl <| Lw.val (Ex.pickT rfl rfl) rfl <| Lw.nil <| Pw.thenN <| Cw.out <| Cw.condT rfl <| Cw.seq <| Cw.region <| Lw.val (Ex.assign rfl) rfl <| Lw.val (Ex.assign rfl) rfl <| Lw.nil <| Pw.thenN <| Cw.out <| Cw.ret <| Pw.thenR <| Pw.ret2 rfl rfl rfl ?_
  rw [show wshE t s step pad = 1 by simp [wshE, show wshA t s step pad = true by simp_all [wshA]]]
  exact ⟨hB, gotI_no (by decide)⟩
 intro g4
 refine Lw.take (dj := 27) rfl rfl <| Lw.val (Ex.move rfl) rfl <| Lw.take (dj := 27) rfl rfl <| Lw.val (Ex.lss rfl rfl) rfl <| Lw.val (Ex.pickF rfl rfl) rfl <| Lw.val (Ex.move rfl) rfl ?_
 refine Lw.part 31 rfl ?_ ?_
 ·intro g5
  refine Lw.pass (dj := 31) rfl rfl rfl rfl <| Lw.pass (dj := 31) rfl rfl rfl rfl <| Lw.val (Ex.pickT rfl rfl) rfl <| Lw.nil <| Pw.thenN <| Cw.out <| Cw.condT rfl <| Cw.seq <| Cw.region <| Lw.val (Ex.assign rfl) rfl <| Lw.val (Ex.assign rfl) rfl <| Lw.nil <| Pw.thenN <| Cw.out <| Cw.ret <| Pw.thenR <| Pw.ret2 rfl rfl rfl ?_
  rw [show wshE t s step pad = 1 by simp [wshE, show wshA t s step pad = true by simp_all [wshA]]]
  exact ⟨hB, gotI_no (by decide)⟩
 intro g5
 have gT : Shapes.ok t = true := by simpa using g1
 have gS : Shapes.ok s = true := by simpa using g2
 have gst : 1 ≤ step := by simpa using g3
 have gst2 : step ≤ 8 := by simpa using g4
 have gp : 0 ≤ pad := by simpa using g5
 refine Lw.take (dj := 31) rfl rfl <| Lw.val (Ex.move rfl) rfl <| Lw.take (dj := 31) rfl rfl <| Lw.val (Ex.gtr rfl rfl) rfl <| Lw.val (Ex.pickF rfl rfl) rfl <| Lw.nil <| Pw.thenN <| Cw.out <| Cw.cond rfl ?_ ?_
 ·intro g6
  refine Cw.seq <| Cw.region <| Lw.val (Ex.assign rfl) rfl <| Lw.val (Ex.assign rfl) rfl <| Lw.nil <| Pw.thenN <| Cw.out <| Cw.ret <| Pw.thenR <| Pw.ret2 rfl rfl rfl ?_
  rw [show wshE t s step pad = 1 by simp [wshE, show wshA t s step pad = true by simp_all [wshA]]]
  exact ⟨hB, gotI_no (by decide)⟩
 intro g6
 have gp2 : pad ≤ 8 := by simpa using g6
 have gA : wshA t s step pad = false := by simp_all [wshA]
 clear g1 g2 g3 g4 g5 g6
 have hT := (Shapes.ok_iff t).1 gT
 have hS := (Shapes.ok_iff s).1 gS
 refine Cw.skip <| Pw.thenN <| Cw.out <| Cw.seq <| Cw.seq <| Cw.quiet mixed (by kernel_rfl) <| Qw.val (fun w1 hq => Ex.move rfl) rfl <| Qw.val (fun w1 hq => Ex.lenS st_26 rfl (Sl.bs (by assumption) hq)) rfl ?_
 refine Qw.val (fun w1 hq => Ex.neq rfl rfl) rfl <| Qw.val (fun w1 hq => Ex.move rfl) rfl ?_
 refine Qw.part 38 rfl ?_ ?_
 ·intro g
  refine Qw.pass (dj := 38) rfl rfl rfl rfl <| Qw.pass (dj := 38) rfl rfl rfl rfl <| Qw.pass (dj := 38) rfl rfl rfl rfl <| Qw.val (fun w1 hq => Ex.pickT rfl rfl) rfl <| Qw.val (fun w1 hq => Ex.move rfl) rfl <| Qw.pass (dj := 43) rfl rfl rfl rfl <| Qw.pass (dj := 43) rfl rfl rfl rfl <| Qw.pass (dj := 43) rfl rfl rfl rfl <| Qw.pass (dj := 43) rfl rfl rfl rfl <| Qw.pass (dj := 43) rfl rfl rfl rfl <| Qw.pass (dj := 43) rfl rfl rfl rfl <| Qw.pass (dj := 43) rfl rfl rfl rfl <| Qw.val (fun w1 hq => Ex.pickT rfl rfl) rfl <| Qw.val (fun w1 hq => Ex.move rfl) rfl <| Qw.pass (dj := 52) rfl rfl rfl rfl <| Qw.pass (dj := 52) rfl rfl rfl rfl <| Qw.pass (dj := 52) rfl rfl rfl rfl <| Qw.pass (dj := 52) rfl rfl rfl rfl <| Qw.pass (dj := 52) rfl rfl rfl rfl <| Qw.pass (dj := 52) rfl rfl rfl rfl <| Qw.pass (dj := 52) rfl rfl rfl rfl <| Qw.pass (dj := 52) rfl rfl rfl rfl <| Qw.pass (dj := 52) rfl rfl rfl rfl <| Qw.pass (dj := 52) rfl rfl rfl rfl <| Qw.val (fun w1 hq => Ex.pickT rfl rfl) rfl <| Qw.val (fun w1 hq => Ex.move rfl) rfl <| Qw.pass (dj := 64) rfl rfl rfl rfl <| Qw.pass (dj := 64) rfl rfl rfl rfl <| Qw.pass (dj := 64) rfl rfl rfl rfl <| Qw.pass (dj := 64) rfl rfl rfl rfl <| Qw.pass (dj := 64) rfl rfl rfl rfl <| Qw.pass (dj := 64) rfl rfl rfl rfl <| Qw.pass (dj := 64) rfl rfl rfl rfl <| Qw.pass (dj := 64) rfl rfl rfl rfl <| Qw.pass (dj := 64) rfl rfl rfl rfl <| Qw.pass (dj := 64) rfl rfl rfl rfl <| Qw.val (fun w1 hq => Ex.pickT rfl rfl) rfl ?_
  refine Qw.nil (fun w1 hq => ?_)
  refine Pw.thenN <| Cw.out <| Cw.condT rfl <| Cw.seq <| Cw.region <| Lw.val (Ex.assign rfl) rfl <| Lw.val (Ex.assign rfl) rfl <| Lw.nil <| Pw.thenN <| Cw.out <| Cw.ret <| Pw.thenR <| Pw.ret2 rfl rfl rfl ?_
  rw [show wshE t s step pad = 10 by rw [wshE, gA, wshB_1 (fun h => by simp [h] at g)]; rfl]
  exact ⟨bt hB hq, gotI_no (by decide)⟩
 intro g7
 have lt : t.length = 3 := by have := g7; simp at this; omega
 refine Qw.take (dj := 38) rfl rfl <| Qw.val (fun w1 hq => Ex.move rfl) rfl <| Qw.take (dj := 38) rfl rfl <| Qw.val (fun w1 hq => Ex.lenS st_26 rfl (Sl.bs (by assumption) hq)) rfl ?_
 refine Qw.take (dj := 38) rfl rfl <| Qw.val (fun w1 hq => Ex.neq rfl rfl) rfl <| Qw.val (fun w1 hq => Ex.pickF rfl rfl) rfl <| Qw.val (fun w1 hq => Ex.move rfl) rfl ?_
 refine Qw.part 43 rfl ?_ ?_
 ·intro g
  refine Qw.pass (dj := 43) rfl rfl rfl rfl <| Qw.pass (dj := 43) rfl rfl rfl rfl <| Qw.pass (dj := 43) rfl rfl rfl rfl <| Qw.pass (dj := 43) rfl rfl rfl rfl <| Qw.pass (dj := 43) rfl rfl rfl rfl <| Qw.pass (dj := 43) rfl rfl rfl rfl <| Qw.pass (dj := 43) rfl rfl rfl rfl <| Qw.val (fun w1 hq => Ex.pickT rfl rfl) rfl <| Qw.val (fun w1 hq => Ex.move rfl) rfl <| Qw.pass (dj := 52) rfl rfl rfl rfl <| Qw.pass (dj := 52) rfl rfl rfl rfl <| Qw.pass (dj := 52) rfl rfl rfl rfl <| Qw.pass (dj := 52) rfl rfl rfl rfl <| Qw.pass (dj := 52) rfl rfl rfl rfl <| Qw.pass (dj := 52) rfl rfl rfl rfl <| Qw.pass (dj := 52) rfl rfl rfl rfl <| Qw.pass (dj := 52) rfl rfl rfl rfl <| Qw.pass (dj := 52) rfl rfl rfl rfl <| Qw.pass (dj := 52) rfl rfl rfl rfl <| Qw.val (fun w1 hq => Ex.pickT rfl rfl) rfl <| Qw.val (fun w1 hq => Ex.move rfl) rfl <| Qw.pass (dj := 64) rfl rfl rfl rfl <| Qw.pass (dj := 64) rfl rfl rfl rfl <| Qw.pass (dj := 64) rfl rfl rfl rfl <| Qw.pass (dj := 64) rfl rfl rfl rfl <| Qw.pass (dj := 64) rfl rfl rfl rfl <| Qw.pass (dj := 64) rfl rfl rfl rfl <| Qw.pass (dj := 64) rfl rfl rfl rfl <| Qw.pass (dj := 64) rfl rfl rfl rfl <| Qw.pass (dj := 64) rfl rfl rfl rfl <| Qw.pass (dj := 64) rfl rfl rfl rfl <| Qw.val (fun w1 hq => Ex.pickT rfl rfl) rfl ?_
  refine Qw.nil (fun w1 hq => ?_)
  refine Pw.thenN <| Cw.out <| Cw.condT rfl <| Cw.seq <| Cw.region <| Lw.val (Ex.assign rfl) rfl <| Lw.val (Ex.assign rfl) rfl <| Lw.nil <| Pw.thenN <| Cw.out <| Cw.ret <| Pw.thenR <| Pw.ret2 rfl rfl rfl ?_
  rw [show wshE t s step pad = 10 by rw [wshE, gA, wshB_2 (fun h => by simp [h] at g)]; rfl]
  exact ⟨bt hB hq, gotI_no (by decide)⟩
 intro g8
 have ls : s.length = 4 := by have := g8; simp at this; omega
 have t1 := good_at hT.2.1 (k := 1) (by omega)
 have t2 := good_at hT.2.1 (k := 2) (by omega)
 have s0 := good_at hS.2.1 (k := 0) (by omega)
 have s2 := good_at hS.2.1 (k := 2) (by omega)
 have s3 := good_at hS.2.1 (k := 3) (by omega)
 refine Qw.take (dj := 43) rfl rfl <| Qw.val (fun w1 hq => Ex.move rfl) rfl <| Qw.take (dj := 43) rfl rfl <| Qw.val (fun w1 hq => Ex.idxT st_26 rfl rfl (Sl.bs (by assumption) hq) 0 rfl (by omega)) rfl ?_
 refine Qw.take (dj := 43) rfl rfl <| Qw.val (fun w1 hq => Ex.ldT (ag_3 _) rfl (Sl.bs (by assumption) hq) (by omega)) rfl ?_
 refine Qw.take (dj := 43) rfl rfl <| Qw.val (fun w1 hq => Ex.move rfl) rfl <| Qw.take (dj := 43) rfl rfl <| Qw.val (fun w1 hq => Ex.idxT st_26 rfl rfl (Sl.bs (by assumption) hq) 1 rfl (by omega)) rfl ?_
 refine Qw.take (dj := 43) rfl rfl <| Qw.val (fun w1 hq => Ex.ldT (ag_3 _) rfl (Sl.bs (by assumption) hq) (by omega)) rfl ?_
 refine Qw.take (dj := 43) rfl rfl <| Qw.val (fun w1 hq => Ex.neq rfl rfl) rfl <| Qw.val (fun w1 hq => Ex.pickF rfl rfl) rfl <| Qw.val (fun w1 hq => Ex.move rfl) rfl ?_
 refine Qw.part 52 rfl ?_ ?_
 ·intro g
  refine Qw.pass (dj := 52) rfl rfl rfl rfl <| Qw.pass (dj := 52) rfl rfl rfl rfl <| Qw.pass (dj := 52) rfl rfl rfl rfl <| Qw.pass (dj := 52) rfl rfl rfl rfl <| Qw.pass (dj := 52) rfl rfl rfl rfl <| Qw.pass (dj := 52) rfl rfl rfl rfl <| Qw.pass (dj := 52) rfl rfl rfl rfl <| Qw.pass (dj := 52) rfl rfl rfl rfl <| Qw.pass (dj := 52) rfl rfl rfl rfl <| Qw.pass (dj := 52) rfl rfl rfl rfl <| Qw.val (fun w1 hq => Ex.pickT rfl rfl) rfl <| Qw.val (fun w1 hq => Ex.move rfl) rfl <| Qw.pass (dj := 64) rfl rfl rfl rfl <| Qw.pass (dj := 64) rfl rfl rfl rfl <| Qw.pass (dj := 64) rfl rfl rfl rfl <| Qw.pass (dj := 64) rfl rfl rfl rfl <| Qw.pass (dj := 64) rfl rfl rfl rfl <| Qw.pass (dj := 64) rfl rfl rfl rfl <| Qw.pass (dj := 64) rfl rfl rfl rfl <| Qw.pass (dj := 64) rfl rfl rfl rfl <| Qw.pass (dj := 64) rfl rfl rfl rfl <| Qw.pass (dj := 64) rfl rfl rfl rfl <| Qw.val (fun w1 hq => Ex.pickT rfl rfl) rfl ?_
  refine Qw.nil (fun w1 hq => ?_)
  refine Pw.thenN <| Cw.out <| Cw.condT rfl <| Cw.seq <| Cw.region <| Lw.val (Ex.assign rfl) rfl <| Lw.val (Ex.assign rfl) rfl <| Lw.nil <| Pw.thenN <| Cw.out <| Cw.ret <| Pw.thenR <| Pw.ret2 rfl rfl rfl ?_
  rw [show wshE t s step pad = 10 by rw [wshE, gA, wshB_3 (fun h => by rw [decide_eq_true h] at g; cases g)]; rfl]
  exact ⟨bt hB hq, gotI_no (by decide)⟩
 intro g9
 have gB : wshB t s = true := by
  have : t.getD 0 default = s.getD 1 default := by simpa only [Bool.not_eq_false', decide_eq_true_eq] using g9
  rw [wshB, decide_eq_true lt, decide_eq_true ls, decide_eq_true this]; rfl
 refine Qw.take (dj := 52) rfl rfl <| Qw.val (fun w1 hq => Ex.move rfl) rfl <| Qw.take (dj := 52) rfl rfl <| Qw.val (fun w1 hq => Ex.idxT st_26 rfl rfl (Sl.bs (by assumption) hq) 1 rfl (by omega)) rfl ?_
 refine Qw.take (dj := 52) rfl rfl <| Qw.val (fun w1 hq => Ex.ldT (ag_3 _) rfl (Sl.bs (by assumption) hq) (by omega)) rfl ?_
 refine Qw.take (dj := 52) rfl rfl <| Qw.val (fun w1 hq => Ex.move rfl) rfl <| Qw.take (dj := 52) rfl rfl <| Qw.val (fun w1 hq => Ex.mulI rfl rfl (by omega)) rfl <| Qw.take (dj := 52) rfl rfl <| Qw.val (fun w1 hq => Ex.addI rfl rfl (by omega)) rfl <| Qw.take (dj := 52) rfl rfl <| Qw.val (fun w1 hq => Ex.move rfl) rfl <| Qw.take (dj := 52) rfl rfl <| Qw.val (fun w1 hq => Ex.idxT st_26 rfl rfl (Sl.bs (by assumption) hq) 2 rfl (by omega)) rfl ?_
 refine Qw.take (dj := 52) rfl rfl <| Qw.val (fun w1 hq => Ex.ldT (ag_3 _) rfl (Sl.bs (by assumption) hq) (by omega)) rfl ?_
 refine Qw.take (dj := 52) rfl rfl <| Qw.val (fun w1 hq => Ex.lss rfl rfl) rfl <| Qw.val (fun w1 hq => Ex.pickF rfl rfl) rfl <| Qw.val (fun w1 hq => Ex.move rfl) rfl ?_
 refine Qw.part 64 rfl ?_ ?_
 ·intro g
  have g := of_decide_eq_true g
  refine Qw.pass (dj := 64) rfl rfl rfl rfl <| Qw.pass (dj := 64) rfl rfl rfl rfl <| Qw.pass (dj := 64) rfl rfl rfl rfl <| Qw.pass (dj := 64) rfl rfl rfl rfl <| Qw.pass (dj := 64) rfl rfl rfl rfl <| Qw.pass (dj := 64) rfl rfl rfl rfl <| Qw.pass (dj := 64) rfl rfl rfl rfl <| Qw.pass (dj := 64) rfl rfl rfl rfl <| Qw.pass (dj := 64) rfl rfl rfl rfl <| Qw.pass (dj := 64) rfl rfl rfl rfl <| Qw.val (fun w1 hq => Ex.pickT rfl rfl) rfl ?_
  refine Qw.nil (fun w1 hq => ?_)
  refine Pw.thenN <| Cw.out <| Cw.condT rfl <| Cw.seq <| Cw.region <| Lw.val (Ex.assign rfl) rfl <| Lw.val (Ex.assign rfl) rfl <| Lw.nil <| Pw.thenN <| Cw.out <| Cw.ret <| Pw.thenR <| Pw.ret2 rfl rfl rfl ?_
  rw [show wshE t s step pad = 10 by rw [wshE, gA, wsh_no (.inl g), Bool.and_false]; rfl]
  exact ⟨bt hB hq, gotI_no (by decide)⟩
 intro g10
 have g10 := of_decide_eq_false g10
 refine Qw.take (dj := 64) rfl rfl <| Qw.val (fun w1 hq => Ex.move rfl) rfl <| Qw.take (dj := 64) rfl rfl <| Qw.val (fun w1 hq => Ex.idxT st_26 rfl rfl (Sl.bs (by assumption) hq) 2 rfl (by omega)) rfl ?_
 refine Qw.take (dj := 64) rfl rfl <| Qw.val (fun w1 hq => Ex.ldT (ag_3 _) rfl (Sl.bs (by assumption) hq) (by omega)) rfl ?_
 refine Qw.take (dj := 64) rfl rfl <| Qw.val (fun w1 hq => Ex.move rfl) rfl <| Qw.take (dj := 64) rfl rfl <| Qw.val (fun w1 hq => Ex.mulI rfl rfl (by omega)) rfl <| Qw.take (dj := 64) rfl rfl <| Qw.val (fun w1 hq => Ex.addI rfl rfl (by omega)) rfl <| Qw.take (dj := 64) rfl rfl <| Qw.val (fun w1 hq => Ex.move rfl) rfl <| Qw.take (dj := 64) rfl rfl <| Qw.val (fun w1 hq => Ex.idxT st_26 rfl rfl (Sl.bs (by assumption) hq) 3 rfl (by omega)) rfl ?_
 refine Qw.take (dj := 64) rfl rfl <| Qw.val (fun w1 hq => Ex.ldT (ag_3 _) rfl (Sl.bs (by assumption) hq) (by omega)) rfl ?_
 refine Qw.take (dj := 64) rfl rfl <| Qw.val (fun w1 hq => Ex.lss rfl rfl) rfl <| Qw.val (fun w1 hq => Ex.pickF rfl rfl) rfl ?_
 refine Qw.nil (fun w1 hq => ?_)
 refine Pw.thenN <| Cw.out <| Cw.cond rfl ?_ ?_
 ·intro g
  have g := of_decide_eq_true g
  refine Cw.seq <| Cw.region <| Lw.val (Ex.assign rfl) rfl <| Lw.val (Ex.assign rfl) rfl <| Lw.nil <| Pw.thenN <| Cw.out <| Cw.ret <| Pw.thenR <| Pw.ret2 rfl rfl rfl ?_
  rw [show wshE t s step pad = 10 by rw [wshE, gA, wsh_no (.inr g), Bool.and_false]; rfl]
  exact ⟨bt hB hq, gotI_no (by decide)⟩
 intro g11
 have g11 := of_decide_eq_false g11
 replace hB := hB.bs hq
 replace h_u := h_u.bs hq
 replace h_v := h_v.bs hq
 clear hq g7 g8 g9
 have q1 := Int.ediv_le_self step (show 0 ≤ t.getD 1 default + 2 * pad - s.getD 2 default by omega)
 have q2 := Int.ediv_nonneg (show 0 ≤ t.getD 1 default + 2 * pad - s.getD 2 default by omega) (show 0 ≤ step by omega)
 have q3 := Int.ediv_le_self step (show 0 ≤ t.getD 2 default + 2 * pad - s.getD 3 default by omega)
 have q4 := Int.ediv_nonneg (show 0 ≤ t.getD 2 default + 2 * pad - s.getD 3 default by omega) (show 0 ≤ step by omega)
 have eS : wshS t s step pad = [s.getD 0 default, (t.getD 1 default + 2 * pad - s.getD 2 default) / step + 1, (t.getD 2 default + 2 * pad - s.getD 3 default) / step + 1] := by
  unfold wshS slid; rw [if_neg g10, if_neg g11]
 refine Cw.skip <| Pw.thenN <| Cw.out <| Cw.seq <| Cw.tail 29 mixed (by kernel_rfl) <| Qw.val (fun w1 hq => Ex.move rfl) rfl <| Qw.val (fun w1 hq => Ex.idxT st_26 rfl rfl (Sl.bs (by assumption) hq) 0 rfl (by omega)) rfl ?_
 refine Qw.val (fun w1 hq => Ex.ldT (ag_3 _) rfl (Sl.bs (by assumption) hq) (by omega)) rfl ?_
 refine Qw.val (fun w1 hq => Ex.move rfl) rfl <| Qw.val (fun w1 hq => Ex.idxT st_26 rfl rfl (Sl.bs (by assumption) hq) 1 rfl (by omega)) rfl ?_
 refine Qw.val (fun w1 hq => Ex.ldT (ag_3 _) rfl (Sl.bs (by assumption) hq) (by omega)) rfl ?_
 refine Qw.val (fun w1 hq => Ex.move rfl) rfl <| Qw.val (fun w1 hq => Ex.mulI rfl rfl (by omega)) rfl <| Qw.val (fun w1 hq => Ex.addI rfl rfl (by omega)) rfl <| Qw.val (fun w1 hq => Ex.move rfl) rfl <| Qw.val (fun w1 hq => Ex.idxT st_26 rfl rfl (Sl.bs (by assumption) hq) 2 rfl (by omega)) rfl ?_
 refine Qw.val (fun w1 hq => Ex.ldT (ag_3 _) rfl (Sl.bs (by assumption) hq) (by omega)) rfl ?_
 refine Qw.val (fun w1 hq => Ex.subI rfl rfl (by omega)) rfl <| Qw.val (fun w1 hq => Ex.move rfl) rfl <| Qw.val (fun w1 hq => Ex.quoI rfl rfl (by omega) (by omega)) rfl <| Qw.val (fun w1 hq => Ex.addI rfl rfl (by omega)) rfl <| Qw.val (fun w1 hq => Ex.move rfl) rfl <| Qw.val (fun w1 hq => Ex.idxT st_26 rfl rfl (Sl.bs (by assumption) hq) 2 rfl (by omega)) rfl ?_
 refine Qw.val (fun w1 hq => Ex.ldT (ag_3 _) rfl (Sl.bs (by assumption) hq) (by omega)) rfl ?_
 refine Qw.val (fun w1 hq => Ex.move rfl) rfl <| Qw.val (fun w1 hq => Ex.mulI rfl rfl (by omega)) rfl <| Qw.val (fun w1 hq => Ex.addI rfl rfl (by omega)) rfl <| Qw.val (fun w1 hq => Ex.move rfl) rfl <| Qw.val (fun w1 hq => Ex.idxT st_26 rfl rfl (Sl.bs (by assumption) hq) 3 rfl (by omega)) rfl ?_
 refine Qw.val (fun w1 hq => Ex.ldT (ag_3 _) rfl (Sl.bs (by assumption) hq) (by omega)) rfl ?_
 refine Qw.val (fun w1 hq => Ex.subI rfl rfl (by omega)) rfl <| Qw.val (fun w1 hq => Ex.move rfl) rfl <| Qw.val (fun w1 hq => Ex.quoI rfl rfl (by omega) (by omega)) rfl <| Qw.val (fun w1 hq => Ex.addI rfl rfl (by omega)) rfl ?_
 refine Qw.done (fun w2 hq => ?_)
 replace hB := hB.bs hq
 replace h_u := h_u.bs hq
 replace h_v := h_v.bs hq
 clear hq
 have zw := below_size hB
 refine Lw.valW (Xw.lit (vs := (wshS t s step pad).map (Value.int .i64)) st_26 it_3 rfl (by rw [eS]; rfl) rfl rfl rfl) rfl ?_
 rintro x w ⟨ho, -, hn, -⟩
 have ho := own_mono ho zw
 replace hB := hB.bs hn
 replace h_u := h_u.bs hn
 replace h_v := h_v.bs hn
 clear hn
 refine Lw.val (Ex.assign rfl) rfl <| Lw.nil <| Pw.thenN <| Cw.out <| Cw.seq <| Cw.seq <| Cw.region <| Lw.val (Ex.move rfl) rfl <| Lw.callF rfl rfl (rcheck_c x (wshS t s step pad) _ (own_slT ho)) ?_
 rintro _ w ⟨rfl, hn⟩
 replace hB := hB.bs hn
 replace h_u := h_u.bs hn
 replace h_v := h_v.bs hn
 replace ho := ho.bs hn
 clear hn
 refine Lw.val (Ex.not rfl) rfl <| Lw.nil <| Pw.thenN <| Cw.out <| Cw.cond rfl ?_ ?_
 ·intro g
  refine Cw.seq <| Cw.region <| Lw.val (Ex.assign rfl) rfl <| Lw.val (Ex.assign rfl) rfl <| Lw.nil <| Pw.thenN <| Cw.out <| Cw.ret <| Pw.thenR <| Pw.ret2 rfl rfl rfl ?_
  rw [show wshE t s step pad = 10 by simp_all [wshE]]
  exact ⟨hB, gotI_no (by decide)⟩
 intro g
 refine Cw.skip <| Pw.thenN <| Cw.out <| Cw.seq <| Cw.region <| Lw.val (Ex.move rfl) rfl <| Lw.val (Ex.assign rfl) rfl <| Lw.val (Ex.assign rfl) rfl <| Lw.nil <| Pw.thenN <| Cw.out <| Cw.ret <| Pw.ret2 rfl rfl rfl ?_
 rw [show wshE t s step pad = 0 by simp_all [wshE]]
 exact ⟨hB, x, _, rfl, ho, fun h => absurd rfl h, fun _ => rfl⟩
end Go.Proofs.YtmipoeanpnnjoaaGreat

/-! Contracts: the document's answers on the same numbers elsewhere. -/
namespace Go.Proofs.YtmipoeanpnnjoaaGreat
open Go Go.Dd Go.RowKit
set_option maxRecDepth 100000

theorem rturned_c (u v : Value) (s o : List Int) (W : World) (h_u : SlT (Value.int .i64) W u s) (h_v : SlT (Value.int .i64) W v o) (ho : ∀ j, j < o.length → 0 ≤ o.getD j default ∧ o.getD j default < (s.length : Int)) (h4 : o.length ≤ 4) :
  Fnc Tryz.prog 139 [u, v] W (fun r w' => Below W.heap.size W w' ∧ w'.ownsRow W.heap.size 3 1 r o.length ((turn s o).map (Value.int .i64))) := by
 refine Fnc.enter (n := 24) Tryz.func139 (by kernel_rfl) rfl rfl rfl <| Cw.seq <| Cw.region <| Lw.val (Ex.assign rfl) rfl <| Lw.nil <| Pw.thenN <| Cw.out <| Cw.seq <| Cw.region <| Lw.val (Ex.assign rfl) rfl <| Lw.nil <| Pw.thenN <| Cw.out <| Cw.seq <| Cw.seq <| Cw.region <| Lw.val (Ex.assign rfl) rfl <| Lw.nil <| Pw.thenN <| Cw.out <| Cw.block ?_
 refine Cw.loop (S := (Nat × Value)) (fun z => [(0, u), (1, v), (5, z.2), (6, .int .i64 (z.1 : Int))]) (fun z w' => z.1 ≤ o.length ∧ Below W.heap.size W w' ∧ w'.ownsRow W.heap.size 3 1 z.2 z.1 (((turn s o).take z.1).map (Value.int .i64))) (fun z => o.length - z.1) ((0, .slice none 0 0)) ⟨rfl, rfl, rfl, rfl, trivial⟩ ?_ ?_
 ·exact ⟨Nat.zero_le _, Below.refl _ _, World.ownsRow_nil _ _ _ _⟩
 rintro ⟨i, x⟩ w1 ⟨hi, hB, hx⟩
 dsimp only at hi hx ⊢
 have h_u1 := h_u.bs hB
 have h_v1 := h_v.bs hB
 have zB := hB.size
 refine Cw.seq <| Cw.seq <| Cw.region <| Lw.val (Ex.move rfl) rfl <| Lw.val (Ex.move rfl) rfl <| Lw.val (Ex.lenS st_26 rfl (by assumption)) rfl ?_
 refine Lw.val (Ex.lss rfl rfl) rfl <| Lw.nil <| Pw.thenN <| Cw.out <| Cw.cond rfl ?_ ?_
 ·intro g
  have hi' : i < o.length := by have := of_decide_eq_true g; omega
  have hr := ho i hi'
  obtain ⟨k, hk⟩ : ∃ k : Nat, o.getD i default = (k : Int) := ⟨_, (Int.toNat_of_nonneg hr.1).symm⟩
  have hks : k < s.length := by omega
  have lt := turn_length s o
  have e1 : (turn s o).take (i + 1) = (turn s o).take i ++ [s.getD k default] := by
   have e : (turn s o).getD i default = s.getD k default := by rw [turn_at hi', hk, Int.toNat_natCast]
   have hi2 : i < (turn s o).length := by omega
   rw [List.take_succ_eq_append_getElem hi2, ← e]; simp [hi2]
  refine Cw.skip <| Pw.thenN <| Cw.out <| Cw.seq <| Cw.block <| Cw.region <| Lw.val (Ex.move rfl) rfl <| Lw.val (Ex.move rfl) rfl <| Lw.val (Ex.move rfl) rfl <| Lw.val (Ex.move rfl) rfl <| Lw.val (Ex.idxT st_26 rfl rfl (by assumption) _ rfl (by omega)) rfl ?_
  refine Lw.val ((Ex.ldT (ag_3 _) rfl h_v1 hi').as (congrArg (Value.int .i64) hk)) rfl <| Lw.val (Ex.idxT st_26 rfl rfl h_u1 k rfl hks) rfl <| Lw.val (Ex.ldT (ag_3 _) rfl (by assumption) (by omega)) rfl ?_
  refine Lw.valW (Xw.lit (vs := [s.getD k default].map (Value.int .i64)) st_26 it_3 rfl rfl rfl rfl rfl) rfl ?_
  rintro q w2 ⟨hq, -, hn, -⟩
  have hx := own_bs hx hn
  have hB := bt hB hn
  have zB := hB.size
  refine Lw.valW (Xw.append (base := W.heap.size) st_26 it_3 rfl (by decide) rfl rfl hx (own_sl hq) (one_map (fun _ => rfl) _) (by omega) (by omega) zB) rfl ?_
  rintro y w3 ⟨hy, hn3, -⟩
  have hB := hB.trans hn3
  rw [← List.map_append, ← e1] at hy
  refine Lw.val (Ex.assign rfl) rfl <| Lw.nil <| Pw.blkN <| Pw.thenN <| Cw.out <| Cw.region <| Lw.val (Ex.move rfl) rfl <| Lw.val (Ex.addI rfl rfl (by omega)) rfl <| Lw.val (Ex.assign rfl) rfl <| Lw.nil ?_
  exact Pw.thenN (Pw.next ((i + 1, y)) ⟨rfl, rfl, rfl, rfl, trivial⟩ (⟨hi', hB, hy⟩) (by simp only; omega))
 intro g
 have hi' : i = o.length := by have := of_decide_eq_false g; omega
 rw [hi', List.take_of_length_le (by rw [turn_length]; exact Nat.le_refl _)] at hx
 refine Cw.exit <| Pw.thenE <| Pw.thenE <| Pw.blkHit <| Pw.thenN <| Cw.out <| Cw.seq <| Cw.region <| Lw.val (Ex.move rfl) rfl <| Lw.val (Ex.assign rfl) rfl <| Lw.nil <| Pw.thenN <| Cw.out <| Cw.ret <| Pw.ret1 rfl rfl ?_
 exact ⟨hB, hx⟩
theorem wo_take {s : List Int} {k i : Nat} (h : i < s.length) : wo (s.take (i + 1)) k = if i = k then wo (s.take i) k else wo (s.take i) k ++ [s.getD i default] := by
 have e : s.take (i + 1) = s.take i ++ [s.getD i default] := by rw [List.take_succ_eq_append_getElem h]; simp [h]
 have l : (s.take i).length = i := by rw [List.length_take]; omega
 unfold wo
 rw [e, List.take_append, List.drop_append, l]
 by_cases g : i = k
 ·subst g
  rw [if_pos rfl, Nat.sub_self, List.take_zero, List.append_nil, List.drop_of_length_le (by rw [l]; omega)]
  rw [List.drop_of_length_le (by simp)]
  simp
 ·rw [if_neg g]
  rcases Nat.lt_or_ge i k with h1 | h1
  ·have q1 : (s.take i).drop (k + 1) = [] := List.drop_of_length_le (by omega)
   have q2 : [s.getD i default].drop (k + 1 - i) = [] := List.drop_of_length_le (by simp; omega)
   have q3 : [s.getD i default].take (k - i) = [s.getD i default] := List.take_of_length_le (by simp; omega)
   rw [q1, q2, q3]; simp
  ·rw [show k - i = 0 by omega, show k + 1 - i = 0 by omega, List.take_zero, List.drop_zero, List.append_nil, List.append_assoc]
/-- A list without one of its places, wherever that is. -/
def woR (s : List Int) (k : Nat) : List Int := if (wo s k).length = 0 then [1] else wo s k
theorem woR_eq {s : List Int} {k : Nat} (hk : k < s.length) : woR s k = without s k := by
 have lw := wo_length hk
 unfold woR
 by_cases g : s.length = 1
 ·rw [if_pos (by omega)]; unfold without; rw [if_pos g]
 ·rw [if_neg (by omega), without_wo g]
theorem rwithout0_c (u : Value) (s : List Int) (k : Nat) (W : World) (h_u : SlT (Value.int .i64) W u s) (h4 : s.length ≤ 4) :
  Fnc Tryz.prog 141 [u, .int .i64 (k : Int)] W (fun r w' => Below W.heap.size W w' ∧ w'.ownsRow W.heap.size 3 1 r (woR s k).length ((woR s k).map (Value.int .i64))) := by
 refine Fnc.enter (n := 28) Tryz.func141 (by kernel_rfl) rfl rfl rfl <| Cw.seq <| Cw.region <| Lw.val (Ex.assign rfl) rfl <| Lw.nil <| Pw.thenN <| Cw.out <| Cw.seq <| Cw.region <| Lw.val (Ex.assign rfl) rfl <| Lw.nil <| Pw.thenN <| Cw.out <| Cw.seq <| Cw.seq <| Cw.region <| Lw.val (Ex.assign rfl) rfl <| Lw.nil <| Pw.thenN <| Cw.out <| Cw.block ?_
 refine Cw.loop (S := (Nat × Value)) (fun z => [(0, u), (1, .int .i64 (k : Int)), (5, z.2), (6, .int .i64 (z.1 : Int))]) (fun z w' => z.1 ≤ s.length ∧ Below W.heap.size W w' ∧ w'.ownsRow W.heap.size 3 1 z.2 (wo (s.take z.1) k).length ((wo (s.take z.1) k).map (Value.int .i64))) (fun z => s.length - z.1) ((0, .slice none 0 0)) ⟨rfl, rfl, rfl, rfl, trivial⟩ ?_ ?_
 ·exact ⟨Nat.zero_le _, Below.refl _ _, by show W.ownsRow _ _ _ _ (wo (s.take 0) k).length ((wo (s.take 0) k).map _); rw [show wo (s.take 0) k = [] by simp [wo]]; exact World.ownsRow_nil _ _ _ _⟩
 rintro ⟨i, x⟩ w1 ⟨hi, hB, hx⟩
 dsimp only at hi hx ⊢
 have h_u1 := h_u.bs hB
 have zB := hB.size
 have ll : (wo (s.take i) k).length ≤ i := by
  unfold wo
  rw [List.length_append, List.length_take, List.length_drop, List.length_take]; omega
 refine Cw.seq <| Cw.seq <| Cw.region <| Lw.val (Ex.move rfl) rfl <| Lw.val (Ex.move rfl) rfl <| Lw.val (Ex.lenS st_26 rfl (by assumption)) rfl ?_
 refine Lw.val (Ex.lss rfl rfl) rfl <| Lw.nil <| Pw.thenN <| Cw.out <| Cw.cond rfl ?_ ?_
 ·intro g
  have hi' : i < s.length := by have := of_decide_eq_true g; omega
  have e1 := wo_take (k := k) hi'
  refine Cw.skip <| Pw.thenN <| Cw.out <| Cw.seq <| Cw.block <| Cw.seq <| Cw.region <| Lw.val (Ex.move rfl) rfl <| Lw.val (Ex.move rfl) rfl <| Lw.val (Ex.neq rfl rfl) rfl <| Lw.nil <| Pw.thenN <| Cw.out <| Cw.cond rfl ?_ ?_
  ·intro g2
   have g2 : ¬ i = k := by have := g2; simp at this; omega
   rw [if_neg g2] at e1
   refine Cw.region <| Lw.val (Ex.move rfl) rfl <| Lw.val (Ex.move rfl) rfl <| Lw.val (Ex.move rfl) rfl <| Lw.val (Ex.idxT st_26 rfl rfl (by assumption) _ rfl (by omega)) rfl ?_
   refine Lw.val (Ex.ldT (ag_3 _) rfl (by assumption) (by omega)) rfl ?_
   refine Lw.valW (Xw.lit (vs := [s.getD i default].map (Value.int .i64)) st_26 it_3 rfl rfl rfl rfl rfl) rfl ?_
   rintro q w2 ⟨hq, -, hn, -⟩
   have hx := own_bs hx hn
   have hB := bt hB hn
   have zB := hB.size
   refine Lw.valW (Xw.append (base := W.heap.size) st_26 it_3 rfl (by decide) rfl rfl hx (own_sl hq) (one_map (fun _ => rfl) _) (by omega) (by omega) zB) rfl ?_
   rintro y w3 ⟨hy, hn3, -⟩
   have hB := hB.trans hn3
   rw [← List.map_append, ← e1] at hy
   have hy' : w3.ownsRow W.heap.size 3 1 y (wo (s.take (i + 1)) k).length ((wo (s.take (i + 1)) k).map (Value.int .i64)) := by rw [e1, List.length_append, ← e1]; exact hy
   refine Lw.val (Ex.assign rfl) rfl <| Lw.nil <| Pw.blkN <| Pw.thenN <| Cw.out <| Cw.region <| Lw.val (Ex.move rfl) rfl <| Lw.val (Ex.addI rfl rfl (by omega)) rfl <| Lw.val (Ex.assign rfl) rfl <| Lw.nil ?_
   exact Pw.thenN (Pw.next ((i + 1, y)) ⟨rfl, rfl, rfl, rfl, trivial⟩ (⟨hi', hB, hy'⟩) (by simp only; omega))
  intro g2
  have g2 : i = k := by have := g2; simp at this; omega
  rw [if_pos g2] at e1
  refine Cw.skip <| Pw.blkN <| Pw.thenN <| Cw.out <| Cw.region <| Lw.val (Ex.move rfl) rfl <| Lw.val (Ex.addI rfl rfl (by omega)) rfl <| Lw.val (Ex.assign rfl) rfl <| Lw.nil ?_
  exact Pw.thenN (Pw.next ((i + 1, x)) ⟨rfl, rfl, rfl, rfl, trivial⟩ (⟨hi', hB, by show w1.ownsRow _ _ _ _ (wo (s.take (i + 1)) k).length ((wo (s.take (i + 1)) k).map _); rw [e1]; exact hx⟩) (by simp only; omega))
 intro g
 have hi' : i = s.length := by have := of_decide_eq_false g; omega
 rw [hi', List.take_length] at hx
 have s_x := own_slT hx
 refine Cw.exit <| Pw.thenE <| Pw.thenE <| Pw.blkHit <| Pw.thenN <| Cw.out <| Cw.seq <| Cw.seq <| Cw.region <| Lw.val (Ex.move rfl) rfl <| Lw.val (Ex.lenS st_26 rfl (by assumption)) rfl ?_
 refine Lw.val (Ex.eql rfl rfl) rfl <| Lw.nil <| Pw.thenN <| Cw.out <| Cw.cond rfl ?_ ?_
 ·intro g2
  have g2 : (wo s k).length = 0 := by have := of_decide_eq_true g2; omega
  refine Cw.region <| Lw.valW (Xw.lit (vs := [(1 : Int)].map (Value.int .i64)) st_26 it_3 rfl rfl rfl rfl rfl) rfl ?_
  rintro q w2 ⟨hq, -, hn, -⟩
  refine Lw.val (Ex.assign rfl) rfl <| Lw.nil <| Pw.thenN <| Cw.out <| Cw.seq <| Cw.region <| Lw.val (Ex.move rfl) rfl <| Lw.val (Ex.assign rfl) rfl <| Lw.nil <| Pw.thenN <| Cw.out <| Cw.ret <| Pw.ret1 rfl rfl ?_
  rw [show woR s k = [1] by unfold woR; rw [if_pos g2]]
  exact ⟨bt hB hn, own_mono hq zB⟩
 intro g2
 have g2 : ¬ (wo s k).length = 0 := by have := of_decide_eq_false g2; omega
 refine Cw.skip <| Pw.thenN <| Cw.out <| Cw.seq <| Cw.region <| Lw.val (Ex.move rfl) rfl <| Lw.val (Ex.assign rfl) rfl <| Lw.nil <| Pw.thenN <| Cw.out <| Cw.ret <| Pw.ret1 rfl rfl ?_
 rw [show woR s k = wo s k by unfold woR; rw [if_neg g2]]
 exact ⟨hB, hx⟩
end Go.Proofs.YtmipoeanpnnjoaaGreat

/-! Contracts: the document's shapes of a graph. -/
namespace Go.Proofs.YtmipoeanpnnjoaaGreat
open Go Go.Dd Go.RowKit
set_option maxRecDepth 100000

theorem jd_ok {l : List (List Int)} {n : Int} (h1 : 1 ≤ l.length) (h4 : l.length ≤ 4) (hok : ∀ s ∈ l, Shapes.ok s = true) (hn : 0 ≤ n) :
  decide (jdE l n = 0) = Shapes.ok (jnG l n.toNat) ∧ (jdE l n = 0 → jdS l n = some (jnG l n.toNat)) := by
 have hlen : ∀ s, jnR n.toNat (l.headD []) l.tail = some s → s.length = (l.headD []).length := fun s h => jnR_len _ _ _ h
 have ok0 : Shapes.ok [] = false := by decide
 by_cases hA : ((l.headD []).length : Int) ≤ n
 ·have e1 : jdE l n = 1 := by
   unfold jdE jdA
   rw [decide_eq_true hA]; simp
  have e2 : jnG l n.toNat = [] := by
   unfold jnG
   cases hs : jnR n.toNat (l.headD []) l.tail with
   | none => rfl
   | some s =>
    have := hlen s hs
    show (if n.toNat < s.length then s else []) = []
    rw [if_neg (by omega)]
  rw [e1, e2]
  exact ⟨by rw [ok0]; rfl, fun h => by cases h⟩
 ·have hA' : jdA l n = false := by
   unfold jdA
   rw [decide_eq_false (show ¬ l.length < 1 by omega), decide_eq_false (show ¬ 4 < l.length by omega), decide_eq_false (show ¬ n < 0 by omega), decide_eq_false hA]
   rw [List.any_eq_false.2 fun s hs => by rw [hok s hs]; decide]
   rfl
  have e1 : jdE l n = jdR (jdS l n) := by unfold jdE; rw [hA']; rfl
  rw [e1]
  unfold jdS jnG
  cases hs : jnR n.toNat (l.headD []) l.tail with
  | none => exact ⟨by show decide ((10 : Int) = 0) = Shapes.ok []; rw [ok0]; rfl, fun h => by cases h⟩
  | some s =>
   have := hlen s hs
   have e2 : (if n.toNat < s.length then s else []) = s := if_pos (by omega)
   show decide (jdR (some s) = 0) = Shapes.ok (if n.toNat < s.length then s else []) ∧ (_ → some s = some (if n.toNat < s.length then s else []))
   rw [e2]
   refine ⟨?_, fun _ => rfl⟩
   show decide ((if Shapes.ok s = true then (0 : Int) else 10) = 0) = _
   cases Shapes.ok s <;> rfl
/-- What the document tells of a node. -/
def Told (w : World) (r : Value) (G : List Int) : Prop := ∃ u s, r = .tuple #[u, .bool (Shapes.ok G)] ∧ SlT (Value.int .i64) w u s ∧ (Shapes.ok G = true → s = G)
theorem told_if {w : World} {u : Value} {s G : List Int} {b : Bool} (hs : SlT (Value.int .i64) w u s) (hb : b = Shapes.ok G) (h : b = true → s = G) : Told w (.tuple #[u, .bool b]) G := by
 subst hb; exact ⟨u, s, rfl, hs, h⟩
theorem told_yes {w : World} {u : Value} {G : List Int} (hs : SlT (Value.int .i64) w u G) (hG : Shapes.ok G = true) : Told w (.tuple #[u, .bool true]) G := told_if hs hG.symm fun _ => rfl
theorem pshE_two {a b : List Int} (e : pshE a b = 0) : Shapes.ok [a.getD 0 default, b.getD 1 default] = true := by
 unfold pshE at e
 split at e
 ·rename_i hc
  rw [Bool.and_eq_true] at hc
  split at e
  ·rename_i hl
   have d0 := ok_dims hc.1 (i := 0) (by omega)
   have d1 := ok_dims hc.2 (i := 1) (by omega)
   have hp : a.getD 0 default * b.getD 1 default ≤ 4096 := by
    have := Int.mul_le_mul d0.2 d1.2 (by omega) (by omega)
    omega
   exact two_ok d0 d1 hp
  ·cases e
 ·cases e
theorem wsh_ok {t s : List Int} {step pad : Int} (e : wshE t s step pad = 0) : Shapes.ok (wshS t s step pad) = true := by
 unfold wshE at e
 split at e
 ·cases e
 ·split at e
  ·rename_i h; rw [Bool.and_eq_true] at h; exact h.2
  ·cases e
theorem psh_ok {t : List Int} {n : Int} (ht : Shapes.ok t = true) (e : poolE t n = 0) : Shapes.ok (pshS t n) = true :=
 (pool_ok (t := ⟨.slice none 0 0, .slice none 0 0, t, List.replicate (Shapes.size t).toNat 0#32⟩) (by
  unfold tok
  show (Shapes.ok t && decide ((((List.replicate (Shapes.size t).toNat 0#32).length : Nat) : Int) = Shapes.size t)) = true
  have h2 : 0 < Shapes.size t := of_decide_eq_true ht
  rw [ht, Bool.true_and, List.length_replicate, decide_eq_true_iff]
  omega) e).ok
theorem two_in {ps : List (Value × List Int)} (h : ps.length = 2) : ∃ a b, ps = [a, b] := by
 match ps, h with
 | [a, b], _ => exact ⟨a, b, rfl⟩
theorem one_in {ps : List (Value × List Int)} (h : 1 ≤ ps.length) : ∃ a l, ps = a :: l := by
 match ps, h with
 | a :: l, _ => exact ⟨a, l, rfl⟩
set_option maxHeartbeats 800000 in
theorem rgshape_c (x : N5) (v : Value) (ps : List (Value × List Int)) (W : World) (hx : N5.at W x) (h : LI W v ps) (hk : kindF x.k x.i x.s x.n x.p = true) (hl : ps.length = x.i.length) (hok : ∀ p ∈ ps, Shapes.ok p.2 = true) :
  Fnc Tryz.prog 124 [x.v, v] W (fun r w' => Below W.heap.size W w' ∧ Told w' r (gshN x.k x.s x.n x.p (ints2 ps))) := by
 have hB := Below.refl W.heap.size W
 obtain ⟨G, hG⟩ : ∃ G, G = gshN x.k x.s x.n x.p (ints2 ps) := ⟨_, rfl⟩
 rw [← hG]
 have h_s := hx.s
 refine Fnc.enter (n := 141) Tryz.func124 (by kernel_rfl) rfl rfl rfl <| Cw.seq <| Cw.region <| Lw.boxV (cs := x.cells) rfl rfl rfl ?_
 rintro A_x w eA_x b_x hn -
 replace hB := hB.bs hn
 replace h_s := h_s.bs hn
 replace h := h.bs hn
 clear hn
 refine Lw.val (Ex.assign rfl) rfl <| Lw.val (Ex.assign rfl) rfl <| Lw.nil <| Pw.thenN <| Cw.out <| Cw.seq <| Cw.seq <| Cw.region <| Lw.val (Ex.fieldAddr (q := 0) Tryz.underlying45 rfl (sz_43 _) rfl) rfl <| Lw.val (Ex.ldB (ag_43 _) rfl (by assumption) rfl) rfl ?_
 refine Lw.nil <| Pw.thenN <| Cw.out <| Cw.block <| Cw.seq <| Cw.seq <| Cw.region <| Lw.val (Ex.eql8 rfl (show _ = some (b8 (1#8)) from rfl)) rfl <| Lw.val (Ex.assign rfl) rfl <| Lw.nil <| Pw.thenN <| Cw.out <| Cw.cond rfl ?_ ?_
 ·intro q
  have g : x.k = 1#8 := of_decide_eq_true q
  refine Cw.skip <| Pw.thenN <| Cw.out <| Cw.condB rfl true (q) <| Cw.seq <| Cw.region <| Lw.val (Ex.fieldAddr (q := 0) Tryz.underlying45 rfl (sz_26 _) rfl) rfl <| Lw.val (Ex.ldB (ag_26 _) rfl (by assumption) rfl) rfl ?_
  refine Lw.val (Ex.assign rfl) rfl <| Lw.val (Ex.assign rfl) rfl <| Lw.nil <| Pw.thenN <| Cw.out <| Cw.ret <| Pw.blkR <| Pw.thenR <| Pw.ret2 rfl rfl rfl ?_
  have eG : G = x.s := by rw [hG, g]; rfl
  have k_s : Shapes.ok x.s = true := (kindF_at (by rw [g] at hk; exact hk) kd_1).2
  exact ⟨hB, told_yes (eG ▸ h_s) (by rw [eG]; exact k_s)⟩
 intro q1
 refine Cw.region <| Lw.val (Ex.eql8 rfl (show _ = some (b8 (2#8)) from rfl)) rfl <| Lw.val (Ex.assign rfl) rfl <| Lw.nil <| Pw.thenN <| Cw.out <| Cw.cond rfl ?_ ?_
 ·intro q
  have g : x.k = 2#8 := of_decide_eq_true q
  refine Cw.seq <| Cw.region <| Lw.val (Ex.fieldAddr (q := 0) Tryz.underlying45 rfl (sz_26 _) rfl) rfl <| Lw.val (Ex.ldB (ag_26 _) rfl (by assumption) rfl) rfl ?_
  refine Lw.val (Ex.assign rfl) rfl <| Lw.val (Ex.assign rfl) rfl <| Lw.nil <| Pw.thenN <| Cw.out <| Cw.ret <| Pw.blkR <| Pw.thenR <| Pw.ret2 rfl rfl rfl ?_
  have eG : G = x.s := by rw [hG, g]; rfl
  have k_s : Shapes.ok x.s = true := (kindF_at (by rw [g] at hk; exact hk) kd_2).2
  exact ⟨hB, told_yes (eG ▸ h_s) (by rw [eG]; exact k_s)⟩
 intro q2
 refine Cw.seq <| Cw.seq <| Cw.region <| Lw.val (Ex.eql8 rfl (show _ = some (b8 (3#8)) from rfl)) rfl <| Lw.val (Ex.assign rfl) rfl <| Lw.nil <| Pw.thenN <| Cw.out <| Cw.cond rfl ?_ ?_
 ·intro q
  have g : x.k = 3#8 := of_decide_eq_true q
  refine Cw.skip <| Pw.thenN <| Cw.out <| Cw.condB rfl true (q) <| Cw.seq ?_
  have l2 : ps.length = 2 := by have := (kindF_at (by rw [g] at hk; exact hk) kd_3).1; omega
  obtain ⟨a, b, rfl⟩ := two_in l2
  have ma : a ∈ [a, b] := by simp
  have mb : b ∈ [a, b] := by simp
  have k_a := hok a ma
  have k_b := hok b mb
  have s_a := h.each a ma
  have s_b := h.each b mb
  have s_v := h.sl
  clear l2
  have eG : G = if a.2 = b.2 then a.2 else [] := by rw [hG, g]; rfl
  refine Cw.quiet mixed (by kernel_rfl) <| Qw.val (fun w1 hq => Ex.move rfl) rfl <| Qw.val (fun w1 hq => Ex.idxT st_39 rfl rfl (s_v.bs hq) 0 rfl (Nat.zero_lt_succ _)) rfl <| Qw.val (fun w1 hq => Ex.as (Ex.ldT (ag_26 _) rfl (s_v.bs hq) (Nat.zero_lt_succ _)) rfl) rfl <| Qw.val (fun w1 hq => Ex.move rfl) rfl <| Qw.val (fun w1 hq => Ex.idxT st_39 rfl rfl (s_v.bs hq) 0 rfl (Nat.zero_lt_succ _)) rfl <| Qw.val (fun w1 hq => Ex.as (Ex.ldT (ag_26 _) rfl (s_v.bs hq) (Nat.zero_lt_succ _)) rfl) rfl <| Qw.val (fun w1 hq => Ex.move rfl) rfl <| Qw.val (fun w1 hq => Ex.idxT st_39 rfl rfl (s_v.bs hq) 1 rfl (show 1 < 2 by decide)) rfl <| Qw.val (fun w1 hq => Ex.as (Ex.ldT (ag_26 _) rfl (s_v.bs hq) (show 1 < 2 by decide)) rfl) rfl <| Qw.callF rfl rfl (fun w1 hq => (rsame4_c a.1 b.1 a.2 b.2 _ (s_a.bs hq) (s_b.bs hq)).q hq) <| Qw.val (fun w1 hq => Ex.assign rfl) rfl <| Qw.val (fun w1 hq => Ex.assign rfl) rfl ?_
  refine Qw.nil (fun w2 hq => ?_)
  refine Pw.thenN <| Cw.out <| Cw.ret <| Pw.blkR <| Pw.thenR <| Pw.ret2 rfl rfl rfl ?_
  refine ⟨bt hB hq, told_if (s_a.bs hq) ?_ fun e => ?_⟩
  ·rw [eG]
   by_cases e : a.2 = b.2
   ·rw [if_pos e, k_a, decide_eq_true e]
   ·rw [if_neg e, decide_eq_false e]; rfl
  ·rw [eG, if_pos (of_decide_eq_true e)]
 intro q3
 refine Cw.region <| Lw.val (Ex.eql8 rfl (show _ = some (b8 (4#8)) from rfl)) rfl <| Lw.val (Ex.assign rfl) rfl <| Lw.nil <| Pw.thenN <| Cw.out <| Cw.cond rfl ?_ ?_
 ·intro q
  have g : x.k = 4#8 := of_decide_eq_true q
  have l2 : ps.length = 2 := by have := (kindF_at (by rw [g] at hk; exact hk) kd_4).1; omega
  obtain ⟨a, b, rfl⟩ := two_in l2
  have ma : a ∈ [a, b] := by simp
  have mb : b ∈ [a, b] := by simp
  have k_a := hok a ma
  have k_b := hok b mb
  have s_a := h.each a ma
  have s_b := h.each b mb
  have s_v := h.sl
  clear l2
  have eG : G = if a.2 = b.2 then a.2 else [] := by rw [hG, g]; rfl
  refine Cw.seq <| Cw.quiet mixed (by kernel_rfl) <| Qw.val (fun w1 hq => Ex.move rfl) rfl <| Qw.val (fun w1 hq => Ex.idxT st_39 rfl rfl (s_v.bs hq) 0 rfl (Nat.zero_lt_succ _)) rfl <| Qw.val (fun w1 hq => Ex.as (Ex.ldT (ag_26 _) rfl (s_v.bs hq) (Nat.zero_lt_succ _)) rfl) rfl <| Qw.val (fun w1 hq => Ex.move rfl) rfl <| Qw.val (fun w1 hq => Ex.idxT st_39 rfl rfl (s_v.bs hq) 0 rfl (Nat.zero_lt_succ _)) rfl <| Qw.val (fun w1 hq => Ex.as (Ex.ldT (ag_26 _) rfl (s_v.bs hq) (Nat.zero_lt_succ _)) rfl) rfl <| Qw.val (fun w1 hq => Ex.move rfl) rfl <| Qw.val (fun w1 hq => Ex.idxT st_39 rfl rfl (s_v.bs hq) 1 rfl (show 1 < 2 by decide)) rfl <| Qw.val (fun w1 hq => Ex.as (Ex.ldT (ag_26 _) rfl (s_v.bs hq) (show 1 < 2 by decide)) rfl) rfl <| Qw.callF rfl rfl (fun w1 hq => (rsame4_c a.1 b.1 a.2 b.2 _ (s_a.bs hq) (s_b.bs hq)).q hq) <| Qw.val (fun w1 hq => Ex.assign rfl) rfl <| Qw.val (fun w1 hq => Ex.assign rfl) rfl ?_
  refine Qw.nil (fun w2 hq => ?_)
  refine Pw.thenN <| Cw.out <| Cw.ret <| Pw.blkR <| Pw.thenR <| Pw.ret2 rfl rfl rfl ?_
  refine ⟨bt hB hq, told_if (s_a.bs hq) ?_ fun e => ?_⟩
  ·rw [eG]
   by_cases e : a.2 = b.2
   ·rw [if_pos e, k_a, decide_eq_true e]
   ·rw [if_neg e, decide_eq_false e]; rfl
  ·rw [eG, if_pos (of_decide_eq_true e)]
 intro q4
 refine Cw.seq <| Cw.seq <| Cw.region <| Lw.val (Ex.eql8 rfl (show _ = some (b8 (5#8)) from rfl)) rfl <| Lw.val (Ex.assign rfl) rfl <| Lw.nil <| Pw.thenN <| Cw.out <| Cw.cond rfl ?_ ?_
 ·intro q
  have g : x.k = 5#8 := of_decide_eq_true q
  refine Cw.skip <| Pw.thenN <| Cw.out <| Cw.condB rfl true (q) <| Cw.seq ?_
  have l1 : ps.length = 1 := by have := (kindF_at (by rw [g] at hk; exact hk) kd_5).1; omega
  obtain ⟨a, l, rfl⟩ := one_in (ps := ps) (by omega)
  have ma : a ∈ a :: l := by simp
  have k_a := hok a ma
  have s_a := h.each a ma
  have s_v := h.sl
  have eG : G = a.2 := by rw [hG, g]; rfl
  refine Cw.region <| Lw.val (Ex.move rfl) rfl <| Lw.val (Ex.idxT st_39 rfl rfl (s_v.bs (Below.refl _ _)) 0 rfl (Nat.zero_lt_succ _)) rfl <| Lw.val (Ex.as (Ex.ldT (ag_26 _) rfl (s_v.bs (Below.refl _ _)) (Nat.zero_lt_succ _)) rfl) rfl <| Lw.val (Ex.assign rfl) rfl <| Lw.val (Ex.assign rfl) rfl <| Lw.nil <| Pw.thenN <| Cw.out <| Cw.ret <| Pw.blkR <| Pw.thenR <| Pw.ret2 rfl rfl rfl ?_
  exact ⟨hB, told_yes (eG ▸ s_a) (by rw [eG]; exact k_a)⟩
 intro q5
 refine Cw.region <| Lw.val (Ex.eql8 rfl (show _ = some (b8 (6#8)) from rfl)) rfl <| Lw.val (Ex.assign rfl) rfl <| Lw.nil <| Pw.thenN <| Cw.out <| Cw.cond rfl ?_ ?_
 ·intro q
  have g : x.k = 6#8 := of_decide_eq_true q
  refine Cw.seq ?_
  have l1 : ps.length = 1 := by have := (kindF_at (by rw [g] at hk; exact hk) kd_6).1; omega
  obtain ⟨a, l, rfl⟩ := one_in (ps := ps) (by omega)
  have ma : a ∈ a :: l := by simp
  have k_a := hok a ma
  have s_a := h.each a ma
  have s_v := h.sl
  have eG : G = a.2 := by rw [hG, g]; rfl
  refine Cw.region <| Lw.val (Ex.move rfl) rfl <| Lw.val (Ex.idxT st_39 rfl rfl (s_v.bs (Below.refl _ _)) 0 rfl (Nat.zero_lt_succ _)) rfl <| Lw.val (Ex.as (Ex.ldT (ag_26 _) rfl (s_v.bs (Below.refl _ _)) (Nat.zero_lt_succ _)) rfl) rfl <| Lw.val (Ex.assign rfl) rfl <| Lw.val (Ex.assign rfl) rfl <| Lw.nil <| Pw.thenN <| Cw.out <| Cw.ret <| Pw.blkR <| Pw.thenR <| Pw.ret2 rfl rfl rfl ?_
  exact ⟨hB, told_yes (eG ▸ s_a) (by rw [eG]; exact k_a)⟩
 intro q6
 refine Cw.seq <| Cw.region <| Lw.val (Ex.eql8 rfl (show _ = some (b8 (7#8)) from rfl)) rfl <| Lw.val (Ex.assign rfl) rfl <| Lw.nil <| Pw.thenN <| Cw.out <| Cw.cond rfl ?_ ?_
 ·intro q
  have g : x.k = 7#8 := of_decide_eq_true q
  have l2 : ps.length = 2 := by have := (kindF_at (by rw [g] at hk; exact hk) kd_7).1; omega
  obtain ⟨a, b, rfl⟩ := two_in l2
  have ma : a ∈ [a, b] := by simp
  have mb : b ∈ [a, b] := by simp
  have k_a := hok a ma
  have k_b := hok b mb
  have s_a := h.each a ma
  have s_b := h.each b mb
  have s_v := h.sl
  clear l2
  have eG : G = if pshE a.2 b.2 = 0 then [a.2.getD 0 default, b.2.getD 1 default] else [] := by rw [hG, g]; rfl
  refine Cw.seq ?_
  rename World => w1
  refine Cw.any mixed (fun w2 hD _ => ?_)
  refine Aw.cls (fun w' => Below w1.heap.size w1 w') (fun hC => ?_) (hD)
  refine AwC.take (i := 0) (NoP.thn (NoP.blk (NoP.thn NoP.ret))) rfl (by kernel_rfl) (by kernel_rfl) (by kernel_rfl) (fun w1 hc => Ex.move rfl) rfl <| AwC.take (i := 1) (NoP.thn (NoP.blk (NoP.thn NoP.ret))) rfl (by kernel_rfl) (by kernel_rfl) (by kernel_rfl) (fun w1 hc => Ex.idxT st_39 rfl rfl (s_v.bs hc) 0 rfl (Nat.zero_lt_succ _)) rfl <| AwC.take (i := 2) (NoP.thn (NoP.blk (NoP.thn NoP.ret))) rfl (by kernel_rfl) (by kernel_rfl) (by kernel_rfl) (fun w1 hc => Ex.as (Ex.ldT (ag_26 _) rfl (s_v.bs hc) (Nat.zero_lt_succ _)) rfl) rfl <| AwC.take (i := 3) (NoP.thn (NoP.blk (NoP.thn NoP.ret))) rfl (by kernel_rfl) (by kernel_rfl) (by kernel_rfl) (fun w1 hc => Ex.move rfl) rfl <| AwC.take (i := 4) (NoP.thn (NoP.blk (NoP.thn NoP.ret))) rfl (by kernel_rfl) (by kernel_rfl) (by kernel_rfl) (fun w1 hc => Ex.idxT st_39 rfl rfl (s_v.bs hc) 1 rfl (show 1 < 2 by decide)) rfl <| AwC.take (i := 5) (NoP.thn (NoP.blk (NoP.thn NoP.ret))) rfl (by kernel_rfl) (by kernel_rfl) (by kernel_rfl) (fun w1 hc => Ex.as (Ex.ldT (ag_26 _) rfl (s_v.bs hc) (show 1 < 2 by decide)) rfl) rfl <| AwC.only (by assumption) (i := 6) (by kernel_rfl) rfl ?_
  refine Lw.callF rfl rfl (rpshape_c a.1 b.1 a.2 b.2 w2 (s_a.bs hD) (s_b.bs hD)) ?_
  rintro _ w3 ⟨hn, u, rfl, h0, h1⟩
  have hD := bt hD hn
  refine AwC.back <| AwC.take (i := 7) (NoP.thn (NoP.blk (NoP.thn NoP.ret))) rfl (by kernel_rfl) (by kernel_rfl) (by kernel_rfl) (fun w1 hc => Ex.move rfl) rfl <| AwC.take (i := 8) (NoP.thn (NoP.blk (NoP.thn NoP.ret))) rfl (by kernel_rfl) (by kernel_rfl) (by kernel_rfl) (fun w1 hc => Ex.extract (i := 0) rfl rfl) rfl <| AwC.take (i := 9) (NoP.thn (NoP.blk (NoP.thn NoP.ret))) rfl (by kernel_rfl) (by kernel_rfl) (by kernel_rfl) (fun w1 hc => Ex.extract (i := 1) rfl rfl) rfl <| AwC.take (i := 10) (NoP.thn (NoP.blk (NoP.thn NoP.ret))) rfl (by kernel_rfl) (by kernel_rfl) (by kernel_rfl) (fun w1 hc => Ex.assign rfl) rfl <| AwC.take (i := 11) (NoP.thn (NoP.blk (NoP.thn NoP.ret))) rfl (by kernel_rfl) (by kernel_rfl) (by kernel_rfl) (fun w1 hc => Ex.assign rfl) rfl <| AwC.done (by assumption) (by kernel_rfl) ?_
  refine Pw.thenN <| Cw.out <| Cw.seq <| Cw.region <| Lw.val (Ex.move rfl) rfl <| Lw.val (Ex.move rfl) rfl <| Lw.val (Ex.eql rfl rfl) rfl <| Lw.val (Ex.assign rfl) rfl <| Lw.val (Ex.assign rfl) rfl <| Lw.nil <| Pw.thenN <| Cw.out <| Cw.ret <| Pw.blkR <| Pw.thenR <| Pw.ret2 rfl rfl rfl ?_
  have hB := bt hB hD
  refine ⟨hB, ?_⟩
  by_cases e : pshE a.2 b.2 = 0
  ·rw [if_pos e] at eG
   rw [decide_eq_true e]
   have d0 := pshE_two e
   exact told_yes (by rw [eG]; exact own_slT (h1 e)) (by rw [eG]; exact d0)
  ·rw [if_neg e] at eG
   rw [decide_eq_false e, h0 e]
   exact told_if (s := []) (Sl.nil _ _) (by rw [eG]; rfl) fun h => by cases h
 intro q7
 refine Cw.seq <| Cw.region <| Lw.val (Ex.eql8 rfl (show _ = some (b8 (8#8)) from rfl)) rfl <| Lw.val (Ex.assign rfl) rfl <| Lw.nil <| Pw.thenN <| Cw.out <| Cw.cond rfl ?_ ?_
 ·intro q
  have g : x.k = 8#8 := of_decide_eq_true q
  have l2 : ps.length = 2 := by have := (kindF_at (by rw [g] at hk; exact hk) kd_8).1; omega
  obtain ⟨a, b, rfl⟩ := two_in l2
  have ma : a ∈ [a, b] := by simp
  have mb : b ∈ [a, b] := by simp
  have k_a := hok a ma
  have k_b := hok b mb
  have s_a := h.each a ma
  have s_b := h.each b mb
  have s_v := h.sl
  clear l2
  have eG : G = if wshE a.2 b.2 x.n x.p = 0 then wshS a.2 b.2 x.n x.p else [] := by rw [hG, g]; rfl
  refine Cw.seq ?_
  rename World => w1
  refine Cw.any mixed (fun w2 hD _ => ?_)
  refine Aw.cls (fun w' => Below w1.heap.size w1 w') (fun hC => ?_) (hD)
  refine AwC.take (i := 0) (NoP.thn (NoP.blk (NoP.thn NoP.ret))) rfl (by kernel_rfl) (by kernel_rfl) (by kernel_rfl) (fun w1 hc => Ex.move rfl) rfl <| AwC.take (i := 1) (NoP.thn (NoP.blk (NoP.thn NoP.ret))) rfl (by kernel_rfl) (by kernel_rfl) (by kernel_rfl) (fun w1 hc => Ex.idxT st_39 rfl rfl (s_v.bs hc) 0 rfl (Nat.zero_lt_succ _)) rfl <| AwC.take (i := 2) (NoP.thn (NoP.blk (NoP.thn NoP.ret))) rfl (by kernel_rfl) (by kernel_rfl) (by kernel_rfl) (fun w1 hc => Ex.as (Ex.ldT (ag_26 _) rfl (s_v.bs hc) (Nat.zero_lt_succ _)) rfl) rfl <| AwC.take (i := 3) (NoP.thn (NoP.blk (NoP.thn NoP.ret))) rfl (by kernel_rfl) (by kernel_rfl) (by kernel_rfl) (fun w1 hc => Ex.move rfl) rfl <| AwC.take (i := 4) (NoP.thn (NoP.blk (NoP.thn NoP.ret))) rfl (by kernel_rfl) (by kernel_rfl) (by kernel_rfl) (fun w1 hc => Ex.idxT st_39 rfl rfl (s_v.bs hc) 1 rfl (show 1 < 2 by decide)) rfl <| AwC.take (i := 5) (NoP.thn (NoP.blk (NoP.thn NoP.ret))) rfl (by kernel_rfl) (by kernel_rfl) (by kernel_rfl) (fun w1 hc => Ex.as (Ex.ldT (ag_26 _) rfl (s_v.bs hc) (show 1 < 2 by decide)) rfl) rfl <| AwC.take (i := 6) (NoP.thn (NoP.blk (NoP.thn NoP.ret))) rfl (by kernel_rfl) (by kernel_rfl) (by kernel_rfl) (fun w1 hc => Ex.fieldAddr (q := 0) Tryz.underlying45 rfl (sz_3 _) rfl) rfl <| AwC.take (i := 7) (NoP.thn (NoP.blk (NoP.thn NoP.ret))) rfl (by kernel_rfl) (by kernel_rfl) (by kernel_rfl) (fun w1 hc => Ex.ldB (ag_3 _) rfl (Blk.bs (by assumption) hc) rfl) rfl ?_
  refine AwC.take (i := 8) (NoP.thn (NoP.blk (NoP.thn NoP.ret))) rfl (by kernel_rfl) (by kernel_rfl) (by kernel_rfl) (fun w1 hc => Ex.fieldAddr (q := 0) Tryz.underlying45 rfl (sz_3 _) rfl) rfl <| AwC.take (i := 9) (NoP.thn (NoP.blk (NoP.thn NoP.ret))) rfl (by kernel_rfl) (by kernel_rfl) (by kernel_rfl) (fun w1 hc => Ex.ldB (ag_3 _) rfl (Blk.bs (by assumption) hc) rfl) rfl ?_
  refine AwC.only (by assumption) (i := 10) (by kernel_rfl) rfl ?_
  refine Lw.callF rfl rfl (rwshape_c a.2 b.2 x.n x.p a.1 b.1 w2 (s_a.bs hD) (s_b.bs hD)) ?_
  rintro _ w3 ⟨hn, u, m, rfl, o_u, h0, h1⟩
  have hD := bt hD hn
  refine AwC.back <| AwC.take (i := 11) (NoP.thn (NoP.blk (NoP.thn NoP.ret))) rfl (by kernel_rfl) (by kernel_rfl) (by kernel_rfl) (fun w1 hc => Ex.move rfl) rfl <| AwC.take (i := 12) (NoP.thn (NoP.blk (NoP.thn NoP.ret))) rfl (by kernel_rfl) (by kernel_rfl) (by kernel_rfl) (fun w1 hc => Ex.extract (i := 0) rfl rfl) rfl <| AwC.take (i := 13) (NoP.thn (NoP.blk (NoP.thn NoP.ret))) rfl (by kernel_rfl) (by kernel_rfl) (by kernel_rfl) (fun w1 hc => Ex.extract (i := 1) rfl rfl) rfl <| AwC.take (i := 14) (NoP.thn (NoP.blk (NoP.thn NoP.ret))) rfl (by kernel_rfl) (by kernel_rfl) (by kernel_rfl) (fun w1 hc => Ex.assign rfl) rfl <| AwC.take (i := 15) (NoP.thn (NoP.blk (NoP.thn NoP.ret))) rfl (by kernel_rfl) (by kernel_rfl) (by kernel_rfl) (fun w1 hc => Ex.assign rfl) rfl <| AwC.done (by assumption) (by kernel_rfl) ?_
  refine Pw.thenN <| Cw.out <| Cw.seq <| Cw.region <| Lw.val (Ex.move rfl) rfl <| Lw.val (Ex.move rfl) rfl <| Lw.val (Ex.eql rfl rfl) rfl <| Lw.val (Ex.assign rfl) rfl <| Lw.val (Ex.assign rfl) rfl <| Lw.nil <| Pw.thenN <| Cw.out <| Cw.ret <| Pw.blkR <| Pw.thenR <| Pw.ret2 rfl rfl rfl ?_
  have hB := bt hB hD
  refine ⟨hB, ?_⟩
  by_cases e : wshE a.2 b.2 x.n x.p = 0
  ·rw [if_pos e] at eG
   rw [decide_eq_true e]
   exact told_yes (by rw [eG, ← h1 e]; exact own_slT o_u) (by rw [eG]; exact wsh_ok e)
  ·rw [if_neg e] at eG
   rw [decide_eq_false e, (h0 e).1]
   exact told_if (s := []) (Sl.nil _ _) (by rw [eG]; rfl) fun h => by cases h
 intro q8
 refine Cw.seq <| Cw.region <| Lw.val (Ex.eql8 rfl (show _ = some (b8 (9#8)) from rfl)) rfl <| Lw.val (Ex.assign rfl) rfl <| Lw.nil <| Pw.thenN <| Cw.out <| Cw.cond rfl ?_ ?_
 ·intro q
  have g : x.k = 9#8 := of_decide_eq_true q
  have l1 : ps.length = 1 := by have := (kindF_at (by rw [g] at hk; exact hk) kd_9).1; omega
  obtain ⟨a, l, rfl⟩ := one_in (ps := ps) (by omega)
  have ma : a ∈ a :: l := by simp
  have k_a := hok a ma
  have s_a := h.each a ma
  have s_v := h.sl
  have eG : G = if poolE a.2 x.n = 0 then pshS a.2 x.n else [] := by rw [hG, g]; rfl
  refine Cw.seq ?_
  rename World => w1
  refine Cw.any mixed (fun w2 hD _ => ?_)
  refine Aw.cls (fun w' => Below w1.heap.size w1 w') (fun hC => ?_) (hD)
  refine AwC.take (i := 0) (NoP.thn (NoP.blk (NoP.thn NoP.ret))) rfl (by kernel_rfl) (by kernel_rfl) (by kernel_rfl) (fun w1 hc => Ex.move rfl) rfl <| AwC.take (i := 1) (NoP.thn (NoP.blk (NoP.thn NoP.ret))) rfl (by kernel_rfl) (by kernel_rfl) (by kernel_rfl) (fun w1 hc => Ex.idxT st_39 rfl rfl (s_v.bs hc) 0 rfl (Nat.zero_lt_succ _)) rfl <| AwC.take (i := 2) (NoP.thn (NoP.blk (NoP.thn NoP.ret))) rfl (by kernel_rfl) (by kernel_rfl) (by kernel_rfl) (fun w1 hc => Ex.as (Ex.ldT (ag_26 _) rfl (s_v.bs hc) (Nat.zero_lt_succ _)) rfl) rfl <| AwC.take (i := 3) (NoP.thn (NoP.blk (NoP.thn NoP.ret))) rfl (by kernel_rfl) (by kernel_rfl) (by kernel_rfl) (fun w1 hc => Ex.fieldAddr (q := 0) Tryz.underlying45 rfl (sz_3 _) rfl) rfl <| AwC.take (i := 4) (NoP.thn (NoP.blk (NoP.thn NoP.ret))) rfl (by kernel_rfl) (by kernel_rfl) (by kernel_rfl) (fun w1 hc => Ex.ldB (ag_3 _) rfl (Blk.bs (by assumption) hc) rfl) rfl ?_
  refine AwC.only (by assumption) (i := 5) (by kernel_rfl) rfl ?_
  refine Lw.callF rfl rfl (rwpshape_c a.2 x.n a.1 w2 (s_a.bs hD)) ?_
  rintro _ w3 ⟨hn, u, m, rfl, o_u, h0, h1⟩
  have hD := bt hD hn
  refine AwC.back <| AwC.take (i := 6) (NoP.thn (NoP.blk (NoP.thn NoP.ret))) rfl (by kernel_rfl) (by kernel_rfl) (by kernel_rfl) (fun w1 hc => Ex.move rfl) rfl <| AwC.take (i := 7) (NoP.thn (NoP.blk (NoP.thn NoP.ret))) rfl (by kernel_rfl) (by kernel_rfl) (by kernel_rfl) (fun w1 hc => Ex.extract (i := 0) rfl rfl) rfl <| AwC.take (i := 8) (NoP.thn (NoP.blk (NoP.thn NoP.ret))) rfl (by kernel_rfl) (by kernel_rfl) (by kernel_rfl) (fun w1 hc => Ex.extract (i := 1) rfl rfl) rfl <| AwC.take (i := 9) (NoP.thn (NoP.blk (NoP.thn NoP.ret))) rfl (by kernel_rfl) (by kernel_rfl) (by kernel_rfl) (fun w1 hc => Ex.assign rfl) rfl <| AwC.take (i := 10) (NoP.thn (NoP.blk (NoP.thn NoP.ret))) rfl (by kernel_rfl) (by kernel_rfl) (by kernel_rfl) (fun w1 hc => Ex.assign rfl) rfl <| AwC.done (by assumption) (by kernel_rfl) ?_
  refine Pw.thenN <| Cw.out <| Cw.seq <| Cw.region <| Lw.val (Ex.move rfl) rfl <| Lw.val (Ex.move rfl) rfl <| Lw.val (Ex.eql rfl rfl) rfl <| Lw.val (Ex.assign rfl) rfl <| Lw.val (Ex.assign rfl) rfl <| Lw.nil <| Pw.thenN <| Cw.out <| Cw.ret <| Pw.blkR <| Pw.thenR <| Pw.ret2 rfl rfl rfl ?_
  have hB := bt hB hD
  refine ⟨hB, ?_⟩
  by_cases e : poolE a.2 x.n = 0
  ·rw [if_pos e] at eG
   rw [decide_eq_true e]
   exact told_yes (by rw [eG, ← h1 e]; exact own_slT o_u) (by rw [eG]; exact psh_ok k_a e)
  ·rw [if_neg e] at eG
   rw [decide_eq_false e, (h0 e).1]
   exact told_if (s := []) (Sl.nil _ _) (by rw [eG]; rfl) fun h => by cases h
 intro q9
 refine Cw.seq <| Cw.region <| Lw.val (Ex.eql8 rfl (show _ = some (b8 (10#8)) from rfl)) rfl <| Lw.val (Ex.assign rfl) rfl <| Lw.nil <| Pw.thenN <| Cw.out <| Cw.cond rfl ?_ ?_
 ·intro q
  have g : x.k = 10#8 := of_decide_eq_true q
  have l1 : ps.length = 1 := by have := (kindF_at (by rw [g] at hk; exact hk) kd_10).1; omega
  obtain ⟨a, l, rfl⟩ := one_in (ps := ps) (by omega)
  have ma : a ∈ a :: l := by simp
  have k_a := hok a ma
  have s_a := h.each a ma
  have s_v := h.sl
  have k_s : Shapes.ok x.s = true := (kindF_at (by rw [g] at hk; exact hk) kd_10).2
  have eG : G = if Shapes.size a.2 = Shapes.size x.s then x.s else [] := by rw [hG, g]; rfl
  refine Cw.seq <| Cw.quiet mixed (by kernel_rfl) <| Qw.val (fun w1 hq => Ex.fieldAddr (q := 0) Tryz.underlying45 rfl (sz_26 _) rfl) rfl <| Qw.val (fun w1 hq => Ex.ldB (ag_26 _) rfl (Blk.bs (by assumption) hq) rfl) rfl ?_
  refine Qw.val (fun w1 hq => Ex.fieldAddr (q := 0) Tryz.underlying45 rfl (sz_26 _) rfl) rfl <| Qw.val (fun w1 hq => Ex.ldB (ag_26 _) rfl (Blk.bs (by assumption) hq) rfl) rfl ?_
  refine Qw.callF rfl rfl (fun w1 hq => (rsize_c x.y x.s _ (h_s.bs hq)).q hq) <| Qw.val (fun w1 hq => Ex.move rfl) rfl <| Qw.val (fun w1 hq => Ex.idxT st_39 rfl rfl (s_v.bs hq) 0 rfl (Nat.zero_lt_succ _)) rfl <| Qw.val (fun w1 hq => Ex.as (Ex.ldT (ag_26 _) rfl (s_v.bs hq) (Nat.zero_lt_succ _)) rfl) rfl <| Qw.callF rfl rfl (fun w1 hq => (rsize_c a.1 a.2 _ (s_a.bs hq)).q hq) <| Qw.val (fun w1 hq => Ex.eql rfl rfl) rfl <| Qw.val (fun w1 hq => Ex.assign rfl) rfl <| Qw.val (fun w1 hq => Ex.assign rfl) rfl ?_
  refine Qw.nil (fun w2 hq => ?_)
  refine Pw.thenN <| Cw.out <| Cw.ret <| Pw.blkR <| Pw.thenR <| Pw.ret2 rfl rfl rfl ?_
  refine ⟨bt hB hq, told_if (h_s.bs hq) ?_ fun e => ?_⟩
  ·rw [eG]
   by_cases e : Shapes.size a.2 = Shapes.size x.s
   ·rw [if_pos e, k_s, decide_eq_true e.symm]
   ·rw [if_neg e, decide_eq_false fun h => e h.symm]; rfl
  ·rw [eG, if_pos (of_decide_eq_true e).symm]
 intro q10
 refine Cw.seq <| Cw.region <| Lw.val (Ex.eql8 rfl (show _ = some (b8 (11#8)) from rfl)) rfl <| Lw.val (Ex.assign rfl) rfl <| Lw.nil <| Pw.thenN <| Cw.out <| Cw.cond rfl ?_ ?_
 ·intro q
  have g : x.k = 11#8 := of_decide_eq_true q
  have l1 : ps.length = 1 := by have := (kindF_at (by rw [g] at hk; exact hk) kd_11).1; omega
  obtain ⟨a, l, rfl⟩ := one_in (ps := ps) (by omega)
  have ma : a ∈ a :: l := by simp
  have k_a := hok a ma
  have s_a := h.each a ma
  have s_v := h.sl
  have k_s : gord x.s = true := (kindF_at (by rw [g] at hk; exact hk) kd_11).2
  have eG : G = trnG a.2 x.s := by rw [hG, g]; rfl
  unfold trnG at eG
  have k_o := k_s
  rw [gord_ord, Bool.and_eq_true, decide_eq_true_iff] at k_o
  have k_c : cov x.s = true := by unfold gord at k_s; exact (Bool.and_eq_true _ _ ▸ k_s).1
  refine Cw.seq <| Cw.seq <| Cw.quiet mixed (by kernel_rfl) <| Qw.val (fun w1 hq => Ex.fieldAddr (q := 0) Tryz.underlying45 rfl (sz_26 _) rfl) rfl <| Qw.val (fun w1 hq => Ex.ldB (ag_26 _) rfl (Blk.bs (by assumption) hq) rfl) rfl ?_
  refine Qw.val (fun w1 hq => Ex.lenS st_26 rfl (Sl.bs (by assumption) hq)) rfl ?_
  refine Qw.val (fun w1 hq => Ex.move rfl) rfl <| Qw.val (fun w1 hq => Ex.idxT st_39 rfl rfl (s_v.bs hq) 0 rfl (Nat.zero_lt_succ _)) rfl <| Qw.val (fun w1 hq => Ex.as (Ex.ldT (ag_26 _) rfl (s_v.bs hq) (Nat.zero_lt_succ _)) rfl) rfl <| Qw.val (fun w1 hq => Ex.lenS st_26 rfl (Sl.bs (by assumption) hq)) rfl ?_
  refine Qw.val (fun w1 hq => Ex.neq rfl rfl) rfl ?_
  refine Qw.nil (fun w2 hq => ?_)
  refine Pw.thenN <| Cw.out <| Cw.cond rfl ?_ ?_
  ·intro q
   have l2 : ¬ a.2.length = x.s.length := fun e => by rw [e] at q; simp at q
   rw [if_neg l2] at eG
   refine Cw.seq <| Cw.region <| Lw.val (Ex.assign rfl) rfl <| Lw.val (Ex.assign rfl) rfl <| Lw.nil <| Pw.thenN <| Cw.out <| Cw.ret <| Pw.thenR <| Pw.blkR <| Pw.thenR <| Pw.ret2 rfl rfl rfl ?_
   exact ⟨bt hB hq, told_if (s := []) (Sl.nil _ _) (by rw [eG]; rfl) fun h => by cases h⟩
  intro q
  have l2 : a.2.length = x.s.length := by simp at q; omega
  rw [if_pos l2] at eG
  have hb := cov_bd k_c k_o.1
  have ho : ∀ j, j < x.s.length → 0 ≤ x.s.getD j default ∧ x.s.getD j default < (a.2.length : Int) := fun j hj => by
   have := hb _ (getD_mem hj)
   omega
  replace hB := hB.bs hq
  replace h_s := h_s.bs hq
  replace h := h.bs hq
  replace b_x := b_x.bs hq
  clear hq
  refine Cw.skip <| Pw.thenN <| Cw.out <| Cw.seq ?_
  have s_v := h.sl
  have s_a := h.each a ma
  rename World => w1
  refine Cw.any mixed (fun w2 hD _ => ?_)
  refine Aw.cls (fun w' => Below w1.heap.size w1 w') (fun hC => ?_) (hD)
  refine AwC.take (i := 0) (NoP.thn (NoP.blk (NoP.thn NoP.ret))) rfl (by kernel_rfl) (by kernel_rfl) (by kernel_rfl) (fun w1 hc => Ex.move rfl) rfl <| AwC.take (i := 1) (NoP.thn (NoP.blk (NoP.thn NoP.ret))) rfl (by kernel_rfl) (by kernel_rfl) (by kernel_rfl) (fun w1 hc => Ex.idxT st_39 rfl rfl (s_v.bs hc) 0 rfl (Nat.zero_lt_succ _)) rfl <| AwC.take (i := 2) (NoP.thn (NoP.blk (NoP.thn NoP.ret))) rfl (by kernel_rfl) (by kernel_rfl) (by kernel_rfl) (fun w1 hc => Ex.as (Ex.ldT (ag_26 _) rfl (s_v.bs hc) (Nat.zero_lt_succ _)) rfl) rfl <| AwC.take (i := 3) (NoP.thn (NoP.blk (NoP.thn NoP.ret))) rfl (by kernel_rfl) (by kernel_rfl) (by kernel_rfl) (fun w1 hc => Ex.fieldAddr (q := 0) Tryz.underlying45 rfl (sz_26 _) rfl) rfl <| AwC.take (i := 4) (NoP.thn (NoP.blk (NoP.thn NoP.ret))) rfl (by kernel_rfl) (by kernel_rfl) (by kernel_rfl) (fun w1 hc => Ex.ldB (ag_26 _) rfl (Blk.bs (by assumption) hc) rfl) rfl ?_
  refine AwC.only (by assumption) (i := 5) (by kernel_rfl) rfl ?_
  refine Lw.callF rfl rfl (rturned_c a.1 x.y a.2 x.s w2 (s_a.bs hD) (h_s.bs hD) ho k_o.1) ?_
  rintro u w3 ⟨hn, o_u⟩
  have hD := bt hD hn
  refine AwC.back <| AwC.take (i := 6) (NoP.thn (NoP.blk (NoP.thn NoP.ret))) rfl (by kernel_rfl) (by kernel_rfl) (by kernel_rfl) (fun w1 hc => Ex.assign rfl) rfl <| AwC.take (i := 7) (NoP.thn (NoP.blk (NoP.thn NoP.ret))) rfl (by kernel_rfl) (by kernel_rfl) (by kernel_rfl) (fun w1 hc => Ex.assign rfl) rfl <| AwC.done (by assumption) (by kernel_rfl) ?_
  refine Pw.thenN <| Cw.out <| Cw.ret <| Pw.blkR <| Pw.thenR <| Pw.ret2 rfl rfl rfl ?_
  refine ⟨bt hB hD, told_yes ?_ ?_⟩
  ·rw [eG]
   have := own_sl o_u
   rw [← turn_length a.2 x.s] at this
   exact this
  ·rw [eG]
   exact turn_ok k_a k_o.2 l2.symm
 intro q11
 refine Cw.seq <| Cw.region <| Lw.val (Ex.eql8 rfl (show _ = some (b8 (12#8)) from rfl)) rfl <| Lw.val (Ex.assign rfl) rfl <| Lw.nil <| Pw.thenN <| Cw.out <| Cw.cond rfl ?_ ?_
 ·intro q
  have g : x.k = 12#8 := of_decide_eq_true q
  have lk := (kindF_at (by rw [g] at hk; exact hk) kd_12).1
  have eG : G = jnG (ints2 ps) x.n.toNat := by rw [hG, g]; rfl
  obtain ⟨j1, j2⟩ := jd_ok (l := ints2 ps) (n := x.n) (by rw [List.length_map]; omega) (by rw [List.length_map]; omega) (fun s hs => by
   obtain ⟨p, hp, rfl⟩ := List.mem_map.1 hs
   exact hok p hp) (by omega)
  rw [← eG] at j1 j2
  refine Cw.seq <| Cw.region <| Lw.val (Ex.move rfl) rfl <| Lw.val (Ex.fieldAddr (q := 0) Tryz.underlying45 rfl (sz_3 _) rfl) rfl <| Lw.val (Ex.ldB (ag_3 _) rfl (by assumption) rfl) rfl ?_
  refine Lw.callF rfl rfl (rjoined_c v ps x.n _ h) ?_
  rintro _ w ⟨hn, u, s, rfl, s_u, hs⟩
  replace hB := hB.bs hn
  replace h_s := h_s.bs hn
  replace h := h.bs hn
  replace b_x := b_x.bs hn
  clear hn
  refine Lw.val (Ex.move rfl) rfl <| Lw.val (Ex.extract (i := 0) rfl rfl) rfl <| Lw.val (Ex.extract (i := 1) rfl rfl) rfl <| Lw.val (Ex.assign rfl) rfl <| Lw.val (Ex.assign rfl) rfl <| Lw.nil <| Pw.thenN <| Cw.out <| Cw.seq <| Cw.region <| Lw.val (Ex.move rfl) rfl <| Lw.val (Ex.move rfl) rfl <| Lw.val (Ex.eql rfl rfl) rfl <| Lw.val (Ex.assign rfl) rfl <| Lw.val (Ex.assign rfl) rfl <| Lw.nil <| Pw.thenN <| Cw.out <| Cw.ret <| Pw.blkR <| Pw.thenR <| Pw.ret2 rfl rfl rfl ?_
  exact ⟨hB, told_if s_u j1 fun e => Option.some.inj ((hs (of_decide_eq_true e)).symm.trans (j2 (of_decide_eq_true e)))⟩
 intro q12
 have g : x.k = 13#8 := by
  have := kindF_row hk
  obtain ⟨_, _, _, _, _, _, e⟩ := this
  have := kd_some x.k (by rw [e]; rfl)
  rcases this with e | e | e | e | e | e | e | e | e | e | e | e | e
  ·rw [e] at q1; cases q1
  ·rw [e] at q2; cases q2
  ·rw [e] at q3; cases q3
  ·rw [e] at q4; cases q4
  ·rw [e] at q5; cases q5
  ·rw [e] at q6; cases q6
  ·rw [e] at q7; cases q7
  ·rw [e] at q8; cases q8
  ·rw [e] at q9; cases q9
  ·rw [e] at q10; cases q10
  ·rw [e] at q11; cases q11
  ·rw [e] at q12; cases q12
  ·exact e
 have l1 : ps.length = 1 := by have := (kindF_at (by rw [g] at hk; exact hk) kd_13).1; omega
 obtain ⟨a, l, rfl⟩ := one_in (ps := ps) (by omega)
 have ma : a ∈ a :: l := by simp
 have k_a := hok a ma
 have s_a := h.each a ma
 have s_v := h.sl
 have lk := (kindF_at (by rw [g] at hk; exact hk) kd_13).1
 have eG : G = woG a.2 x.n := by rw [hG, g]; rfl
 obtain ⟨k, hkn⟩ : ∃ k : Nat, x.n = (k : Int) := ⟨x.n.toNat, by omega⟩
 have la := ok_len k_a
 have hok2 : decide ((k : Int) < (a.2.length : Int)) = Shapes.ok G ∧ ((k : Int) < (a.2.length : Int) → woR a.2 k = G) := by
  rw [eG, hkn]
  unfold woG
  by_cases e : k < a.2.length
  ·have e2 : (if (a.2.length : Int) ≤ (k : Int) then [] else if a.2.length = 1 then [1] else a.2.eraseIdx (k : Int).toNat) = without a.2 k := by
    rw [if_neg (by omega), Int.toNat_natCast, List.eraseIdx_eq_take_drop_succ]; rfl
   rw [e2, without_ok k_a e, decide_eq_true (by omega)]
   exact ⟨rfl, fun _ => woR_eq e⟩
  ·rw [if_pos (by omega), decide_eq_false (by omega)]
   exact ⟨rfl, fun h => by omega⟩
 refine Cw.skip <| Pw.blkN <| Pw.thenN <| Cw.out <| Cw.seq ?_
 rename World => w1
 refine Cw.any mixed (fun w2 hD _ => ?_)
 refine Aw.cls (fun w' => Below w1.heap.size w1 w') (fun hC => ?_) (hD)
 refine AwC.take (i := 0) (NoP.thn NoP.ret) rfl (by kernel_rfl) (by kernel_rfl) (by kernel_rfl) (fun w1 hc => Ex.move rfl) rfl <| AwC.take (i := 1) (NoP.thn NoP.ret) rfl (by kernel_rfl) (by kernel_rfl) (by kernel_rfl) (fun w1 hc => Ex.idxT st_39 rfl rfl (s_v.bs hc) 0 rfl (Nat.zero_lt_succ _)) rfl <| AwC.take (i := 2) (NoP.thn NoP.ret) rfl (by kernel_rfl) (by kernel_rfl) (by kernel_rfl) (fun w1 hc => Ex.as (Ex.ldT (ag_26 _) rfl (s_v.bs hc) (Nat.zero_lt_succ _)) rfl) rfl <| AwC.take (i := 3) (NoP.thn NoP.ret) rfl (by kernel_rfl) (by kernel_rfl) (by kernel_rfl) (fun w1 hc => Ex.fieldAddr (q := 0) Tryz.underlying45 rfl (sz_3 _) rfl) rfl <| AwC.take (i := 4) (NoP.thn NoP.ret) rfl (by kernel_rfl) (by kernel_rfl) (by kernel_rfl) (fun w1 hc => Ex.as (Ex.ldB (ag_3 _) rfl (Blk.bs b_x hc) rfl) (congrArg (Value.int .i64) hkn)) rfl <| AwC.take (i := 6) (NoP.thn NoP.ret) rfl (by kernel_rfl) (by kernel_rfl) (by kernel_rfl) (fun w1 hc => Ex.fieldAddr (q := 0) Tryz.underlying45 rfl (sz_3 _) rfl) rfl <| AwC.take (i := 7) (NoP.thn NoP.ret) rfl (by kernel_rfl) (by kernel_rfl) (by kernel_rfl) (fun w1 hc => Ex.as (Ex.ldB (ag_3 _) rfl (Blk.bs b_x hc) rfl) (congrArg (Value.int .i64) hkn)) rfl <| AwC.take (i := 8) (NoP.thn NoP.ret) rfl (by kernel_rfl) (by kernel_rfl) (by kernel_rfl) (fun w1 hc => Ex.move rfl) rfl <| AwC.take (i := 9) (NoP.thn NoP.ret) rfl (by kernel_rfl) (by kernel_rfl) (by kernel_rfl) (fun w1 hc => Ex.idxT st_39 rfl rfl (s_v.bs hc) 0 rfl (Nat.zero_lt_succ _)) rfl ?_
 refine AwC.take (i := 10) (NoP.thn NoP.ret) rfl (by kernel_rfl) (by kernel_rfl) (by kernel_rfl) (fun w1 hc => Ex.as (Ex.ldT (ag_26 _) rfl (s_v.bs hc) (Nat.zero_lt_succ _)) rfl) rfl <| AwC.take (i := 11) (NoP.thn NoP.ret) rfl (by kernel_rfl) (by kernel_rfl) (by kernel_rfl) (fun w1 hc => Ex.lenS st_26 rfl (s_a.bs hc)) rfl <| AwC.take (i := 12) (NoP.thn NoP.ret) rfl (by kernel_rfl) (by kernel_rfl) (by kernel_rfl) (fun w1 hc => Ex.lss rfl rfl) rfl <| AwC.only (by assumption) (i := 5) (by kernel_rfl) rfl ?_
 refine Lw.callF rfl rfl (rwithout0_c a.1 a.2 k w2 (s_a.bs hD) la.2) ?_
 rintro u w3 ⟨hn, o_u⟩
 have hD := bt hD hn
 refine AwC.back <| AwC.take (i := 13) (NoP.thn NoP.ret) rfl (by kernel_rfl) (by kernel_rfl) (by kernel_rfl) (fun w1 hc => Ex.assign rfl) rfl <| AwC.take (i := 14) (NoP.thn NoP.ret) rfl (by kernel_rfl) (by kernel_rfl) (by kernel_rfl) (fun w1 hc => Ex.assign rfl) rfl <| AwC.done (by assumption) (by kernel_rfl) ?_
 refine Pw.thenN <| Cw.out <| Cw.ret <| Pw.ret2 rfl rfl rfl ?_
 exact ⟨bt hB hD, told_if (own_slT o_u) hok2.1 fun e => hok2.2 (of_decide_eq_true e)⟩
end Go.Proofs.YtmipoeanpnnjoaaGreat

/-! Contracts: the document's shapes of all nodes; may a graph be; its weights, its input. -/
namespace Go.Proofs.YtmipoeanpnnjoaaGreat
open Go Go.Dd Go.RowKit
set_option maxRecDepth 100000

theorem lastF_eq : ∀ k : BitVec 8, (!(kdOf k).isSome || (lastF k == (!decide (k = 1#8) && !decide (k = 2#8)))) = true := by decide +kernel
theorem inputs_succ {ls : List N5} {i : Nat} {x : N5} (hi : i < ls.length) (hx : x = ls[i]) : inputs (ls.take (i + 1)) = if x.k = 1#8 then inputs (ls.take i) + 1 else inputs (ls.take i) := by
 rw [List.take_succ_eq_append_getElem hi, ← hx]
 unfold inputs
 rw [List.filter_append, List.length_append]
 by_cases e : x.k = 1#8
 ·rw [if_pos e, List.filter_cons, decide_eq_true e]; rfl
 ·rw [if_neg e, List.filter_cons, decide_eq_false e]; rfl
theorem inB_at {m : Nat} {l : List Int} {k : Nat} (hk : k < l.length) (h : l.getD k default < 0 ∨ (m : Int) ≤ l.getD k default) : inB m l = true := by
 unfold inB
 rw [List.any_eq_true]
 refine ⟨l.getD k default, getD_mem hk, ?_⟩
 rcases h with h | h
 ·rw [decide_eq_true h]; rfl
 ·rw [decide_eq_true h, Bool.or_true]
theorem inB_no {m : Nat} {l : List Int} (h : ∀ j ∈ l, 0 ≤ j ∧ j < (m : Int)) : inB m l = false := by
 unfold inB
 rw [List.any_eq_false]
 intro j hj
 have := h j hj
 rw [decide_eq_false (show ¬ j < 0 by omega), decide_eq_false (show ¬ (m : Int) ≤ j by omega)]
 decide
set_option maxHeartbeats 1000000 in
theorem rshapes_c (v : Value) (ls : List N5) (W : World) (h : GN W v ls) :
  Fnc Tryz.prog 96 [.agg [v].toArray] W (fun r w' => Below W.heap.size W w' ∧ match gsh ls with
   | none => ∃ u, r = .tuple #[u, .bool false]
   | some ss => ∃ u ps, r = .tuple #[u, .bool true] ∧ LI w' u ps ∧ ints2 ps = ss) := by
 obtain ⟨R, hR⟩ : ∃ R, R = gsh ls := ⟨_, rfl⟩
 rw [← hR]
 have hB := Below.refl W.heap.size W
 have h_v := h.sl
 have hle := h.sl.le
 refine Fnc.enter (n := 109) Tryz.func96 (by kernel_rfl) rfl rfl rfl <| Cw.seq <| Cw.region <| Lw.boxV (cs := [v]) rfl rfl rfl ?_
 rintro A_g w1 eA_g b_g hn1 -
 replace hB := hB.bs hn1
 replace h_v := h_v.bs hn1
 refine Lw.val (Ex.assign rfl) rfl <| Lw.val (Ex.assign rfl) rfl <| Lw.nil <| Pw.thenN <| Cw.out <| Cw.seq <| Cw.seq <| Cw.region <| Lw.val (Ex.fieldAddr (q := 0) Tryz.underlying24 rfl (sz_22 _) rfl) rfl <| Lw.val (Ex.ldB (ag_22 _) rfl (by assumption) rfl) rfl ?_
 refine Lw.val (Ex.lenS st_22 rfl (by assumption)) rfl ?_
 refine Lw.val (Ex.lss rfl rfl) rfl <| Lw.val (Ex.move rfl) rfl ?_
 refine Lw.part 17 rfl ?_ ?_
 ·intro g
  have g := of_decide_eq_true g
  refine Lw.pass (dj := 17) rfl rfl rfl rfl <| Lw.pass (dj := 17) rfl rfl rfl rfl <| Lw.pass (dj := 17) rfl rfl rfl rfl <| Lw.pass (dj := 17) rfl rfl rfl rfl <| Lw.val (Ex.pickT rfl rfl) rfl <| Lw.nil <| Pw.thenN <| Cw.out <| Cw.condT rfl <| Cw.seq <| Cw.region <| Lw.val (Ex.assign rfl) rfl <| Lw.val (Ex.assign rfl) rfl <| Lw.nil <| Pw.thenN <| Cw.out <| Cw.ret <| Pw.thenR <| Pw.ret2 rfl rfl rfl ?_
  have hN : R = none := by rw [hR, gsh, if_pos (by omega)]
  rw [hN]
  exact ⟨hB, _, rfl⟩
 intro g1
 have g1 := of_decide_eq_false g1
 refine Lw.take (dj := 17) rfl rfl <| Lw.val (Ex.fieldAddr (q := 0) Tryz.underlying24 rfl (sz_22 _) rfl) rfl <| Lw.take (dj := 17) rfl rfl <| Lw.val (Ex.ldB (ag_22 _) rfl (by assumption) rfl) rfl ?_
 refine Lw.take (dj := 17) rfl rfl <| Lw.val (Ex.lenS st_22 rfl (by assumption)) rfl ?_
 refine Lw.take (dj := 17) rfl rfl <| Lw.val (Ex.gtr rfl rfl) rfl <| Lw.val (Ex.pickF rfl rfl) rfl <| Lw.nil <| Pw.thenN <| Cw.out <| Cw.cond rfl ?_ ?_
 ·intro g
  have g := of_decide_eq_true g
  refine Cw.seq <| Cw.region <| Lw.val (Ex.assign rfl) rfl <| Lw.val (Ex.assign rfl) rfl <| Lw.nil <| Pw.thenN <| Cw.out <| Cw.ret <| Pw.thenR <| Pw.ret2 rfl rfl rfl ?_
  have hN : R = none := by rw [hR, gsh, if_pos (by omega)]
  rw [hN]
  exact ⟨hB, _, rfl⟩
 intro g2
 have g2 := of_decide_eq_false g2
 have hgs : gsh ls = match gshR [] ls with | some ss => if inputs ls = 1 ∧ lastF (ls.getD (ls.length - 1) default).k = true then some ss else none | none => none := by rw [gsh, if_neg (by omega)]; rfl
 have hRn : gshR [] ls = none → R = none := fun e => by rw [hR, hgs, e]
 have z1 := below_size hB
 have y_g := blk_lt b_g
 obtain ⟨B, hBd⟩ : ∃ B, B = w1.heap.size := ⟨_, rfl⟩
 have hW1 := hB
 clear hB hn1
 refine Cw.skip <| Pw.thenN <| Cw.out <| Cw.seq <| Cw.region <| Lw.val (Ex.assign rfl) rfl <| Lw.nil <| Pw.thenN <| Cw.out <| Cw.seq <| Cw.region <| Lw.val (Ex.assign rfl) rfl <| Lw.nil <| Pw.thenN <| Cw.out <| Cw.seq <| Cw.seq <| Cw.region <| Lw.val (Ex.assign rfl) rfl <| Lw.nil <| Pw.thenN <| Cw.out <| Cw.block ?_
 refine Cw.loop (S := (Nat × Nat × Value × List (Value × List Int))) (fun z => [(1, .pointer (some ⟨A_g, 0, none⟩)), (4, .int .i64 (z.2.1 : Int)), (5, z.2.2.1), (6, .int .i64 (z.1 : Int))]) (fun z w' => z.1 ≤ ls.length ∧ Below w1.heap.size w1 w' ∧ w'.ownsRow B 26 1 z.2.2.1 z.1 (z.2.2.2.map (·.1)) ∧ offL B w' z.2.2.1 z.2.2.2 ∧ (∀ p ∈ z.2.2.2, Shapes.ok p.2 = true) ∧ gshR (ints2 z.2.2.2) (ls.drop z.1) = gshR [] ls ∧ z.2.1 = inputs (ls.take z.1) ∧ z.2.2.2.length = z.1 ∧ z.2.1 ≤ z.1) (fun z => ls.length - z.1) ((0, 0, .slice none 0 0, [])) ⟨rfl, rfl, rfl, rfl, trivial⟩ ?_ ?_
 ·exact ⟨Nat.zero_le _, Below.refl _ _, ⟨rfl, .inl ⟨rfl, rfl⟩⟩, (fun p hp => by cases hp), (fun p hp => by cases hp), rfl, rfl, rfl, Nat.le_refl _⟩
 rintro ⟨i, c, u, ps⟩ w2 ⟨hi, hB, o_u, hoff, hok, hrec, hc, lps, hci⟩
 dsimp only at hi hB o_u hoff hok hrec hc lps hci ⊢
 have h_v := h_v.bs hB
 have b_g := b_g.bs hB
 have z2 := hB.size
 have ub := own_block o_u
 have lps2 : (ints2 ps).length = ps.length := List.length_map _
 have hWB := bt hW1 hB
 refine Cw.seq <| Cw.seq <| Cw.region <| Lw.val (Ex.move rfl) rfl <| Lw.val (Ex.fieldAddr (q := 0) Tryz.underlying24 rfl (sz_22 _) rfl) rfl <| Lw.val (Ex.ldB (ag_22 _) rfl (by assumption) rfl) rfl ?_
 refine Lw.val (Ex.lenS st_22 rfl (by assumption)) rfl ?_
 refine Lw.val (Ex.lss rfl rfl) rfl <| Lw.nil <| Pw.thenN <| Cw.out <| Cw.cond rfl ?_ ?_
 ·intro g
  have hi' : i < ls.length := by have := of_decide_eq_true g; omega
  obtain ⟨x, hxd⟩ : ∃ x, x = ls[i] := ⟨_, rfl⟩
  have hx := (h.each x (hxd ▸ List.getElem_mem hi')).bs hWB
  have hcl := h.cells hi'
  rw [← hxd] at hcl
  have hdr : ls.drop i = x :: ls.drop (i + 1) := by rw [hxd]; exact List.drop_eq_getElem_cons hi'
  have hstep : gshR [] ls = match stp (ints2 ps) x with | some s => gshR (ints2 ps ++ [s]) (ls.drop (i + 1)) | none => none := by rw [← hrec, hdr]; rfl
  have hno : stp (ints2 ps) x = none → R = none := fun e => hRn (by rw [hstep, e])
  refine Cw.skip <| Pw.thenN <| Cw.out <| Cw.seq <| Cw.block <| Cw.seq <| Cw.region <| Lw.val (Ex.fieldAddr (q := 0) Tryz.underlying24 rfl (sz_22 _) rfl) rfl <| Lw.val (Ex.ldB (ag_22 _) rfl (by assumption) rfl) rfl ?_
  refine Lw.val (Ex.move rfl) rfl <| Lw.val (Ex.idx st_22 rfl rfl h_v i rfl hi') rfl <| Lw.val (Ex.ldE (cs := x.cells) (ag_45 _) (sz_45 _) rfl h_v rfl (by decide) hcl) rfl <| Lw.boxed (cs := x.cells) it_45 rfl rfl rfl rfl (fun _ => rfl) (hx.ones) ?_
  rintro A_x w3 eA_x b_x hn zhn
  replace hx := hx.bs hn
  replace hB := bt hB hn
  have hoff := hoff.bs hn
  have o_u := own_bs o_u hn
  have b_g := b_g.bs hn
  have z3 := hn.size
  clear hn
  refine Lw.nil <| Pw.thenN <| Cw.out <| Cw.seq <| Cw.seq <| Cw.region <| Lw.val (Ex.ldA (ag_45 _) (sz_45 _) rfl rfl (by assumption)) rfl ?_
  refine Lw.callF rfl rfl (rnode_c x w3 hx) ?_
  rintro _ w4 ⟨rfl, hn⟩
  replace hx := hx.bs hn
  have b_x := b_x.bs hn
  replace hB := bt hB hn
  have hoff := hoff.bs hn
  have o_u := own_bs o_u hn
  have b_g := b_g.bs hn
  have z4 := hn.size
  clear hn
  refine Lw.val (Ex.not rfl) rfl <| Lw.nil <| Pw.thenN <| Cw.out <| Cw.cond rfl ?_ ?_
  ·intro gk
   have gk : kindF x.k x.i x.s x.n x.p = false := by simpa using gk
   refine Cw.seq <| Cw.region <| Lw.val (Ex.assign rfl) rfl <| Lw.val (Ex.assign rfl) rfl <| Lw.nil <| Pw.thenN <| Cw.out <| Cw.ret <| Pw.thenR <| Pw.blkR <| Pw.thenR <| Pw.thenR <| Pw.blkR <| Pw.thenR <| Pw.ret2 rfl rfl rfl ?_
   have hN : R = none := hno (by unfold stp; rw [gk]; rfl)
   rw [hN]
   exact ⟨bt hW1 hB, _, rfl⟩
  intro gk
  have gk : kindF x.k x.i x.s x.n x.p = true := by simpa using gk
  obtain ⟨c', hc'⟩ : ∃ c' : Nat, c' = if x.k = 1#8 then c + 1 else c := ⟨_, rfl⟩
  refine Cw.skip <| Pw.thenN <| Cw.out <| Cw.seq <| Cw.seq <| Cw.region <| Lw.val (Ex.fieldAddr (q := 0) Tryz.underlying45 rfl (sz_43 _) rfl) rfl <| Lw.val (Ex.ldB (ag_43 _) rfl (by assumption) rfl) rfl ?_
  refine Lw.val (Ex.eql8 rfl (show _ = some (b8 (1#8)) from rfl)) rfl <| Lw.nil <| Pw.thenN <| Cw.out ?_
  refine Cw.mid (F := [(1, .pointer (some ⟨A_g, 0, none⟩)), (4, .int .i64 (c' : Int)), (5, u), (6, .int .i64 (i : Int)), (7, .pointer (some ⟨A_x, 0, none⟩))]) (I := fun w' => w' = w4) ?_ ?_
  ·refine Cw.cond rfl ?_ ?_
   ·intro q
    have q := of_decide_eq_true q
    refine Cw.region <| Lw.val (Ex.move rfl) rfl <| Lw.val ((Ex.addI rfl rfl (by omega)).as (congrArg (Value.int .i64) (show (c : Int) + 1 = ((c + 1 : Nat) : Int) by omega))) rfl <| Lw.val (Ex.assign rfl) rfl <| Lw.nil ?_
    exact Pw.mid ⟨rfl, (by rw [hc', if_pos q]; rfl), rfl, rfl, rfl, trivial⟩ (rfl)
   intro q
   have q := of_decide_eq_false q
   refine Cw.skip ?_
   exact Pw.mid ⟨rfl, (by rw [hc', if_neg q]; rfl), rfl, rfl, rfl, trivial⟩ (rfl)
  rintro w4' rfl
  refine Cw.out ?_
  have li := kindF_len gk
  have h_i := hx.i
  have ub := own_block o_u
  refine Cw.seq <| Cw.region <| Lw.val (Ex.assign rfl) rfl <| Lw.nil <| Pw.thenN <| Cw.out <| Cw.seq <| Cw.seq <| Cw.region <| Lw.val (Ex.assign rfl) rfl <| Lw.nil <| Pw.thenN <| Cw.out <| Cw.block ?_
  refine Cw.loop (S := (Nat × Value)) (fun z => [(1, .pointer (some ⟨A_g, 0, none⟩)), (4, .int .i64 (c' : Int)), (5, u), (6, .int .i64 (i : Int)), (7, .pointer (some ⟨A_x, 0, none⟩)), (8, z.2), (9, .int .i64 (z.1 : Int))]) (fun z w' => z.1 ≤ x.i.length ∧ Below w4'.heap.size w4' w' ∧ w'.ownsRow w4'.heap.size 26 1 z.2 z.1 (((x.i.take z.1).map fun j => ps.getD j.toNat default).map (·.1)) ∧ (∀ j ∈ x.i.take z.1, 0 ≤ j ∧ j < (i : Int))) (fun z => x.i.length - z.1) ((0, .slice none 0 0)) ⟨rfl, rfl, rfl, rfl, rfl, rfl, rfl, trivial⟩ ?_ ?_
  ·exact ⟨Nat.zero_le _, Below.refl _ _, ⟨rfl, .inl ⟨rfl, rfl⟩⟩, fun j hj => by simp at hj⟩
  rintro ⟨k, q⟩ w5 ⟨hk, hB5, o_q, hin⟩
  dsimp only at hk hB5 o_q hin ⊢
  have h_i5 := h_i.bs hB5
  have b_x5 := b_x.bs hB5
  have z5 := hB5.size
  refine Cw.seq <| Cw.seq <| Cw.region <| Lw.val (Ex.move rfl) rfl <| Lw.val (Ex.fieldAddr (q := 0) Tryz.underlying45 rfl (sz_26 _) rfl) rfl <| Lw.val (Ex.ldB (ag_26 _) rfl (by assumption) rfl) rfl ?_
  refine Lw.val (Ex.lenS st_26 rfl (by assumption)) rfl ?_
  refine Lw.val (Ex.lss rfl rfl) rfl <| Lw.nil <| Pw.thenN <| Cw.out <| Cw.cond rfl ?_ ?_
  ·intro g
   have hk' : k < x.i.length := by have := of_decide_eq_true g; omega
   obtain ⟨j, hj⟩ : ∃ j, j = x.i.getD k default := ⟨_, rfl⟩
   refine Cw.skip <| Pw.thenN <| Cw.out <| Cw.seq <| Cw.block <| Cw.seq <| Cw.seq <| Cw.region <| Lw.val (Ex.fieldAddr (q := 0) Tryz.underlying45 rfl (sz_26 _) rfl) rfl <| Lw.val (Ex.ldB (ag_26 _) rfl (by assumption) rfl) rfl ?_
   refine Lw.val (Ex.move rfl) rfl <| Lw.val (Ex.idxT st_26 rfl rfl h_i5 k rfl hk') rfl <| Lw.val ((Ex.ldT (ag_3 _) rfl h_i5 hk').as (congrArg (Value.int .i64) hj.symm)) rfl <| Lw.val (Ex.lss rfl rfl) rfl <| Lw.val (Ex.move rfl) rfl ?_
   refine Lw.part 56 rfl ?_ ?_
   ·intro g3
    have g3 := of_decide_eq_true g3
    refine Lw.pass (dj := 56) rfl rfl rfl rfl <| Lw.pass (dj := 56) rfl rfl rfl rfl <| Lw.pass (dj := 56) rfl rfl rfl rfl <| Lw.pass (dj := 56) rfl rfl rfl rfl <| Lw.pass (dj := 56) rfl rfl rfl rfl <| Lw.pass (dj := 56) rfl rfl rfl rfl <| Lw.pass (dj := 56) rfl rfl rfl rfl <| Lw.val (Ex.pickT rfl rfl) rfl <| Lw.nil <| Pw.thenN <| Cw.out <| Cw.condT rfl <| Cw.seq <| Cw.region <| Lw.val (Ex.assign rfl) rfl <| Lw.val (Ex.assign rfl) rfl <| Lw.nil <| Pw.thenN <| Cw.out <| Cw.ret <| Pw.thenR <| Pw.blkR <| Pw.thenR <| Pw.thenR <| Pw.blkR <| Pw.thenR <| Pw.blkR <| Pw.thenR <| Pw.thenR <| Pw.blkR <| Pw.thenR <| Pw.ret2 rfl rfl rfl ?_
    have hN : R = none := hno (by unfold stp; rw [lps2, lps, inB_at hk' (.inl (hj ▸ g3))]; simp)
    rw [hN]
    exact ⟨bt (bt hW1 hB) hB5, _, rfl⟩
   intro g3
   have g3 := of_decide_eq_false g3
   refine Lw.take (dj := 56) rfl rfl <| Lw.val (Ex.fieldAddr (q := 0) Tryz.underlying45 rfl (sz_26 _) rfl) rfl <| Lw.take (dj := 56) rfl rfl <| Lw.val (Ex.ldB (ag_26 _) rfl (by assumption) rfl) rfl ?_
   refine Lw.take (dj := 56) rfl rfl <| Lw.val (Ex.move rfl) rfl <| Lw.take (dj := 56) rfl rfl <| Lw.val (Ex.idxT st_26 rfl rfl h_i5 k rfl hk') rfl <| Lw.take (dj := 56) rfl rfl <| Lw.val ((Ex.ldT (ag_3 _) rfl h_i5 hk').as (congrArg (Value.int .i64) hj.symm)) rfl <| Lw.take (dj := 56) rfl rfl <| Lw.val (Ex.move rfl) rfl <| Lw.take (dj := 56) rfl rfl <| Lw.val (Ex.geq rfl rfl) rfl <| Lw.val (Ex.pickF rfl rfl) rfl <| Lw.nil <| Pw.thenN <| Cw.out <| Cw.cond rfl ?_ ?_
   ·intro g4
    have g4 := of_decide_eq_true g4
    refine Cw.seq <| Cw.region <| Lw.val (Ex.assign rfl) rfl <| Lw.val (Ex.assign rfl) rfl <| Lw.nil <| Pw.thenN <| Cw.out <| Cw.ret <| Pw.thenR <| Pw.blkR <| Pw.thenR <| Pw.thenR <| Pw.blkR <| Pw.thenR <| Pw.blkR <| Pw.thenR <| Pw.thenR <| Pw.blkR <| Pw.thenR <| Pw.ret2 rfl rfl rfl ?_
    have hN : R = none := hno (by unfold stp; rw [lps2, lps, inB_at hk' (.inr (hj ▸ g4))]; simp)
    rw [hN]
    exact ⟨bt (bt hW1 hB) hB5, _, rfl⟩
   intro g4
   have g4 := of_decide_eq_false g4
   have o_u5 := own_bs o_u hB5
   have su5 : SlT (fun p : Value × List Int => p.1) w5 u ps := by have := own_sl o_u5; rw [← lps] at this; exact this
   have hjp : j.toNat < ps.length := by omega
   have s_j := ((hoff (ps.getD j.toNat default) (by rw [List.getD_eq_getElem?_getD, List.getElem?_eq_getElem hjp]; exact List.getElem_mem hjp)).1).bs hB5
   refine Cw.skip <| Pw.thenN <| Cw.out <| Cw.region <| Lw.val (Ex.move rfl) rfl <| Lw.val (Ex.move rfl) rfl <| Lw.val (Ex.fieldAddr (q := 0) Tryz.underlying45 rfl (sz_26 _) rfl) rfl <| Lw.val (Ex.ldB (ag_26 _) rfl (by assumption) rfl) rfl ?_
   refine Lw.val (Ex.move rfl) rfl <| Lw.val (Ex.idxT st_26 rfl rfl h_i5 k rfl hk') rfl <| Lw.val ((Ex.ldT (ag_3 _) rfl h_i5 hk').as (congrArg (Value.int .i64) (show _ = ((j.toNat : Nat) : Int) by rw [← hj]; omega))) rfl <| Lw.val (Ex.idxT st_39 rfl rfl su5 j.toNat rfl hjp) rfl <| Lw.val (Ex.ldT (ag_26 _) rfl su5 hjp) rfl <| Lw.valW (Xw.lit (vs := [(ps.getD j.toNat default).1]) st_39 it_26 rfl rfl rfl (by rw [List.all_cons, s_j.one']; rfl) rfl) rfl ?_
   rintro y w6 ⟨o_y, -, hn, -⟩
   have hB6 := bt hB5 hn
   have o_q := own_bs o_q hn
   have s_j := s_j.bs hn
   clear hn
   refine Lw.valW (Xw.append2 (base := w4'.heap.size) st_39 it_26 rfl (by decide) rfl rfl o_q (own_sl o_y) (by rw [List.all_cons, s_j.one']; rfl) (by omega) (by omega) hB6.size) rfl ?_
   rintro q' w7 ⟨o_q', hn, -, -⟩
   have hB7 := hB6.trans hn
   have e1 : ((x.i.take (k + 1)).map fun j => ps.getD j.toNat default).map (·.1) = ((x.i.take k).map fun j => ps.getD j.toNat default).map (·.1) ++ [(ps.getD j.toNat default).1] := by
    rw [List.take_succ_eq_append_getElem hk', List.map_append, List.map_append, hj]
    simp [hk']
   rw [← e1] at o_q'
   have hin' : ∀ m ∈ x.i.take (k + 1), 0 ≤ m ∧ m < (i : Int) := fun m hm => by
    rw [List.take_succ_eq_append_getElem hk'] at hm
    rcases List.mem_append.1 hm with hm | hm
    ·exact hin m hm
    ·rw [List.mem_singleton.1 hm, show x.i[k] = j by rw [hj]; simp [hk']]; omega
   refine Lw.val (Ex.assign rfl) rfl <| Lw.nil <| Pw.blkN <| Pw.thenN <| Cw.out <| Cw.region <| Lw.val (Ex.move rfl) rfl <| Lw.val (Ex.addI rfl rfl (by omega)) rfl <| Lw.val (Ex.assign rfl) rfl <| Lw.nil ?_
   exact Pw.thenN (Pw.next ((k + 1, q')) ⟨rfl, rfl, rfl, rfl, rfl, rfl, rfl, trivial⟩ (⟨hk', hB7, o_q', hin'⟩) (by simp only; omega))
  intro g
  have hk' : k = x.i.length := by have := of_decide_eq_false g; omega
  subst hk'
  rw [List.take_length] at o_q hin
  obtain ⟨qs, hqs⟩ : ∃ qs, qs = x.i.map fun j => ps.getD j.toNat default := ⟨_, rfl⟩
  rw [← hqs] at o_q
  have lqs : qs.length = x.i.length := by rw [hqs, List.length_map]
  have hqm : ∀ p ∈ qs, p ∈ ps := fun p hp => by
   rw [hqs] at hp
   obtain ⟨j, hj, rfl⟩ := List.mem_map.1 hp
   have := hin j hj
   have hjp : j.toNat < ps.length := by omega
   rw [List.getD_eq_getElem?_getD, List.getElem?_eq_getElem hjp]; exact List.getElem_mem hjp
  have hLI : LI w5 q qs := ⟨by have := own_sl o_q; rw [← lqs] at this; exact this, fun p hp => ((hoff p (hqm p hp)).1).bs hB5⟩
  obtain ⟨G, hGd⟩ : ∃ G, G = gshN x.k x.s x.n x.p (ints2 qs) := ⟨_, rfl⟩
  have hG2 : gshN x.k x.s x.n x.p (x.i.map fun j => (ints2 ps).getD j.toNat []) = G := by
   rw [hGd, hqs]
   congr 1
   unfold ints2
   rw [List.map_map]
   refine List.map_congr_left fun j hj => ?_
   have := hin j hj
   have hjp : j.toNat < ps.length := by omega
   simp [List.getD_eq_getElem?_getD, hjp]
  have gb : inB (ints2 ps).length x.i = false := by rw [lps2, lps]; exact inB_no hin
  have e_st : stp (ints2 ps) x = if Shapes.ok G = true then some G else none := by
   unfold stp; rw [gk, gb, hG2]
   cases Shapes.ok G <;> rfl
  replace hB := bt hB hB5
  have hoff := hoff.bs hB5
  have o_u := own_bs o_u hB5
  have b_g := b_g.bs hB5
  have ub := own_block o_u
  refine Cw.exit <| Pw.thenE <| Pw.thenE <| Pw.blkHit <| Pw.thenN <| Cw.out <| Cw.seq <| Cw.region <| Lw.val (Ex.ldA (ag_45 _) (sz_45 _) rfl rfl (by assumption)) rfl ?_
  refine Lw.val (Ex.move rfl) rfl <| Lw.callF rfl rfl (rgshape_c x q qs w5 (hx.bs hB5) hLI gk lqs (fun p hp => hok p (hqm p hp))) ?_
  rintro _ w6 ⟨hn, hT⟩
  rw [← hGd] at hT
  obtain ⟨y, s, rfl, s_y, hs⟩ := hT
  replace hB := bt hB hn
  have hoff := hoff.bs hn
  have o_u := own_bs o_u hn
  have b_g := b_g.bs hn
  have z6 := hn.size
  clear hn
  refine Lw.val (Ex.move rfl) rfl <| Lw.val (Ex.extract (i := 0) rfl rfl) rfl <| Lw.val (Ex.extract (i := 1) rfl rfl) rfl <| Lw.val (Ex.assign rfl) rfl <| Lw.val (Ex.assign rfl) rfl <| Lw.nil <| Pw.thenN <| Cw.out <| Cw.seq <| Cw.seq <| Cw.region <| Lw.val (Ex.move rfl) rfl <| Lw.val (Ex.not rfl) rfl <| Lw.nil <| Pw.thenN <| Cw.out <| Cw.cond rfl ?_ ?_
  ·intro go
   have go : Shapes.ok G = false := by simpa using go
   refine Cw.seq <| Cw.region <| Lw.val (Ex.assign rfl) rfl <| Lw.val (Ex.assign rfl) rfl <| Lw.nil <| Pw.thenN <| Cw.out <| Cw.ret <| Pw.thenR <| Pw.blkR <| Pw.thenR <| Pw.thenR <| Pw.blkR <| Pw.thenR <| Pw.ret2 rfl rfl rfl ?_
   have hN : R = none := hno (by rw [e_st, go]; rfl)
   rw [hN]
   exact ⟨bt hW1 hB, _, rfl⟩
  intro go
  have go : Shapes.ok G = true := by simpa using go
  rw [hs go] at s_y
  clear hs
  rw [if_pos go] at e_st
  have ls4 := ok_len go
  have ub := own_block o_u
  have z6' := hB.size
  refine Cw.skip <| Pw.thenN <| Cw.out <| Cw.region <| Lw.val (Ex.move rfl) rfl <| Lw.val (Ex.move rfl) rfl <| Lw.valW (Xw.append2 (base := w6.heap.size) st_26 it_3 rfl (by decide) rfl rfl (World.ownsRow_nil _ _ _ _) s_y (one_map (fun _ => rfl) _) (by omega) (by omega) (Nat.le_refl _)) rfl ?_
  rintro y2 w7 ⟨o_y2, -, hg, -⟩
  rw [List.nil_append, Nat.zero_add] at o_y2
  have hn := grown_below hg (Nat.le_refl _) fun _ e => by cases e
  replace hB := bt hB hn
  have hoff := hoff.bs hn
  have o_u := own_bs o_u hn
  have b_g := b_g.bs hn
  have y_own := own_block o_y2
  have s_y2 := own_slT o_y2
  have z7 := hn.size
  clear hn hg
  refine Lw.valW (Xw.lit (vs := [y2]) st_39 it_26 rfl rfl rfl (by rw [List.all_cons, s_y2.one']; rfl) rfl) rfl ?_
  rintro p2 w8 ⟨o_p2, -, hn, -⟩
  replace hB := bt hB hn
  have hoff := hoff.bs hn
  have o_u := own_bs o_u hn
  have b_g := b_g.bs hn
  have s_y2 := s_y2.bs hn
  have z8 := hn.size
  clear hn
  refine Lw.valW (Xw.append2 (base := B) st_39 it_26 rfl (by decide) rfl rfl o_u (own_sl o_p2) (by rw [List.all_cons, s_y2.one']; rfl) (by omega) (by omega) (by have := hB.size; omega)) rfl ?_
  rintro u' w9 ⟨o_u', hn, hg, hcs⟩
  have hoff2 : offL B w8 u (ps ++ [(y2, G)]) := fun p hp => (List.mem_append.1 hp).elim (hoff p) (fun e => by
   rw [List.mem_singleton.1 e]
   refine ⟨s_y2, fun b e => ?_⟩
   have h1 := y_own b e
   have := hB.size
   exact ⟨⟨by omega, by omega⟩, fun e2 => by have := ub b e2; omega⟩)
  have hoff := hoff2.grow hg hcs
  have e1 : ps.map (·.1) ++ [y2] = (ps ++ [(y2, G)]).map (·.1) := by rw [List.map_append]; rfl
  rw [e1] at o_u'
  replace hB : Below w1.heap.size w1 w9 := by rw [← hBd] at hB ⊢; exact hB.trans hn
  have hok' : ∀ p ∈ ps ++ [(y2, G)], Shapes.ok p.2 = true := fun p hp => (List.mem_append.1 hp).elim (hok p) (fun e => by rw [List.mem_singleton.1 e]; exact go)
  have hrec' : gshR (ints2 (ps ++ [(y2, G)])) (ls.drop (i + 1)) = gshR [] ls := by
   rw [hstep, e_st]
   have : ints2 (ps ++ [(y2, G)]) = ints2 ps ++ [G] := by unfold ints2; rw [List.map_append]; rfl
   rw [this]
  have hcc : c' = inputs (ls.take (i + 1)) := by rw [hc', hc, inputs_succ hi' hxd]
  have hci' : c' ≤ i + 1 := by rw [hc']; split <;> omega
  refine Lw.val (Ex.assign rfl) rfl <| Lw.nil <| Pw.blkN <| Pw.thenN <| Cw.out <| Cw.region <| Lw.val (Ex.move rfl) rfl <| Lw.val (Ex.addI rfl rfl (by omega)) rfl <| Lw.val (Ex.assign rfl) rfl <| Lw.nil ?_
  exact Pw.thenN (Pw.next ((i + 1, c', u', ps ++ [(y2, G)])) ⟨rfl, rfl, rfl, rfl, trivial⟩ (⟨hi', hB, o_u', hoff, hok', hrec', hcc, by rw [List.length_append, lps]; rfl, hci'⟩) (by simp only; omega))
 intro g
 have hi' : i = ls.length := by have := of_decide_eq_false g; omega
 subst hi'
 rw [List.drop_length] at hrec
 have hrec : gshR [] ls = some (ints2 ps) := hrec.symm
 rw [List.take_length] at hc
 rw [hrec] at hgs
 have hl' : ls.length - 1 < ls.length := by omega
 obtain ⟨x, hxd⟩ : ∃ x, x = ls[ls.length - 1] := ⟨_, rfl⟩
 have exd : ls.getD (ls.length - 1) default = x := by rw [List.getD_eq_getElem?_getD, List.getElem?_eq_getElem hl', hxd]; rfl
 rw [exd] at hgs
 have hcl := h.cells hl'
 rw [← hxd] at hcl
 have hkx : (kdOf x.k).isSome = true := by
  obtain ⟨_, _, _, _, _, _, e⟩ := kindF_row (gshR_all ls [] _ hrec x (hxd ▸ List.getElem_mem hl'))
  rw [e]; rfl
 have hlf : lastF x.k = (!decide (x.k = 1#8) && !decide (x.k = 2#8)) := by
  have := lastF_eq x.k
  rw [hkx] at this
  simpa using this
 rw [hlf] at hgs
 have ad : ∃ ad c k, v = .slice (some ad) c k := by
  obtain ⟨_, ao, cap, e, d1, d2, d3, _⟩ := h.sl
  cases ao with
  | none => have := d3 rfl; omega
  | some ad => exact ⟨ad, _, _, e⟩
 have ck : (flw N5.cells ls)[(ls.length - 1) * 5 + 0]? = some (b8 x.k) := by
  rw [flw_get (fun a _ => N5.cells_len a) hl' (by decide), ← hxd]; rfl
 have hgf : R = if inputs ls = 1 ∧ (!decide (x.k = 1#8) && !decide (x.k = 2#8)) = true then some (ints2 ps) else none := by rw [hR, hgs]
 refine Cw.exit <| Pw.thenE <| Pw.thenE <| Pw.blkHit <| Pw.thenN <| Cw.out <| Cw.seq <| Cw.region <| Lw.val (Ex.fieldAddr (q := 0) Tryz.underlying24 rfl (sz_22 _) rfl) rfl <| Lw.val (Ex.ldB (ag_22 _) rfl (by assumption) rfl) rfl ?_
 refine Lw.val (Ex.fieldAddr (q := 0) Tryz.underlying24 rfl (sz_22 _) rfl) rfl <| Lw.val (Ex.ldB (ag_22 _) rfl (by assumption) rfl) rfl ?_
 refine Lw.val (Ex.lenS st_22 rfl (by assumption)) rfl ?_
 refine Lw.val (Ex.as (Ex.subI rfl rfl (by omega)) (congrArg (Value.int .i64) (show (ls.length : Int) - 1 = ((ls.length - 1 : Nat) : Int) by omega))) rfl <| Lw.val (Ex.idx st_22 rfl rfl h_v (ls.length - 1) rfl hl') rfl <| Lw.val (Ex.fieldAddrE (q := 0) Tryz.underlying45 rfl (sz_43 _) rfl ad) rfl <| Lw.val (Ex.ld (ag_43 _) rfl h_v ck) rfl <| Lw.val (Ex.assign rfl) rfl <| Lw.nil <| Pw.thenN <| Cw.out <| Cw.seq <| Cw.region <| Lw.val (Ex.move rfl) rfl <| Lw.val (Ex.move rfl) rfl <| Lw.val (Ex.eql rfl rfl) rfl <| Lw.val (Ex.move rfl) rfl ?_
 refine Lw.part 101 rfl ?_ ?_
 ·intro gc
  have gc : inputs ls = 1 := by rw [← hc]; have := of_decide_eq_true gc; omega
  refine Lw.take (dj := 101) rfl rfl <| Lw.val (Ex.move rfl) rfl <| Lw.take (dj := 101) rfl rfl <| Lw.val (Ex.neq8 rfl (show _ = some (b8 (1#8)) from rfl)) rfl <| Lw.val (Ex.pickT rfl rfl) rfl <| Lw.val (Ex.move rfl) rfl ?_
  refine Lw.part 105 rfl ?_ ?_
  ·intro g3
   refine Lw.take (dj := 105) rfl rfl <| Lw.val (Ex.move rfl) rfl <| Lw.take (dj := 105) rfl rfl <| Lw.val (Ex.neq8 rfl (show _ = some (b8 (2#8)) from rfl)) rfl <| Lw.val (Ex.pickT rfl rfl) rfl <| Lw.val (Ex.assign rfl) rfl <| Lw.val (Ex.assign rfl) rfl <| Lw.nil <| Pw.thenN <| Cw.out <| Cw.ret <| Pw.ret2 rfl rfl rfl ?_
   have g3' : decide (x.k = 1#8) = false := by simpa using g3
   by_cases g4 : x.k = 2#8
   ·rw [hgf, if_neg (fun h => by rw [g4] at h; simp at h)]
    exact ⟨hWB, _, by rw [g4]; rfl⟩
   ·rw [hgf, if_pos ⟨gc, by rw [g3', decide_eq_false g4]; rfl⟩]
    exact ⟨hWB, u, ps, by rw [decide_eq_false g4]; rfl, ⟨by have := own_sl o_u; rw [← lps] at this; exact this, fun p hp => (hoff p hp).1⟩, rfl⟩
  intro g3
  have g3' : decide (x.k = 1#8) = true := by simpa using g3
  refine Lw.pass (dj := 105) rfl rfl rfl rfl <| Lw.pass (dj := 105) rfl rfl rfl rfl <| Lw.val (Ex.pickF rfl rfl) rfl <| Lw.val (Ex.assign rfl) rfl <| Lw.val (Ex.assign rfl) rfl <| Lw.nil <| Pw.thenN <| Cw.out <| Cw.ret <| Pw.ret2 rfl rfl rfl ?_
  rw [hgf, if_neg (fun h => by rw [g3'] at h; simp at h)]
  exact ⟨hWB, _, rfl⟩
 intro gc
 have gc : ¬ inputs ls = 1 := fun e => by rw [← hc] at e; subst e; simp at gc
 refine Lw.pass (dj := 101) rfl rfl rfl rfl <| Lw.pass (dj := 101) rfl rfl rfl rfl <| Lw.val (Ex.pickF rfl rfl) rfl <| Lw.val (Ex.move rfl) rfl <| Lw.pass (dj := 105) rfl rfl rfl rfl <| Lw.pass (dj := 105) rfl rfl rfl rfl <| Lw.val (Ex.pickF rfl rfl) rfl <| Lw.val (Ex.assign rfl) rfl <| Lw.val (Ex.assign rfl) rfl <| Lw.nil <| Pw.thenN <| Cw.out <| Cw.ret <| Pw.ret2 rfl rfl rfl ?_
 rw [hgf, if_neg (fun h => gc h.1)]
 exact ⟨hWB, _, rfl⟩
theorem rgshapes_c (v : Value) (ls : List N5) (W : World) (h : GN W v ls) :
  Fnc Tryz.prog 57 [.agg [v].toArray] W (fun r w' => Below W.heap.size W w' ∧ match gsh ls with
   | none => r = .tuple #[.slice none 0 0, .int .i64 1]
   | some ss => ∃ u ps, r = .tuple #[u, .int .i64 0] ∧ LI w' u ps ∧ ints2 ps = ss) := by
 obtain ⟨R, hR⟩ : ∃ R, R = gsh ls := ⟨_, rfl⟩
 rw [← hR]
 have hB := Below.refl W.heap.size W
 refine Fnc.enter (n := 14) Tryz.func57 (by kernel_rfl) rfl rfl rfl <| Cw.seq <| Cw.region <| Lw.boxV (cs := [v]) rfl rfl rfl ?_
 rintro A_g w eA_g b_g hn -
 replace hB := hB.bs hn
 replace h := h.bs hn
 clear hn
 refine Lw.val (Ex.assign rfl) rfl <| Lw.val (Ex.assign rfl) rfl <| Lw.nil <| Pw.thenN <| Cw.out <| Cw.seq <| Cw.region <| Lw.val (Ex.ldA (ag_24 _) (sz_24 _) rfl rfl (by assumption)) rfl ?_
 refine Lw.callF rfl rfl (rshapes_c v ls _ h) ?_
 rintro _ w ⟨hn, hr⟩
 rw [← hR] at hr
 replace hB := hB.bs hn
 replace h := h.bs hn
 replace b_g := b_g.bs hn
 clear hn
 cases eR : R with
 | none =>
  rw [eR] at hr
  obtain ⟨u, rfl⟩ := hr
  refine Lw.val (Ex.move rfl) rfl <| Lw.val (Ex.extract (i := 0) rfl rfl) rfl <| Lw.val (Ex.extract (i := 1) rfl rfl) rfl <| Lw.val (Ex.assign rfl) rfl <| Lw.val (Ex.assign rfl) rfl <| Lw.nil <| Pw.thenN <| Cw.out <| Cw.seq <| Cw.seq <| Cw.region <| Lw.val (Ex.move rfl) rfl <| Lw.val (Ex.not rfl) rfl <| Lw.nil <| Pw.thenN <| Cw.out <| Cw.condB rfl true (rfl) <| Cw.seq <| Cw.region <| Lw.val (Ex.assign rfl) rfl <| Lw.val (Ex.assign rfl) rfl <| Lw.nil <| Pw.thenN <| Cw.out <| Cw.ret <| Pw.thenR <| Pw.ret2 rfl rfl rfl ?_
  exact ⟨hB, rfl⟩
 | some ss =>
  rw [eR] at hr
  obtain ⟨u, ps, rfl, hL, e⟩ := hr
  refine Lw.val (Ex.move rfl) rfl <| Lw.val (Ex.extract (i := 0) rfl rfl) rfl <| Lw.val (Ex.extract (i := 1) rfl rfl) rfl <| Lw.val (Ex.assign rfl) rfl <| Lw.val (Ex.assign rfl) rfl <| Lw.nil <| Pw.thenN <| Cw.out <| Cw.seq <| Cw.seq <| Cw.region <| Lw.val (Ex.move rfl) rfl <| Lw.val (Ex.not rfl) rfl <| Lw.nil <| Pw.thenN <| Cw.out <| Cw.condB rfl false (rfl) <| Cw.skip <| Pw.thenN <| Cw.out <| Cw.seq <| Cw.region <| Lw.val (Ex.move rfl) rfl <| Lw.val (Ex.assign rfl) rfl <| Lw.val (Ex.assign rfl) rfl <| Lw.nil <| Pw.thenN <| Cw.out <| Cw.ret <| Pw.ret2 rfl rfl rfl ?_
  exact ⟨hB, u, ps, rfl, hL, e⟩
end Go.Proofs.YtmipoeanpnnjoaaGreat

/-! Contracts: how much work a graph is; more than is gone through. -/
namespace Go.Proofs.YtmipoeanpnnjoaaGreat
open Go Go.Dd Go.RowKit
set_option maxRecDepth 100000

theorem gshR_len : ∀ (l : List N5) (acc ss : List (List Int)), gshR acc l = some ss → ss.length = acc.length + l.length
 | [], acc, ss, h => by cases h; simp
 | x :: l, acc, ss, h => by
  unfold gshR at h
  cases e : stp acc x with
  | none => rw [e] at h; cases h
  | some s =>
   rw [e] at h
   have := gshR_len l _ _ h
   rw [List.length_append, List.length_singleton] at this
   rw [List.length_cons]; omega
theorem gshR_pre : ∀ (l : List N5) (acc ss : List (List Int)), gshR acc l = some ss → ss.take acc.length = acc
 | [], acc, ss, h => by cases h; simp
 | x :: l, acc, ss, h => by
  unfold gshR at h
  cases e : stp acc x with
  | none => rw [e] at h; cases h
  | some s =>
   rw [e] at h
   have := gshR_pre l _ _ h
   rw [List.length_append, List.length_singleton] at this
   have h2 := congrArg (List.take acc.length) this
   rw [List.take_take, Nat.min_eq_left (by omega), List.take_append_of_le_length (Nat.le_refl _), List.take_length] at h2
   exact h2
theorem gshR_stp : ∀ (l : List N5) (acc ss : List (List Int)), gshR acc l = some ss → ∀ i (hi : i < l.length), stp (ss.take (acc.length + i)) l[i] = some (ss.getD (acc.length + i) [])
 | [], _, _, _, i, hi => by simp at hi
 | x :: l, acc, ss, h, i, hi => by
  have hp := gshR_pre _ _ _ h
  unfold gshR at h
  cases e : stp acc x with
  | none => rw [e] at h; cases h
  | some s =>
   rw [e] at h
   cases i with
   | zero =>
    have h2 := gshR_pre _ _ _ h
    rw [List.length_append, List.length_singleton] at h2
    rw [Nat.add_zero, hp]
    show stp acc x = _
    rw [e]
    have h3 := congrArg (fun z : List (List Int) => z[acc.length]?) h2
    simp only [List.getElem?_take, Nat.lt_succ_self, if_true] at h3
    rw [List.getElem?_append_right (Nat.le_refl _), Nat.sub_self] at h3
    rw [List.getD_eq_getElem?_getD, h3]; rfl
   | succ i =>
    have := gshR_stp l _ _ h i (by simpa using hi)
    rw [List.length_append, List.length_singleton, show acc.length + 1 + i = acc.length + (i + 1) by omega] at this
    exact this
theorem stp_some {acc : List (List Int)} {x : N5} {s : List Int} (h : stp acc x = some s) : kindF x.k x.i x.s x.n x.p = true ∧ (∀ j ∈ x.i, 0 ≤ j ∧ j < (acc.length : Int)) ∧ s = gshN x.k x.s x.n x.p (x.i.map fun j => acc.getD j.toNat []) ∧ Shapes.ok s = true := by
 unfold stp at h
 split at h
 ·rename_i hc
  simp only [Bool.and_eq_true, Bool.not_eq_true'] at hc
  have e := Option.some.inj h
  refine ⟨hc.1.1, fun j hj => ?_, e.symm, e ▸ hc.2⟩
  have h2 := hc.1.2
  unfold inB at h2
  have := List.any_eq_false.1 h2 j hj
  simp at this
  omega
 ·cases h
/-- What a graph tells of each of its nodes. -/
structure NodeAt (ss : List (List Int)) (i : Nat) (x : N5) : Prop where
 kind : kindF x.k x.i x.s x.n x.p = true
 ins : ∀ j ∈ x.i, 0 ≤ j ∧ j < (i : Int)
 sh : ss.getD i [] = gshN x.k x.s x.n x.p (x.i.map fun j => ss.getD j.toNat [])
 ok : Shapes.ok (ss.getD i []) = true
theorem node_at {ls : List N5} {ss : List (List Int)} (h : gshR [] ls = some ss) {i : Nat} (hi : i < ls.length) : NodeAt ss i ls[i] := by
 have hl := gshR_len _ _ _ h
 have := gshR_stp ls [] ss h i hi
 rw [List.length_nil, Nat.zero_add] at this
 obtain ⟨h1, h2, h3, h4⟩ := stp_some this
 have lt : (ss.take i).length = i := by rw [List.length_take]; simp at hl; omega
 refine ⟨h1, fun j hj => by have := h2 j hj; rwa [lt] at this, ?_, h4⟩
 rw [h3]
 congr 1
 refine List.map_congr_left fun j hj => ?_
 have := h2 j hj
 rw [lt] at this
 rw [List.getD_eq_getElem?_getD, List.getElem?_take, if_pos (by omega), ← List.getD_eq_getElem?_getD]
theorem in_two {l : List Int} (h : l.length = 2) : ∃ a b, l = [a, b] := by
 match l, h with
 | [a, b], _ => exact ⟨a, b, rfl⟩
theorem node_prod {ss : List (List Int)} {i : Nat} {x : N5} (h : NodeAt ss i x) (hk : x.k = 7#8) : ∃ a b, x.i = [a, b] ∧ (0 ≤ a ∧ a < (i : Int)) ∧ (0 ≤ b ∧ b < (i : Int)) ∧ Shapes.ok (ss.getD a.toNat []) = true ∧ (ss.getD a.toNat []).length = 2 := by
 have k := h.kind
 rw [hk] at k
 have := (kindF_at k kd_7).1
 obtain ⟨a, b, e⟩ := in_two (l := x.i) (by omega)
 have s := h.sh
 have o := h.ok
 rw [e, hk] at s
 have s2 : ss.getD i [] = if pshE (ss.getD a.toNat []) (ss.getD b.toNat []) = 0 then [(ss.getD a.toNat []).getD 0 default, (ss.getD b.toNat []).getD 1 default] else [] := s
 have e0 : pshE (ss.getD a.toNat []) (ss.getD b.toNat []) = 0 := by
  by_cases e0 : pshE (ss.getD a.toNat []) (ss.getD b.toNat []) = 0
  ·exact e0
  ·rw [if_neg e0] at s2
   rw [s2] at o; cases o
 refine ⟨a, b, e, h.ins a (by rw [e]; simp), h.ins b (by rw [e]; simp), ?_⟩
 unfold pshE at e0
 split at e0
 ·rename_i hc
  rw [Bool.and_eq_true] at hc
  split at e0
  ·rename_i hl; exact ⟨hc.1, hl.1⟩
  ·cases e0
 ·cases e0
theorem node_win {ss : List (List Int)} {i : Nat} {x : N5} (h : NodeAt ss i x) (hk : x.k = 8#8) : ∃ a b, x.i = [a, b] ∧ (0 ≤ a ∧ a < (i : Int)) ∧ (0 ≤ b ∧ b < (i : Int)) ∧ Shapes.ok (ss.getD b.toNat []) = true ∧ (ss.getD b.toNat []).length = 4 := by
 have k := h.kind
 rw [hk] at k
 have := (kindF_at k kd_8).1
 obtain ⟨a, b, e⟩ := in_two (l := x.i) (by omega)
 have s := h.sh
 have o := h.ok
 rw [e, hk] at s
 have s2 : ss.getD i [] = if wshE (ss.getD a.toNat []) (ss.getD b.toNat []) x.n x.p = 0 then wshS (ss.getD a.toNat []) (ss.getD b.toNat []) x.n x.p else [] := s
 have e0 : wshE (ss.getD a.toNat []) (ss.getD b.toNat []) x.n x.p = 0 := by
  by_cases e0 : wshE (ss.getD a.toNat []) (ss.getD b.toNat []) x.n x.p = 0
  ·exact e0
  ·rw [if_neg e0] at s2
   rw [s2] at o; cases o
 refine ⟨a, b, e, h.ins a (by rw [e]; simp), h.ins b (by rw [e]; simp), ?_⟩
 unfold wshE at e0
 split at e0
 ·cases e0
 ·rename_i hA
  split at e0
  ·rename_i hB
   have hA : wshA (ss.getD a.toNat []) (ss.getD b.toNat []) x.n x.p = false := by simpa using hA
   simp only [wshA, Bool.or_eq_false_iff, Bool.not_eq_false'] at hA
   simp only [wshB, Bool.and_eq_true, decide_eq_true_eq] at hB
   exact ⟨hA.1.1.1.1.2, hB.1.1.2⟩
  ·cases e0
theorem work_c (v : Value) (ls : List N5) (W : World) (h : GN W v ls) : Fnc Tryz.prog 30 [.agg [v].toArray] W (fun r w' => (∃ n, r = .int .i64 n) ∧ Below W.heap.size W w') := by
 have hB := Below.refl W.heap.size W
 have h_v := h.sl
 have hle := h.sl.le
 obtain ⟨R, hR⟩ : ∃ R, R = gsh ls := ⟨_, rfl⟩
 refine Fnc.enter (n := 73) Tryz.func30 (by kernel_rfl) rfl rfl rfl <| Cw.seq <| Cw.region <| Lw.boxV (cs := [v]) rfl rfl rfl ?_
 rintro A_g w eA_g b_g hn -
 replace hB := hB.bs hn
 replace h := h.bs hn
 replace h_v := h_v.bs hn
 clear hn
 refine Lw.val (Ex.assign rfl) rfl <| Lw.nil <| Pw.thenN <| Cw.out <| Cw.seq <| Cw.region <| Lw.val (Ex.ldA (ag_24 _) (sz_24 _) rfl rfl (by assumption)) rfl ?_
 refine Lw.callF rfl rfl (rgshapes_c v ls _ h) ?_
 rintro _ w ⟨hn, hr⟩
 rw [← hR] at hr
 replace hB := hB.bs hn
 replace h := h.bs hn
 replace h_v := h_v.bs hn
 replace b_g := b_g.bs hn
 clear hn
 cases eR : R with
 | none =>
  rw [eR] at hr
  obtain rfl := hr
  refine Lw.val (Ex.move rfl) rfl <| Lw.val (Ex.extract (i := 0) rfl rfl) rfl <| Lw.val (Ex.extract (i := 1) rfl rfl) rfl <| Lw.val (Ex.assign rfl) rfl <| Lw.val (Ex.assign rfl) rfl <| Lw.nil <| Pw.thenN <| Cw.out <| Cw.seq <| Cw.region <| Lw.val (Ex.assign rfl) rfl <| Lw.nil <| Pw.thenN <| Cw.out <| Cw.seq <| Cw.seq <| Cw.region <| Lw.val (Ex.assign rfl) rfl <| Lw.nil <| Pw.thenN <| Cw.out <| Cw.block ?_
  refine Cw.loop (S := Nat) (fun i => [(3, .slice none 0 0), (4, .int .i64 1), (5, .int .i64 0), (6, .int .i64 (i : Int))]) (fun i w' => i = 0 ∧ w' = w) (fun i => 1) (0) ⟨rfl, rfl, rfl, rfl, trivial⟩ ?_ ?_
  ·exact ⟨rfl, rfl⟩
  rintro i w1 ⟨rfl, rfl⟩
  have s_n : Sl w1 1 (.slice none 0 0) 0 [] := Sl.nil _ _
  refine Cw.seq <| Cw.seq <| Cw.region <| Lw.val (Ex.move rfl) rfl <| Lw.val (Ex.move rfl) rfl <| Lw.val (Ex.lenS st_39 rfl (by assumption)) rfl ?_
  refine Lw.val (Ex.lss rfl rfl) rfl <| Lw.val (Ex.move rfl) rfl <| Lw.know 19 (v' := .bool false) rfl (congrArg Value.bool (rfl)) <| Lw.pass (dj := 19) rfl rfl rfl rfl <| Lw.pass (dj := 19) rfl rfl rfl rfl <| Lw.val (Ex.pickF rfl rfl) rfl <| Lw.nil <| Pw.thenN <| Cw.out <| Cw.condF rfl <| Cw.exit <| Pw.thenE <| Pw.thenE <| Pw.blkHit <| Pw.thenN <| Cw.out <| Cw.seq <| Cw.region <| Lw.val (Ex.move rfl) rfl <| Lw.val (Ex.assign rfl) rfl <| Lw.nil <| Pw.thenN <| Cw.out <| Cw.ret <| Pw.ret1 rfl rfl ?_
  exact ⟨⟨_, rfl⟩, hB⟩
 | some ss =>
  rw [eR] at hr
  obtain ⟨u, ps, rfl, hL, e⟩ := hr
  have hg := gsh_R (hR.symm.trans eR)
  have hR0 := hg.1
  have lss := gshR_len _ _ _ hR0
  rw [List.length_nil, Nat.zero_add] at lss
  have lps : ps.length = ls.length := by rw [← lss, ← e, List.length_map]
  have lps2 : (ints2 ps).length = ps.length := List.length_map ..
  have hl32 := hg.2.2.2
  have s_u := hL.sl
  rename World => w0
  refine Lw.val (Ex.move rfl) rfl <| Lw.val (Ex.extract (i := 0) rfl rfl) rfl <| Lw.val (Ex.extract (i := 1) rfl rfl) rfl <| Lw.val (Ex.assign rfl) rfl <| Lw.val (Ex.assign rfl) rfl <| Lw.nil <| Pw.thenN <| Cw.out <| Cw.seq <| Cw.region <| Lw.val (Ex.assign rfl) rfl <| Lw.nil <| Pw.thenN <| Cw.out <| Cw.seq <| Cw.seq <| Cw.region <| Lw.val (Ex.assign rfl) rfl <| Lw.nil <| Pw.thenN <| Cw.out <| Cw.block ?_
  refine Cw.loop (S := (Nat × Int)) (fun z => [(1, .pointer (some ⟨A_g, 0, none⟩)), (3, u), (4, .int .i64 0), (5, .int .i64 z.2), (6, .int .i64 (z.1 : Int))]) (fun z w' => z.1 ≤ ps.length ∧ 0 ≤ z.2 ∧ z.2 ≤ 1073741824 * (z.1 : Int) ∧ Below w0.heap.size w0 w') (fun z => ps.length - z.1) ((0, 0)) ⟨rfl, rfl, rfl, rfl, rfl, trivial⟩ ?_ ?_
  ·exact ⟨Nat.zero_le _, Int.le_refl _, by simp only; omega, Below.refl _ _⟩
  rintro ⟨i, n⟩ w1 ⟨hi, n0, n1, hB1⟩
  replace hi : i ≤ ps.length := hi
  replace n0 : 0 ≤ n := n0
  replace n1 : n ≤ 1073741824 * (i : Int) := n1
  have s_u1 := s_u.bs hB1
  have h_v1 := h_v.bs hB1
  have b_g1 := b_g.bs hB1
  refine Cw.seq <| Cw.seq <| Cw.region <| Lw.val (Ex.move rfl) rfl <| Lw.val (Ex.move rfl) rfl <| Lw.val (Ex.lenS st_39 rfl (by assumption)) rfl ?_
  refine Lw.val (Ex.lss rfl rfl) rfl <| Lw.val (Ex.move rfl) rfl ?_
  refine Lw.part 19 rfl ?_ ?_
  ·intro g
   have hi' : i < ps.length := by have := of_decide_eq_true g; omega
   have hil : i < ls.length := by omega
   obtain ⟨x, hxd⟩ : ∃ x, x = ls[i] := ⟨_, rfl⟩
   have hx := (h.each x (hxd ▸ List.getElem_mem hil)).bs hB1
   have hcl := h.cells hil
   rw [← hxd] at hcl
   have NA := node_at hR0 hil
   rw [← hxd] at NA
   have ei : (ps.getD i default).2 = ss.getD i [] := by rw [← e]; simp [ints2, List.getD_eq_getElem?_getD, hi']
   have at_j : ∀ j : Nat, j < ps.length → SlT (Value.int .i64) w0 (ps.getD j default).1 (ss.getD j []) := fun j hj => by
    have ej : (ps.getD j default).2 = ss.getD j [] := by rw [← e]; simp [ints2, List.getD_eq_getElem?_getD, hj]
    rw [← ej]
    exact hL.each _ (by rw [List.getD_eq_getElem?_getD, List.getElem?_eq_getElem hj]; exact List.getElem_mem hj)
   refine Lw.take (dj := 19) rfl rfl <| Lw.val (Ex.move rfl) rfl <| Lw.take (dj := 19) rfl rfl <| Lw.val (Ex.eql rfl rfl) rfl <| Lw.val (Ex.pickT rfl rfl) rfl <| Lw.nil <| Pw.thenN <| Cw.out <| Cw.condB rfl true (rfl) <| Cw.skip <| Pw.thenN <| Cw.out <| Cw.seq <| Cw.block <| Cw.seq <| Cw.region <| Lw.val (Ex.fieldAddr (q := 0) Tryz.underlying24 rfl (sz_22 _) rfl) rfl <| Lw.val (Ex.ldB (ag_22 _) rfl (by assumption) rfl) rfl ?_
   refine Lw.val (Ex.move rfl) rfl <| Lw.val (Ex.idx st_22 rfl rfl h_v1 i rfl hil) rfl <| Lw.val (Ex.ldE (cs := x.cells) (ag_45 _) (sz_45 _) rfl h_v1 rfl (by decide) hcl) rfl <| Lw.boxed (cs := x.cells) it_45 rfl rfl rfl rfl (fun _ => rfl) (hx.ones) ?_
   rintro A_x w2 eA_x b_x hn zhn
   have hB2 := bt hB1 hn
   have hx2 := hx.bs hn
   have s_u2 := s_u.bs hB2
   clear hn
   refine Lw.nil <| Pw.thenN <| Cw.out <| Cw.seq <| Cw.region <| Lw.val (Ex.assign rfl) rfl <| Lw.nil <| Pw.thenN <| Cw.out <| Cw.seq <| Cw.seq <| Cw.region <| Lw.val (Ex.fieldAddr (q := 0) Tryz.underlying45 rfl (sz_43 _) rfl) rfl <| Lw.val (Ex.ldB (ag_43 _) rfl (by assumption) rfl) rfl ?_
   refine Lw.val (Ex.eql8 rfl (show _ = some (b8 (7#8)) from rfl)) rfl <| Lw.nil <| Pw.thenN <| Cw.out ?_
   refine Cw.midS (St := Int) (fun s => [(1, .pointer (some ⟨A_g, 0, none⟩)), (3, u), (4, .int .i64 0), (5, .int .i64 n), (6, .int .i64 (i : Int)), (7, .pointer (some ⟨A_x, 0, none⟩)), (8, .int .i64 s)]) (fun s w' => 0 ≤ s ∧ s ≤ 262144 ∧ w' = w2) ?_ ?_
   ·refine Cw.cond rfl ?_ ?_
    ·intro q
     have q := of_decide_eq_true q
     obtain ⟨a, b, e1, ha, -, ka, la⟩ := node_prod NA q
     have h_i := hx2.i
     rw [e1] at h_i
     have haj : a.toNat < ps.length := by omega
     have s_a := (at_j a.toNat haj).bs hB2
     have da := ok_dims ka (i := 1) (by omega)
     refine Cw.region <| Lw.val (Ex.move rfl) rfl <| Lw.val (Ex.fieldAddr (q := 0) Tryz.underlying45 rfl (sz_26 _) rfl) rfl <| Lw.val (Ex.ldB (ag_26 _) rfl (by assumption) rfl) rfl ?_
     refine Lw.val (Ex.idxT st_26 rfl rfl h_i 0 rfl (Nat.zero_lt_succ _)) rfl <| Lw.val ((Ex.ldT (ag_3 _) rfl h_i (Nat.zero_lt_succ _)).as (congrArg (Value.int .i64) (show a = ((a.toNat : Nat) : Int) by omega))) rfl <| Lw.val (Ex.idxT st_39 rfl rfl s_u2 a.toNat rfl haj) rfl <| Lw.val (Ex.ldT (ag_26 _) rfl s_u2 haj) rfl <| Lw.val (Ex.idxT st_26 rfl rfl s_a 1 rfl (by omega)) rfl <| Lw.val (Ex.ldT (ag_3 _) rfl s_a (by omega)) rfl <| Lw.val (Ex.assign rfl) rfl <| Lw.nil ?_
     exact Pw.midS (((ss.getD a.toNat []).getD 1 default)) ⟨rfl, rfl, rfl, rfl, rfl, rfl, rfl, trivial⟩ (⟨by omega, by omega, rfl⟩)
    intro q
    refine Cw.skip ?_
    exact Pw.midS (1) ⟨rfl, rfl, rfl, rfl, rfl, rfl, rfl, trivial⟩ (⟨by decide, by decide, rfl⟩)
   rintro s1 w2' ⟨s0, s4, rfl⟩
   refine Cw.out <| Cw.seq <| Cw.seq <| Cw.region <| Lw.val (Ex.fieldAddr (q := 0) Tryz.underlying45 rfl (sz_43 _) rfl) rfl <| Lw.val (Ex.ldB (ag_43 _) rfl (by assumption) rfl) rfl ?_
   refine Lw.val (Ex.eql8 rfl (show _ = some (b8 (8#8)) from rfl)) rfl <| Lw.nil <| Pw.thenN <| Cw.out ?_
   refine Cw.midS (St := Int) (fun s => [(1, .pointer (some ⟨A_g, 0, none⟩)), (3, u), (4, .int .i64 0), (5, .int .i64 n), (6, .int .i64 (i : Int)), (8, .int .i64 s)]) (fun s w' => 0 ≤ s ∧ s ≤ 262144 ∧ Below w2'.heap.size w2' w') ?_ ?_
   ·refine Cw.cond rfl ?_ ?_
    ·intro q
     have q := of_decide_eq_true q
     obtain ⟨a, b, e1, -, hb, kb, lb⟩ := node_win NA q
     have h_i := hx2.i
     rw [e1] at h_i
     have hbj : b.toNat < ps.length := by omega
     have s_b := (at_j b.toNat hbj).bs hB2
     have d1 := ok_dims kb (i := 1) (by omega)
     have d2 := ok_dims kb (i := 2) (by omega)
     have d3 := ok_dims kb (i := 3) (by omega)
     have p2 : (ss.getD b.toNat []).getD 1 default * (ss.getD b.toNat []).getD 2 default ≤ 4096 := by
      have := Int.mul_le_mul d1.2 d2.2 (by omega) (by omega); omega
     have p20 := Int.mul_nonneg (show 0 ≤ (ss.getD b.toNat []).getD 1 default by omega) (show 0 ≤ (ss.getD b.toNat []).getD 2 default by omega)
     have p3 : (ss.getD b.toNat []).getD 1 default * (ss.getD b.toNat []).getD 2 default * (ss.getD b.toNat []).getD 3 default ≤ 262144 := by
      have := Int.mul_le_mul p2 d3.2 (by omega) (by omega); omega
     have p30 := Int.mul_nonneg p20 (show 0 ≤ (ss.getD b.toNat []).getD 3 default by omega)
     refine Cw.seq <| Cw.region <| Lw.val (Ex.move rfl) rfl <| Lw.val (Ex.fieldAddr (q := 0) Tryz.underlying45 rfl (sz_26 _) rfl) rfl <| Lw.val (Ex.ldB (ag_26 _) rfl (by assumption) rfl) rfl ?_
     refine Lw.val (Ex.idxT st_26 rfl rfl h_i 1 rfl (show 1 < 2 by decide)) rfl <| Lw.val ((Ex.ldT (ag_3 _) rfl h_i (show 1 < 2 by decide)).as (congrArg (Value.int .i64) (show b = ((b.toNat : Nat) : Int) by omega))) rfl <| Lw.val (Ex.idxT st_39 rfl rfl s_u2 b.toNat rfl hbj) rfl <| Lw.val (Ex.ldT (ag_26 _) rfl s_u2 hbj) rfl <| Lw.val (Ex.assign rfl) rfl <| Lw.nil <| Pw.thenN <| Cw.out <| Cw.quiet mixed (by kernel_rfl) <| Qw.val (fun w1 hq => Ex.move rfl) rfl <| Qw.val (fun w1 hq => Ex.idxT st_26 rfl rfl (s_b.bs hq) 1 rfl (by omega)) rfl <| Qw.val (fun w1 hq => Ex.ldT (ag_3 _) rfl (s_b.bs hq) (by omega)) rfl <| Qw.val (fun w1 hq => Ex.move rfl) rfl <| Qw.val (fun w1 hq => Ex.idxT st_26 rfl rfl (s_b.bs hq) 2 rfl (by omega)) rfl <| Qw.val (fun w1 hq => Ex.ldT (ag_3 _) rfl (s_b.bs hq) (by omega)) rfl <| Qw.val (fun w1 hq => Ex.mulI rfl rfl (by omega)) rfl <| Qw.val (fun w1 hq => Ex.move rfl) rfl <| Qw.val (fun w1 hq => Ex.idxT st_26 rfl rfl (s_b.bs hq) 3 rfl (by omega)) rfl <| Qw.val (fun w1 hq => Ex.ldT (ag_3 _) rfl (s_b.bs hq) (by omega)) rfl <| Qw.val (fun w1 hq => Ex.mulI rfl rfl (by omega)) rfl <| Qw.val (fun w1 hq => Ex.assign rfl) rfl ?_
     refine Qw.nil (fun w3 hq => ?_)
     exact Pw.midS (((ss.getD b.toNat []).getD 1 default * (ss.getD b.toNat []).getD 2 default * (ss.getD b.toNat []).getD 3 default)) ⟨rfl, rfl, rfl, rfl, rfl, rfl, trivial⟩ (⟨by omega, by omega, hq⟩)
    intro q
    refine Cw.skip ?_
    exact Pw.midS (s1) ⟨rfl, rfl, rfl, rfl, rfl, rfl, trivial⟩ (⟨s0, s4, Below.refl _ _⟩)
   rintro s2 w3 ⟨t0, t4, hn⟩
   refine Cw.out ?_
   have hB3 := bt hB2 hn
   have s_u3 := s_u.bs hB3
   have s_i := (at_j i hi').bs hB3
   have z0 := Shapes.size_le (ss.getD i [])
   have zp := of_decide_eq_true (show decide (0 < Shapes.size (ss.getD i [])) = true from NA.ok)
   have m0 := Int.mul_nonneg t0 (Int.le_of_lt zp)
   have m1 : s2 * Shapes.size (ss.getD i []) ≤ 262144 * 4096 := Int.mul_le_mul t4 (by omega) (by omega) (by omega)
   refine Cw.region <| Lw.val (Ex.move rfl) rfl <| Lw.val (Ex.move rfl) rfl <| Lw.val (Ex.move rfl) rfl <| Lw.val (Ex.move rfl) rfl <| Lw.val (Ex.idxT st_39 rfl rfl s_u3 i rfl hi') rfl <| Lw.val (Ex.ldT (ag_26 _) rfl s_u3 hi') rfl <| Lw.callF rfl rfl (rsize_c (ps.getD i default).1 (ss.getD i []) w3 s_i) ?_
   rintro _ w4 ⟨rfl, hn⟩
   refine Lw.val (Ex.mulI rfl rfl (by omega)) rfl <| Lw.val (Ex.addI rfl rfl (by omega)) rfl <| Lw.val (Ex.assign rfl) rfl <| Lw.nil <| Pw.blkN <| Pw.thenN <| Cw.out <| Cw.region <| Lw.val (Ex.move rfl) rfl <| Lw.val (Ex.addI rfl rfl (by omega)) rfl <| Lw.val (Ex.assign rfl) rfl <| Lw.nil ?_
   exact Pw.thenN (Pw.next ((i + 1, n + s2 * Shapes.size (ss.getD i []))) ⟨rfl, rfl, rfl, rfl, rfl, trivial⟩ (⟨hi', by simp only; omega, by simp only; omega, bt hB3 hn⟩) (by simp only; omega))
  intro g
  refine Lw.pass (dj := 19) rfl rfl rfl rfl <| Lw.pass (dj := 19) rfl rfl rfl rfl <| Lw.val (Ex.pickF rfl rfl) rfl <| Lw.nil <| Pw.thenN <| Cw.out <| Cw.condF rfl <| Cw.exit <| Pw.thenE <| Pw.thenE <| Pw.blkHit <| Pw.thenN <| Cw.out <| Cw.seq <| Cw.region <| Lw.val (Ex.move rfl) rfl <| Lw.val (Ex.assign rfl) rfl <| Lw.nil <| Pw.thenN <| Cw.out <| Cw.ret <| Pw.ret1 rfl rfl ?_
  exact ⟨⟨_, rfl⟩, bt hB hB1⟩
end Go.Proofs.YtmipoeanpnnjoaaGreat

/-! Contract: more than is gone through; a graph, weights and an input as a statement's argument. -/
namespace Go.Proofs.YtmipoeanpnnjoaaGreat
open Go Go.Dd Go.RowKit Go.ChangeShapes Go.WideShapes
set_option maxRecDepth 100000

def notGreat (ls : List N5) (ws : List T4) (t : T4) : Prop := gsz ls ≤ 5000 ∧ bey 0 [tot (ws.length : Int) (ws.map fun t => tsz t.s t.l), tsz t.s t.l] = false
theorem great_c (v u : Value) (ls : List N5) (ws : List T4) (t : T4) (W : World) (h : GN W v ls) (hl : ls.length ≤ 1125899906842624) (hf : ∀ t ∈ ls, t.few) (hw : Tens W u ws) (lw : ws.length ≤ 1125899906842624) (fw : ∀ t ∈ ws, fewT t) (ht : t.at W) (ft : fewT t) :
  Fnc Tryz.prog 9 [.agg [v, u, t.x, t.y].toArray] W (fun r w' => (∃ b, r = .bool b ∧ (b = false → notGreat ls ws t)) ∧ Below W.heap.size W w') := by
 have hB := Below.refl W.heap.size W
 refine Fnc.enter (n := 23) Tryz.func9 (by kernel_rfl) rfl rfl rfl <| Cw.seq <| Cw.region <| Lw.boxV (cs := [v, u, t.x, t.y]) rfl rfl rfl ?_
 rintro A_z w eA_z b_z hn -
 replace hB := hB.bs hn
 replace h := h.bs hn
 replace hw := hw.bs hn
 replace ht := ht.bs hn
 clear hn
 refine Lw.val (Ex.assign rfl) rfl <| Lw.nil <| Pw.thenN <| Cw.out <| Cw.seq ?_
 rename World => w1
 refine Cw.any mixed (fun w2 hD _ => ?_)
 refine Aw.cls (fun w' => Below w1.heap.size w1 w') (fun hC => ?_) (hD)
 refine AwC.take (i := 0) (NoP.thn NoP.ret) rfl (by kernel_rfl) (by kernel_rfl) (by kernel_rfl) (fun w1 hc => Ex.fieldAddr (q := 0) Tryz.underlying31 rfl (sz_24 _) rfl) rfl <| AwC.take (i := 1) (NoP.thn NoP.ret) rfl (by kernel_rfl) (by kernel_rfl) (by kernel_rfl) (fun w1 hc => Ex.ldAt (ds := [v]) (ag_24 _) (sz_24 _) rfl rfl (Blk.bs (by assumption) hc) rfl) rfl ?_
 refine AwC.only (by assumption) (i := 2) (by kernel_rfl) rfl ?_
 refine Lw.callF rfl rfl (gsize_c v ls w2 (h.bs hD) hl hf) ?_
 rintro _ w3 ⟨rfl, hn⟩
 have hD := bt hD hn
 refine AwC.back <| AwC.take (i := 3) (NoP.thn NoP.ret) rfl (by kernel_rfl) (by kernel_rfl) (by kernel_rfl) (fun w1 hc => Ex.gtr rfl rfl) rfl <| AwC.take (i := 4) (NoP.thn NoP.ret) rfl (by kernel_rfl) (by kernel_rfl) (by kernel_rfl) (fun w1 hc => Ex.move rfl) rfl ?_
 refine AwC.part 7 rfl ?_ ?_
 ·intro g
  refine AwC.passG (i := 5) (dj := 7) (NoP.thn NoP.ret) rfl rfl rfl rfl (by kernel_rfl) (by kernel_rfl) (by kernel_rfl) rfl <| AwC.passG (i := 6) (dj := 7) (NoP.thn NoP.ret) rfl rfl rfl rfl (by kernel_rfl) (by kernel_rfl) (by kernel_rfl) rfl <| AwC.passG (i := 7) (dj := 7) (NoP.thn NoP.ret) rfl rfl rfl rfl (by kernel_rfl) (by kernel_rfl) (by kernel_rfl) rfl <| AwC.passG (i := 8) (dj := 7) (NoP.thn NoP.ret) rfl rfl rfl rfl (by kernel_rfl) (by kernel_rfl) (by kernel_rfl) rfl <| AwC.passG (i := 9) (dj := 7) (NoP.thn NoP.ret) rfl rfl rfl rfl (by kernel_rfl) (by kernel_rfl) (by kernel_rfl) rfl <| AwC.passG (i := 10) (dj := 7) (NoP.thn NoP.ret) rfl rfl rfl rfl (by kernel_rfl) (by kernel_rfl) (by kernel_rfl) rfl <| AwC.passG (i := 11) (dj := 7) (NoP.thn NoP.ret) rfl rfl rfl rfl (by kernel_rfl) (by kernel_rfl) (by kernel_rfl) rfl <| AwC.passG (i := 12) (dj := 7) (NoP.thn NoP.ret) rfl rfl rfl rfl (by kernel_rfl) (by kernel_rfl) (by kernel_rfl) rfl <| AwC.take (i := 13) (NoP.thn NoP.ret) rfl (by kernel_rfl) (by kernel_rfl) (by kernel_rfl) (fun w1 hc => Ex.pickT rfl rfl) rfl <| AwC.take (i := 14) (NoP.thn NoP.ret) rfl (by kernel_rfl) (by kernel_rfl) (by kernel_rfl) (fun w1 hc => Ex.move rfl) rfl <| AwC.passG (i := 15) (dj := 17) (NoP.thn NoP.ret) rfl rfl rfl rfl (by kernel_rfl) (by kernel_rfl) (by kernel_rfl) rfl <| AwC.passG (i := 16) (dj := 17) (NoP.thn NoP.ret) rfl rfl rfl rfl (by kernel_rfl) (by kernel_rfl) (by kernel_rfl) rfl ?_
  refine AwC.passG (i := 17) (dj := 17) (NoP.thn NoP.ret) rfl rfl rfl rfl (by kernel_rfl) (by kernel_rfl) (by kernel_rfl) rfl <| AwC.passG (i := 18) (dj := 17) (NoP.thn NoP.ret) rfl rfl rfl rfl (by kernel_rfl) (by kernel_rfl) (by kernel_rfl) rfl <| AwC.take (i := 19) (NoP.thn NoP.ret) rfl (by kernel_rfl) (by kernel_rfl) (by kernel_rfl) (fun w1 hc => Ex.pickT rfl rfl) rfl <| AwC.take (i := 20) (NoP.thn NoP.ret) rfl (by kernel_rfl) (by kernel_rfl) (by kernel_rfl) (fun w1 hc => Ex.assign rfl) rfl <| AwC.done (by assumption) (by kernel_rfl) ?_
  refine Pw.thenN <| Cw.out <| Cw.ret <| Pw.ret1 rfl rfl ?_
  exact ⟨⟨true, rfl, fun h => by cases h⟩, bt hB hD⟩
 intro g
 have g1 : gsz ls ≤ 5000 := by have := of_decide_eq_false g; omega
 refine AwC.takeG (i := 5) (dj := 7) (NoP.thn NoP.ret) rfl rfl rfl (by kernel_rfl) (by kernel_rfl) (by kernel_rfl) (fun w1 hc => Ex.fieldAddr (q := 0) Tryz.underlying31 rfl (sz_25 _) rfl) rfl <| AwC.takeG (i := 6) (dj := 7) (NoP.thn NoP.ret) rfl rfl rfl (by kernel_rfl) (by kernel_rfl) (by kernel_rfl) (fun w1 hc => Ex.ldB (ag_25 _) rfl (Blk.bs (by assumption) hc) rfl) rfl ?_
 refine AwC.takeG (i := 8) (dj := 7) (NoP.thn NoP.ret) rfl rfl rfl (by kernel_rfl) (by kernel_rfl) (by kernel_rfl) (fun w1 hc => Ex.fieldAddr (q := 1) Tryz.underlying31 rfl (sz_29 _) rfl) rfl <| AwC.takeG (i := 9) (dj := 7) (NoP.thn NoP.ret) rfl rfl rfl (by kernel_rfl) (by kernel_rfl) (by kernel_rfl) (fun w1 hc => Ex.ldAt (ds := [t.x, t.y]) (ag_29 _) (sz_29 _) rfl rfl (Blk.bs (by assumption) hc) rfl) rfl ?_
 refine AwC.only (by assumption) (i := 7) (by kernel_rfl) rfl ?_
 refine Lw.take (dj := 7) rfl rfl <| Lw.callF rfl rfl (tsizes_c u ws w3 (hw.bs hD) lw fw) ?_
 rintro _ w4 ⟨rfl, hn⟩
 have hD := bt hD hn
 refine AwC.back <| AwC.only (by assumption) (i := 10) (by kernel_rfl) rfl ?_
 refine Lw.take (dj := 7) rfl rfl <| Lw.callF rfl rfl (tsize_c t w4 (ht.bs hD) ft.1 ft.2) ?_
 rintro _ w5 ⟨rfl, hn⟩
 have hD := bt hD hn
 refine AwC.back <| AwC.only (by assumption) (i := 11) (by kernel_rfl) rfl ?_
 refine Lw.take (dj := 7) rfl rfl <| Lw.valW (Xw.lit (vs := [tot (ws.length : Int) (ws.map fun t => tsz t.s t.l), tsz t.s t.l].map (Value.int .i64)) st_26 it_3 rfl rfl rfl rfl rfl) rfl ?_
 rintro q w6 ⟨o_q, -, hn, -⟩
 have hD := bt hD hn
 have b1 := tot_hi (l := ws.map fun t => tsz t.s t.l) (n := (ws.length : Int)) (m := 4503599626321920) (fun x hx => by
  obtain ⟨a, ha, rfl⟩ := List.mem_map.1 hx
  have h1 := (fw a ha).1
  have h2 := (fw a ha).2
  unfold tsz; split <;> omega) (by decide)
 have b0 := tot_le (l := ws.map fun t => tsz t.s t.l) (n := (ws.length : Int)) (fun x hx => by
  obtain ⟨a, ha, rfl⟩ := List.mem_map.1 hx
  have := tsz_pos a.s a.l; omega)
 have b2 := tsz_few ft
 have b3 := tsz_pos t.s t.l
 have hbb : ∀ x ∈ [tot (ws.length : Int) (ws.map fun t => tsz t.s t.l), tsz t.s t.l], 0 ≤ x ∧ x ≤ 4503599627370496 := fun x hx => by
  rcases List.mem_cons.1 hx with rfl | hx
  ·omega
  ·rw [List.mem_singleton.1 hx]; omega
 refine AwC.back <| AwC.only (by assumption) (i := 12) (by kernel_rfl) rfl ?_
 refine Lw.take (dj := 7) rfl rfl <| Lw.callF rfl rfl (beyond_c q _ w6 (own_slT o_q) hbb) ?_
 rintro _ w7 ⟨rfl, hn⟩
 have hD := bt hD hn
 refine AwC.back <| AwC.take (i := 13) (NoP.thn NoP.ret) rfl (by kernel_rfl) (by kernel_rfl) (by kernel_rfl) (fun w1 hc => Ex.pickF rfl rfl) rfl <| AwC.take (i := 14) (NoP.thn NoP.ret) rfl (by kernel_rfl) (by kernel_rfl) (by kernel_rfl) (fun w1 hc => Ex.move rfl) rfl ?_
 refine AwC.part 17 rfl ?_ ?_
 ·intro g
  refine AwC.passG (i := 15) (dj := 17) (NoP.thn NoP.ret) rfl rfl rfl rfl (by kernel_rfl) (by kernel_rfl) (by kernel_rfl) rfl <| AwC.passG (i := 16) (dj := 17) (NoP.thn NoP.ret) rfl rfl rfl rfl (by kernel_rfl) (by kernel_rfl) (by kernel_rfl) rfl <| AwC.passG (i := 17) (dj := 17) (NoP.thn NoP.ret) rfl rfl rfl rfl (by kernel_rfl) (by kernel_rfl) (by kernel_rfl) rfl <| AwC.passG (i := 18) (dj := 17) (NoP.thn NoP.ret) rfl rfl rfl rfl (by kernel_rfl) (by kernel_rfl) (by kernel_rfl) rfl <| AwC.take (i := 19) (NoP.thn NoP.ret) rfl (by kernel_rfl) (by kernel_rfl) (by kernel_rfl) (fun w1 hc => Ex.pickT rfl rfl) rfl <| AwC.take (i := 20) (NoP.thn NoP.ret) rfl (by kernel_rfl) (by kernel_rfl) (by kernel_rfl) (fun w1 hc => Ex.assign rfl) rfl <| AwC.done (by assumption) (by kernel_rfl) ?_
  refine Pw.thenN <| Cw.out <| Cw.ret <| Pw.ret1 rfl rfl ?_
  exact ⟨⟨true, rfl, fun h => by cases h⟩, bt hB hD⟩
 intro g2
 refine AwC.takeG (i := 15) (dj := 17) (NoP.thn NoP.ret) rfl rfl rfl (by kernel_rfl) (by kernel_rfl) (by kernel_rfl) (fun w1 hc => Ex.fieldAddr (q := 0) Tryz.underlying31 rfl (sz_24 _) rfl) rfl <| AwC.takeG (i := 16) (dj := 17) (NoP.thn NoP.ret) rfl rfl rfl (by kernel_rfl) (by kernel_rfl) (by kernel_rfl) (fun w1 hc => Ex.ldAt (ds := [v]) (ag_24 _) (sz_24 _) rfl rfl (Blk.bs (by assumption) hc) rfl) rfl ?_
 refine AwC.only (by assumption) (i := 17) (by kernel_rfl) rfl ?_
 refine Lw.take (dj := 17) rfl rfl <| Lw.callF rfl rfl (work_c v ls w7 (h.bs hD)) ?_
 rintro _ w8 ⟨⟨n, rfl⟩, hn⟩
 have hD := bt hD hn
 refine AwC.back <| AwC.takeG (i := 18) (dj := 17) (NoP.thn NoP.ret) rfl rfl rfl (by kernel_rfl) (by kernel_rfl) (by kernel_rfl) (fun w1 hc => Ex.gtr rfl rfl) rfl <| AwC.take (i := 19) (NoP.thn NoP.ret) rfl (by kernel_rfl) (by kernel_rfl) (by kernel_rfl) (fun w1 hc => Ex.pickF rfl rfl) rfl <| AwC.take (i := 20) (NoP.thn NoP.ret) rfl (by kernel_rfl) (by kernel_rfl) (by kernel_rfl) (fun w1 hc => Ex.assign rfl) rfl <| AwC.done (by assumption) (by kernel_rfl) ?_
 refine Pw.thenN <| Cw.out <| Cw.ret <| Pw.ret1 rfl rfl ?_
 exact ⟨⟨_, rfl, fun _ => ⟨g1, g2⟩⟩, bt hB hD⟩
/-- A graph, weights and an input as a statement's argument. -/
theorem arg_given {H : Type} {enc : TypeId × Value → H} {w : World} {base : Nat} {z : Value} (ho : Value.okWide Tryz.prog w .any base 31 z) (h : In enc Tryz.prog w 31 z.cells.toList) :
  ∃ (v u : Value) (ls : List N5) (ws : List T4) (t : T4), z = .agg [v, u, t.x, t.y].toArray ∧ GN w v ls ∧ ls.length ≤ 1125899906842624 ∧ (∀ t ∈ ls, t.few) ∧ Tens w u ws ∧ ws.length ≤ 1125899906842624 ∧ (∀ t ∈ ws, fewT t) ∧ t.at w ∧ fewT t := by
 obtain ⟨cs, rfl, hin⟩ := arg_struct Tryz.underlying31 ho h
 obtain ⟨hlen, hel⟩ := hin.struct Tryz.underlying31
 have c4 : Tryz.prog.cellsOf 31 = 4 := by kernel_rfl
 have c1 : Tryz.prog.cellsOf 24 = 1 := by kernel_rfl
 have d1 : Tryz.prog.cellsOf 25 = 1 := by kernel_rfl
 have e1 : Tryz.prog.cellsOf 29 = 2 := by kernel_rfl
 rw [c4] at hlen
 obtain ⟨a, b, c, d, rfl⟩ : ∃ a b c d, cs = [a, b, c, d] := by
  match cs, hlen with
  | [a, b, c, d], _ => exact ⟨a, b, c, d, rfl⟩
 have h0 : In enc Tryz.prog w 24 (([a, b, c, d].drop 0).take (Tryz.prog.cellsOf 24)) := hel 0 _ rfl
 have h1 : In enc Tryz.prog w 25 (([a, b, c, d].drop 1).take (Tryz.prog.cellsOf 25)) := hel 1 _ rfl
 have h2 : In enc Tryz.prog w 29 (([a, b, c, d].drop 2).take (Tryz.prog.cellsOf 29)) := hel 2 _ rfl
 rw [c1] at h0
 rw [d1] at h1
 rw [e1] at h2
 obtain ⟨v, ev, ls, q1, q2, q3⟩ := in_graph h0
 obtain ⟨u, eu, ws, r1, r2, r3⟩ := in_tens h1
 obtain ⟨t, et, s1, s2, s3⟩ := in_ten h2
 simp at ev eu et
 obtain ⟨rfl, rfl⟩ := et
 subst ev eu
 exact ⟨_, _, ls, ws, t, rfl, q1, q2, q3, r1, r2, r3, s1, by omega, by omega⟩
end Go.Proofs.YtmipoeanpnnjoaaGreat

/-! Plain law: what each node of a run is. -/
namespace Go.Proofs.YtmipoeanpnnjoaaGreat
open Go Go.Dd Go.RowKit
set_option maxRecDepth 100000

theorem inputs_cons (x : N5) (l : List N5) : inputs (x :: l) = (if x.k = 1#8 then 1 else 0) + inputs l := by
 unfold inputs
 rw [List.filter_cons]
 by_cases h : x.k = 1#8
 ·rw [if_pos h, decide_eq_true h]; simp; omega
 ·rw [if_neg h, decide_eq_false h]; simp
theorem wtsN_cons (x : N5) (l : List N5) : wtsN (x :: l) = (if x.k = 2#8 then 1 else 0) + wtsN l := by
 unfold wtsN
 rw [List.filter_cons]
 by_cases h : x.k = 2#8
 ·rw [if_pos h, decide_eq_true h]; simp; omega
 ·rw [if_neg h, decide_eq_false h]; simp
theorem allR_pre : ∀ (l : List N5) (acc gv ws vs : List PV), allR acc gv ws l = some vs → vs.take acc.length = acc
 | [], acc, gv, ws, vs, h => by cases h; simp
 | x :: l, acc, gv, ws, vs, h => by
  have key : ∀ (a : PV) (gv' ws' : List PV), allR (acc ++ [a]) gv' ws' l = some vs → vs.take acc.length = acc := fun a gv' ws' h => by
   have := allR_pre l _ _ _ _ h
   rw [List.length_append, List.length_singleton] at this
   have h2 := congrArg (List.take acc.length) this
   rw [List.take_take, Nat.min_eq_left (by omega), List.take_append_of_le_length (Nat.le_refl _), List.take_length] at h2
   exact h2
  unfold allR at h
  split at h
  ·split at h
   ·split at h
    ·exact key _ _ _ h
    ·cases h
   ·cases h
  ·split at h
   ·split at h
    ·split at h
     ·exact key _ _ _ h
     ·cases h
    ·cases h
   ·split at h
    ·exact key _ _ _ h
    ·cases h
theorem allR_got {l : List N5} {acc gv ws vs : List PV} {a : PV} (h : allR (acc ++ [a]) gv ws l = some vs) : vs[acc.length]? = some a := by
 have := allR_pre l _ _ _ _ h
 rw [List.length_append, List.length_singleton] at this
 have h2 := congrArg (fun z : List PV => z[acc.length]?) this
 simp only [List.getElem?_take, Nat.lt_succ_self, if_true] at h2
 rw [h2, List.getElem?_append_right (Nat.le_refl _), Nat.sub_self]; rfl
/-- What a node came to. -/
def NodeIs (gv ws vs : List PV) (a b m : Nat) (x : N5) : Prop :=
 (x.k = 1#8 ∧ ∃ g, gv[a]? = some g ∧ vs[m]? = some g ∧ fitP g x.s = true) ∨ (x.k = 2#8 ∧ ∃ g, ws[b]? = some g ∧ vs[m]? = some g ∧ fitP g x.s = true) ∨
 (x.k ≠ 1#8 ∧ x.k ≠ 2#8 ∧ doE x (insP (vs.take m) x) = 0 ∧ vs[m]? = some (actS x.k x (insP (vs.take m) x), actL x.k x (insP (vs.take m) x)))
theorem allR_node : ∀ (l : List N5) (acc gv ws vs : List PV), allR acc gv ws l = some vs → ∀ i (hi : i < l.length), NodeIs gv ws vs (inputs (l.take i)) (wtsN (l.take i)) (acc.length + i) l[i]
 | [], _, _, _, _, _, i, hi => by simp at hi
 | x :: l, acc, gv, ws, vs, h, i, hi => by
  have hp := allR_pre _ _ _ _ _ h
  unfold allR at h
  split at h
  ·rename_i hk
   split at h
   ·rename_i t gv'
    split at h
    ·rename_i hf
     cases i with
     | zero => exact .inl ⟨hk, t, rfl, allR_got h, hf⟩
     | succ i =>
      have := allR_node l _ _ _ _ h i (by simpa using hi)
      rw [List.length_append, List.length_singleton, show acc.length + 1 + i = acc.length + (i + 1) by omega] at this
      rw [List.take_succ_cons, inputs_cons, wtsN_cons, if_pos hk, if_neg (by rw [hk]; decide)]
      rw [Nat.add_comm 1, Nat.zero_add]
      exact this
    ·cases h
   ·cases h
  ·rename_i hk
   split at h
   ·rename_i hk2
    split at h
    ·rename_i t ws'
     split at h
     ·rename_i hf
      cases i with
      | zero => exact .inr (.inl ⟨hk2, t, rfl, allR_got h, hf⟩)
      | succ i =>
       have := allR_node l _ _ _ _ h i (by simpa using hi)
       rw [List.length_append, List.length_singleton, show acc.length + 1 + i = acc.length + (i + 1) by omega] at this
       rw [List.take_succ_cons, inputs_cons, wtsN_cons, if_neg hk, if_pos hk2]
       rw [Nat.add_comm 1, Nat.zero_add]
       exact this
     ·cases h
    ·cases h
   ·rename_i hk2
    split at h
    ·rename_i hd
     cases i with
     | zero =>
      refine .inr (.inr ⟨hk, hk2, ?_, ?_⟩)
      ·rw [Nat.add_zero, hp]; exact hd
      ·rw [Nat.add_zero, hp]; exact allR_got h
     | succ i =>
      have := allR_node l _ _ _ _ h i (by simpa using hi)
      rw [List.length_append, List.length_singleton, show acc.length + 1 + i = acc.length + (i + 1) by omega] at this
      rw [List.take_succ_cons, inputs_cons, wtsN_cons, if_neg hk, if_neg hk2]
      rw [Nat.zero_add, Nat.zero_add]
      exact this
    ·cases h
theorem insP_take {vs : List PV} {x : N5} {m : Nat} (h : ∀ j ∈ x.i, 0 ≤ j ∧ j < (m : Int)) : insP (vs.take m) x = insP vs x := by
 unfold insP
 refine List.map_congr_left fun j hj => ?_
 have := h j hj
 rw [List.getD_eq_getElem?_getD, List.getElem?_take, if_pos (by omega), ← List.getD_eq_getElem?_getD]
/-- A graph that ran. -/
structure Ran (ls : List N5) (ws : List PV) (t : PV) (ss : List (List Int)) (vs : List PV) : Prop where
 sh : gshR [] ls = some ss
 one : inputs ls = 1
 run : allR [] [t] ws ls = some vs
 ls1 : 1 ≤ ls.length ∧ ls.length ≤ 32
 lss : ss.length = ls.length
 lvs : vs.length = ls.length
 lws : ws.length = wtsN ls
theorem ran_of {ls : List N5} {ws vs : List PV} {t : PV} (h : allG ls ws t = some vs) : ∃ ss, gsh ls = some ss ∧ Ran ls ws t ss vs := by
 obtain ⟨⟨ss, hs⟩, lw, hr, lv⟩ := allG_some h
 obtain ⟨q1, q2, q3, q4⟩ := gsh_R hs
 have := gshR_len _ _ _ q1
 exact ⟨ss, hs, ⟨q1, q2, hr, ⟨q3, q4⟩, by simpa using this, lv, lw⟩⟩
theorem inputs_take {ls : List N5} {i : Nat} (hi : i < ls.length) (hk : ls[i].k = 1#8) : inputs (ls.take i) + 1 ≤ inputs ls := by
 have h1 := inputs_succ hi rfl
 rw [if_pos hk] at h1
 have : inputs (ls.take (i + 1)) ≤ inputs ls := by
  unfold inputs
  exact List.Sublist.length_le ((List.take_sublist _ _).filter _)
 omega
/-- Each node: its value, of those that it takes in. -/
structure IsAt (ls : List N5) (ws : List PV) (t : PV) (ss : List (List Int)) (vs : List PV) (i : Nat) (x : N5) : Prop where
 ok : tok (vs.getD i ([], [])).1 (vs.getD i ([], [])).2 = true
 sh : (vs.getD i ([], [])).1 = ss.getD i []
 inp : x.k = 1#8 → vs.getD i ([], []) = t
 wt : x.k = 2#8 → ws[wtsN (ls.take i)]? = some (vs.getD i ([], []))
 deed : x.k ≠ 1#8 → x.k ≠ 2#8 → doE x (insP vs x) = 0 ∧ vs.getD i ([], []) = (actS x.k x (insP vs x), actL x.k x (insP vs x))
theorem fitP_ok {g : PV} {s : List Int} (h : fitP g s = true) : tok g.1 g.2 = true ∧ g.1 = s := by
 unfold fitP at h
 rw [Bool.and_eq_true] at h
 exact ⟨h.1, of_decide_eq_true h.2⟩
theorem ran_at {ls : List N5} {ws vs : List PV} {t : PV} {ss : List (List Int)} (h : Ran ls ws t ss vs) : ∀ (n i : Nat), i < n → ∀ (hi : i < ls.length), IsAt ls ws t ss vs i ls[i]
 | 0, _, hn, _ => by omega
 | n + 1, i, hn, hi => by
  have ih : ∀ j, j < i → ∀ (hj : j < ls.length), IsAt ls ws t ss vs j ls[j] := fun j hj hjl => ran_at h n j (by omega) hjl
  have NA := node_at h.sh hi
  have key := allR_node _ _ _ _ _ h.run i hi
  rw [List.length_nil, Nat.zero_add] at key
  have get : ∀ g, vs[i]? = some g → vs.getD i ([], []) = g := fun g e => by rw [List.getD_eq_getElem?_getD, e]; rfl
  rcases key with ⟨hk, g, h1, h2, h3⟩ | ⟨hk, g, h1, h2, h3⟩ | ⟨hk1, hk2, h1, h2⟩
  ·have e := get g h2
   obtain ⟨f1, f2⟩ := fitP_ok h3
   have hs : ss.getD i [] = ls[i].s := by rw [NA.sh, hk]; rfl
   refine ⟨by rw [e]; exact f1, by rw [e, f2, hs], fun _ => ?_, fun hk2 => ?_, fun hn => absurd hk hn⟩
   ·have := inputs_take hi hk
    rw [h.one] at this
    have h0 : inputs (ls.take i) = 0 := by omega
    rw [h0] at h1
    rw [e]; exact (Option.some.inj h1).symm
   ·rw [hk] at hk2; exact absurd hk2 (by decide)
  ·have e := get g h2
   obtain ⟨f1, f2⟩ := fitP_ok h3
   have hs : ss.getD i [] = ls[i].s := by rw [NA.sh, hk]; rfl
   refine ⟨by rw [e]; exact f1, by rw [e, f2, hs], fun hk1 => ?_, fun _ => by rw [e]; exact h1, fun _ hn => absurd hk hn⟩
   rw [hk] at hk1; exact absurd hk1 (by decide)
  ·rw [insP_take NA.ins] at h1 h2
   have e := get _ h2
   have D := do_shape h1
   have hs : (insP vs ls[i]).map (·.s) = ls[i].i.map fun j => ss.getD j.toNat [] := by
    unfold insP
    rw [List.map_map]
    refine List.map_congr_left fun j hj => ?_
    have hji := NA.ins j hj
    have := (ih j.toNat (by omega) (by omega)).sh
    exact this
   refine ⟨by rw [e]; exact D.tok, ?_, fun hk => absurd hk hk1, fun hk => absurd hk hk2, fun _ _ => ⟨h1, e⟩⟩
   rw [e, NA.sh, ← hs]
   exact D.sh.symm
theorem ran_node {ls : List N5} {ws vs : List PV} {t : PV} {ss : List (List Int)} (h : Ran ls ws t ss vs) {i : Nat} (hi : i < ls.length) : IsAt ls ws t ss vs i ls[i] := ran_at h (i + 1) i (by omega) hi
end Go.Proofs.YtmipoeanpnnjoaaGreat

/-! Plain law: other numbers of the weights; what a node needs. -/
namespace Go.Proofs.YtmipoeanpnnjoaaGreat
open Go Go.Dd Go.RowKit
set_option maxRecDepth 100000

def shT (t : T4) : List Int × Nat := (t.s, t.l.length)
def shP (p : PV) : List Int × Nat := (p.1, p.2.length)
theorem tok_sim {s : List Int} {l m : List (BitVec 32)} (h : l.length = m.length) : tok s l = tok s m := by unfold tok; rw [h]
theorem join_sim : ∀ (ts us : List T4), ts.map shT = us.map shT → badT ts = badT us ∧ (∀ k, jsum k ts = jsum k us) ∧ s0T ts = s0T us ∧ (∀ s k, (ts.all fun t => alk t.s s k) = (us.all fun t => alk t.s s k)) ∧ ts.length = us.length
 | [], [], _ => ⟨rfl, fun _ => rfl, rfl, fun _ _ => rfl, rfl⟩
 | [], _ :: _, h => by cases h
 | _ :: _, [], h => by cases h
 | t :: ts, u :: us, h => by
  simp only [List.map_cons, List.cons.injEq] at h
  obtain ⟨h1, h2⟩ := h
  obtain ⟨q1, q2, -, q4, q5⟩ := join_sim ts us h2
  have e1 : t.s = u.s := congrArg Prod.fst h1
  have e2 : t.l.length = u.l.length := congrArg Prod.snd h1
  have ht : tok t.s t.l = tok u.s u.l := by rw [e1]; exact tok_sim e2
  refine ⟨?_, fun k => ?_, e1, fun s k => ?_, by simp [q5]⟩
  ·unfold badT at q1 ⊢
   rw [List.any_cons, List.any_cons, ht, q1]
  ·simp only [jsum]; rw [e1, q2]
  ·rw [List.all_cons, List.all_cons, e1, q4]
/-- Whether a node comes to something, and of which shape, hangs on shapes alone. -/
theorem act_sim {k : BitVec 8} {x : N5} {ts us : List T4} (h : ts.map shT = us.map shT) (hk : k = 3#8 ∨ k = 4#8 ∨ k = 5#8 ∨ k = 6#8 ∨ k = 7#8 ∨ k = 8#8 ∨ k = 9#8 ∨ k = 10#8 ∨ k = 11#8 ∨ k = 12#8 ∨ k = 13#8) : actE k x ts = actE k x us ∧ actS k x ts = actS k x us := by
 obtain ⟨q1, q2, q3, q4, q5⟩ := join_sim ts us h
 have get : ∀ n, (ts.getD n default).s = (us.getD n default).s ∧ (ts.getD n default).l.length = (us.getD n default).l.length := fun n => by
  have := congrArg (fun l : List (List Int × Nat) => l.getD n ([], 0)) h
  simp only [List.getD_eq_getElem?_getD, List.getElem?_map] at this ⊢
  cases h1 : ts[n]? with
  | none =>
   have : us[n]? = none := by rw [List.getElem?_eq_none_iff] at h1 ⊢; omega
   rw [this]; exact ⟨rfl, rfl⟩
  | some a =>
   obtain ⟨c, h2⟩ : ∃ c, us[n]? = some c := ⟨us[n]'(by have := (List.getElem?_eq_some_iff.1 h1).1; omega), List.getElem?_eq_getElem _⟩
   rw [h1, h2] at this
   rw [h2]
   exact ⟨congrArg Prod.fst this, congrArg Prod.snd this⟩
 obtain ⟨a1, a2⟩ := get 0
 obtain ⟨b1, b2⟩ := get 1
 have ta : tok (ts.getD 0 default).s (ts.getD 0 default).l = tok (us.getD 0 default).s (us.getD 0 default).l := by rw [a1]; exact tok_sim a2
 have tb : tok (ts.getD 1 default).s (ts.getD 1 default).l = tok (us.getD 1 default).s (us.getD 1 default).l := by rw [b1]; exact tok_sim b2
 have he2 : e2 (ts.getD 0 default).s (ts.getD 0 default).l (ts.getD 1 default).s (ts.getD 1 default).l = e2 (us.getD 0 default).s (us.getD 0 default).l (us.getD 1 default).s (us.getD 1 default).l := by
  unfold e2; rw [ta, tb, a1, b1]
 rcases hk with rfl | rfl | rfl | rfl | rfl | rfl | rfl | rfl | rfl | rfl | rfl
 ·exact ⟨he2, a1⟩
 ·exact ⟨he2, a1⟩
 ·exact ⟨by show e1 _ _ = e1 _ _; unfold e1; rw [ta], a1⟩
 ·exact ⟨by show eSh _ _ _ = eSh _ _ _; unfold eSh e1; rw [ta], a1⟩
 ·exact ⟨by show prdE _ _ = prdE _ _; unfold prdE; rw [ta, tb, a1, b1], by show [_, _] = [_, _]; rw [a1, b1]⟩
 ·exact ⟨by show wofE _ _ _ _ = wofE _ _ _ _; unfold wofE; rw [ta, tb, a1, b1], by show wshS _ _ _ _ = wshS _ _ _ _; rw [a1, b1]⟩
 ·exact ⟨by show wpoE _ _ = wpoE _ _; unfold wpoE; rw [ta, a1], by show pshS _ _ = pshS _ _; rw [a1]⟩
 ·exact ⟨by show mvE _ _ = mvE _ _; unfold mvE; rw [ta, a2], rfl⟩
 ·exact ⟨by show tnE _ _ = tnE _ _; unfold tnE; rw [ta, a1], by show turn _ _ = turn _ _; rw [a1]⟩
 ·have es : ∀ k, jnS ts k = jnS us k := fun k => by unfold jnS; rw [q3, q2]
  exact ⟨by show jnE _ _ = jnE _ _; unfold jnE jnA; rw [q1, q3, q5, q4, es], es _⟩
 ·exact ⟨by show suE _ _ = suE _ _; unfold suE; rw [ta, a1], by show without _ _ = without _ _; rw [a1]⟩
theorem doE_sim {x : N5} {ts us : List T4} (h : ts.map shT = us.map shT) : doE x ts = doE x us ∧ (doE x ts = 0 → actS x.k x ts = actS x.k x us) := by
 have hl : ts.length = us.length := (join_sim ts us h).2.2.2.2
 have ho : doOk x ts = doOk x us := by unfold doOk; rw [hl]
 cases hk : doOk x ts with
 | false =>
  have e1 : doE x ts = 1 := by unfold doE; rw [hk]; rfl
  have e2 : doE x us = 1 := by unfold doE; rw [← ho, hk]; rfl
  exact ⟨e1.trans e2.symm, fun h0 => by rw [e1] at h0; cases h0⟩
 | true =>
  obtain ⟨a, b, c, d, hr, -⟩ := doOk_row hk
  obtain ⟨q1, q2⟩ := act_sim (x := x) h (dRow_kind x.k (by rw [hr]; rfl))
  have e1 : doE x ts = actE x.k x ts := by unfold doE; rw [hk]; rfl
  have e2 : doE x us = actE x.k x us := by unfold doE; rw [← ho, hk]; rfl
  exact ⟨by rw [e1, e2, q1], fun _ => q2⟩
theorem sim_get {a b : List PV} (h : a.map shP = b.map shP) (n : Nat) : shP (a.getD n ([], [])) = shP (b.getD n ([], [])) := by
 have := congrArg (fun l : List (List Int × Nat) => l.getD n (shP ([], []))) h
 simp only [List.getD_eq_getElem?_getD, List.getElem?_map] at this
 rw [List.getD_eq_getElem?_getD, List.getD_eq_getElem?_getD]
 cases h1 : a[n]? <;> cases h2 : b[n]? <;> rw [h1, h2] at this <;> exact this
theorem sim_ins {a b : List PV} (h : a.map shP = b.map shP) (x : N5) : (insP a x).map shT = (insP b x).map shT := by
 unfold insP
 rw [List.map_map, List.map_map]
 exact List.map_congr_left fun j _ => sim_get h j.toNat
theorem allR_sim : ∀ (l : List N5) (acc acc' gv ws ws' vs : List PV), allR acc gv ws l = some vs → acc.map shP = acc'.map shP → ws.map shP = ws'.map shP → ∃ vs', allR acc' gv ws' l = some vs' ∧ vs.map shP = vs'.map shP
 | [], acc, acc', gv, ws, ws', vs, h, ha, _ => by cases h; exact ⟨acc', rfl, ha⟩
 | x :: l, acc, acc', gv, ws, ws', vs, h, ha, hw => by
  have snoc : ∀ p q : PV, shP p = shP q → (acc ++ [p]).map shP = (acc' ++ [q]).map shP := fun p q e => by
   rw [List.map_append, List.map_append, ha, List.map_singleton, List.map_singleton, e]
  rw [allR.eq_def] at h ⊢
  simp only at h ⊢
  split at h
  ·rename_i hk
   rw [if_pos hk]
   split at h
   ·split at h
    ·rename_i hf
     rw [if_pos hf]
     exact allR_sim l _ _ _ _ _ _ h (snoc _ _ rfl) hw
    ·cases h
   ·cases h
  ·rename_i hk
   rw [if_neg hk]
   split at h
   ·rename_i hk2
    rw [if_pos hk2]
    split at h
    ·rename_i t wr
     match ws', hw with
     | [], hw => cases hw
     | t' :: wr', hw =>
      simp only [List.map_cons, List.cons.injEq] at hw
      split at h
      ·rename_i hf
       have e1 : t.1 = t'.1 := congrArg (fun p : List Int × Nat => p.1) hw.1
       have e2 : t.2.length = t'.2.length := congrArg (fun p : List Int × Nat => p.2) hw.1
       have hf' : fitP t' x.s = true := by
        unfold fitP at hf ⊢
        rw [← e1, ← tok_sim e2]; exact hf
       simp only
       rw [if_pos hf']
       exact allR_sim l _ _ _ _ _ _ h (snoc _ _ hw.1) hw.2
      ·cases h
    ·cases h
   ·rename_i hk2
    rw [if_neg hk2]
    split at h
    ·rename_i hd
     obtain ⟨d1, d2⟩ := doE_sim (x := x) (sim_ins ha x)
     have hd' : doE x (insP acc' x) = 0 := by rw [← d1]; exact hd
     rw [if_pos hd']
     have D1 := do_shape hd
     have D2 := do_shape hd'
     refine allR_sim l _ _ _ _ _ _ h (snoc _ _ ?_) hw
     have es := d2 hd
     have l1 := (tok_ok D1.tok).2
     have l2 := (tok_ok D2.tok).2
     exact Prod.ext es (by show (actL x.k x (insP acc x)).length = (actL x.k x (insP acc' x)).length; rw [l1, l2, es])
    ·cases h
theorem allG_sim {ls : List N5} {ws ws' vs : List PV} {t : PV} (h : allG ls ws t = some vs) (hw : ws.map shP = ws'.map shP) : ∃ vs', allG ls ws' t = some vs' ∧ vs.map shP = vs'.map shP := by
 have hl : ws.length = ws'.length := by simpa using congrArg List.length hw
 unfold allG at h ⊢
 rw [← hl]
 split at h
 ·rename_i hc
  rw [if_pos hc]
  exact allR_sim ls _ _ _ _ _ _ h rfl hw
 ·cases h

/-! ### What a node needs -/
def ndS (n : Nat) (l : List Int) : List Int → Int
 | [] => 0
 | a :: r => (if (n : Int) ≤ a then l.getD (a - n).toNat 0 else 0) + ndS n l r
def ndL (ls : List N5) (n : Nat) : Nat → List Int
 | 0 => []
 | j + 1 => ndL ls n j ++ [min ((if j = 0 then 1 else 0) + ndS n (ndL ls n j) (ls.getD (n + j) default).i) 1]
theorem ndL_len (ls : List N5) (n : Nat) : ∀ j, (ndL ls n j).length = j
 | 0 => rfl
 | j + 1 => by simp [ndL, ndL_len ls n j]
theorem getD_bit {l : List Int} (h : ∀ x ∈ l, x = 0 ∨ x = 1) (m : Nat) : l.getD m 0 = 0 ∨ l.getD m 0 = 1 := by
 rw [List.getD_eq_getElem?_getD]
 cases e : l[m]? with
 | none => exact .inl rfl
 | some a => exact h a (List.mem_of_getElem? e)
theorem ndS_ge {n : Nat} {l : List Int} (h : ∀ x ∈ l, x = 0 ∨ x = 1) : ∀ r : List Int, 0 ≤ ndS n l r ∧ ndS n l r ≤ r.length
 | [] => ⟨Int.le_refl _, Int.le_refl _⟩
 | a :: r => by
  have ih := ndS_ge (n := n) h r
  simp only [ndS, List.length_cons]
  split
  ·rcases getD_bit h (a - n).toNat with e | e <;> rw [e] <;> omega
  ·omega
theorem ndL_bit (ls : List N5) (n : Nat) : ∀ j, ∀ x ∈ ndL ls n j, x = 0 ∨ x = 1
 | 0, x, hx => by cases hx
 | j + 1, x, hx => by
  rcases List.mem_append.1 hx with hx | hx
  ·exact ndL_bit ls n j x hx
  ·rw [List.mem_singleton.1 hx]
   have := (ndS_ge (n := n) (ndL_bit ls n j) (ls.getD (n + j) default).i).1
   split <;> omega
theorem ndL_pre (ls : List N5) (n : Nat) {m : Nat} : ∀ {j : Nat}, m < j → (ndL ls n j).getD m 0 = (ndL ls n (m + 1)).getD m 0
 | 0, h => by omega
 | j + 1, h => by
  by_cases e : m = j
  ·rw [e]
  ·rw [ndL, List.getD_eq_getElem?_getD, List.getElem?_append_left (by rw [ndL_len]; omega), ← List.getD_eq_getElem?_getD]
   exact ndL_pre ls n (by omega)
theorem ndL_at (ls : List N5) (n j : Nat) : (ndL ls n (j + 1)).getD j 0 = min ((if j = 0 then 1 else 0) + ndS n (ndL ls n j) (ls.getD (n + j) default).i) 1 := by
 rw [ndL, List.getD_eq_getElem?_getD, List.getElem?_append_right (by rw [ndL_len]; exact Nat.le_refl _), ndL_len, Nat.sub_self]; rfl
theorem ndS_zero {n : Nat} {l : List Int} (h : ∀ x ∈ l, x = 0 ∨ x = 1) : ∀ {r : List Int}, ndS n l r = 0 → ∀ a ∈ r, (n : Int) ≤ a → l.getD (a - n).toNat 0 = 0
 | [], _, a, ha, _ => by cases ha
 | b :: r, h0, a, ha, hn => by
  have ih := ndS_ge (n := n) h r
  simp only [ndS] at h0
  have hb := getD_bit h (b - n).toNat
  have hr : ndS n l r = 0 := by split at h0 <;> omega
  rcases List.mem_cons.1 ha with rfl | ha
  ·rw [if_pos hn] at h0; omega
  ·exact ndS_zero h hr a ha hn
theorem wtsN_le {ls : List N5} {a b : Nat} (h : a ≤ b) : wtsN (ls.take a) ≤ wtsN (ls.take b) := by
 unfold wtsN
 have : ls.take a = (ls.take b).take a := by rw [List.take_take, Nat.min_eq_left h]
 rw [this]
 exact List.Sublist.length_le ((List.take_sublist _ _).filter _)
theorem wtsN_step {ls : List N5} {i : Nat} (hi : i < ls.length) (hk : ls[i].k = 2#8) : wtsN (ls.take (i + 1)) = wtsN (ls.take i) + 1 := by
 rw [List.take_succ_eq_append_getElem hi]
 unfold wtsN
 rw [List.filter_append, List.length_append, List.filter_cons, decide_eq_true hk]; rfl
structure TwoRuns (ls : List N5) (ws ws' : List PV) (t : PV) (ss : List (List Int)) (vs vs' : List PV) (n k0 : Nat) : Prop where
 a : Ran ls ws t ss vs
 b : Ran ls ws' t ss vs'
 hn : n < ls.length
 hk : ls[n].k = 2#8
 hw : wtsN (ls.take n) = k0
 same : ∀ j, j ≠ k0 → ws[j]? = ws'[j]?
theorem TwoRuns.ins {ls : List N5} {ws ws' vs vs' : List PV} {t : PV} {ss : List (List Int)} {n k0 : Nat} (h : TwoRuns ls ws ws' t ss vs vs' n k0) {m : Nat} (hm : m < ls.length) (hw : ls[m].k = 2#8 → wtsN (ls.take m) ≠ k0)
  (hi : ∀ j ∈ ls[m].i, vs.getD j.toNat ([], []) = vs'.getD j.toNat ([], [])) : vs.getD m ([], []) = vs'.getD m ([], []) := by
 have A := ran_node h.a hm
 have B := ran_node h.b hm
 by_cases k1 : ls[m].k = 1#8
 ·rw [A.inp k1, B.inp k1]
 ·by_cases k2 : ls[m].k = 2#8
  ·have q1 := A.wt k2
   have q2 := B.wt k2
   rw [h.same _ (hw k2)] at q1
   exact Option.some.inj (q1.symm.trans q2)
  ·have e : insP vs ls[m] = insP vs' ls[m] := by
    unfold insP
    exact List.map_congr_left fun j hj => by rw [hi j hj]
   rw [(A.deed k1 k2).2, (B.deed k1 k2).2, e]
theorem TwoRuns.below {ls : List N5} {ws ws' vs vs' : List PV} {t : PV} {ss : List (List Int)} {n k0 : Nat} (h : TwoRuns ls ws ws' t ss vs vs' n k0) : ∀ (b m : Nat), m < b → m < n → vs.getD m ([], []) = vs'.getD m ([], [])
 | 0, _, hb, _ => by omega
 | b + 1, m, hb, hm => by
  have hl : m < ls.length := by have := h.hn; omega
  refine h.ins hl (fun k2 => ?_) fun j hj => ?_
  ·have := wtsN_step hl k2
   have := wtsN_le (ls := ls) (show m + 1 ≤ n by omega)
   have := h.hw
   omega
  ·have := (node_at h.a.sh hl).ins j hj
   exact h.below b j.toNat (by omega) (by omega)
theorem TwoRuns.above {ls : List N5} {ws ws' vs vs' : List PV} {t : PV} {ss : List (List Int)} {n k0 : Nat} (h : TwoRuns ls ws ws' t ss vs vs' n k0) : ∀ (b j : Nat), j < b → n + j < ls.length → (ndL ls n (j + 1)).getD j 0 ≠ 1 → vs.getD (n + j) ([], []) = vs'.getD (n + j) ([], [])
 | 0, _, hb, _, _ => by omega
 | b + 1, j, hb, hl, hd => by
  rw [ndL_at] at hd
  have hbit := ndL_bit ls n j
  have hge := ndS_ge (n := n) hbit (ls.getD (n + j) default).i
  have j0 : j ≠ 0 := fun e => by rw [if_pos e] at hd; omega
  rw [if_neg j0] at hd
  have hz : ndS n (ndL ls n j) (ls.getD (n + j) default).i = 0 := by omega
  have ei : ls.getD (n + j) default = ls[n + j] := by rw [List.getD_eq_getElem?_getD, List.getElem?_eq_getElem hl]; rfl
  rw [ei] at hz
  refine h.ins hl (fun k2 => ?_) fun a ha => ?_
  ·have := wtsN_step h.hn h.hk
   have := wtsN_le (ls := ls) (show n + 1 ≤ n + j by omega)
   have := h.hw
   omega
  ·have hb2 := (node_at h.a.sh hl).ins a ha
   by_cases e : (n : Int) ≤ a
   ·have hz2 := ndS_zero hbit hz a ha e
    rw [ndL_pre ls n (show (a - n).toNat < j by omega)] at hz2
    have := h.above b (a - n).toNat (by omega) (by omega) (by omega)
    rwa [show n + (a - n).toNat = a.toNat by omega] at this
   ·exact h.below (a.toNat + 1) a.toNat (by omega) (by omega)
end Go.Proofs.YtmipoeanpnnjoaaGreat

/-! Contracts: does a node need another one; tensors in memory of their own. -/
namespace Go.Proofs.YtmipoeanpnnjoaaGreat
open Go Go.Dd Go.RowKit
set_option maxRecDepth 100000

theorem ndS_snoc (n : Nat) (l : List Int) (a : Int) : ∀ r : List Int, ndS n l (r ++ [a]) = ndS n l r + (if (n : Int) ≤ a then l.getD (a - n).toNat 0 else 0)
 | [] => by simp [ndS]
 | b :: r => by simp only [List.cons_append, ndS]; rw [ndS_snoc n l a r]; omega
theorem needs_c (v : Value) (ls : List N5) (of' n : Nat) (W : World) (h : GN W v ls) (hno : n ≤ of') (hof : of' < ls.length) (hin : ∀ i (hi : i < ls.length), ls[i].i.length ≤ 4 ∧ ∀ a ∈ ls[i].i, 0 ≤ a ∧ a < (i : Int)) (h32 : ls.length ≤ 32) :
  Fnc Tryz.prog 21 [.agg [v].toArray, .int .i64 (of' : Int), .int .i64 (n : Int)] W (fun r w' => r = .bool (decide ((ndL ls n (of' - n + 1)).getD (of' - n) 0 = 1)) ∧ Below W.heap.size W w') := by
 have hB := Below.refl W.heap.size W
 refine Fnc.enter (n := 70) Tryz.func21 (by kernel_rfl) rfl rfl rfl <| Cw.seq <| Cw.region <| Lw.boxV (cs := [v]) rfl rfl rfl ?_
 rintro A_g w1 eA_g b_g hn1 -
 have h1 := h.bs hn1
 have hv1 := h1.sl
 have ad : ∃ ad c k, v = .slice (some ad) c k := by
  obtain ⟨_, ao, cap, e, d1, d2, d3, _⟩ := h.sl
  cases ao with
  | none => have := d3 rfl; omega
  | some ad => exact ⟨ad, _, _, e⟩
 refine Lw.val (Ex.assign rfl) rfl <| Lw.nil <| Pw.thenN <| Cw.out <| Cw.seq <| Cw.region <| Lw.val (Ex.assign rfl) rfl <| Lw.nil <| Pw.thenN <| Cw.out <| Cw.seq <| Cw.seq <| Cw.region <| Lw.val (Ex.move rfl) rfl <| Lw.val (Ex.assign rfl) rfl <| Lw.nil <| Pw.thenN <| Cw.out <| Cw.block ?_
 refine Cw.loop (S := (Nat × Value)) (fun z => [(1, .int .i64 (of' : Int)), (2, .int .i64 (n : Int)), (3, .pointer (some ⟨A_g, 0, none⟩)), (7, z.2), (8, .int .i64 ((n + z.1 : Nat) : Int))]) (fun z w' => z.1 ≤ of' - n + 1 ∧ Below w1.heap.size w1 w' ∧ w'.ownsRow w1.heap.size 3 1 z.2 z.1 ((ndL ls n z.1).map (Value.int .i64))) (fun z => of' - n + 1 - z.1) ((0, .slice none 0 0)) ⟨rfl, rfl, rfl, rfl, rfl, trivial⟩ ?_ ?_
 ·exact ⟨Nat.zero_le _, Below.refl _ _, ⟨rfl, .inl ⟨rfl, rfl⟩⟩⟩
 rintro ⟨j, u⟩ w2 ⟨hj, hB2, o_u⟩
 replace hj : j ≤ of' - n + 1 := hj
 replace o_u : w2.ownsRow w1.heap.size 3 1 u j ((ndL ls n j).map (Value.int .i64)) := o_u
 have h_v := hv1.bs hB2
 have b_g2 := b_g.bs hB2
 have ll := ndL_len ls n j
 have s_u : SlT (Value.int .i64) w2 u (ndL ls n j) := own_slT o_u
 refine Cw.seq <| Cw.seq <| Cw.region <| Lw.val (Ex.move rfl) rfl <| Lw.val (Ex.move rfl) rfl <| Lw.val (Ex.leq rfl rfl) rfl <| Lw.nil <| Pw.thenN <| Cw.out <| Cw.cond rfl ?_ ?_
 ·intro g
  have hj' : n + j ≤ of' := by have := of_decide_eq_true g; omega
  have hi : n + j < ls.length := by omega
  obtain ⟨x, hxd⟩ : ∃ x, x = ls[n + j] := ⟨_, rfl⟩
  have hx := (h1.each x (hxd ▸ List.getElem_mem hi)).bs hB2
  have hb := hin (n + j) hi
  rw [← hxd] at hb
  have ex : ls.getD (n + j) default = x := by rw [List.getD_eq_getElem?_getD, List.getElem?_eq_getElem hi, hxd]; rfl
  have ck : (flw N5.cells ls)[(n + j) * 5 + 1]? = some x.x := by
   rw [flw_get (fun a _ => N5.cells_len a) hi (by decide), ← hxd]; rfl
  have h_i := hx.i
  have hbit := ndL_bit ls n j
  refine Cw.skip <| Pw.thenN <| Cw.out <| Cw.seq <| Cw.block <| Cw.seq <| Cw.region <| Lw.val (Ex.assign rfl) rfl <| Lw.nil <| Pw.thenN <| Cw.out <| Cw.seq <| Cw.seq <| Cw.region <| Lw.val (Ex.move rfl) rfl <| Lw.val (Ex.move rfl) rfl <| Lw.val (Ex.eql rfl rfl) rfl <| Lw.nil <| Pw.thenN <| Cw.out ?_
  refine Cw.midS (St := Int) (fun s => [(1, .int .i64 (of' : Int)), (2, .int .i64 (n : Int)), (3, .pointer (some ⟨A_g, 0, none⟩)), (7, u), (8, .int .i64 ((n + j : Nat) : Int)), (9, .int .i64 s)]) (fun s w' => w' = w2 ∧ s = if j = 0 then 1 else 0) ?_ ?_
  ·refine Cw.cond rfl ?_ ?_
   ·intro q
    have q : j = 0 := by have := of_decide_eq_true q; omega
    refine Cw.region <| Lw.val (Ex.assign rfl) rfl <| Lw.nil ?_
    exact Pw.midS (1) ⟨rfl, rfl, rfl, rfl, rfl, rfl, trivial⟩ (⟨rfl, by show (1 : Int) = _; rw [if_pos q]⟩)
   intro q
   have q : ¬ j = 0 := by have := of_decide_eq_false q; omega
   refine Cw.skip ?_
   exact Pw.midS (0) ⟨rfl, rfl, rfl, rfl, rfl, rfl, trivial⟩ (⟨rfl, by show (0 : Int) = _; rw [if_neg q]⟩)
  rintro s0 w2' ⟨rfl, hs0⟩
  replace hs0 : s0 = if j = 0 then 1 else 0 := hs0
  have s01 : 0 ≤ s0 ∧ s0 ≤ 1 := by rw [hs0]; split <;> omega
  refine Cw.out <| Cw.seq <| Cw.seq <| Cw.region <| Lw.val (Ex.assign rfl) rfl <| Lw.nil <| Pw.thenN <| Cw.out <| Cw.block ?_
  refine Cw.loop (S := (Nat × Int)) (fun y => [(1, .int .i64 (of' : Int)), (2, .int .i64 (n : Int)), (3, .pointer (some ⟨A_g, 0, none⟩)), (7, u), (8, .int .i64 ((n + j : Nat) : Int)), (9, .int .i64 y.2), (10, .int .i64 (y.1 : Int))]) (fun y w' => y.1 ≤ x.i.length ∧ w' = w2' ∧ y.2 = s0 + ndS n (ndL ls n j) (x.i.take y.1)) (fun y => x.i.length - y.1) ((0, s0)) ⟨rfl, rfl, rfl, rfl, rfl, rfl, rfl, trivial⟩ ?_ ?_
  ·exact ⟨Nat.zero_le _, rfl, by simp [ndS]⟩
  rintro ⟨k, s⟩ w3 ⟨hk, rfl, hs⟩
  replace hk : k ≤ x.i.length := hk
  replace hs : s = s0 + ndS n (ndL ls n j) (x.i.take k) := hs
  have hge := ndS_ge (n := n) hbit (x.i.take k)
  have ltk : (x.i.take k).length ≤ 4 := by rw [List.length_take]; omega
  refine Cw.seq <| Cw.seq <| Cw.region <| Lw.val (Ex.move rfl) rfl <| Lw.val (Ex.fieldAddr (q := 0) Tryz.underlying24 rfl (sz_22 _) rfl) rfl <| Lw.val (Ex.ldB (ag_22 _) rfl (by assumption) rfl) rfl ?_
  refine Lw.val (Ex.move rfl) rfl <| Lw.val (Ex.idx st_22 rfl rfl h_v (n + j) rfl hi) rfl <| Lw.val (Ex.fieldAddrE (q := 0) Tryz.underlying45 rfl (sz_26 _) rfl ad) rfl <| Lw.val (Ex.ld (ag_26 _) rfl h_v ck) rfl <| Lw.val (Ex.lenS st_26 rfl (by assumption)) rfl ?_
  refine Lw.val (Ex.lss rfl rfl) rfl <| Lw.nil <| Pw.thenN <| Cw.out <| Cw.cond rfl ?_ ?_
  ·intro g
   have hk' : k < x.i.length := by have := of_decide_eq_true g; omega
   obtain ⟨a, had⟩ : ∃ a, a = x.i.getD k default := ⟨_, rfl⟩
   have ham : a ∈ x.i := had ▸ getD_mem hk'
   have hab := hb.2 a ham
   have es : ndS n (ndL ls n j) (x.i.take (k + 1)) = ndS n (ndL ls n j) (x.i.take k) + (if (n : Int) ≤ a then (ndL ls n j).getD (a - n).toNat 0 else 0) := by
    rw [List.take_succ_eq_append_getElem hk', ndS_snoc, show x.i[k] = a by rw [had]; simp [hk']]
   refine Cw.skip <| Pw.thenN <| Cw.out <| Cw.seq <| Cw.block <| Cw.seq <| Cw.region <| Lw.val (Ex.fieldAddr (q := 0) Tryz.underlying24 rfl (sz_22 _) rfl) rfl <| Lw.val (Ex.ldB (ag_22 _) rfl (by assumption) rfl) rfl ?_
   refine Lw.val (Ex.move rfl) rfl <| Lw.val (Ex.idx st_22 rfl rfl h_v (n + j) rfl hi) rfl <| Lw.val (Ex.fieldAddrE (q := 0) Tryz.underlying45 rfl (sz_26 _) rfl ad) rfl <| Lw.val (Ex.ld (ag_26 _) rfl h_v ck) rfl <| Lw.val (Ex.move rfl) rfl <| Lw.val (Ex.idxT st_26 rfl rfl h_i k rfl hk') rfl <| Lw.val ((Ex.ldT (ag_3 _) rfl h_i hk').as (congrArg (Value.int .i64) had.symm)) rfl <| Lw.val (Ex.move rfl) rfl <| Lw.val (Ex.geq rfl rfl) rfl <| Lw.nil <| Pw.thenN <| Cw.out <| Cw.cond rfl ?_ ?_
   ·intro q
    have q : (n : Int) ≤ a := of_decide_eq_true q
    have hja : (a - n).toNat < (ndL ls n j).length := by rw [ll]; omega
    have hbt := getD_bit hbit (a - n).toNat
    rw [if_pos q] at es
    refine Cw.region <| Lw.val (Ex.move rfl) rfl <| Lw.val (Ex.move rfl) rfl <| Lw.val (Ex.fieldAddr (q := 0) Tryz.underlying24 rfl (sz_22 _) rfl) rfl <| Lw.val (Ex.ldB (ag_22 _) rfl (by assumption) rfl) rfl ?_
    refine Lw.val (Ex.move rfl) rfl <| Lw.val (Ex.idx st_22 rfl rfl h_v (n + j) rfl hi) rfl <| Lw.val (Ex.fieldAddrE (q := 0) Tryz.underlying45 rfl (sz_26 _) rfl ad) rfl <| Lw.val (Ex.ld (ag_26 _) rfl h_v ck) rfl <| Lw.val (Ex.move rfl) rfl <| Lw.val (Ex.idxT st_26 rfl rfl h_i k rfl hk') rfl <| Lw.val ((Ex.ldT (ag_3 _) rfl h_i hk').as (congrArg (Value.int .i64) had.symm)) rfl <| Lw.val (Ex.move rfl) rfl <| Lw.val ((Ex.subI rfl rfl (by omega)).as (congrArg (Value.int .i64) (show a - (n : Int) = (((a - n).toNat : Nat) : Int) by omega))) rfl <| Lw.val (Ex.idxT st_26 rfl rfl s_u (a - n).toNat rfl hja) rfl <| Lw.val (Ex.ldT (ag_3 _) rfl s_u hja) rfl <| Lw.val (Ex.addI rfl rfl (by show -9223372036854775808 ≤ s + (ndL ls n j).getD (a - n).toNat 0 ∧ s + (ndL ls n j).getD (a - n).toNat 0 ≤ 9223372036854775807; omega)) rfl <| Lw.val (Ex.assign rfl) rfl <| Lw.nil <| Pw.blkN <| Pw.thenN <| Cw.out <| Cw.region <| Lw.val (Ex.move rfl) rfl <| Lw.val (Ex.addI rfl rfl (by omega)) rfl <| Lw.val (Ex.assign rfl) rfl <| Lw.nil ?_
    exact Pw.thenN (Pw.next ((k + 1, s + (ndL ls n j).getD (a - n).toNat 0)) ⟨rfl, rfl, rfl, rfl, rfl, rfl, rfl, trivial⟩ (⟨hk', rfl, by show s + _ = _; rw [es, hs]; omega⟩) (by simp only; omega))
   intro q
   have q : ¬ (n : Int) ≤ a := of_decide_eq_false q
   rw [if_neg q] at es
   refine Cw.skip <| Pw.blkN <| Pw.thenN <| Cw.out <| Cw.region <| Lw.val (Ex.move rfl) rfl <| Lw.val (Ex.addI rfl rfl (by omega)) rfl <| Lw.val (Ex.assign rfl) rfl <| Lw.nil ?_
   exact Pw.thenN (Pw.next ((k + 1, s)) ⟨rfl, rfl, rfl, rfl, rfl, rfl, rfl, trivial⟩ (⟨hk', rfl, by show s = _; rw [es, hs]; omega⟩) (by simp only; omega))
  intro g
  have hk' : k = x.i.length := by have := of_decide_eq_false g; omega
  subst hk'
  rw [List.take_length] at hs
  have en : ndL ls n (j + 1) = ndL ls n j ++ [min s 1] := by
   show ndL ls n j ++ [min ((if j = 0 then 1 else 0) + ndS n (ndL ls n j) (ls.getD (n + j) default).i) 1] = _
   rw [ex, ← hs0, ← hs]
  refine Cw.exit <| Pw.thenE <| Pw.thenE <| Pw.blkHit <| Pw.thenN <| Cw.out <| Cw.region <| Lw.val (Ex.move rfl) rfl <| Lw.val (Ex.move rfl) rfl <| Lw.val ((Ex.min2 rfl rfl).as (congrArg (Value.int .i64) (show (if 1 < s then 1 else s) = min s 1 by split <;> omega))) rfl <| Lw.valW (Xw.lit (vs := [min s 1].map (Value.int .i64)) st_26 it_3 rfl rfl rfl rfl rfl) rfl ?_
  rintro q w4 ⟨o_q, -, hn, -⟩
  have o_u := own_bs o_u hn
  have hB4 := bt hB2 hn
  clear hn
  refine Lw.valW (Xw.append (base := w1.heap.size) st_26 it_3 rfl (by decide) rfl rfl o_u (own_sl o_q) (one_map (fun _ => rfl) _) (by omega) (by omega) hB4.size) rfl ?_
  rintro u' w5 ⟨o_u', hn, -⟩
  have hB5 := hB4.trans hn
  rw [← List.map_append, ← en] at o_u'
  refine Lw.val (Ex.assign rfl) rfl <| Lw.nil <| Pw.blkN <| Pw.thenN <| Cw.out <| Cw.region <| Lw.val (Ex.move rfl) rfl <| Lw.val ((Ex.addI rfl rfl (by omega)).as (congrArg (Value.int .i64) (show ((n + j : Nat) : Int) + 1 = ((n + (j + 1) : Nat) : Int) by omega))) rfl <| Lw.val (Ex.assign rfl) rfl <| Lw.nil ?_
  exact Pw.thenN (Pw.next ((j + 1, u')) ⟨rfl, rfl, rfl, rfl, rfl, trivial⟩ (⟨by simp only; omega, hB5, o_u'⟩) (by simp only; omega))
 intro g
 have hj' : j = of' - n + 1 := by have := of_decide_eq_false g; omega
 subst hj'
 refine Cw.exit <| Pw.thenE <| Pw.thenE <| Pw.blkHit <| Pw.thenN <| Cw.out <| Cw.seq <| Cw.region <| Lw.val (Ex.move rfl) rfl <| Lw.val (Ex.move rfl) rfl <| Lw.val (Ex.move rfl) rfl <| Lw.val ((Ex.subI rfl rfl (by omega)).as (congrArg (Value.int .i64) (show (of' : Int) - (n : Int) = ((of' - n : Nat) : Int) by omega))) rfl <| Lw.val (Ex.idxT st_26 rfl rfl s_u (of' - n) rfl (by omega)) rfl <| Lw.val (Ex.ldT (ag_3 _) rfl s_u (by omega)) rfl <| Lw.val (Ex.eql rfl rfl) rfl <| Lw.val (Ex.assign rfl) rfl <| Lw.nil <| Pw.thenN <| Cw.out <| Cw.ret <| Pw.ret1 rfl rfl ?_
 exact ⟨rfl, bt (bt hB hn1) hB2⟩
end Go.Proofs.YtmipoeanpnnjoaaGreat
