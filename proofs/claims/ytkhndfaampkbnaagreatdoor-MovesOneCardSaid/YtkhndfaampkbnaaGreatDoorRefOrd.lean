/- Contract: does a list hold each of so many directions just once? -/
import Derived.Test.YtkhndfaampkbnaaGreatDoorRefCode
import Derived.Test.YtkhndfaampkbnaaGreatDoorMovesCode
namespace Go.Proofs.YtkhndfaampkbnaaGreatDoor
open Go Go.Dd Go.RowKit
set_option maxRecDepth 100000

def cn (i : Int) : List Int → Nat
  | [] => 0
  | x :: l => (if x = i then 1 else 0) + cn i l
def fl (m : Int) : List Int → Nat
  | [] => 0
  | x :: l => (if 0 ≤ x ∧ x < m then 1 else 0) + fl m l
theorem cn_append (i : Int) : ∀ a b : List Int, cn i (a ++ b) = cn i a + cn i b
  | [], b => by simp [cn]
  | x :: a, b => by simp only [List.cons_append, cn]; rw [cn_append i a b]; omega
theorem cn_mem {i : Int} : ∀ {l : List Int}, i ∈ l → 1 ≤ cn i l
  | x :: l, h => by
    simp only [cn]
    rcases List.mem_cons.1 h with rfl | h
    · rw [if_pos rfl]; omega
    · have := cn_mem h; omega
theorem cn_le (i : Int) : ∀ l : List Int, cn i l ≤ l.length
  | [] => Nat.le_refl _
  | x :: l => by
    have := cn_le i l
    simp only [cn, List.length_cons]
    split <;> omega
theorem fl_succ (m : Nat) : ∀ l : List Int, fl ((m + 1 : Nat) : Int) l = fl (m : Int) l + cn (m : Int) l
  | [] => rfl
  | x :: l => by
    simp only [fl, cn]
    rw [fl_succ m l]
    split <;> split <;> split <;> omega
theorem fl_zero : ∀ l : List Int, fl 0 l = 0
  | [] => rfl
  | x :: l => by
    simp only [fl]
    rw [fl_zero l, if_neg (by omega)]
theorem fl_le (m : Int) : ∀ l : List Int, fl m l ≤ l.length
  | [] => Nat.le_refl _
  | x :: l => by
    have := fl_le m l
    simp only [fl, List.length_cons]
    split <;> omega
theorem fl_all {m : Int} : ∀ {l : List Int}, fl m l = l.length → ∀ x ∈ l, 0 ≤ x ∧ x < m
  | [], _, x, hx => by simp at hx
  | y :: l, h, x, hx => by
    have := fl_le m l
    simp only [fl, List.length_cons] at h
    by_cases g : 0 ≤ y ∧ y < m
    · rw [if_pos g] at h
      rcases List.mem_cons.1 hx with rfl | hx
      · exact g
      · exact fl_all (by omega) x hx
    · rw [if_neg g] at h; omega
theorem cn_ord {l : List Int} (h : ∀ i : Nat, i < l.length → cn (i : Int) l = 1) : ordOk l = true := by
  have e : ∀ m : Nat, m ≤ l.length → fl (m : Int) l = m := fun m => by
    induction m with
    | zero => intro _; exact fl_zero l
    | succ m ih => intro hm; rw [fl_succ, ih (by omega), h m (by omega)]
  have hin := fl_all (e l.length (Nat.le_refl _))
  refine ordOk_iff.2 fun j hj => ?_
  have hm : l.getD j default ∈ l := by simp [hj]
  have hr := hin _ hm
  unfold ordC
  rw [decide_eq_true hr.1, decide_eq_true hr.2]
  cases hc : (l.take j).contains (l.getD j default) with
  | false => rfl
  | true =>
    have m1 : l.getD j default ∈ l.take j := by simpa using hc
    have c1 := cn_mem m1
    have c2 : cn (l.getD j default) (l.drop j) = 1 + cn (l.getD j default) (l.drop (j + 1)) := by
      rw [List.drop_eq_getElem_cons hj]
      simp [cn, hj]
    have c3 : cn (l.getD j default) l = cn (l.getD j default) (l.take j) + cn (l.getD j default) (l.drop j) := by rw [← cn_append, List.take_append_drop]
    have c4 := h (l.getD j default).toNat (by omega)
    rw [Int.toNat_of_nonneg hr.1] at c4
    omega
theorem isum_pick (i : Nat) : ∀ n, isum (fun x => if x = i then 1 else 0) n = if i < n then 1 else 0
  | 0 => rfl
  | n + 1 => by
    simp only [isum]
    rw [isum_pick i n]
    split <;> split <;> split <;> omega
theorem cn_lsum (i : Nat) : ∀ {l : List Int}, (∀ x ∈ l, 0 ≤ x) → (cn (i : Int) l : Int) = lsum (fun x => if x = i then 1 else 0) (ordN l)
  | [], _ => rfl
  | x :: l, h => by
    have h0 := h x (by simp)
    have ih := cn_lsum i (l := l) fun y hy => h y (by simp [hy])
    simp only [ordN] at ih ⊢
    simp only [List.map_cons, lsum, cn]
    rw [← ih]
    by_cases g : x = (i : Int)
    · rw [if_pos g, if_pos (by omega)]; omega
    · rw [if_neg g, if_neg (by omega)]; omega
theorem ord_cn {l : List Int} (h : ordOk l = true) (h4 : l.length ≤ 4) {i : Nat} (hi : i < l.length) : cn (i : Int) l = 1 := by
  have h0 : ∀ x ∈ l, 0 ≤ x := fun x hx => by
    obtain ⟨j, hj, e⟩ := List.getElem_of_mem hx
    have := (ord_in h hj).1
    rwa [show l.getD j default = x by simp [hj, e]] at this
  have e := cn_lsum i h0
  rw [lsum_perm (ord_perm h h4), lsum_range, isum_pick, if_pos hi] at e
  omega
theorem rorder_c (u : Value) (l : List Int) (n : Nat) (w : World) (h_u : SlT (Value.int .i64) w u l) (hn : n ≤ 4) :
    Fnc Tryz.prog 106 [u, .int .i64 (n : Int)] w (fun r w' => r = .bool (decide (l.length = n) && ordOk l) ∧ Below w.heap.size w w') := by
  have hle := h_u.le
  refine Fnc.enter (n := 32) Tryz.func106 (by kernel_rfl) rfl rfl rfl ?_
  refine Cw.seq ?_
  refine Cw.region ?_
  refine Lw.val (Ex.assign rfl) rfl ?_
  refine Lw.nil ?_
  refine Pw.thenN (Cw.out ?_)
  refine Cw.seq ?_
  refine Cw.seq ?_
  refine Cw.region ?_
  refine Lw.val (Ex.move rfl) rfl ?_
  refine Lw.val (Ex.lenS st_26 rfl (by assumption)) rfl ?_
  refine Lw.val (Ex.move rfl) rfl ?_
  refine Lw.val (Ex.neq rfl rfl) rfl ?_
  refine Lw.nil ?_
  refine Pw.thenN (Cw.out ?_)
  refine Cw.cond rfl ?_ ?_
  · intro g
    have g : ¬ l.length = n := by have := g; simp at this; omega
    refine Cw.seq ?_
    refine Cw.region ?_
    refine Lw.val (Ex.assign rfl) rfl ?_
    refine Lw.nil ?_
    refine Pw.thenN (Cw.out ?_)
    refine Cw.ret ?_
    refine Pw.thenR ?_
    refine Pw.ret1 rfl rfl ?_
    exact ⟨by rw [decide_eq_false g]; rfl, Below.refl _ _⟩
  intro g
  have g : l.length = n := by have := g; simp at this; omega
  subst g
  rw [decide_eq_true rfl, Bool.true_and]
  refine Cw.skip ?_
  refine Pw.thenN (Cw.out ?_)
  refine Cw.seq ?_
  refine Cw.seq ?_
  refine Cw.region ?_
  refine Lw.val (Ex.assign rfl) rfl ?_
  refine Lw.nil ?_
  refine Pw.thenN (Cw.out ?_)
  refine Cw.block ?_
  refine Cw.loop (S := Nat) (fun i => [(0, u), (1, .int .i64 (l.length : Int)), (5, .int .i64 (i : Int))]) (fun i w' => i ≤ l.length ∧ (∀ j : Nat, j < i → cn (j : Int) l = 1) ∧ Below w.heap.size w w') (fun i => l.length - i) (0) ⟨rfl, rfl, rfl, trivial⟩ ?_ ?_
  · exact ⟨Nat.zero_le _, fun j hj => absurd hj (by omega), Below.refl _ _⟩
  rintro i w1 ⟨hi, hC, hw⟩
  have h_u1 := h_u.bs hw
  refine Cw.seq ?_
  refine Cw.seq ?_
  refine Cw.region ?_
  refine Lw.val (Ex.move rfl) rfl ?_
  refine Lw.val (Ex.move rfl) rfl ?_
  refine Lw.val (Ex.lss rfl rfl) rfl ?_
  refine Lw.nil ?_
  refine Pw.thenN (Cw.out ?_)
  refine Cw.cond rfl ?_ ?_
  · intro g
    have hi' : i < l.length := by have := of_decide_eq_true g; omega
    refine Cw.skip ?_
    refine Pw.thenN (Cw.out ?_)
    refine Cw.seq ?_
    refine Cw.block ?_
    refine Cw.seq ?_
    refine Cw.region ?_
    refine Lw.val (Ex.assign rfl) rfl ?_
    refine Lw.nil ?_
    refine Pw.thenN (Cw.out ?_)
    refine Cw.seq ?_
    refine Cw.seq ?_
    refine Cw.region ?_
    refine Lw.val (Ex.assign rfl) rfl ?_
    refine Lw.nil ?_
    refine Pw.thenN (Cw.out ?_)
    refine Cw.block ?_
    refine Cw.loop (S := Nat) (fun k => [(0, u), (1, .int .i64 (l.length : Int)), (5, .int .i64 (i : Int)), (6, .int .i64 ((cn (i : Int) (l.take k) : Nat) : Int)), (7, .int .i64 (k : Int))]) (fun k w' => k ≤ l.length ∧ Below w.heap.size w w') (fun k => l.length - k) (0) ⟨rfl, rfl, rfl, rfl, rfl, trivial⟩ ?_ ?_
    · exact ⟨Nat.zero_le _, hw⟩
    rintro k w2 ⟨hk, hw2⟩
    have h_u2 := h_u.bs hw2
    have ck := cn_le (i : Int) (l.take k)
    rw [List.length_take] at ck
    refine Cw.seq ?_
    refine Cw.seq ?_
    refine Cw.region ?_
    refine Lw.val (Ex.move rfl) rfl ?_
    refine Lw.val (Ex.move rfl) rfl ?_
    refine Lw.val (Ex.lss rfl rfl) rfl ?_
    refine Lw.nil ?_
    refine Pw.thenN (Cw.out ?_)
    refine Cw.cond rfl ?_ ?_
    · intro h
      have hk' : k < l.length := by have := of_decide_eq_true h; omega
      have e1 : l.take (k + 1) = l.take k ++ [l.getD k default] := by rw [List.take_succ_eq_append_getElem hk']; simp [hk']
      have e2 : cn (i : Int) (l.take (k + 1)) = cn (i : Int) (l.take k) + if l.getD k default = (i : Int) then 1 else 0 := by rw [e1, cn_append]; simp [cn]
      refine Cw.skip ?_
      refine Pw.thenN (Cw.out ?_)
      refine Cw.seq ?_
      refine Cw.block ?_
      refine Cw.seq ?_
      refine Cw.region ?_
      refine Lw.val (Ex.move rfl) rfl ?_
      refine Lw.val (Ex.move rfl) rfl ?_
      refine Lw.val (Ex.idxT st_26 rfl rfl (by assumption) _ rfl (by omega)) rfl ?_
      refine Lw.val (Ex.ldT (ag_3 _) rfl (by assumption) (by omega)) rfl ?_
      refine Lw.val (Ex.move rfl) rfl ?_
      refine Lw.val (Ex.eql rfl rfl) rfl ?_
      refine Lw.nil ?_
      refine Pw.thenN (Cw.out ?_)
      refine Cw.cond rfl ?_ ?_
      · intro g2
        have g2 := of_decide_eq_true g2
        rw [if_pos g2] at e2
        refine Cw.region ?_
        refine Lw.val (Ex.move rfl) rfl ?_
        refine Lw.val (Ex.addI rfl rfl (by omega)) rfl ?_
        refine Lw.val (Ex.assign rfl) rfl ?_
        refine Lw.nil ?_
        refine Pw.blkN ?_
        refine Pw.thenN (Cw.out ?_)
        refine Cw.region ?_
        refine Lw.val (Ex.move rfl) rfl ?_
        refine Lw.val (Ex.addI rfl rfl (by omega)) rfl ?_
        refine Lw.val (Ex.assign rfl) rfl ?_
        refine Lw.nil ?_
        exact Pw.thenN (Pw.next (k + 1) ⟨rfl, rfl, rfl, congrArg (fun x => some (Value.int .i64 x)) (show ((cn (i : Int) (l.take k) : Nat) : Int) + 1 = ((cn (i : Int) (l.take (k + 1)) : Nat) : Int) by omega), rfl, trivial⟩ (⟨hk', hw2⟩) (by omega))
      intro g2
      have g2 := of_decide_eq_false g2
      rw [if_neg g2] at e2
      refine Cw.skip ?_
      refine Pw.blkN ?_
      refine Pw.thenN (Cw.out ?_)
      refine Cw.region ?_
      refine Lw.val (Ex.move rfl) rfl ?_
      refine Lw.val (Ex.addI rfl rfl (by omega)) rfl ?_
      refine Lw.val (Ex.assign rfl) rfl ?_
      refine Lw.nil ?_
      exact Pw.thenN (Pw.next (k + 1) ⟨rfl, rfl, rfl, congrArg (fun x => some (Value.int .i64 x)) (show ((cn (i : Int) (l.take k) : Nat) : Int) = ((cn (i : Int) (l.take (k + 1)) : Nat) : Int) by omega), rfl, trivial⟩ (⟨hk', hw2⟩) (by omega))
    intro h
    have hk' : k = l.length := by have := of_decide_eq_false h; omega
    rw [hk', List.take_length]
    refine Cw.exit ?_
    refine Pw.thenE ?_
    refine Pw.thenE ?_
    refine Pw.blkHit ?_
    refine Pw.thenN (Cw.out ?_)
    refine Cw.seq ?_
    refine Cw.region ?_
    refine Lw.val (Ex.move rfl) rfl ?_
    refine Lw.val (Ex.neq rfl rfl) rfl ?_
    refine Lw.nil ?_
    refine Pw.thenN (Cw.out ?_)
    refine Cw.cond rfl ?_ ?_
    · intro g2
      have g2 : ¬ cn (i : Int) l = 1 := by have := g2; simp at this; omega
      refine Cw.seq ?_
      refine Cw.region ?_
      refine Lw.val (Ex.assign rfl) rfl ?_
      refine Lw.nil ?_
      refine Pw.thenN (Cw.out ?_)
      refine Cw.ret ?_
      refine Pw.blkR ?_
      refine Pw.thenR ?_
      refine Pw.thenR ?_
      refine Pw.blkR ?_
      refine Pw.thenR ?_
      refine Pw.ret1 rfl rfl ?_
      refine ⟨congrArg Value.bool ?_, hw2⟩
      cases ho : ordOk l with
      | false => rfl
      | true => exact absurd (ord_cn ho hn hi') g2
    intro g2
    have g2 : cn (i : Int) l = 1 := by have := g2; simp at this; omega
    have hC' : ∀ j : Nat, j < i + 1 → cn (j : Int) l = 1 := fun j hj => by
      rcases Nat.lt_or_ge j i with h | h
      · exact hC j h
      · obtain rfl : j = i := by omega
        exact g2
    refine Cw.skip ?_
    refine Pw.blkN ?_
    refine Pw.thenN (Cw.out ?_)
    refine Cw.region ?_
    refine Lw.val (Ex.move rfl) rfl ?_
    refine Lw.val (Ex.addI rfl rfl (by omega)) rfl ?_
    refine Lw.val (Ex.assign rfl) rfl ?_
    refine Lw.nil ?_
    exact Pw.thenN (Pw.next (i + 1) ⟨rfl, rfl, rfl, trivial⟩ (⟨hi', hC', hw2⟩) (by omega))
  intro g
  have hi' : i = l.length := by have := of_decide_eq_false g; omega
  subst hi'
  refine Cw.exit ?_
  refine Pw.thenE ?_
  refine Pw.thenE ?_
  refine Pw.blkHit ?_
  refine Pw.thenN (Cw.out ?_)
  refine Cw.seq ?_
  refine Cw.region ?_
  refine Lw.val (Ex.assign rfl) rfl ?_
  refine Lw.nil ?_
  refine Pw.thenN (Cw.out ?_)
  refine Cw.ret ?_
  refine Pw.ret1 rfl rfl ?_
  exact ⟨congrArg Value.bool (cn_ord hC).symm, hw⟩
end Go.Proofs.YtkhndfaampkbnaaGreatDoor
