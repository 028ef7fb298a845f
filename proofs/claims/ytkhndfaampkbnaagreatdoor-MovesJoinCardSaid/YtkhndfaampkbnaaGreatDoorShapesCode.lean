/- Contracts: sizes of shapes and places in them. -/
import Derived.Test.YtkhndfaampkbnaaGreatDoorFacts
import Derived.Test.YtkhndfaampkbnaaGreatDoorShp
namespace Go.Proofs.YtkhndfaampkbnaaGreatDoor
open Go Go.Dd Go.RowKit
set_option maxRecDepth 100000

theorem tim_drop {l : List Int} {i : Nat} {n : Int} (h : i < l.length) : Shapes.tim n (l.drop i) = (if l.getD i default < 1 ∨ 64 < l.getD i default then 0 else if 4096 < n * l.getD i default then 0 else Shapes.tim (n * l.getD i default) (l.drop (i + 1))) := by
  rw [List.drop_eq_getElem_cons h]; simp [Shapes.tim, h]

theorem times_c (v : Value) (l : List Int) (w : World) (hv : SlT (Value.int .i64) w v l) : Fnc Tryz.prog 146 [v] w (fun r w' => r = .int .i64 (Shapes.tim 1 l) ∧ Below w.heap.size w w') := by
  have hle := hv.le
  refine Fnc.enter (n := 25) Tryz.func146 (by kernel_rfl) rfl rfl rfl ?_
  refine Cw.seq ?_
  refine Cw.region ?_
  refine Lw.val (Ex.assign rfl) rfl ?_
  refine Lw.nil ?_
  refine Pw.thenN (Cw.out ?_)
  refine Cw.seq ?_
  refine Cw.region ?_
  refine Lw.val (Ex.assign rfl) rfl ?_
  refine Lw.nil ?_
  refine Pw.thenN (Cw.out ?_)
  refine Cw.seq ?_
  refine Cw.seq ?_
  refine Cw.region ?_
  refine Lw.val (Ex.move rfl) rfl ?_
  refine Lw.val (Ex.lenS st_26 rfl (by assumption)) rfl ?_
  refine Lw.val (Ex.move rfl) rfl ?_
  refine Lw.nil ?_
  refine Pw.thenN (Cw.out ?_)
  refine Cw.block ?_
  refine Cw.loop (S := (Nat × Int)) (fun s => [(3, .int .i64 s.2), (6, v), (7, .int .i64 (l.length : Int)), (8, .int .i64 (s.1 : Int))]) (fun s w' => s.1 ≤ l.length ∧ (1 ≤ s.2 ∧ s.2 ≤ 4096) ∧ Shapes.tim s.2 (l.drop s.1) = Shapes.tim 1 l ∧ w' = w) (fun s => l.length - s.1) ((0, 1)) ⟨rfl, rfl, rfl, rfl, trivial⟩ ?_ ?_
  · exact ⟨by simp, by simp, by simp, rfl⟩
  rintro ⟨i, n⟩ w1 ⟨hi, hn, ht, rfl⟩
  dsimp only at hi hn ht ⊢
  refine Cw.seq ?_
  refine Cw.region ?_
  refine Lw.val (Ex.lss rfl rfl) rfl ?_
  refine Lw.nil ?_
  refine Pw.thenN (Cw.out ?_)
  refine Cw.seq ?_
  refine Cw.cond rfl ?_ ?_
  · intro h
    have hi' : i < l.length := by simp at h; omega
    rw [tim_drop hi'] at ht
    refine Cw.skip ?_
    refine Pw.thenN (Cw.out ?_)
    refine Cw.seq ?_
    refine Cw.block ?_
    refine Cw.seq ?_
    refine Cw.region ?_
    refine Lw.val (Ex.idxT st_26 rfl rfl (by assumption) _ rfl (by omega)) rfl ?_
    refine Lw.val (Ex.ldT (ag_3 _) rfl (by assumption) (by omega)) rfl ?_
    refine Lw.val (Ex.assign rfl) rfl ?_
    refine Lw.nil ?_
    refine Pw.thenN (Cw.out ?_)
    refine Cw.seq ?_
    refine Cw.seq ?_
    refine Cw.region ?_
    refine Lw.val (Ex.move rfl) rfl ?_
    refine Lw.val (Ex.lss rfl rfl) rfl ?_
    refine Lw.val (Ex.move rfl) rfl ?_
    generalize l.getD i default = x at ht ⊢
    refine Lw.part 14 rfl ?_ ?_
    · intro h1
      have h1' := of_decide_eq_true h1
      refine Lw.pass (dj := 14) rfl rfl rfl rfl ?_
      refine Lw.pass (dj := 14) rfl rfl rfl rfl ?_
      refine Lw.val (Ex.pickT rfl rfl) rfl ?_
      refine Lw.nil ?_
      refine Pw.thenN (Cw.out ?_)
      refine Cw.condT rfl ?_
      refine Cw.seq ?_
      refine Cw.region ?_
      refine Lw.val (Ex.assign rfl) rfl ?_
      refine Lw.nil ?_
      refine Pw.thenN (Cw.out ?_)
      refine Cw.ret ?_
      refine Pw.thenR ?_
      refine Pw.blkR ?_
      refine Pw.thenR ?_
      refine Pw.thenR ?_
      refine Pw.blkR ?_
      refine Pw.thenR ?_
      refine Pw.ret1 rfl rfl ?_
      refine ⟨?_, Below.refl _ _⟩
      rw [← ht, if_pos (.inl h1')]
    intro h1
    have h1' := of_decide_eq_false h1
    refine Lw.take (dj := 14) rfl rfl ?_
    refine Lw.val (Ex.move rfl) rfl ?_
    refine Lw.take (dj := 14) rfl rfl ?_
    refine Lw.val (Ex.gtr rfl rfl) rfl ?_
    refine Lw.val (Ex.pickF rfl rfl) rfl ?_
    refine Lw.nil ?_
    refine Pw.thenN (Cw.out ?_)
    refine Cw.cond rfl ?_ ?_
    · intro h2
      have h2' := of_decide_eq_true h2
      refine Cw.seq ?_
      refine Cw.region ?_
      refine Lw.val (Ex.assign rfl) rfl ?_
      refine Lw.nil ?_
      refine Pw.thenN (Cw.out ?_)
      refine Cw.ret ?_
      refine Pw.thenR ?_
      refine Pw.blkR ?_
      refine Pw.thenR ?_
      refine Pw.thenR ?_
      refine Pw.blkR ?_
      refine Pw.thenR ?_
      refine Pw.ret1 rfl rfl ?_
      refine ⟨?_, Below.refl _ _⟩
      rw [← ht, if_pos (.inr h2')]
    intro h2
    have h2' := of_decide_eq_false h2
    have hx : n * 1 ≤ n * x ∧ n * x ≤ 4096 * 64 := ⟨Int.mul_le_mul_of_nonneg_left (by omega) (by omega), Int.mul_le_mul hn.2 (by omega) (by omega) (by omega)⟩
    rw [if_neg (by omega)] at ht
    refine Cw.skip ?_
    refine Pw.thenN (Cw.out ?_)
    refine Cw.seq ?_
    refine Cw.region ?_
    refine Lw.val (Ex.move rfl) rfl ?_
    refine Lw.val (Ex.move rfl) rfl ?_
    refine Lw.val (Ex.mulI rfl rfl (by omega)) rfl ?_
    refine Lw.val (Ex.assign rfl) rfl ?_
    refine Lw.nil ?_
    refine Pw.thenN (Cw.out ?_)
    refine Cw.seq ?_
    refine Cw.region ?_
    refine Lw.val (Ex.move rfl) rfl ?_
    refine Lw.val (Ex.gtr rfl rfl) rfl ?_
    refine Lw.nil ?_
    refine Pw.thenN (Cw.out ?_)
    refine Cw.cond rfl ?_ ?_
    · intro h3
      have h3' := of_decide_eq_true h3
      refine Cw.seq ?_
      refine Cw.region ?_
      refine Lw.val (Ex.assign rfl) rfl ?_
      refine Lw.nil ?_
      refine Pw.thenN (Cw.out ?_)
      refine Cw.ret ?_
      refine Pw.blkR ?_
      refine Pw.thenR ?_
      refine Pw.thenR ?_
      refine Pw.blkR ?_
      refine Pw.thenR ?_
      refine Pw.ret1 rfl rfl ?_
      refine ⟨?_, Below.refl _ _⟩
      rw [← ht, if_pos h3']
    intro h3
    have h3' := of_decide_eq_false h3
    rw [if_neg h3'] at ht
    refine Cw.skip ?_
    refine Pw.blkN ?_
    refine Pw.thenN (Cw.out ?_)
    refine Cw.region ?_
    refine Lw.val (Ex.addI rfl rfl (by omega)) rfl ?_
    refine Lw.val (Ex.move rfl) rfl ?_
    refine Lw.nil ?_
    exact Pw.thenN (Pw.next ((i + 1, n * x)) ⟨rfl, rfl, rfl, rfl, trivial⟩ (⟨hi', ⟨by omega, by omega⟩, ht, rfl⟩) (by simp only; omega))
  · intro h
    have hi' : i = l.length := by simp at h; omega
    subst hi'
    refine Cw.exit ?_
    refine Pw.thenE ?_
    refine Pw.thenE ?_
    refine Pw.blkHit ?_
    refine Pw.thenN (Cw.out ?_)
    refine Cw.seq ?_
    refine Cw.region ?_
    refine Lw.val (Ex.move rfl) rfl ?_
    refine Lw.val (Ex.assign rfl) rfl ?_
    refine Lw.nil ?_
    refine Pw.thenN (Cw.out ?_)
    refine Cw.ret ?_
    refine Pw.ret1 rfl rfl ?_
    refine ⟨?_, Below.refl _ _⟩
    rw [← ht, List.drop_length]; rfl

theorem size_c (v : Value) (l : List Int) (w : World) (hv : SlT (Value.int .i64) w v l) : Fnc Tryz.prog 93 [v] w (fun r w' => r = .int .i64 (Shapes.size l) ∧ Below w.heap.size w w') := by
  refine Fnc.enter (n := 13) Tryz.func93 (by kernel_rfl) rfl rfl rfl ?_
  refine Cw.seq ?_
  refine Cw.region ?_
  refine Lw.val (Ex.assign rfl) rfl ?_
  refine Lw.nil ?_
  refine Pw.thenN (Cw.out ?_)
  refine Cw.seq ?_
  refine Cw.seq ?_
  refine Cw.region ?_
  refine Lw.val (Ex.move rfl) rfl ?_
  refine Lw.val (Ex.lenS st_26 rfl (by assumption)) rfl ?_
  refine Lw.val (Ex.lss rfl rfl) rfl ?_
  refine Lw.val (Ex.move rfl) rfl ?_
  refine Lw.part 6 rfl ?_ ?_
  · intro h1
    have h1' := of_decide_eq_true h1
    refine Lw.pass (dj := 6) rfl rfl rfl rfl ?_
    refine Lw.pass (dj := 6) rfl rfl rfl rfl ?_
    refine Lw.pass (dj := 6) rfl rfl rfl rfl ?_
    refine Lw.val (Ex.pickT rfl rfl) rfl ?_
    refine Lw.nil ?_
    refine Pw.thenN (Cw.out ?_)
    refine Cw.condT rfl ?_
    refine Cw.seq ?_
    refine Cw.region ?_
    refine Lw.val (Ex.assign rfl) rfl ?_
    refine Lw.nil ?_
    refine Pw.thenN (Cw.out ?_)
    refine Cw.ret ?_
    refine Pw.thenR ?_
    refine Pw.ret1 rfl rfl ?_
    exact ⟨by rw [Shapes.size, if_pos (by omega)], Below.refl _ _⟩
  intro h1
  have h1' := of_decide_eq_false h1
  refine Lw.take (dj := 6) rfl rfl ?_
  refine Lw.val (Ex.move rfl) rfl ?_
  refine Lw.take (dj := 6) rfl rfl ?_
  refine Lw.val (Ex.lenS st_26 rfl (by assumption)) rfl ?_
  refine Lw.take (dj := 6) rfl rfl ?_
  refine Lw.val (Ex.gtr rfl rfl) rfl ?_
  refine Lw.val (Ex.pickF rfl rfl) rfl ?_
  refine Lw.nil ?_
  refine Pw.thenN (Cw.out ?_)
  refine Cw.cond rfl ?_ ?_
  · intro h2
    have h2' := of_decide_eq_true h2
    refine Cw.seq ?_
    refine Cw.region ?_
    refine Lw.val (Ex.assign rfl) rfl ?_
    refine Lw.nil ?_
    refine Pw.thenN (Cw.out ?_)
    refine Cw.ret ?_
    refine Pw.thenR ?_
    refine Pw.ret1 rfl rfl ?_
    exact ⟨by rw [Shapes.size, if_pos (by omega)], Below.refl _ _⟩
  intro h2
  have h2' := of_decide_eq_false h2
  refine Cw.skip ?_
  refine Pw.thenN (Cw.out ?_)
  refine Cw.seq ?_
  refine Cw.region ?_
  refine Lw.val (Ex.move rfl) rfl ?_
  refine Lw.callF rfl rfl (times_c v l w hv) ?_
  rintro _ w1 ⟨rfl, hB⟩
  refine Lw.val (Ex.assign rfl) rfl ?_
  refine Lw.nil ?_
  refine Pw.thenN (Cw.out ?_)
  refine Cw.ret ?_
  refine Pw.ret1 rfl rfl ?_
  exact ⟨by rw [Shapes.size, if_neg (by omega)], hB⟩

theorem check_c (v : Value) (l : List Int) (w : World) (hv : SlT (Value.int .i64) w v l) : Fnc Tryz.prog 32 [v] w (fun r w' => r = .bool (Shapes.ok l) ∧ Below w.heap.size w w') := by
  refine Fnc.enter (n := 6) Tryz.func32 (by kernel_rfl) rfl rfl rfl ?_
  refine Cw.seq ?_
  refine Cw.region ?_
  refine Lw.val (Ex.assign rfl) rfl ?_
  refine Lw.nil ?_
  refine Pw.thenN (Cw.out ?_)
  refine Cw.seq ?_
  refine Cw.region ?_
  refine Lw.val (Ex.move rfl) rfl ?_
  refine Lw.callF rfl rfl (size_c v l w hv) ?_
  rintro _ w1 ⟨rfl, hB⟩
  refine Lw.val (Ex.gtr rfl rfl) rfl ?_
  refine Lw.val (Ex.assign rfl) rfl ?_
  refine Lw.nil ?_
  refine Pw.thenN (Cw.out ?_)
  refine Cw.ret ?_
  refine Pw.ret1 rfl rfl ?_
  exact ⟨rfl, hB⟩

theorem backwards_c (s : List Int) (v : Value) (f : FuncId) (q : List Value) (w : World) (I : Nat → World → Prop) (F : World → Prop) (hs : Shapes.ok s = true) (hv : ∀ j w', I j w' → SlT (Value.int .i64) w' v s) (h0 : I 0 w)
    (hf : ∀ j w', j < s.length → I j w' → Fnc Tryz.prog f ([.int .i64 ((s.length - 1 - j : Nat) : Int), .int .i64 (Shapes.prod (s.drop (s.length - j)))] ++ q) w' (fun r w'' => (r = .bool true ∧ I (j + 1) w'') ∨ (r = .bool false ∧ F w''))) :
    Fnc Tryz.prog 149 [v, .func (.func f) #[] q.toArray] w (fun r w' => (r = .bool true ∧ I s.length w') ∨ (r = .bool false ∧ F w')) := by
  have hle := ((Shapes.ok_iff s).1 hs).1
  have hv0 := hv 0 w h0
  refine Fnc.enter (n := 25) Tryz.func149 (by kernel_rfl) rfl rfl rfl ?_
  refine Cw.seq ?_
  refine Cw.region ?_
  refine Lw.val (Ex.assign rfl) rfl ?_
  refine Lw.nil ?_
  refine Pw.thenN (Cw.out ?_)
  refine Cw.seq ?_
  refine Cw.region ?_
  refine Lw.val (Ex.assign rfl) rfl ?_
  refine Lw.nil ?_
  refine Pw.thenN (Cw.out ?_)
  refine Cw.seq ?_
  refine Cw.seq ?_
  refine Cw.region ?_
  refine Lw.val (Ex.move rfl) rfl ?_
  refine Lw.val (Ex.lenS st_26 rfl (by assumption)) rfl ?_
  refine Lw.val (Ex.subI rfl rfl (by omega)) rfl ?_
  refine Lw.val (Ex.assign rfl) rfl ?_
  refine Lw.nil ?_
  refine Pw.thenN (Cw.out ?_)
  refine Cw.block ?_
  refine Cw.know 5 (v' := .int .i64 (Shapes.prod (s.drop (s.length - 0)))) rfl (congrArg (Value.int .i64) (by rw [Nat.sub_zero, List.drop_length]; rfl)) ?_
  refine Cw.know 6 (v' := .int .i64 ((s.length : Int) - 1 - ((0 : Nat) : Int))) rfl (congrArg (Value.int .i64) (by omega)) ?_
  refine Cw.loop (S := Nat) (fun j => [(0, v), (1, .func (.func f) #[] q.toArray), (5, .int .i64 (Shapes.prod (s.drop (s.length - j)))), (6, .int .i64 ((s.length : Int) - 1 - (j : Int)))]) (fun j w' => j ≤ s.length ∧ I j w') (fun j => s.length - j) (0) ⟨rfl, rfl, rfl, rfl, trivial⟩ ?_ ?_
  · exact ⟨by omega, h0⟩
  rintro j w1 ⟨hj, hI⟩
  refine Cw.seq ?_
  refine Cw.seq ?_
  refine Cw.region ?_
  refine Lw.val (Ex.move rfl) rfl ?_
  refine Lw.val (Ex.geq rfl rfl) rfl ?_
  refine Lw.nil ?_
  refine Pw.thenN (Cw.out ?_)
  refine Cw.cond rfl ?_ ?_
  · intro h
    have hj' : j < s.length := by have := of_decide_eq_true h; omega
    have e : (s.length : Int) - 1 - (j : Int) = ((s.length - 1 - j : Nat) : Int) := by omega
    have e1 : s.length - 1 - j + 1 = s.length - j := by omega
    have e2 : s.length - (j + 1) = s.length - 1 - j := by omega
    rw [e]
    refine Cw.skip ?_
    refine Pw.thenN (Cw.out ?_)
    refine Cw.seq ?_
    refine Cw.block ?_
    refine Cw.seq ?_
    refine Cw.seq ?_
    refine Cw.region ?_
    refine Lw.val (Ex.move rfl) rfl ?_
    refine Lw.val (Ex.move rfl) rfl ?_
    refine Lw.val (Ex.move rfl) rfl ?_
    refine Lw.callV (p := []) rfl rfl rfl (hf j w1 hj' hI) ?_
    rintro _ w2 (⟨rfl, hI2⟩ | ⟨rfl, hF⟩)
    · refine Lw.val (Ex.not rfl) rfl ?_
      refine Lw.nil ?_
      refine Pw.thenN (Cw.out ?_)
      have hv2 := hv _ _ hI2
      have hp := Shapes.ok_prod hs (s.length - (j + 1))
      rw [e2, Shapes.prod_drop (k := s.length - 1 - j) (by omega), e1] at hp
      have hstep : Shapes.prod (s.drop (s.length - j)) * s.getD (s.length - 1 - j) default = Shapes.prod (s.drop (s.length - (j + 1))) := by
        rw [e2, Shapes.prod_drop (k := s.length - 1 - j) (by omega), e1, Int.mul_comm]
      refine Cw.condB rfl false (rfl) ?_
      refine Cw.skip ?_
      refine Pw.thenN (Cw.out ?_)
      refine Cw.region ?_
      refine Lw.val (Ex.move rfl) rfl ?_
      refine Lw.val (Ex.move rfl) rfl ?_
      refine Lw.val (Ex.move rfl) rfl ?_
      refine Lw.val (Ex.idxT st_26 rfl rfl (by assumption) _ rfl (by omega)) rfl ?_
      refine Lw.val (Ex.ldT (ag_3 _) rfl (by assumption) (by omega)) rfl ?_
      refine Lw.val (Ex.mulI rfl rfl (by rw [Int.mul_comm]; omega)) rfl ?_
      refine Lw.val (Ex.assign rfl) rfl ?_
      refine Lw.nil ?_
      refine Pw.blkN ?_
      refine Pw.thenN (Cw.out ?_)
      refine Cw.region ?_
      refine Lw.val (Ex.move rfl) rfl ?_
      refine Lw.val (Ex.subI rfl rfl (by omega)) rfl ?_
      refine Lw.val (Ex.assign rfl) rfl ?_
      refine Lw.nil ?_
      exact Pw.thenN (Pw.next (j + 1) ⟨rfl, rfl, congrArg (fun x => some (Value.int .i64 x)) hstep, congrArg (fun x => some (Value.int .i64 x)) (show ((s.length - 1 - j : Nat) : Int) - 1 = (s.length : Int) - 1 - ((j + 1 : Nat) : Int) by omega), trivial⟩ (⟨hj', hI2⟩) (by omega))
    · refine Lw.val (Ex.not rfl) rfl ?_
      refine Lw.nil ?_
      refine Pw.thenN (Cw.out ?_)
      refine Cw.condB rfl true (rfl) ?_
      refine Cw.seq ?_
      refine Cw.region ?_
      refine Lw.val (Ex.assign rfl) rfl ?_
      refine Lw.nil ?_
      refine Pw.thenN (Cw.out ?_)
      refine Cw.ret ?_
      refine Pw.thenR ?_
      refine Pw.blkR ?_
      refine Pw.thenR ?_
      refine Pw.thenR ?_
      refine Pw.blkR ?_
      refine Pw.thenR ?_
      refine Pw.ret1 rfl rfl ?_
      exact .inr ⟨rfl, hF⟩
  · intro h
    have hj' : j = s.length := by have := of_decide_eq_false h; omega
    subst hj'
    refine Cw.exit ?_
    refine Pw.thenE ?_
    refine Pw.thenE ?_
    refine Pw.blkHit ?_
    refine Pw.thenN (Cw.out ?_)
    refine Cw.seq ?_
    refine Cw.region ?_
    refine Lw.val (Ex.assign rfl) rfl ?_
    refine Lw.nil ?_
    refine Pw.thenN (Cw.out ?_)
    refine Cw.ret ?_
    refine Pw.ret1 rfl rfl ?_
    exact .inl ⟨rfl, hI⟩

/-! ### Places -/
/-- What the walk of Index has gathered. -/
structure IdxI (B : Nat) (W : World) (s t : List Int) (u v : Value) (pn pt ps : Nat) (j : Nat) (w : World) : Prop where
  low : Below B W w
  hn : Blk w pn 3 [.int .i64 (Shapes.idx (s.drop (s.length - j)) (t.drop (s.length - j)))]
  ht : Blk w pt 26 [v]
  hs : Blk w ps 26 [u]
  hin : Shapes.inn (s.drop (s.length - j)) (t.drop (s.length - j)) = true

theorem index_step (s t : List Int) (u v : Value) (W : World) (pn pt ps j : Nat) (w : World) (hs : Shapes.ok s = true) (hl : t.length = s.length) (hj : j < s.length) (hu : SlT (Value.int .i64) W u s) (hv : SlT (Value.int .i64) W v t) (hb : W.heap.size ≤ pn) (hd1 : pt ≠ pn) (hd2 : ps ≠ pn) (I : IdxI W.heap.size W s t u v pn pt ps j w) :
    Fnc Tryz.prog 151 [.int .i64 ((s.length - 1 - j : Nat) : Int), .int .i64 (Shapes.prod (s.drop (s.length - j))), .pointer (some ⟨pn, 0, none⟩), .pointer (some ⟨pt, 0, none⟩), .pointer (some ⟨ps, 0, none⟩)] w
      (fun r w' => (r = .bool true ∧ IdxI W.heap.size W s t u v pn pt ps (j + 1) w') ∨ (r = .bool false ∧ (Below W.heap.size W w' ∧ Shapes.inn s t = false))) := by
  obtain ⟨k, hk⟩ : ∃ k, k = s.length - 1 - j := ⟨_, rfl⟩
  have hks : k < s.length := by omega
  have hkt : k < t.length := by omega
  have e1 : s.length - j = k + 1 := by omega
  have e2 : s.length - (j + 1) = k := by omega
  obtain ⟨h1, h2, h3, h4, h5⟩ := I
  rw [e1] at h2 h5 ⊢
  rw [← hk]
  have hu1 := hu.bs h1
  have hv1 := hv.bs h1
  refine Fnc.enter (n := 32) Tryz.func151 (by kernel_rfl) rfl rfl rfl ?_
  refine Cw.seq ?_
  refine Cw.region ?_
  refine Lw.val (Ex.assign rfl) rfl ?_
  refine Lw.nil ?_
  refine Pw.thenN (Cw.out ?_)
  refine Cw.seq ?_
  refine Cw.tail 8 mixed (by kernel_rfl) ?_
  refine Qw.val (fun w1 hq => Ex.ldB (ag_3 _) rfl (Blk.bs (by assumption) hq) rfl) rfl ?_
  refine Qw.val (fun w1 hq => Ex.ldB (ag_26 _) rfl (Blk.bs (by assumption) hq) rfl) rfl ?_
  refine Qw.val (fun w1 hq => Ex.move rfl) rfl ?_
  refine Qw.val (fun w1 hq => Ex.idxT st_26 rfl rfl (Sl.bs (by assumption) hq) _ rfl (by omega)) rfl ?_
  refine Qw.val (fun w1 hq => Ex.ldT (ag_3 _) rfl (Sl.bs (by assumption) hq) (by omega)) rfl ?_
  refine Qw.val (fun w1 hq => Ex.move rfl) rfl ?_
  refine Qw.val (fun w1 hq => Ex.mul rfl rfl) rfl ?_
  refine Qw.val (fun w1 hq => Ex.add rfl rfl) rfl ?_
  refine Qw.done (fun w1 hq => ?_)
  refine Lw.unit (Xu.stB (sz_3 _) rfl rfl rfl (h2.bs hq) (by simp)) ?_
  rintro w2 ⟨hb2, hg, hs2⟩
  have hB1 := bt h1 hq
  have hB2 : Below W.heap.size W w2 := hB1.grown hg (below_size hB1) (by rintro _ ⟨⟩; exact hb)
  have h3 := (h3.bs hq).by hg (by simpa using hd1)
  have h4 := (h4.bs hq).by hg (by simpa using hd2)
  have hu2 := hu.bs hB2
  have hv2 := hv.bs hB2
  clear h1 hu1 hv1
  refine Lw.nil ?_
  refine Pw.thenN (Cw.out ?_)
  refine Cw.seq ?_
  refine Cw.quiet mixed (by kernel_rfl) ?_
  refine Qw.val (fun w1 hq => Ex.ldB (ag_26 _) rfl (Blk.bs (by assumption) hq) rfl) rfl ?_
  refine Qw.val (fun w1 hq => Ex.move rfl) rfl ?_
  refine Qw.val (fun w1 hq => Ex.idxT st_26 rfl rfl (Sl.bs (by assumption) hq) _ rfl (by omega)) rfl ?_
  refine Qw.val (fun w1 hq => Ex.ldT (ag_3 _) rfl (Sl.bs (by assumption) hq) (by omega)) rfl ?_
  refine Qw.val (fun w1 hq => Ex.geq rfl rfl) rfl ?_
  refine Qw.val (fun w1 hq => Ex.move rfl) rfl ?_
  refine Qw.part 21 rfl ?_ ?_
  · intro g1
    have g1' := of_decide_eq_true g1
    refine Qw.take (dj := 21) rfl rfl ?_
    refine Qw.val (fun w1 hq => Ex.ldB (ag_26 _) rfl (Blk.bs (by assumption) hq) rfl) rfl ?_
    refine Qw.take (dj := 21) rfl rfl ?_
    refine Qw.val (fun w1 hq => Ex.move rfl) rfl ?_
    refine Qw.take (dj := 21) rfl rfl ?_
    refine Qw.val (fun w1 hq => Ex.idxT st_26 rfl rfl (Sl.bs (by assumption) hq) _ rfl (by omega)) rfl ?_
    refine Qw.take (dj := 21) rfl rfl ?_
    refine Qw.val (fun w1 hq => Ex.ldT (ag_3 _) rfl (Sl.bs (by assumption) hq) (by omega)) rfl ?_
    refine Qw.take (dj := 21) rfl rfl ?_
    refine Qw.val (fun w1 hq => Ex.ldB (ag_26 _) rfl (Blk.bs (by assumption) hq) rfl) rfl ?_
    refine Qw.take (dj := 21) rfl rfl ?_
    refine Qw.val (fun w1 hq => Ex.move rfl) rfl ?_
    refine Qw.take (dj := 21) rfl rfl ?_
    refine Qw.val (fun w1 hq => Ex.idxT st_26 rfl rfl (Sl.bs (by assumption) hq) _ rfl (by omega)) rfl ?_
    refine Qw.take (dj := 21) rfl rfl ?_
    refine Qw.val (fun w1 hq => Ex.ldT (ag_3 _) rfl (Sl.bs (by assumption) hq) (by omega)) rfl ?_
    refine Qw.take (dj := 21) rfl rfl ?_
    refine Qw.val (fun w1 hq => Ex.lss rfl rfl) rfl ?_
    refine Qw.val (fun w1 hq => Ex.pickT rfl rfl) rfl ?_
    refine Qw.val (fun w1 hq => Ex.assign rfl) rfl ?_
    refine Qw.nil (fun w3 hq => ?_)
    refine Pw.thenN (Cw.out ?_)
    refine Cw.ret ?_
    refine Pw.ret1 rfl rfl ?_
    have hB3 := bt hB2 hq
    by_cases g2 : t.getD k default < s.getD k default
    · refine .inl ⟨congrArg Value.bool (decide_eq_true g2), hB3, ?_, h3.bs hq, h4.bs hq, ?_⟩
      · rw [e2, Shapes.idx_drop hks hl]
        have h5i := Shapes.idx_lt (Shapes.good_drop ((Shapes.ok_iff s).1 hs).2.1 (k + 1)) h5
        have hp := Shapes.ok_prod hs (k + 1)
        have hp0 := Shapes.ok_prod hs k
        rw [Shapes.prod_drop hks] at hp0
        have hm0 : 0 ≤ t.getD k default * Shapes.prod (s.drop (k + 1)) := Int.mul_nonneg g1' (by omega)
        have hm1 : (t.getD k default + 1) * Shapes.prod (s.drop (k + 1)) ≤ s.getD k default * Shapes.prod (s.drop (k + 1)) := Int.mul_le_mul_of_nonneg_right (by omega) (by omega)
        rw [Int.add_mul] at hm1
        have := hb2.bs hq
        rw [IntWalk.i64_in (t.getD k default * _) (by omega), IntWalk.i64_in _ (by omega), Int.add_comm] at this
        exact this
      · rw [e2, Shapes.inn_drop hks hl, h5, decide_eq_true g1', decide_eq_true g2]; rfl
    · refine .inr ⟨congrArg Value.bool (decide_eq_false g2), hB3, ?_⟩
      cases hi : Shapes.inn s t with
      | false => rfl
      | true => exact absurd (Shapes.inn_at hi hks).2 g2
  · intro g1
    have g1' := of_decide_eq_false g1
    refine Qw.pass (dj := 21) rfl rfl rfl rfl ?_
    refine Qw.pass (dj := 21) rfl rfl rfl rfl ?_
    refine Qw.pass (dj := 21) rfl rfl rfl rfl ?_
    refine Qw.pass (dj := 21) rfl rfl rfl rfl ?_
    refine Qw.pass (dj := 21) rfl rfl rfl rfl ?_
    refine Qw.pass (dj := 21) rfl rfl rfl rfl ?_
    refine Qw.pass (dj := 21) rfl rfl rfl rfl ?_
    refine Qw.pass (dj := 21) rfl rfl rfl rfl ?_
    refine Qw.pass (dj := 21) rfl rfl rfl rfl ?_
    refine Qw.val (fun w1 hq => Ex.pickF rfl rfl) rfl ?_
    refine Qw.val (fun w1 hq => Ex.assign rfl) rfl ?_
    refine Qw.nil (fun w3 hq => ?_)
    refine Pw.thenN (Cw.out ?_)
    refine Cw.ret ?_
    refine Pw.ret1 rfl rfl ?_
    refine .inr ⟨rfl, bt hB2 hq, ?_⟩
    cases hi : Shapes.inn s t with
    | false => rfl
    | true => exact absurd (Shapes.inn_at hi hks).1 g1'

theorem index_c (s t : List Int) (u v : Value) (W : World) (hu : SlT (Value.int .i64) W u s) (hv : SlT (Value.int .i64) W v t) :
    Fnc Tryz.prog 114 [u, v] W (fun r w' => r = .tuple #[.int .i64 (Shapes.index s t).1, .int .i64 (Shapes.index s t).2] ∧ Below W.heap.size W w') := by
  refine Fnc.enter (n := 22) Tryz.func114 (by kernel_rfl) rfl rfl rfl ?_
  refine Cw.seq ?_
  refine Cw.region ?_
  refine Lw.valW (Xw.box rfl hu.one) rfl ?_
  rintro _ w1 ⟨rfl, b1, hB1, s1⟩
  refine Lw.valW (Xw.box rfl hv.one) rfl ?_
  rintro _ w2 ⟨rfl, b2, hB2, s2⟩
  have b1 := b1.bs hB2
  have hB2' := bt hB1 hB2
  have hu2 := hu.bs hB2'
  refine Lw.val (Ex.assign rfl) rfl ?_
  refine Lw.val (Ex.assign rfl) rfl ?_
  refine Lw.nil ?_
  refine Pw.thenN (Cw.out ?_)
  refine Cw.seq ?_
  refine Cw.seq ?_
  refine Cw.region ?_
  refine Lw.val (Ex.ldB (ag_26 _) rfl (by assumption) rfl) rfl ?_
  refine Lw.callF rfl rfl (check_c u s w2 hu2) ?_
  rintro _ w3 ⟨rfl, hB3⟩
  have hB3' := bt hB2' hB3
  have b1 := b1.bs hB3
  have b2 := b2.bs hB3
  have hu3 := hu.bs hB3'
  have hv3 := hv.bs hB3'
  refine Lw.val (Ex.not rfl) rfl ?_
  refine Lw.val (Ex.move rfl) rfl ?_
  refine Lw.part 10 rfl ?_ ?_
  · intro g
    have hno : Shapes.ok s = false := by simpa using g
    refine Lw.pass (dj := 10) rfl rfl rfl rfl ?_
    refine Lw.pass (dj := 10) rfl rfl rfl rfl ?_
    refine Lw.pass (dj := 10) rfl rfl rfl rfl ?_
    refine Lw.pass (dj := 10) rfl rfl rfl rfl ?_
    refine Lw.pass (dj := 10) rfl rfl rfl rfl ?_
    refine Lw.val (Ex.pickT rfl rfl) rfl ?_
    refine Lw.nil ?_
    refine Pw.thenN (Cw.out ?_)
    refine Cw.condT rfl ?_
    refine Cw.seq ?_
    refine Cw.region ?_
    refine Lw.val (Ex.assign rfl) rfl ?_
    refine Lw.val (Ex.assign rfl) rfl ?_
    refine Lw.nil ?_
    refine Pw.thenN (Cw.out ?_)
    refine Cw.ret ?_
    refine Pw.thenR ?_
    refine Pw.ret2 rfl rfl rfl ?_
    exact ⟨by simp [Shapes.index, hno], hB3'⟩
  intro g
  have hok : Shapes.ok s = true := by simpa using g
  refine Lw.take (dj := 10) rfl rfl ?_
  refine Lw.val (Ex.ldB (ag_26 _) rfl (by assumption) rfl) rfl ?_
  refine Lw.take (dj := 10) rfl rfl ?_
  refine Lw.val (Ex.lenS st_26 rfl (by assumption)) rfl ?_
  refine Lw.take (dj := 10) rfl rfl ?_
  refine Lw.val (Ex.ldB (ag_26 _) rfl (by assumption) rfl) rfl ?_
  refine Lw.take (dj := 10) rfl rfl ?_
  refine Lw.val (Ex.lenS st_26 rfl (by assumption)) rfl ?_
  refine Lw.take (dj := 10) rfl rfl ?_
  refine Lw.val (Ex.neq rfl rfl) rfl ?_
  refine Lw.val (Ex.pickF rfl rfl) rfl ?_
  refine Lw.nil ?_
  refine Pw.thenN (Cw.out ?_)
  refine Cw.cond rfl ?_ ?_
  · intro g2
    refine Cw.seq ?_
    refine Cw.region ?_
    refine Lw.val (Ex.assign rfl) rfl ?_
    refine Lw.val (Ex.assign rfl) rfl ?_
    refine Lw.nil ?_
    refine Pw.thenN (Cw.out ?_)
    refine Cw.ret ?_
    refine Pw.thenR ?_
    refine Pw.ret2 rfl rfl rfl ?_
    refine ⟨?_, hB3'⟩
    have hn : Shapes.inn s t = false := by
      cases hi : Shapes.inn s t with
      | false => rfl
      | true => have := Shapes.inn_length hi; simp at g2; omega
    simp [Shapes.index, hn]
  intro g2
  have hl : t.length = s.length := by simp at g2; omega
  refine Cw.skip ?_
  refine Pw.thenN (Cw.out ?_)
  refine Cw.seq ?_
  refine Cw.region ?_
  refine Lw.valW (Xw.new it_3) rfl ?_
  rintro _ w4 ⟨rfl, b4, hB4, s4⟩
  refine Lw.unit (Xu.stB (sz_3 _) rfl rfl rfl b4 (by simp)) ?_
  rintro w5 ⟨b5, hg5, s5⟩
  have z3 := hB3.size
  have hB5 : Below W.heap.size W w5 := (bt hB3' hB4).grown hg5 (below_size (bt hB3' hB4)) (by rintro _ ⟨⟩; exact below_size hB3')
  have b1 := (b1.bs hB4).by hg5 (by simp; omega)
  have b2 := (b2.bs hB4).by hg5 (by simp; omega)
  refine Lw.nil ?_
  refine Pw.thenN (Cw.out ?_)
  refine Cw.seq ?_
  refine Cw.seq ?_
  refine Cw.region ?_
  refine Lw.val (Ex.ldB (ag_26 _) rfl (by assumption) rfl) rfl ?_
  refine Lw.val (Ex.mkFn (vs := []) rfl rfl) rfl ?_
  refine Lw.callF rfl rfl (backwards_c s u _ _ w5 (IdxI W.heap.size W s t u v w3.heap.size w1.heap.size W.heap.size) (fun w' => Below W.heap.size W w' ∧ Shapes.inn s t = false) hok (fun j w' h => hu.bs h.low) ⟨hB5, by simpa [Shapes.idx] using b5, b2, b1, by rw [Nat.sub_zero, List.drop_length, ← hl, List.drop_length]; rfl⟩ (fun j w' hj I => index_step s t u v W _ _ _ j w' hok hl hj hu hv (below_size hB3') (by omega) (by omega) I)) ?_
  rintro _ w6 (⟨rfl, I⟩ | ⟨rfl, hB6, hn⟩)
  · refine Lw.val (Ex.not rfl) rfl ?_
    refine Lw.nil ?_
    refine Pw.thenN (Cw.out ?_)
    refine Cw.condB rfl false (rfl) ?_
    refine Cw.skip ?_
    refine Pw.thenN (Cw.out ?_)
    refine Cw.seq ?_
    refine Cw.region ?_
    refine Lw.val (Ex.ldB (ag_3 _) rfl I.hn rfl) rfl ?_
    refine Lw.val (Ex.assign rfl) rfl ?_
    refine Lw.val (Ex.assign rfl) rfl ?_
    refine Lw.nil ?_
    refine Pw.thenN (Cw.out ?_)
    refine Cw.ret ?_
    refine Pw.ret2 rfl rfl rfl ?_
    have hi := I.hin
    have hn := I.hn
    rw [Nat.sub_self, List.drop_zero, List.drop_zero] at hi
    refine ⟨?_, I.low⟩
    rw [Nat.sub_self, List.drop_zero, List.drop_zero]
    simp [Shapes.index, hok, hi]
  · refine Lw.val (Ex.not rfl) rfl ?_
    refine Lw.nil ?_
    refine Pw.thenN (Cw.out ?_)
    refine Cw.condB rfl true (rfl) ?_
    refine Cw.seq ?_
    refine Cw.region ?_
    refine Lw.val (Ex.assign rfl) rfl ?_
    refine Lw.val (Ex.assign rfl) rfl ?_
    refine Lw.nil ?_
    refine Pw.thenN (Cw.out ?_)
    refine Cw.ret ?_
    refine Pw.thenR ?_
    refine Pw.ret2 rfl rfl rfl ?_
    exact ⟨by simp [Shapes.index, hn], hB6⟩

/-- What the walk of At has laid out. -/
structure AtI (W : World) (s : List Int) (u v : Value) (i : Int) (ba pi ps pa : Nat) (j : Nat) (w : World) : Prop where
  low : Below W.heap.size W w
  hi : Blk w pi 3 [.int .i64 i]
  hs : Blk w ps 26 [u]
  ha : Blk w pa 26 [v]
  ho : w.ownsRow ba 3 1 v s.length ((List.replicate (s.length - j) 0 ++ (Shapes.place s i).drop (s.length - j)).map (Value.int .i64))

theorem at_step (s : List Int) (u v : Value) (i : Int) (W : World) (ba pi ps pa j : Nat) (w : World) (hs : Shapes.ok s = true) (hi0 : 0 ≤ i ∧ i ≤ 9223372036854775807) (hj : j < s.length) (hu : SlT (Value.int .i64) W u s)
    (hba : W.heap.size ≤ ba) (hd1 : v.ownBlock ≠ some pi) (hd2 : v.ownBlock ≠ some ps) (hd3 : v.ownBlock ≠ some pa) (I : AtI W s u v i ba pi ps pa j w) :
    Fnc Tryz.prog 150 [.int .i64 ((s.length - 1 - j : Nat) : Int), .int .i64 (Shapes.prod (s.drop (s.length - j))), .pointer (some ⟨pi, 0, none⟩), .pointer (some ⟨ps, 0, none⟩), .pointer (some ⟨pa, 0, none⟩)] w
      (fun r w' => (r = .bool true ∧ AtI W s u v i ba pi ps pa (j + 1) w') ∨ (r = .bool false ∧ False)) := by
  obtain ⟨k, hk⟩ : ∃ k, k = s.length - 1 - j := ⟨_, rfl⟩
  have hks : k < s.length := by omega
  have e1 : s.length - j = k + 1 := by omega
  have e2 : s.length - (j + 1) = k := by omega
  obtain ⟨h1, h2, h3, h4, h5⟩ := I
  rw [e1] at h5 ⊢
  rw [← hk]
  have hu1 := hu.bs h1
  have hp := Shapes.ok_prod hs (k + 1)
  have hsh := (own_sl h5).shp
  have hlen : ((List.replicate (k + 1) 0 ++ (Shapes.place s i).drop (k + 1)).map (Value.int .i64)).length = s.length := by simp [Shapes.place_length]; omega
  have hgd := (Shapes.ok_iff s).1 hs
  have hsk : 1 ≤ s.getD k default := by
    have := hgd.2.1 s[k] (List.getElem_mem hks)
    simp [hks]; omega
  refine Fnc.enter (n := 19) Tryz.func150 (by kernel_rfl) rfl rfl rfl ?_
  refine Cw.seq ?_
  refine Cw.region ?_
  refine Lw.val (Ex.assign rfl) rfl ?_
  refine Lw.nil ?_
  refine Pw.thenN (Cw.out ?_)
  refine Cw.seq ?_
  refine Cw.tail 11 mixed (by kernel_rfl) ?_
  refine Qw.val (fun w1 hq => Ex.ldB (ag_26 _) rfl (Blk.bs (by assumption) hq) rfl) rfl ?_
  refine Qw.val (fun w1 hq => Ex.move rfl) rfl ?_
  refine Qw.val (fun w1 hq => Ex.ldB (ag_3 _) rfl (Blk.bs (by assumption) hq) rfl) rfl ?_
  refine Qw.val (fun w1 hq => Ex.move rfl) rfl ?_
  refine Qw.val (fun w1 hq => Ex.quoI rfl rfl (by omega) (by omega)) rfl ?_
  refine Qw.val (fun w1 hq => Ex.ldB (ag_26 _) rfl (Blk.bs (by assumption) hq) rfl) rfl ?_
  refine Qw.val (fun w1 hq => Ex.move rfl) rfl ?_
  refine Qw.val (fun w1 hq => Ex.idxT st_26 rfl rfl (Sl.bs (by assumption) hq) _ rfl (by omega)) rfl ?_
  refine Qw.val (fun w1 hq => Ex.ldT (ag_3 _) rfl (Sl.bs (by assumption) hq) (by omega)) rfl ?_
  refine Qw.val (fun w1 hq => Ex.remI rfl rfl (Int.ediv_nonneg hi0.1 (by omega)) (by omega)) rfl ?_
  refine Qw.val (fun w1 hq => Ex.idxS st_26 rfl rfl hsh k rfl hks) rfl ?_
  refine Qw.done (fun w1 hq => ?_)
  have ho1 := own_bs h5 hq
  refine Lw.unit (Xu.stO (sz_3 _) rfl rfl rfl ho1 (by rw [hlen]; exact hks)) ?_
  rintro w2 ⟨ho2, hg, hs2⟩
  have hB1 := bt h1 hq
  have hB2 : Below W.heap.size W w2 := hB1.grown hg (below_size hB1) (fun b hb => Nat.le_trans hba (own_block ho1 b hb).1)
  refine Lw.nil ?_
  refine Pw.thenN (Cw.out ?_)
  refine Cw.seq ?_
  refine Cw.region ?_
  refine Lw.val (Ex.assign rfl) rfl ?_
  refine Lw.nil ?_
  refine Pw.thenN (Cw.out ?_)
  refine Cw.ret ?_
  refine Pw.ret1 rfl rfl ?_
  refine .inl ⟨rfl, hB2, (h2.bs hq).by hg (Ne.symm hd1), (h3.bs hq).by hg (Ne.symm hd2), (h4.bs hq).by hg (Ne.symm hd3), ?_⟩
  have hkp : k < (Shapes.place s i).length := by rw [Shapes.place_length]; exact hks
  have e3 : (List.replicate (k + 1) 0 ++ (Shapes.place s i).drop (k + 1)).set k (i / Shapes.prod (s.drop (k + 1)) % s.getD k default) = List.replicate k 0 ++ (Shapes.place s i).drop k := by
    rw [← Shapes.place_at hks, List.drop_eq_getElem_cons hkp, List.replicate_succ', List.append_assoc, List.set_append_right _ _ (by simp)]
    simp [hkp]
  rw [e2, ← e3, List.map_set]
  exact ho2

/-- Memory of one's own. -/
def Fresh (W w' : World) (x : Value) (l : List Int) : Prop := ∃ b, W.heap.size ≤ b ∧ w'.ownsRow b 3 1 x l.length (l.map (Value.int .i64)) ∧ (x = .slice none 0 0 ∨ x = .slice (some ⟨b, 0, none⟩) l.length l.length)
theorem Fresh.sl {W w' : World} {x : Value} {l : List Int} (h : Fresh W w' x l) : SlT (Value.int .i64) w' x l := by
  obtain ⟨b, _, h, _⟩ := h
  exact own_sl h
theorem Fresh.nil (W w' : World) : Fresh W w' (.slice none 0 0) [] := ⟨W.heap.size, Nat.le_refl _, World.ownsRow_nil _ _ _ _, .inl rfl⟩

theorem at_c (s : List Int) (u : Value) (i : Int) (W : World) (hu : SlT (Value.int .i64) W u s) :
    Fnc Tryz.prog 113 [u, .int .i64 i] W (fun r w' => ∃ x, r = .tuple #[x, .int .i64 (Shapes.ate s i)] ∧ Fresh W w' x (Shapes.atl s i) ∧ Below W.heap.size W w') := by
  have hsz := Shapes.size_le s
  refine Fnc.enter (n := 22) Tryz.func113 (by kernel_rfl) rfl rfl rfl ?_
  refine Cw.seq ?_
  refine Cw.region ?_
  refine Lw.valW (Xw.box rfl hu.one) rfl ?_
  rintro _ w1 ⟨rfl, b1, hB1, s1⟩
  refine Lw.valW (Xw.box rfl rfl) rfl ?_
  rintro _ w2 ⟨rfl, b2, hB2, s2⟩
  have b1 := b1.bs hB2
  have hB2' := bt hB1 hB2
  have hu2 := hu.bs hB2'
  refine Lw.val (Ex.assign rfl) rfl ?_
  refine Lw.val (Ex.assign rfl) rfl ?_
  refine Lw.nil ?_
  refine Pw.thenN (Cw.out ?_)
  refine Cw.seq ?_
  refine Cw.seq ?_
  refine Cw.quiet mixed (by kernel_rfl) ?_
  refine Qw.val (fun w1 hq => Ex.ldB (ag_3 _) rfl (Blk.bs (by assumption) hq) rfl) rfl ?_
  refine Qw.val (fun w1 hq => Ex.lss rfl rfl) rfl ?_
  refine Qw.val (fun w1 hq => Ex.move rfl) rfl ?_
  refine Qw.part 9 rfl ?_ ?_
  · intro g
    have g' := of_decide_eq_true g
    refine Qw.pass (dj := 9) rfl rfl rfl rfl ?_
    refine Qw.pass (dj := 9) rfl rfl rfl rfl ?_
    refine Qw.pass (dj := 9) rfl rfl rfl rfl ?_
    refine Qw.pass (dj := 9) rfl rfl rfl rfl ?_
    refine Qw.val (fun w1 hq => Ex.pickT rfl rfl) rfl ?_
    refine Qw.nil (fun w3 hq => ?_)
    refine Pw.thenN (Cw.out ?_)
    refine Cw.condT rfl ?_
    refine Cw.seq ?_
    refine Cw.region ?_
    refine Lw.val (Ex.assign rfl) rfl ?_
    refine Lw.val (Ex.assign rfl) rfl ?_
    refine Lw.nil ?_
    refine Pw.thenN (Cw.out ?_)
    refine Cw.ret ?_
    refine Pw.thenR ?_
    refine Pw.ret2 rfl rfl rfl ?_
    exact ⟨_, by rw [Shapes.ate, if_neg (by omega)], by rw [Shapes.atl, if_neg (by omega)]; exact Fresh.nil _ _, bt hB2' hq⟩
  intro g
  have g' := of_decide_eq_false g
  refine Qw.take (dj := 9) rfl rfl ?_
  refine Qw.val (fun w1 hq => Ex.ldB (ag_3 _) rfl (Blk.bs (by assumption) hq) rfl) rfl ?_
  refine Qw.take (dj := 9) rfl rfl ?_
  refine Qw.val (fun w1 hq => Ex.ldB (ag_26 _) rfl (Blk.bs (by assumption) hq) rfl) rfl ?_
  refine Qw.take (dj := 9) rfl rfl ?_
  refine Qw.callF rfl rfl (fun w1 hq => (size_c u s w1 (hu2.bs hq)).q hq) ?_
  refine Qw.take (dj := 9) rfl rfl ?_
  refine Qw.val (fun w1 hq => Ex.geq rfl rfl) rfl ?_
  refine Qw.val (fun w1 hq => Ex.pickF rfl rfl) rfl ?_
  refine Qw.nil (fun w3 hq => ?_)
  refine Pw.thenN (Cw.out ?_)
  have hB3 := bt hB2' hq
  refine Cw.cond rfl ?_ ?_
  · intro g2
    have g2' := of_decide_eq_true g2
    refine Cw.seq ?_
    refine Cw.region ?_
    refine Lw.val (Ex.assign rfl) rfl ?_
    refine Lw.val (Ex.assign rfl) rfl ?_
    refine Lw.nil ?_
    refine Pw.thenN (Cw.out ?_)
    refine Cw.ret ?_
    refine Pw.thenR ?_
    refine Pw.ret2 rfl rfl rfl ?_
    exact ⟨_, by rw [Shapes.ate, if_neg (by omega)], by rw [Shapes.atl, if_neg (by omega)]; exact Fresh.nil _ _, hB3⟩
  intro g2
  have g2' := of_decide_eq_false g2
  have hok : Shapes.ok s = true := decide_eq_true (by omega)
  have hle := ((Shapes.ok_iff s).1 hok).1
  have b1 := b1.bs hq
  have b2 := b2.bs hq
  have hu3 := hu.bs hB3
  refine Cw.skip ?_
  refine Pw.thenN (Cw.out ?_)
  refine Cw.seq ?_
  refine Cw.region ?_
  refine Lw.val (Ex.ldB (ag_26 _) rfl (by assumption) rfl) rfl ?_
  refine Lw.val (Ex.lenS st_26 rfl (by assumption)) rfl ?_
  refine Lw.valW (Xw.make st_26 it_3 rfl rfl rfl (Nat.le_refl _) (by omega) (by omega)) rfl ?_
  rintro x w4 ⟨ho4, hx, hB4, s4⟩
  have b1 := b1.bs hB4
  have b2 := b2.bs hB4
  refine Lw.valW (Xw.new it_26) rfl ?_
  rintro _ w5 ⟨rfl, b5, hB5, s5⟩
  have b1 := b1.bs hB5
  have b2 := b2.bs hB5
  have ho5 := own_bs ho4 hB5
  refine Lw.unit (Xu.stB (sz_26 _) rfl rfl (own_sl ho4).one' b5 (by simp)) ?_
  rintro w6 ⟨b6, hg6, s6⟩
  have z3 := hB3.size
  have z3' := hq.size
  have z5 := (bt hB4 hB5).size
  have hB5' := bt hB3 (bt hB4 hB5)
  have hB6 : Below W.heap.size W w6 := hB5'.grown hg6 (below_size hB5') (by rintro _ ⟨⟩; omega)
  have b1 := b1.by hg6 (by simp; omega)
  have b2 := b2.by hg6 (by simp; omega)
  have ho6 := ho5.kept hg6 (.inr (by rw [hx]; simp [Value.ownBlock]; omega))
  have hrep : (List.replicate s.length [Value.int .i64 0]).flatten = (List.replicate (s.length - 0) 0 ++ (Shapes.place s i).drop (s.length - 0)).map (Value.int .i64) := by
    rw [Nat.sub_zero, List.drop_of_length_le (by rw [Shapes.place_length]; exact Nat.le_refl _)]
    generalize s.length = n
    induction n with
    | zero => rfl
    | succ n ih => simp [List.replicate_succ]
  rw [hrep] at ho6
  have hu6 := hu.bs hB6
  refine Lw.nil ?_
  refine Pw.thenN (Cw.out ?_)
  refine Cw.seq ?_
  refine Cw.region ?_
  refine Lw.val (Ex.ldB (ag_26 _) rfl (by assumption) rfl) rfl ?_
  refine Lw.val (Ex.mkFn (vs := []) rfl rfl) rfl ?_
  refine Lw.callF rfl rfl (backwards_c s u _ _ w6 (AtI W s u x i w3.heap.size w1.heap.size W.heap.size w4.heap.size) (fun _ => False) hok (fun j w' h => hu.bs h.low) ⟨hB6, b2, b1, b6, ho6⟩ (fun j w' hj I => at_step s u x i W _ _ _ _ j w' hok (by omega) hj hu (by omega) (by rw [hx]; simp [Value.ownBlock]; omega) (by rw [hx]; simp [Value.ownBlock]; omega) (by rw [hx]; simp [Value.ownBlock]; omega) I)) ?_
  rintro _ w7 (⟨rfl, I⟩ | ⟨rfl, hF⟩)
  · refine Lw.nil ?_
    refine Pw.thenN (Cw.out ?_)
    refine Cw.seq ?_
    refine Cw.region ?_
    refine Lw.val (Ex.ldB (ag_26 _) rfl I.ha rfl) rfl ?_
    refine Lw.val (Ex.assign rfl) rfl ?_
    refine Lw.val (Ex.assign rfl) rfl ?_
    refine Lw.nil ?_
    refine Pw.thenN (Cw.out ?_)
    refine Cw.ret ?_
    refine Pw.ret2 rfl rfl rfl ?_
    have ho := I.ho
    rw [Nat.sub_self, List.drop_zero] at ho
    have hl := Shapes.place_length s i
    refine ⟨_, by rw [Shapes.ate, if_pos (by omega)], ?_, I.low⟩
    rw [Shapes.atl, if_pos (by omega)]
    refine ⟨w3.heap.size, z3, ?_, .inr (by rw [hx, hl])⟩
    rw [hl]; exact ho
  · exact hF.elim
end Go.Proofs.YtkhndfaampkbnaaGreatDoor
