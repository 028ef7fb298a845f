/- Contracts: sizes of shapes and places in them. -/
import Derived.Test.YtiaojbbgjlpikaaFacts
import Derived.Test.YtiaojbbgjlpikaaShp
namespace Go.Proofs.Ytiaojbbgjlpikaa
open Go Go.Dd Go.RowKit
set_option maxRecDepth 100000

theorem tim_drop {l : List Int} {i : Nat} {n : Int} (h : i < l.length) : Shapes.tim n (l.drop i) = (if l.getD i default < 1 ∨ 64 < l.getD i default then 0 else if 4096 < n * l.getD i default then 0 else Shapes.tim (n * l.getD i default) (l.drop (i + 1))) := by
  rw [List.drop_eq_getElem_cons h]; simp [Shapes.tim, h]

theorem times_c (v : Value) (l : List Int) (w : World) (hv : SlT (Value.int .i64) w v l) : Fnc Try.prog 71 [v] w (fun r w' => r = .int .i64 (Shapes.tim 1 l) ∧ Below w.heap.size w w') := by
  have hle := hv.le
  refine Fnc.enter (n := 25) Try.func71 (by kernel_rfl) rfl rfl rfl ?_
  refine Cw.seq ?_
  refine Cw.region ?_
  refine Lw.val (Ex.assign rfl) rfl ?_
  refine Lw.nil ?_
  refine Pw.thenN (Cw.out ?_)
  refine Cw.seq ?_
  refine Cw.region ?_
  refine Lw.val (Ex.assign rfl) rfl ?_
  refine Lw.nil ?_
  refine Pw.thenN (Cw.out ?_)
  refine Cw.seq ?_
  refine Cw.seq ?_
  refine Cw.region ?_
  refine Lw.val (Ex.move rfl) rfl ?_
  refine Lw.val (Ex.lenS st_33 rfl (by assumption)) rfl ?_
  refine Lw.val (Ex.move rfl) rfl ?_
  refine Lw.nil ?_
  refine Pw.thenN (Cw.out ?_)
  refine Cw.block ?_
  refine Cw.loop (S := (Nat × Int)) (fun s => [(3, .int .i64 s.2), (6, v), (7, .int .i64 (l.length : Int)), (8, .int .i64 (s.1 : Int))]) (fun s w' => s.1 ≤ l.length ∧ (1 ≤ s.2 ∧ s.2 ≤ 4096) ∧ Shapes.tim s.2 (l.drop s.1) = Shapes.tim 1 l ∧ w' = w) (fun s => l.length - s.1) ((0, 1)) ⟨rfl, rfl, rfl, rfl, trivial⟩ ?_ ?_
  · exact ⟨by simp, by simp, by simp, rfl⟩
  rintro ⟨i, n⟩ w1 ⟨hi, hn, ht, rfl⟩
  dsimp only at hi hn ht ⊢
  refine Cw.seq ?_
  refine Cw.region ?_
  refine Lw.val (Ex.lss rfl rfl) rfl ?_
  refine Lw.nil ?_
  refine Pw.thenN (Cw.out ?_)
  refine Cw.seq ?_
  refine Cw.cond rfl ?_ ?_
  · intro h
    have hi' : i < l.length := by simp at h; omega
    rw [tim_drop hi'] at ht
    refine Cw.skip ?_
    refine Pw.thenN (Cw.out ?_)
    refine Cw.seq ?_
    refine Cw.block ?_
    refine Cw.seq ?_
    refine Cw.region ?_
    refine Lw.val (Ex.idxT st_33 rfl rfl (by assumption) _ rfl (by omega)) rfl ?_
    refine Lw.val (Ex.ldT (ag_3 _) rfl (by assumption) (by omega)) rfl ?_
    refine Lw.val (Ex.assign rfl) rfl ?_
    refine Lw.nil ?_
    refine Pw.thenN (Cw.out ?_)
    refine Cw.seq ?_
    refine Cw.seq ?_
    refine Cw.region ?_
    refine Lw.val (Ex.move rfl) rfl ?_
    refine Lw.val (Ex.lss rfl rfl) rfl ?_
    refine Lw.val (Ex.move rfl) rfl ?_
    generalize l.getD i default = x at ht ⊢
    refine Lw.part 14 rfl ?_ ?_
    · intro h1
      have h1' := of_decide_eq_true h1
      refine Lw.pass (dj := 14) rfl rfl rfl rfl ?_
      refine Lw.pass (dj := 14) rfl rfl rfl rfl ?_
      refine Lw.val (Ex.pickT rfl rfl) rfl ?_
      refine Lw.nil ?_
      refine Pw.thenN (Cw.out ?_)
      refine Cw.condT rfl ?_
      refine Cw.seq ?_
      refine Cw.region ?_
      refine Lw.val (Ex.assign rfl) rfl ?_
      refine Lw.nil ?_
      refine Pw.thenN (Cw.out ?_)
      refine Cw.ret ?_
      refine Pw.thenR ?_
      refine Pw.blkR ?_
      refine Pw.thenR ?_
      refine Pw.thenR ?_
      refine Pw.blkR ?_
      refine Pw.thenR ?_
      refine Pw.ret1 rfl rfl ?_
      refine ⟨?_, Below.refl _ _⟩
      rw [← ht, if_pos (.inl h1')]
    intro h1
    have h1' := of_decide_eq_false h1
    refine Lw.take (dj := 14) rfl rfl ?_
    refine Lw.val (Ex.move rfl) rfl ?_
    refine Lw.take (dj := 14) rfl rfl ?_
    refine Lw.val (Ex.gtr rfl rfl) rfl ?_
    refine Lw.val (Ex.pickF rfl rfl) rfl ?_
    refine Lw.nil ?_
    refine Pw.thenN (Cw.out ?_)
    refine Cw.cond rfl ?_ ?_
    · intro h2
      have h2' := of_decide_eq_true h2
      refine Cw.seq ?_
      refine Cw.region ?_
      refine Lw.val (Ex.assign rfl) rfl ?_
      refine Lw.nil ?_
      refine Pw.thenN (Cw.out ?_)
      refine Cw.ret ?_
      refine Pw.thenR ?_
      refine Pw.blkR ?_
      refine Pw.thenR ?_
      refine Pw.thenR ?_
      refine Pw.blkR ?_
      refine Pw.thenR ?_
      refine Pw.ret1 rfl rfl ?_
      refine ⟨?_, Below.refl _ _⟩
      rw [← ht, if_pos (.inr h2')]
    intro h2
    have h2' := of_decide_eq_false h2
    have hx : n * 1 ≤ n * x ∧ n * x ≤ 4096 * 64 := ⟨Int.mul_le_mul_of_nonneg_left (by omega) (by omega), Int.mul_le_mul hn.2 (by omega) (by omega) (by omega)⟩
    rw [if_neg (by omega)] at ht
    refine Cw.skip ?_
    refine Pw.thenN (Cw.out ?_)
    refine Cw.seq ?_
    refine Cw.region ?_
    refine Lw.val (Ex.move rfl) rfl ?_
    refine Lw.val (Ex.move rfl) rfl ?_
    refine Lw.val (Ex.mulI rfl rfl (by omega)) rfl ?_
    refine Lw.val (Ex.assign rfl) rfl ?_
    refine Lw.nil ?_
    refine Pw.thenN (Cw.out ?_)
    refine Cw.seq ?_
    refine Cw.region ?_
    refine Lw.val (Ex.move rfl) rfl ?_
    refine Lw.val (Ex.gtr rfl rfl) rfl ?_
    refine Lw.nil ?_
    refine Pw.thenN (Cw.out ?_)
    refine Cw.cond rfl ?_ ?_
    · intro h3
      have h3' := of_decide_eq_true h3
      refine Cw.seq ?_
      refine Cw.region ?_
      refine Lw.val (Ex.assign rfl) rfl ?_
      refine Lw.nil ?_
      refine Pw.thenN (Cw.out ?_)
      refine Cw.ret ?_
      refine Pw.blkR ?_
      refine Pw.thenR ?_
      refine Pw.thenR ?_
      refine Pw.blkR ?_
      refine Pw.thenR ?_
      refine Pw.ret1 rfl rfl ?_
      refine ⟨?_, Below.refl _ _⟩
      rw [← ht, if_pos h3']
    intro h3
    have h3' := of_decide_eq_false h3
    rw [if_neg h3'] at ht
    refine Cw.skip ?_
    refine Pw.blkN ?_
    refine Pw.thenN (Cw.out ?_)
    refine Cw.region ?_
    refine Lw.val (Ex.addI rfl rfl (by omega)) rfl ?_
    refine Lw.val (Ex.move rfl) rfl ?_
    refine Lw.nil ?_
    exact Pw.thenN (Pw.next ((i + 1, n * x)) ⟨rfl, rfl, rfl, rfl, trivial⟩ (⟨hi', ⟨by omega, by omega⟩, ht, rfl⟩) (by simp only; omega))
  · intro h
    have hi' : i = l.length := by simp at h; omega
    subst hi'
    refine Cw.exit ?_
    refine Pw.thenE ?_
    refine Pw.thenE ?_
    refine Pw.blkHit ?_
    refine Pw.thenN (Cw.out ?_)
    refine Cw.seq ?_
    refine Cw.region ?_
    refine Lw.val (Ex.move rfl) rfl ?_
    refine Lw.val (Ex.assign rfl) rfl ?_
    refine Lw.nil ?_
    refine Pw.thenN (Cw.out ?_)
    refine Cw.ret ?_
    refine Pw.ret1 rfl rfl ?_
    refine ⟨?_, Below.refl _ _⟩
    rw [← ht, List.drop_length]; rfl

theorem size_c (v : Value) (l : List Int) (w : World) (hv : SlT (Value.int .i64) w v l) : Fnc Try.prog 64 [v] w (fun r w' => r = .int .i64 (Shapes.size l) ∧ Below w.heap.size w w') := by
  refine Fnc.enter (n := 13) Try.func64 (by kernel_rfl) rfl rfl rfl ?_
  refine Cw.seq ?_
  refine Cw.region ?_
  refine Lw.val (Ex.assign rfl) rfl ?_
  refine Lw.nil ?_
  refine Pw.thenN (Cw.out ?_)
  refine Cw.seq ?_
  refine Cw.seq ?_
  refine Cw.region ?_
  refine Lw.val (Ex.move rfl) rfl ?_
  refine Lw.val (Ex.lenS st_33 rfl (by assumption)) rfl ?_
  refine Lw.val (Ex.lss rfl rfl) rfl ?_
  refine Lw.val (Ex.move rfl) rfl ?_
  refine Lw.part 6 rfl ?_ ?_
  · intro h1
    have h1' := of_decide_eq_true h1
    refine Lw.pass (dj := 6) rfl rfl rfl rfl ?_
    refine Lw.pass (dj := 6) rfl rfl rfl rfl ?_
    refine Lw.pass (dj := 6) rfl rfl rfl rfl ?_
    refine Lw.val (Ex.pickT rfl rfl) rfl ?_
    refine Lw.nil ?_
    refine Pw.thenN (Cw.out ?_)
    refine Cw.condT rfl ?_
    refine Cw.seq ?_
    refine Cw.region ?_
    refine Lw.val (Ex.assign rfl) rfl ?_
    refine Lw.nil ?_
    refine Pw.thenN (Cw.out ?_)
    refine Cw.ret ?_
    refine Pw.thenR ?_
    refine Pw.ret1 rfl rfl ?_
    exact ⟨by rw [Shapes.size, if_pos (by omega)], Below.refl _ _⟩
  intro h1
  have h1' := of_decide_eq_false h1
  refine Lw.take (dj := 6) rfl rfl ?_
  refine Lw.val (Ex.move rfl) rfl ?_
  refine Lw.take (dj := 6) rfl rfl ?_
  refine Lw.val (Ex.lenS st_33 rfl (by assumption)) rfl ?_
  refine Lw.take (dj := 6) rfl rfl ?_
  refine Lw.val (Ex.gtr rfl rfl) rfl ?_
  refine Lw.val (Ex.pickF rfl rfl) rfl ?_
  refine Lw.nil ?_
  refine Pw.thenN (Cw.out ?_)
  refine Cw.cond rfl ?_ ?_
  · intro h2
    have h2' := of_decide_eq_true h2
    refine Cw.seq ?_
    refine Cw.region ?_
    refine Lw.val (Ex.assign rfl) rfl ?_
    refine Lw.nil ?_
    refine Pw.thenN (Cw.out ?_)
    refine Cw.ret ?_
    refine Pw.thenR ?_
    refine Pw.ret1 rfl rfl ?_
    exact ⟨by rw [Shapes.size, if_pos (by omega)], Below.refl _ _⟩
  intro h2
  have h2' := of_decide_eq_false h2
  refine Cw.skip ?_
  refine Pw.thenN (Cw.out ?_)
  refine Cw.seq ?_
  refine Cw.region ?_
  refine Lw.val (Ex.move rfl) rfl ?_
  refine Lw.callF rfl rfl (times_c v l w hv) ?_
  rintro _ w1 ⟨rfl, hB⟩
  refine Lw.val (Ex.assign rfl) rfl ?_
  refine Lw.nil ?_
  refine Pw.thenN (Cw.out ?_)
  refine Cw.ret ?_
  refine Pw.ret1 rfl rfl ?_
  exact ⟨by rw [Shapes.size, if_neg (by omega)], hB⟩

theorem check_c (v : Value) (l : List Int) (w : World) (hv : SlT (Value.int .i64) w v l) : Fnc Try.prog 63 [v] w (fun r w' => r = .bool (Shapes.ok l) ∧ Below w.heap.size w w') := by
  refine Fnc.enter (n := 6) Try.func63 (by kernel_rfl) rfl rfl rfl ?_
  refine Cw.seq ?_
  refine Cw.region ?_
  refine Lw.val (Ex.assign rfl) rfl ?_
  refine Lw.nil ?_
  refine Pw.thenN (Cw.out ?_)
  refine Cw.seq ?_
  refine Cw.region ?_
  refine Lw.val (Ex.move rfl) rfl ?_
  refine Lw.callF rfl rfl (size_c v l w hv) ?_
  rintro _ w1 ⟨rfl, hB⟩
  refine Lw.val (Ex.gtr rfl rfl) rfl ?_
  refine Lw.val (Ex.assign rfl) rfl ?_
  refine Lw.nil ?_
  refine Pw.thenN (Cw.out ?_)
  refine Cw.ret ?_
  refine Pw.ret1 rfl rfl ?_
  exact ⟨rfl, hB⟩

/-- Memory of one's own. -/
def Fresh (W w' : World) (x : Value) (l : List Int) : Prop := ∃ b, W.heap.size ≤ b ∧ w'.ownsRow b 3 1 x l.length (l.map (Value.int .i64)) ∧ (x = .slice none 0 0 ∨ x = .slice (some ⟨b, 0, none⟩) l.length l.length)
theorem Fresh.sl {W w' : World} {x : Value} {l : List Int} (h : Fresh W w' x l) : SlT (Value.int .i64) w' x l := by
  obtain ⟨b, _, h, _⟩ := h
  exact own_sl h
theorem Fresh.nil (W w' : World) : Fresh W w' (.slice none 0 0) [] := ⟨W.heap.size, Nat.le_refl _, World.ownsRow_nil _ _ _ _, .inl rfl⟩

end Go.Proofs.Ytiaojbbgjlpikaa
