/- Contracts: windows' shapes, spots, pictures. -/
import Derived.Test.YtgjpjpdmkeifeaaGreatDoorTensorsLaw
import Derived.Test.YtgjpjpdmkeifeaaGreatDoorRng
import Derived.Test.YtgjpjpdmkeifeaaGreatDoorGrow
import Derived.Test.YtgjpjpdmkeifeaaGreatDoorWin
namespace Go.Proofs.YtgjpjpdmkeifeaaGreatDoor
open Go Go.Dd Go.RowKit
set_option maxRecDepth 100000

theorem slides_c (rows look step : Int) (w : World) (h1 : 0 ≤ rows ∧ rows ≤ 1000000) (h2 : 0 ≤ look ∧ look ≤ 1000000) (h3 : 1 ≤ step ∧ step ≤ 1000000) :
    Fnc Tryz.prog 33 [.int .i64 rows, .int .i64 look, .int .i64 step] w (fun r w' => r = .int .i64 (slid rows look step) ∧ Below w.heap.size w w') := by
  refine Fnc.enter (n := 16) Tryz.func33 (by kernel_rfl) rfl rfl rfl ?_
  refine Cw.seq ?_
  refine Cw.region ?_
  refine Lw.val (Ex.assign rfl) rfl ?_
  refine Lw.nil ?_
  refine Pw.thenN (Cw.out ?_)
  refine Cw.seq ?_
  refine Cw.seq ?_
  refine Cw.region ?_
  refine Lw.val (Ex.move rfl) rfl ?_
  refine Lw.val (Ex.move rfl) rfl ?_
  refine Lw.val (Ex.lss rfl rfl) rfl ?_
  refine Lw.nil ?_
  refine Pw.thenN (Cw.out ?_)
  refine Cw.cond rfl ?_ ?_
  · intro g
    have g := of_decide_eq_true g
    refine Cw.seq ?_
    refine Cw.region ?_
    refine Lw.val (Ex.assign rfl) rfl ?_
    refine Lw.nil ?_
    refine Pw.thenN (Cw.out ?_)
    refine Cw.ret ?_
    refine Pw.thenR ?_
    refine Pw.ret1 rfl rfl ?_
    exact ⟨by rw [slid, if_pos g], Below.refl _ _⟩
  intro g
  have g := of_decide_eq_false g
  have h4 := Int.ediv_le_self step (show 0 ≤ rows - look by omega)
  have h5 := Int.ediv_nonneg (show 0 ≤ rows - look by omega) (show 0 ≤ step by omega)
  refine Cw.skip ?_
  refine Pw.thenN (Cw.out ?_)
  refine Cw.seq ?_
  refine Cw.region ?_
  refine Lw.val (Ex.move rfl) rfl ?_
  refine Lw.val (Ex.move rfl) rfl ?_
  refine Lw.val (Ex.subI rfl rfl (by omega)) rfl ?_
  refine Lw.val (Ex.move rfl) rfl ?_
  refine Lw.val (Ex.quoI rfl rfl (by omega) (by omega)) rfl ?_
  refine Lw.val (Ex.addI rfl rfl (by omega)) rfl ?_
  refine Lw.val (Ex.assign rfl) rfl ?_
  refine Lw.nil ?_
  refine Pw.thenN (Cw.out ?_)
  refine Cw.ret ?_
  refine Pw.ret1 rfl rfl ?_
  exact ⟨by rw [slid, if_neg g], Below.refl _ _⟩
theorem slid_le {rows look step : Int} (h1 : 0 ≤ rows ∧ rows ≤ 1000000) (h2 : 0 ≤ look) (h3 : 1 ≤ step) : 0 ≤ slid rows look step ∧ slid rows look step ≤ 1000001 := by
  unfold slid
  split
  · omega
  · have h4 := Int.ediv_le_self step (show 0 ≤ rows - look by omega)
    have h5 := Int.ediv_nonneg (show 0 ≤ rows - look by omega) (show 0 ≤ step by omega)
    omega

/-- An answer: whole numbers in memory of their own, or none. -/
def GotI (W w : World) (r : Value) (e : Int) (l : List Int) : Prop :=
  ∃ (x : Value) (m : List Int), r = .tuple #[x, .int .i64 e] ∧ w.ownsRow W.heap.size 3 1 x m.length (m.map (Value.int .i64)) ∧ (e ≠ 0 → x = .slice none 0 0 ∧ m = []) ∧ (e = 0 → m = l)
theorem gotI_no {W w : World} {e : Int} {l : List Int} (h : e ≠ 0) : GotI W w (.tuple #[.slice none 0 0, .int .i64 e]) e l := ⟨_, [], rfl, World.ownsRow_nil _ _ _ _, fun _ => ⟨rfl, rfl⟩, fun h0 => absurd h0 h⟩
theorem wshB_1 {t s : List Int} (h : ¬ t.length = 3) : wshB t s = false := by simp only [wshB, decide_eq_false h, Bool.false_and]
theorem wshB_2 {t s : List Int} (h : ¬ s.length = 4) : wshB t s = false := by simp only [wshB, decide_eq_false h, Bool.false_and, Bool.and_false]
theorem wshB_3 {t s : List Int} (h : ¬ t.getD 0 default = s.getD 1 default) : wshB t s = false := by simp only [wshB, decide_eq_false h, Bool.and_false]
theorem wshape_c (t s : List Int) (step pad : Int) (u v : Value) (W : World) (h_u : SlT (Value.int .i64) W u t) (h_v : SlT (Value.int .i64) W v s) :
    Fnc Tryz.prog 19 [u, v, .int .i64 step, .int .i64 pad] W (fun r w' => Below W.heap.size W w' ∧ GotI W w' r (wshE t s step pad) (wshS t s step pad)) := by
  have hB := Below.refl W.heap.size W
  refine Fnc.enter (n := 84) Tryz.func19 (by kernel_rfl) rfl rfl rfl ?_
  refine Cw.seq ?_
  refine Cw.region ?_
  refine Lw.val (Ex.assign rfl) rfl ?_
  refine Lw.val (Ex.assign rfl) rfl ?_
  refine Lw.nil ?_
  refine Pw.thenN (Cw.out ?_)
  refine Cw.seq ?_
  refine Cw.block ?_
  refine Cw.seq ?_
  refine Cw.region ?_
  refine Lw.val (Ex.move rfl) rfl ?_
  refine Lw.callF rfl rfl (check_c u t _ h_u) ?_
  rintro _ w ⟨rfl, hn⟩
  replace hB := hB.bs hn
  replace h_u := h_u.bs hn
  replace h_v := h_v.bs hn
  clear hn
  refine Lw.val (Ex.not rfl) rfl ?_
  refine Lw.val (Ex.move rfl) rfl ?_
  refine Lw.part 15 rfl ?_ ?_
  · intro g1
    refine Lw.pass (dj := 15) rfl rfl rfl rfl ?_
    refine Lw.pass (dj := 15) rfl rfl rfl rfl ?_
    refine Lw.pass (dj := 15) rfl rfl rfl rfl ?_
    refine Lw.val (Ex.pickT rfl rfl) rfl ?_
    refine Lw.val (Ex.move rfl) rfl ?_
    refine Lw.pass (dj := 20) rfl rfl rfl rfl ?_
    refine Lw.pass (dj := 20) rfl rfl rfl rfl ?_
    refine Lw.val (Ex.pickT rfl rfl) rfl ?_
    refine Lw.val (Ex.move rfl) rfl ?_
    refine Lw.pass (dj := 24) rfl rfl rfl rfl ?_
    refine Lw.pass (dj := 24) rfl rfl rfl rfl ?_
    refine Lw.val (Ex.pickT rfl rfl) rfl ?_
    refine Lw.val (Ex.move rfl) rfl ?_
    refine Lw.pass (dj := 28) rfl rfl rfl rfl ?_
    refine Lw.pass (dj := 28) rfl rfl rfl rfl ?_
    refine Lw.val (Ex.pickT rfl rfl) rfl ?_
    refine Lw.val (Ex.move rfl) rfl ?_
    refine Lw.pass (dj := 32) rfl rfl rfl rfl ?_
    refine Lw.pass (dj := 32) rfl rfl rfl rfl ?_
    refine Lw.val (Ex.pickT rfl rfl) rfl ?_
    refine Lw.val (Ex.assign rfl) rfl ?_
    refine Lw.nil ?_
    refine Pw.thenN (Cw.out ?_)
    refine Cw.condT rfl ?_
    refine Cw.seq ?_
    refine Cw.region ?_
    refine Lw.val (Ex.assign rfl) rfl ?_
    refine Lw.val (Ex.assign rfl) rfl ?_
    refine Lw.nil ?_
    refine Pw.thenN (Cw.out ?_)
    refine Cw.ret ?_
    refine Pw.blkR ?_
    refine Pw.thenR ?_
    refine Pw.ret2 rfl rfl rfl ?_
    rw [show wshE t s step pad = 1 by simp [wshE, show wshA t s step pad = true by simp_all [wshA]]]
    exact ⟨hB, gotI_no (by decide)⟩
  intro g1
  refine Lw.take (dj := 15) rfl rfl ?_
  refine Lw.val (Ex.move rfl) rfl ?_
  refine Lw.take (dj := 15) rfl rfl ?_
  refine Lw.callF rfl rfl (check_c v s _ h_v) ?_
  rintro _ w ⟨rfl, hn⟩
  replace hB := hB.bs hn
  replace h_u := h_u.bs hn
  replace h_v := h_v.bs hn
  clear hn
  refine Lw.take (dj := 15) rfl rfl ?_
  refine Lw.val (Ex.not rfl) rfl ?_
  refine Lw.val (Ex.pickF rfl rfl) rfl ?_
  refine Lw.val (Ex.move rfl) rfl ?_
  refine Lw.part 20 rfl ?_ ?_
  · intro g2
    refine Lw.pass (dj := 20) rfl rfl rfl rfl ?_
    refine Lw.pass (dj := 20) rfl rfl rfl rfl ?_
    refine Lw.val (Ex.pickT rfl rfl) rfl ?_
    refine Lw.val (Ex.move rfl) rfl ?_
    refine Lw.pass (dj := 24) rfl rfl rfl rfl ?_
    refine Lw.pass (dj := 24) rfl rfl rfl rfl ?_
    refine Lw.val (Ex.pickT rfl rfl) rfl ?_
    refine Lw.val (Ex.move rfl) rfl ?_
    refine Lw.pass (dj := 28) rfl rfl rfl rfl ?_
    refine Lw.pass (dj := 28) rfl rfl rfl rfl ?_
    refine Lw.val (Ex.pickT rfl rfl) rfl ?_
    refine Lw.val (Ex.move rfl) rfl ?_
    refine Lw.pass (dj := 32) rfl rfl rfl rfl ?_
    refine Lw.pass (dj := 32) rfl rfl rfl rfl ?_
    refine Lw.val (Ex.pickT rfl rfl) rfl ?_
    refine Lw.val (Ex.assign rfl) rfl ?_
    refine Lw.nil ?_
    refine Pw.thenN (Cw.out ?_)
    refine Cw.condT rfl ?_
    refine Cw.seq ?_
    refine Cw.region ?_
    refine Lw.val (Ex.assign rfl) rfl ?_
    refine Lw.val (Ex.assign rfl) rfl ?_
    refine Lw.nil ?_
    refine Pw.thenN (Cw.out ?_)
    refine Cw.ret ?_
    refine Pw.blkR ?_
    refine Pw.thenR ?_
    refine Pw.ret2 rfl rfl rfl ?_
    rw [show wshE t s step pad = 1 by simp [wshE, show wshA t s step pad = true by simp_all [wshA]]]
    exact ⟨hB, gotI_no (by decide)⟩
  intro g2
  refine Lw.take (dj := 20) rfl rfl ?_
  refine Lw.val (Ex.move rfl) rfl ?_
  refine Lw.take (dj := 20) rfl rfl ?_
  refine Lw.val (Ex.lss rfl rfl) rfl ?_
  refine Lw.val (Ex.pickF rfl rfl) rfl ?_
  refine Lw.val (Ex.move rfl) rfl ?_
  refine Lw.part 24 rfl ?_ ?_
  · intro g3
    refine Lw.pass (dj := 24) rfl rfl rfl rfl ?_
    refine Lw.pass (dj := 24) rfl rfl rfl rfl ?_
    refine Lw.val (Ex.pickT rfl rfl) rfl ?_
    refine Lw.val (Ex.move rfl) rfl ?_
    refine Lw.pass (dj := 28) rfl rfl rfl rfl ?_
    refine Lw.pass (dj := 28) rfl rfl rfl rfl ?_
    refine Lw.val (Ex.pickT rfl rfl) rfl ?_
    refine Lw.val (Ex.move rfl) rfl ?_
    refine Lw.pass (dj := 32) rfl rfl rfl rfl ?_
    refine Lw.pass (dj := 32) rfl rfl rfl rfl ?_
    refine Lw.val (Ex.pickT rfl rfl) rfl ?_
    refine Lw.val (Ex.assign rfl) rfl ?_
    refine Lw.nil ?_
    refine Pw.thenN (Cw.out ?_)
    refine Cw.condT rfl ?_
    refine Cw.seq ?_
    refine Cw.region ?_
    refine Lw.val (Ex.assign rfl) rfl ?_
    refine Lw.val (Ex.assign rfl) rfl ?_
    refine Lw.nil ?_
    refine Pw.thenN (Cw.out ?_)
    refine Cw.ret ?_
    refine Pw.blkR ?_
    refine Pw.thenR ?_
    refine Pw.ret2 rfl rfl rfl ?_
    rw [show wshE t s step pad = 1 by simp [wshE, show wshA t s step pad = true by simp_all [wshA]]]
    exact ⟨hB, gotI_no (by decide)⟩
  intro g3
  refine Lw.take (dj := 24) rfl rfl ?_
  refine Lw.val (Ex.move rfl) rfl ?_
  refine Lw.take (dj := 24) rfl rfl ?_
  refine Lw.val (Ex.gtr rfl rfl) rfl ?_
  refine Lw.val (Ex.pickF rfl rfl) rfl ?_
  refine Lw.val (Ex.move rfl) rfl ?_
  refine Lw.part 28 rfl ?_ ?_
  · intro g4
    refine Lw.pass (dj := 28) rfl rfl rfl rfl ?_
    refine Lw.pass (dj := 28) rfl rfl rfl rfl ?_
    refine Lw.val (Ex.pickT rfl rfl) rfl ?_
    refine Lw.val (Ex.move rfl) rfl ?_
    refine Lw.pass (dj := 32) rfl rfl rfl rfl ?_
    refine Lw.pass (dj := 32) rfl rfl rfl rfl ?_
    refine Lw.val (Ex.pickT rfl rfl) rfl ?_
    refine Lw.val (Ex.assign rfl) rfl ?_
    refine Lw.nil ?_
    refine Pw.thenN (Cw.out ?_)
    refine Cw.condT rfl ?_
    refine Cw.seq ?_
    refine Cw.region ?_
    refine Lw.val (Ex.assign rfl) rfl ?_
    refine Lw.val (Ex.assign rfl) rfl ?_
    refine Lw.nil ?_
    refine Pw.thenN (Cw.out ?_)
    refine Cw.ret ?_
    refine Pw.blkR ?_
    refine Pw.thenR ?_
    refine Pw.ret2 rfl rfl rfl ?_
    rw [show wshE t s step pad = 1 by simp [wshE, show wshA t s step pad = true by simp_all [wshA]]]
    exact ⟨hB, gotI_no (by decide)⟩
  intro g4
  refine Lw.take (dj := 28) rfl rfl ?_
  refine Lw.val (Ex.move rfl) rfl ?_
  refine Lw.take (dj := 28) rfl rfl ?_
  refine Lw.val (Ex.lss rfl rfl) rfl ?_
  refine Lw.val (Ex.pickF rfl rfl) rfl ?_
  refine Lw.val (Ex.move rfl) rfl ?_
  refine Lw.part 32 rfl ?_ ?_
  · intro g5
    refine Lw.pass (dj := 32) rfl rfl rfl rfl ?_
    refine Lw.pass (dj := 32) rfl rfl rfl rfl ?_
    refine Lw.val (Ex.pickT rfl rfl) rfl ?_
    refine Lw.val (Ex.assign rfl) rfl ?_
    refine Lw.nil ?_
    refine Pw.thenN (Cw.out ?_)
    refine Cw.condT rfl ?_
    refine Cw.seq ?_
    refine Cw.region ?_
    refine Lw.val (Ex.assign rfl) rfl ?_
    refine Lw.val (Ex.assign rfl) rfl ?_
    refine Lw.nil ?_
    refine Pw.thenN (Cw.out ?_)
    refine Cw.ret ?_
    refine Pw.blkR ?_
    refine Pw.thenR ?_
    refine Pw.ret2 rfl rfl rfl ?_
    rw [show wshE t s step pad = 1 by simp [wshE, show wshA t s step pad = true by simp_all [wshA]]]
    exact ⟨hB, gotI_no (by decide)⟩
  intro g5
  have gT : Shapes.ok t = true := by simpa using g1
  have gS : Shapes.ok s = true := by simpa using g2
  have gst : 1 ≤ step := by simpa using g3
  have gst2 : step ≤ 8 := by simpa using g4
  have gp : 0 ≤ pad := by simpa using g5
  refine Lw.take (dj := 32) rfl rfl ?_
  refine Lw.val (Ex.move rfl) rfl ?_
  refine Lw.take (dj := 32) rfl rfl ?_
  refine Lw.val (Ex.gtr rfl rfl) rfl ?_
  refine Lw.val (Ex.pickF rfl rfl) rfl ?_
  refine Lw.val (Ex.assign rfl) rfl ?_
  refine Lw.nil ?_
  refine Pw.thenN (Cw.out ?_)
  refine Cw.cond rfl ?_ ?_
  · intro g6
    refine Cw.seq ?_
    refine Cw.region ?_
    refine Lw.val (Ex.assign rfl) rfl ?_
    refine Lw.val (Ex.assign rfl) rfl ?_
    refine Lw.nil ?_
    refine Pw.thenN (Cw.out ?_)
    refine Cw.ret ?_
    refine Pw.blkR ?_
    refine Pw.thenR ?_
    refine Pw.ret2 rfl rfl rfl ?_
    rw [show wshE t s step pad = 1 by simp [wshE, show wshA t s step pad = true by simp_all [wshA]]]
    exact ⟨hB, gotI_no (by decide)⟩
  intro g6
  have gp2 : pad ≤ 8 := by simpa using g6
  have gA : wshA t s step pad = false := by simp_all [wshA]
  clear g1 g2 g3 g4 g5 g6
  have hT := (Shapes.ok_iff t).1 gT
  have hS := (Shapes.ok_iff s).1 gS
  refine Cw.seq ?_
  refine Cw.quiet mixed (by kernel_rfl) ?_
  refine Qw.val (fun w1 hq => Ex.move rfl) rfl ?_
  refine Qw.val (fun w1 hq => Ex.lenS st_22 rfl (Sl.bs (by assumption) hq)) rfl ?_
  refine Qw.val (fun w1 hq => Ex.neq rfl rfl) rfl ?_
  refine Qw.val (fun w1 hq => Ex.move rfl) rfl ?_
  refine Qw.part 40 rfl ?_ ?_
  · intro g
    refine Qw.pass (dj := 40) rfl rfl rfl rfl ?_
    refine Qw.pass (dj := 40) rfl rfl rfl rfl ?_
    refine Qw.pass (dj := 40) rfl rfl rfl rfl ?_
    refine Qw.val (fun w1 hq => Ex.pickT rfl rfl) rfl ?_
    refine Qw.val (fun w1 hq => Ex.move rfl) rfl ?_
    refine Qw.pass (dj := 45) rfl rfl rfl rfl ?_
    refine Qw.pass (dj := 45) rfl rfl rfl rfl ?_
    refine Qw.pass (dj := 45) rfl rfl rfl rfl ?_
    refine Qw.pass (dj := 45) rfl rfl rfl rfl ?_
    refine Qw.pass (dj := 45) rfl rfl rfl rfl ?_
    refine Qw.pass (dj := 45) rfl rfl rfl rfl ?_
    refine Qw.pass (dj := 45) rfl rfl rfl rfl ?_
    refine Qw.val (fun w1 hq => Ex.pickT rfl rfl) rfl ?_
    refine Qw.val (fun w1 hq => Ex.assign rfl) rfl ?_
    refine Qw.nil (fun w1 hq => ?_)
    refine Pw.thenN (Cw.out ?_)
    refine Cw.condT rfl ?_
    refine Cw.seq ?_
    refine Cw.region ?_
    refine Lw.val (Ex.assign rfl) rfl ?_
    refine Lw.val (Ex.assign rfl) rfl ?_
    refine Lw.nil ?_
    refine Pw.thenN (Cw.out ?_)
    refine Cw.ret ?_
    refine Pw.blkR ?_
    refine Pw.thenR ?_
    refine Pw.ret2 rfl rfl rfl ?_
    rw [show wshE t s step pad = 10 by rw [wshE, gA, wshB_1 (fun h => by simp [h] at g)]; rfl]
    exact ⟨bt hB hq, gotI_no (by decide)⟩
  intro g7
  have lt : t.length = 3 := by have := g7; simp at this; omega
  refine Qw.take (dj := 40) rfl rfl ?_
  refine Qw.val (fun w1 hq => Ex.move rfl) rfl ?_
  refine Qw.take (dj := 40) rfl rfl ?_
  refine Qw.val (fun w1 hq => Ex.lenS st_22 rfl (Sl.bs (by assumption) hq)) rfl ?_
  refine Qw.take (dj := 40) rfl rfl ?_
  refine Qw.val (fun w1 hq => Ex.neq rfl rfl) rfl ?_
  refine Qw.val (fun w1 hq => Ex.pickF rfl rfl) rfl ?_
  refine Qw.val (fun w1 hq => Ex.move rfl) rfl ?_
  refine Qw.part 45 rfl ?_ ?_
  · intro g
    refine Qw.pass (dj := 45) rfl rfl rfl rfl ?_
    refine Qw.pass (dj := 45) rfl rfl rfl rfl ?_
    refine Qw.pass (dj := 45) rfl rfl rfl rfl ?_
    refine Qw.pass (dj := 45) rfl rfl rfl rfl ?_
    refine Qw.pass (dj := 45) rfl rfl rfl rfl ?_
    refine Qw.pass (dj := 45) rfl rfl rfl rfl ?_
    refine Qw.pass (dj := 45) rfl rfl rfl rfl ?_
    refine Qw.val (fun w1 hq => Ex.pickT rfl rfl) rfl ?_
    refine Qw.val (fun w1 hq => Ex.assign rfl) rfl ?_
    refine Qw.nil (fun w1 hq => ?_)
    refine Pw.thenN (Cw.out ?_)
    refine Cw.condT rfl ?_
    refine Cw.seq ?_
    refine Cw.region ?_
    refine Lw.val (Ex.assign rfl) rfl ?_
    refine Lw.val (Ex.assign rfl) rfl ?_
    refine Lw.nil ?_
    refine Pw.thenN (Cw.out ?_)
    refine Cw.ret ?_
    refine Pw.blkR ?_
    refine Pw.thenR ?_
    refine Pw.ret2 rfl rfl rfl ?_
    rw [show wshE t s step pad = 10 by rw [wshE, gA, wshB_2 (fun h => by simp [h] at g)]; rfl]
    exact ⟨bt hB hq, gotI_no (by decide)⟩
  intro g8
  have ls : s.length = 4 := by have := g8; simp at this; omega
  refine Qw.take (dj := 45) rfl rfl ?_
  refine Qw.val (fun w1 hq => Ex.move rfl) rfl ?_
  refine Qw.take (dj := 45) rfl rfl ?_
  refine Qw.val (fun w1 hq => Ex.idxT st_22 rfl rfl (Sl.bs (by assumption) hq) 0 rfl (by omega)) rfl ?_
  refine Qw.take (dj := 45) rfl rfl ?_
  refine Qw.val (fun w1 hq => Ex.ldT (ag_3 _) rfl (Sl.bs (by assumption) hq) (by omega)) rfl ?_
  refine Qw.take (dj := 45) rfl rfl ?_
  refine Qw.val (fun w1 hq => Ex.move rfl) rfl ?_
  refine Qw.take (dj := 45) rfl rfl ?_
  refine Qw.val (fun w1 hq => Ex.idxT st_22 rfl rfl (Sl.bs (by assumption) hq) 1 rfl (by omega)) rfl ?_
  refine Qw.take (dj := 45) rfl rfl ?_
  refine Qw.val (fun w1 hq => Ex.ldT (ag_3 _) rfl (Sl.bs (by assumption) hq) (by omega)) rfl ?_
  refine Qw.take (dj := 45) rfl rfl ?_
  refine Qw.val (fun w1 hq => Ex.neq rfl rfl) rfl ?_
  refine Qw.val (fun w1 hq => Ex.pickF rfl rfl) rfl ?_
  refine Qw.val (fun w1 hq => Ex.assign rfl) rfl ?_
  refine Qw.nil (fun w1 hq => ?_)
  refine Pw.thenN (Cw.out ?_)
  refine Cw.cond rfl ?_ ?_
  · intro g
    refine Cw.seq ?_
    refine Cw.region ?_
    refine Lw.val (Ex.assign rfl) rfl ?_
    refine Lw.val (Ex.assign rfl) rfl ?_
    refine Lw.nil ?_
    refine Pw.thenN (Cw.out ?_)
    refine Cw.ret ?_
    refine Pw.blkR ?_
    refine Pw.thenR ?_
    refine Pw.ret2 rfl rfl rfl ?_
    rw [show wshE t s step pad = 10 by rw [wshE, gA, wshB_3 (fun h => by rw [decide_eq_true h] at g; cases g)]; rfl]
    exact ⟨bt hB hq, gotI_no (by decide)⟩
  intro g9
  have gB : wshB t s = true := by
    have : t.getD 0 default = s.getD 1 default := by simpa only [Bool.not_eq_false', decide_eq_true_eq] using g9
    rw [wshB, decide_eq_true lt, decide_eq_true ls, decide_eq_true this]; rfl
  replace hB := hB.bs hq
  replace h_u := h_u.bs hq
  replace h_v := h_v.bs hq
  clear hq g7 g8 g9
  have t1 := good_at hT.2.1 (k := 1) (by omega)
  have t2 := good_at hT.2.1 (k := 2) (by omega)
  have s0 := good_at hS.2.1 (k := 0) (by omega)
  have s2 := good_at hS.2.1 (k := 2) (by omega)
  have s3 := good_at hS.2.1 (k := 3) (by omega)
  refine Cw.skip ?_
  refine Pw.blkN ?_
  refine Pw.thenN (Cw.out ?_)
  refine Cw.seq ?_
  refine Cw.tail 25 mixed (by kernel_rfl) ?_
  refine Qw.val (fun w1 hq => Ex.move rfl) rfl ?_
  refine Qw.val (fun w1 hq => Ex.idxT st_22 rfl rfl (Sl.bs (by assumption) hq) 0 rfl (by omega)) rfl ?_
  refine Qw.val (fun w1 hq => Ex.ldT (ag_3 _) rfl (Sl.bs (by assumption) hq) (by omega)) rfl ?_
  refine Qw.val (fun w1 hq => Ex.move rfl) rfl ?_
  refine Qw.val (fun w1 hq => Ex.idxT st_22 rfl rfl (Sl.bs (by assumption) hq) 1 rfl (by omega)) rfl ?_
  refine Qw.val (fun w1 hq => Ex.ldT (ag_3 _) rfl (Sl.bs (by assumption) hq) (by omega)) rfl ?_
  refine Qw.val (fun w1 hq => Ex.move rfl) rfl ?_
  refine Qw.val (fun w1 hq => Ex.mulI rfl rfl (by omega)) rfl ?_
  refine Qw.val (fun w1 hq => Ex.addI rfl rfl (by omega)) rfl ?_
  refine Qw.val (fun w1 hq => Ex.move rfl) rfl ?_
  refine Qw.val (fun w1 hq => Ex.idxT st_22 rfl rfl (Sl.bs (by assumption) hq) 2 rfl (by omega)) rfl ?_
  refine Qw.val (fun w1 hq => Ex.ldT (ag_3 _) rfl (Sl.bs (by assumption) hq) (by omega)) rfl ?_
  refine Qw.val (fun w1 hq => Ex.move rfl) rfl ?_
  refine Qw.callF rfl rfl (fun w1 hq => (slides_c (t.getD 1 default + 2 * pad) (s.getD 2 default) step w1 (by omega) (by omega) (by omega)).q hq) ?_
  refine Qw.val (fun w1 hq => Ex.move rfl) rfl ?_
  refine Qw.val (fun w1 hq => Ex.idxT st_22 rfl rfl (Sl.bs (by assumption) hq) 2 rfl (by omega)) rfl ?_
  refine Qw.val (fun w1 hq => Ex.ldT (ag_3 _) rfl (Sl.bs (by assumption) hq) (by omega)) rfl ?_
  refine Qw.val (fun w1 hq => Ex.move rfl) rfl ?_
  refine Qw.val (fun w1 hq => Ex.mulI rfl rfl (by omega)) rfl ?_
  refine Qw.val (fun w1 hq => Ex.addI rfl rfl (by omega)) rfl ?_
  refine Qw.val (fun w1 hq => Ex.move rfl) rfl ?_
  refine Qw.val (fun w1 hq => Ex.idxT st_22 rfl rfl (Sl.bs (by assumption) hq) 3 rfl (by omega)) rfl ?_
  refine Qw.val (fun w1 hq => Ex.ldT (ag_3 _) rfl (Sl.bs (by assumption) hq) (by omega)) rfl ?_
  refine Qw.val (fun w1 hq => Ex.move rfl) rfl ?_
  refine Qw.callF rfl rfl (fun w1 hq => (slides_c (t.getD 2 default + 2 * pad) (s.getD 3 default) step w1 (by omega) (by omega) (by omega)).q hq) ?_
  refine Qw.done (fun w2 hq => ?_)
  replace hB := hB.bs hq
  replace h_u := h_u.bs hq
  replace h_v := h_v.bs hq
  clear hq
  have zw := below_size hB
  refine Lw.valW (Xw.lit (vs := (wshS t s step pad).map (Value.int .i64)) st_22 it_3 rfl rfl rfl rfl rfl) rfl ?_
  rintro x w ⟨ho, -, hn, -⟩
  have ho := own_mono ho zw
  replace hB := hB.bs hn
  replace h_u := h_u.bs hn
  replace h_v := h_v.bs hn
  clear hn
  refine Lw.val (Ex.assign rfl) rfl ?_
  refine Lw.nil ?_
  refine Pw.thenN (Cw.out ?_)
  refine Cw.seq ?_
  refine Cw.seq ?_
  refine Cw.region ?_
  refine Lw.val (Ex.move rfl) rfl ?_
  refine Lw.callF rfl rfl (check_c x (wshS t s step pad) _ (own_slT ho)) ?_
  rintro _ w ⟨rfl, hn⟩
  replace hB := hB.bs hn
  replace h_u := h_u.bs hn
  replace h_v := h_v.bs hn
  replace ho := ho.bs hn
  clear hn
  refine Lw.val (Ex.not rfl) rfl ?_
  refine Lw.nil ?_
  refine Pw.thenN (Cw.out ?_)
  refine Cw.cond rfl ?_ ?_
  · intro g
    refine Cw.seq ?_
    refine Cw.region ?_
    refine Lw.val (Ex.assign rfl) rfl ?_
    refine Lw.val (Ex.assign rfl) rfl ?_
    refine Lw.nil ?_
    refine Pw.thenN (Cw.out ?_)
    refine Cw.ret ?_
    refine Pw.thenR ?_
    refine Pw.ret2 rfl rfl rfl ?_
    rw [show wshE t s step pad = 10 by simp_all [wshE]]
    exact ⟨hB, gotI_no (by decide)⟩
  intro g
  refine Cw.skip ?_
  refine Pw.thenN (Cw.out ?_)
  refine Cw.seq ?_
  refine Cw.region ?_
  refine Lw.val (Ex.move rfl) rfl ?_
  refine Lw.val (Ex.assign rfl) rfl ?_
  refine Lw.val (Ex.assign rfl) rfl ?_
  refine Lw.nil ?_
  refine Pw.thenN (Cw.out ?_)
  refine Cw.ret ?_
  refine Pw.ret2 rfl rfl rfl ?_
  rw [show wshE t s step pad = 0 by simp_all [wshE]]
  exact ⟨hB, x, _, rfl, ho, fun h => absurd rfl h, fun _ => rfl⟩
theorem pshape_c (t : List Int) (wide : Int) (u : Value) (W : World) (h_u : SlT (Value.int .i64) W u t) :
    Fnc Tryz.prog 9 [u, .int .i64 wide] W (fun r w' => Below W.heap.size W w' ∧ GotI W w' r (poolE t wide) (pshS t wide)) := by
  have hB := Below.refl W.heap.size W
  refine Fnc.enter (n := 47) Tryz.func9 (by kernel_rfl) rfl rfl rfl ?_
  refine Cw.seq ?_
  refine Cw.region ?_
  refine Lw.val (Ex.assign rfl) rfl ?_
  refine Lw.val (Ex.assign rfl) rfl ?_
  refine Lw.nil ?_
  refine Pw.thenN (Cw.out ?_)
  refine Cw.seq ?_
  refine Cw.seq ?_
  refine Cw.region ?_
  refine Lw.val (Ex.move rfl) rfl ?_
  refine Lw.callF rfl rfl (check_c u t _ h_u) ?_
  rintro _ w ⟨rfl, hn⟩
  replace hB := hB.bs hn
  replace h_u := h_u.bs hn
  clear hn
  refine Lw.val (Ex.not rfl) rfl ?_
  refine Lw.val (Ex.move rfl) rfl ?_
  refine Lw.part 9 rfl ?_ ?_
  · intro g1
    refine Lw.pass (dj := 9) rfl rfl rfl rfl ?_
    refine Lw.pass (dj := 9) rfl rfl rfl rfl ?_
    refine Lw.val (Ex.pickT rfl rfl) rfl ?_
    refine Lw.val (Ex.move rfl) rfl ?_
    refine Lw.pass (dj := 13) rfl rfl rfl rfl ?_
    refine Lw.pass (dj := 13) rfl rfl rfl rfl ?_
    refine Lw.val (Ex.pickT rfl rfl) rfl ?_
    refine Lw.nil ?_
    refine Pw.thenN (Cw.out ?_)
    refine Cw.condT rfl ?_
    refine Cw.seq ?_
    refine Cw.region ?_
    refine Lw.val (Ex.assign rfl) rfl ?_
    refine Lw.val (Ex.assign rfl) rfl ?_
    refine Lw.nil ?_
    refine Pw.thenN (Cw.out ?_)
    refine Cw.ret ?_
    refine Pw.thenR ?_
    refine Pw.ret2 rfl rfl rfl ?_
    rw [show poolE t wide = 1 by simp [poolE, show pshA t wide = true by simp_all [pshA]]]
    exact ⟨hB, gotI_no (by decide)⟩
  intro g1
  refine Lw.take (dj := 9) rfl rfl ?_
  refine Lw.val (Ex.move rfl) rfl ?_
  refine Lw.take (dj := 9) rfl rfl ?_
  refine Lw.val (Ex.lss rfl rfl) rfl ?_
  refine Lw.val (Ex.pickF rfl rfl) rfl ?_
  refine Lw.val (Ex.move rfl) rfl ?_
  refine Lw.part 13 rfl ?_ ?_
  · intro g2
    refine Lw.pass (dj := 13) rfl rfl rfl rfl ?_
    refine Lw.pass (dj := 13) rfl rfl rfl rfl ?_
    refine Lw.val (Ex.pickT rfl rfl) rfl ?_
    refine Lw.nil ?_
    refine Pw.thenN (Cw.out ?_)
    refine Cw.condT rfl ?_
    refine Cw.seq ?_
    refine Cw.region ?_
    refine Lw.val (Ex.assign rfl) rfl ?_
    refine Lw.val (Ex.assign rfl) rfl ?_
    refine Lw.nil ?_
    refine Pw.thenN (Cw.out ?_)
    refine Cw.ret ?_
    refine Pw.thenR ?_
    refine Pw.ret2 rfl rfl rfl ?_
    rw [show poolE t wide = 1 by simp [poolE, show pshA t wide = true by simp_all [pshA]]]
    exact ⟨hB, gotI_no (by decide)⟩
  intro g2
  refine Lw.take (dj := 13) rfl rfl ?_
  refine Lw.val (Ex.move rfl) rfl ?_
  refine Lw.take (dj := 13) rfl rfl ?_
  refine Lw.val (Ex.gtr rfl rfl) rfl ?_
  refine Lw.val (Ex.pickF rfl rfl) rfl ?_
  refine Lw.nil ?_
  refine Pw.thenN (Cw.out ?_)
  refine Cw.cond rfl ?_ ?_
  · intro g3
    refine Cw.seq ?_
    refine Cw.region ?_
    refine Lw.val (Ex.assign rfl) rfl ?_
    refine Lw.val (Ex.assign rfl) rfl ?_
    refine Lw.nil ?_
    refine Pw.thenN (Cw.out ?_)
    refine Cw.ret ?_
    refine Pw.thenR ?_
    refine Pw.ret2 rfl rfl rfl ?_
    rw [show poolE t wide = 1 by simp [poolE, show pshA t wide = true by simp_all [pshA]]]
    exact ⟨hB, gotI_no (by decide)⟩
  intro g3
  have gA : pshA t wide = false := by simp_all [pshA]
  have gT : Shapes.ok t = true := by simpa using g1
  have w1 : 1 ≤ wide := by simpa using g2
  have w2 : wide ≤ 64 := by simpa using g3
  have hT := (Shapes.ok_iff t).1 gT
  clear g1 g2 g3
  refine Cw.skip ?_
  refine Pw.thenN (Cw.out ?_)
  refine Cw.seq ?_
  refine Cw.seq ?_
  refine Cw.quiet mixed (by kernel_rfl) ?_
  refine Qw.val (fun w1 hq => Ex.move rfl) rfl ?_
  refine Qw.val (fun w1 hq => Ex.lenS st_22 rfl (Sl.bs (by assumption) hq)) rfl ?_
  refine Qw.val (fun w1 hq => Ex.neq rfl rfl) rfl ?_
  refine Qw.val (fun w1 hq => Ex.move rfl) rfl ?_
  refine Qw.part 20 rfl ?_ ?_
  · intro g
    refine Qw.pass (dj := 20) rfl rfl rfl rfl ?_
    refine Qw.pass (dj := 20) rfl rfl rfl rfl ?_
    refine Qw.pass (dj := 20) rfl rfl rfl rfl ?_
    refine Qw.pass (dj := 20) rfl rfl rfl rfl ?_
    refine Qw.pass (dj := 20) rfl rfl rfl rfl ?_
    refine Qw.pass (dj := 20) rfl rfl rfl rfl ?_
    refine Qw.pass (dj := 20) rfl rfl rfl rfl ?_
    refine Qw.pass (dj := 20) rfl rfl rfl rfl ?_
    refine Qw.pass (dj := 20) rfl rfl rfl rfl ?_
    refine Qw.val (fun w1 hq => Ex.pickT rfl rfl) rfl ?_
    refine Qw.nil (fun wq hq => ?_)
    refine Pw.thenN (Cw.out ?_)
    refine Cw.condT rfl ?_
    refine Cw.seq ?_
    refine Cw.region ?_
    refine Lw.val (Ex.assign rfl) rfl ?_
    refine Lw.val (Ex.assign rfl) rfl ?_
    refine Lw.nil ?_
    refine Pw.thenN (Cw.out ?_)
    refine Cw.ret ?_
    refine Pw.thenR ?_
    refine Pw.ret2 rfl rfl rfl ?_
    rw [show poolE t wide = 10 by rw [poolE, gA, pshB, decide_eq_false (show ¬ t.length = 3 from fun h => by simp [h] at g)]; rfl]
    exact ⟨bt hB hq, gotI_no (by decide)⟩
  intro g4
  have lt : t.length = 3 := by have := g4; simp at this; omega
  have t0 := good_at hT.2.1 (k := 0) (by omega)
  have t1 := good_at hT.2.1 (k := 1) (by omega)
  have t2 := good_at hT.2.1 (k := 2) (by omega)
  refine Qw.take (dj := 20) rfl rfl ?_
  refine Qw.val (fun w1 hq => Ex.move rfl) rfl ?_
  refine Qw.take (dj := 20) rfl rfl ?_
  refine Qw.val (fun w1 hq => Ex.idxT st_22 rfl rfl (Sl.bs (by assumption) hq) 1 rfl (by omega)) rfl ?_
  refine Qw.take (dj := 20) rfl rfl ?_
  refine Qw.val (fun w1 hq => Ex.ldT (ag_3 _) rfl (Sl.bs (by assumption) hq) (by omega)) rfl ?_
  refine Qw.take (dj := 20) rfl rfl ?_
  refine Qw.val (fun w1 hq => Ex.move rfl) rfl ?_
  refine Qw.take (dj := 20) rfl rfl ?_
  refine Qw.val (fun w1 hq => Ex.idxT st_22 rfl rfl (Sl.bs (by assumption) hq) 2 rfl (by omega)) rfl ?_
  refine Qw.take (dj := 20) rfl rfl ?_
  refine Qw.val (fun w1 hq => Ex.ldT (ag_3 _) rfl (Sl.bs (by assumption) hq) (by omega)) rfl ?_
  refine Qw.take (dj := 20) rfl rfl ?_
  refine Qw.val (fun w1 hq => Ex.min2 rfl rfl) rfl ?_
  refine Qw.take (dj := 20) rfl rfl ?_
  refine Qw.val (fun w1 hq => Ex.move rfl) rfl ?_
  refine Qw.take (dj := 20) rfl rfl ?_
  refine Qw.val (fun w1 hq => Ex.lss rfl rfl) rfl ?_
  refine Qw.val (fun w1 hq => Ex.pickF rfl rfl) rfl ?_
  refine Qw.nil (fun wq hq => ?_)
  refine Pw.thenN (Cw.out ?_)
  refine Cw.cond rfl ?_ ?_
  · intro g
    have g := of_decide_eq_true g
    refine Cw.seq ?_
    refine Cw.region ?_
    refine Lw.val (Ex.assign rfl) rfl ?_
    refine Lw.val (Ex.assign rfl) rfl ?_
    refine Lw.nil ?_
    refine Pw.thenN (Cw.out ?_)
    refine Cw.ret ?_
    refine Pw.thenR ?_
    refine Pw.ret2 rfl rfl rfl ?_
    rw [show poolE t wide = 10 by
      have : pshB t wide = false := by
        unfold pshB
        by_cases h1 : wide ≤ t.getD 1 default
        · have h2 : ¬ wide ≤ t.getD 2 default := fun h2 => by split at g <;> omega
          simp only [decide_eq_false h2, Bool.and_false]
        · simp only [decide_eq_false h1, Bool.and_false, Bool.false_and]
      simp [poolE, gA, this]]
    exact ⟨bt hB hq, gotI_no (by decide)⟩
  intro g
  have g := of_decide_eq_false g
  have gB : pshB t wide = true := by
    have h1 : wide ≤ t.getD 1 default := by split at g <;> omega
    have h2 : wide ≤ t.getD 2 default := by split at g <;> omega
    rw [pshB, decide_eq_true lt, decide_eq_true h1, decide_eq_true h2]; rfl
  replace hB := hB.bs hq
  replace h_u := h_u.bs hq
  clear hq g4 g
  refine Cw.skip ?_
  refine Pw.thenN (Cw.out ?_)
  refine Cw.seq ?_
  refine Cw.tail 15 mixed (by kernel_rfl) ?_
  refine Qw.val (fun w1 hq => Ex.move rfl) rfl ?_
  refine Qw.val (fun w1 hq => Ex.idxT st_22 rfl rfl (Sl.bs (by assumption) hq) 0 rfl (by omega)) rfl ?_
  refine Qw.val (fun w1 hq => Ex.ldT (ag_3 _) rfl (Sl.bs (by assumption) hq) (by omega)) rfl ?_
  refine Qw.val (fun w1 hq => Ex.move rfl) rfl ?_
  refine Qw.val (fun w1 hq => Ex.idxT st_22 rfl rfl (Sl.bs (by assumption) hq) 1 rfl (by omega)) rfl ?_
  refine Qw.val (fun w1 hq => Ex.ldT (ag_3 _) rfl (Sl.bs (by assumption) hq) (by omega)) rfl ?_
  refine Qw.val (fun w1 hq => Ex.move rfl) rfl ?_
  refine Qw.val (fun w1 hq => Ex.move rfl) rfl ?_
  refine Qw.callF rfl rfl (fun w1 hq => (slides_c (t.getD 1 default) wide wide w1 (by omega) (by omega) (by omega)).q hq) ?_
  refine Qw.val (fun w1 hq => Ex.move rfl) rfl ?_
  refine Qw.val (fun w1 hq => Ex.idxT st_22 rfl rfl (Sl.bs (by assumption) hq) 2 rfl (by omega)) rfl ?_
  refine Qw.val (fun w1 hq => Ex.ldT (ag_3 _) rfl (Sl.bs (by assumption) hq) (by omega)) rfl ?_
  refine Qw.val (fun w1 hq => Ex.move rfl) rfl ?_
  refine Qw.val (fun w1 hq => Ex.move rfl) rfl ?_
  refine Qw.callF rfl rfl (fun w1 hq => (slides_c (t.getD 2 default) wide wide w1 (by omega) (by omega) (by omega)).q hq) ?_
  refine Qw.done (fun w3 hq => ?_)
  replace hB := hB.bs hq
  replace h_u := h_u.bs hq
  clear hq
  have zw := below_size hB
  refine Lw.valW (Xw.lit (vs := (pshS t wide).map (Value.int .i64)) st_22 it_3 rfl rfl rfl rfl rfl) rfl ?_
  rintro x w ⟨ho, -, hn, -⟩
  have ho := own_mono ho zw
  replace hB := hB.bs hn
  replace h_u := h_u.bs hn
  clear hn
  refine Lw.val (Ex.assign rfl) rfl ?_
  refine Lw.val (Ex.assign rfl) rfl ?_
  refine Lw.nil ?_
  refine Pw.thenN (Cw.out ?_)
  refine Cw.ret ?_
  refine Pw.ret2 rfl rfl rfl ?_
  rw [show poolE t wide = 0 by simp [poolE, gA, gB]]
  exact ⟨hB, x, _, rfl, ho, fun h => absurd rfl h, fun _ => rfl⟩
abbrev picT : TypeId := 67
abbrev spotT : TypeId := 72
theorem bt_pic (y : Value) (a b : Int) (hy : y.cells = [y].toArray) : Tryz.prog.built picT [(0, y), (1, .int .i64 a), (2, .int .i64 b)] = some [y, .int .i64 a, .int .i64 b].toArray := by
  have h1 : Tryz.prog.info? 67 = some Tryz.t67 := rfl
  have h2 : Tryz.prog.info? 23 = some Tryz.t23 := rfl
  have h3 : Tryz.prog.info? 3 = some Tryz.t3 := rfl
  simp [Program.built, h1, Tryz.underlying67, h2, h3, Instr.fill, hy]
  rfl
theorem bt_spot (a b c : Int) : Tryz.prog.built spotT [(0, .int .i64 a), (1, .int .i64 b), (2, .int .i64 c)] = some [Value.int .i64 a, .int .i64 b, .int .i64 c].toArray := by
  have h1 : Tryz.prog.info? 72 = some Tryz.t72 := rfl
  have h3 : Tryz.prog.info? 3 = some Tryz.t3 := rfl
  simp [Program.built, h1, Tryz.underlying72, h3, Instr.fill]
  rfl
def picV (a : T4) : Value := .agg #[a.y, .int .i64 (a.s.getD 1 default), .int .i64 (a.s.getD 2 default)]
theorem pof_c (a : T4) (W : World) (h_a : a.at W) (hl : 3 ≤ a.s.length) : Fnc Tryz.prog 27 [a.v] W (fun r w' => r = picV a ∧ Below W.heap.size W w') := by
  have hB := Below.refl W.heap.size W
  refine Fnc.enter (n := 14) Tryz.func27 (by kernel_rfl) rfl rfl rfl ?_
  refine Cw.seq ?_
  refine Cw.region ?_
  refine Lw.boxV (cs := [a.x, a.y]) rfl rfl rfl ?_
  rintro A_a w eA_a b_a hn -
  replace hB := hB.bs hn
  replace h_a := h_a.bs hn
  clear hn
  have z0 := below_size hB
  refine Lw.newA it_67 rfl ?_
  rintro A_r w eA_r b_r hn -
  replace hB := hB.bs hn
  replace h_a := h_a.bs hn
  replace b_a := b_a.bs hn
  clear hn
  refine Lw.nil ?_
  refine Pw.thenN (Cw.out ?_)
  refine Cw.seq ?_
  have z := below_size hB
  have zr := blk_lt b_r
  have h_1 := h_a.1
  refine Cw.tail 11 mixed (by kernel_rfl) ?_
  refine Qw.val (fun w1 hq => Ex.fieldAddr (q := 0) Tryz.underlying25 rfl (sz_23 _) rfl) rfl ?_
  refine Qw.val (fun w1 hq => Ex.ldB (ag_23 _) rfl (Blk.bs (by assumption) hq) rfl) rfl ?_
  refine Qw.val (fun w1 hq => Ex.fieldAddr (q := 0) Tryz.underlying25 rfl (sz_22 _) rfl) rfl ?_
  refine Qw.val (fun w1 hq => Ex.ldB (ag_22 _) rfl (Blk.bs (by assumption) hq) rfl) rfl ?_
  refine Qw.val (fun w1 hq => Ex.idxT st_22 rfl rfl (Sl.bs (by assumption) hq) 1 rfl (by omega)) rfl ?_
  refine Qw.val (fun w1 hq => Ex.ldT (ag_3 _) rfl (Sl.bs (by assumption) hq) (by omega)) rfl ?_
  refine Qw.val (fun w1 hq => Ex.fieldAddr (q := 0) Tryz.underlying25 rfl (sz_22 _) rfl) rfl ?_
  refine Qw.val (fun w1 hq => Ex.ldB (ag_22 _) rfl (Blk.bs (by assumption) hq) rfl) rfl ?_
  refine Qw.val (fun w1 hq => Ex.idxT st_22 rfl rfl (Sl.bs (by assumption) hq) 2 rfl (by omega)) rfl ?_
  refine Qw.val (fun w1 hq => Ex.ldT (ag_3 _) rfl (Sl.bs (by assumption) hq) (by omega)) rfl ?_
  refine Qw.val (fun w1 hq => Ex.build (vs := [(0, a.y), (1, .int .i64 (a.s.getD 1 default)), (2, .int .i64 (a.s.getD 2 default))]) (cs := [a.y, .int .i64 (a.s.getD 1 default), .int .i64 (a.s.getD 2 default)]) rfl (bt_pic _ _ _ h_a.2.one)) rfl ?_
  refine Qw.done (fun w2 hq => ?_)
  replace hB := hB.bs hq
  replace h_a := h_a.bs hq
  replace b_a := b_a.bs hq
  replace b_r := b_r.bs hq
  refine Lw.unit (Xu.stA (cs := [a.y, .int .i64 (a.s.getD 1 default), .int .i64 (a.s.getD 2 default)]) rfl rfl rfl rfl (by simp [h_a.2.one']; exact ⟨rfl, rfl⟩) b_r rfl) ?_
  rintro w3 ⟨b_r, hg, -⟩
  have hB := hB.grown hg (below_size hB) (by rintro _ ⟨⟩; omega)
  refine Lw.nil ?_
  refine Pw.thenN (Cw.out ?_)
  refine Cw.ret ?_
  refine Pw.retC rfl rfl (by assumption) (Tryz.underlying67) rfl rfl rfl ?_
  exact ⟨rfl, hB⟩
theorem at_c (a : T4) (c y x : Int) (W : World) (h_y : SlT i32 W a.y a.l) (h1 : 0 ≤ a.s.getD 1 default ∧ a.s.getD 1 default ≤ 64) (h2 : 0 ≤ a.s.getD 2 default ∧ a.s.getD 2 default ≤ 64) (hc : 0 ≤ c ∧ c ≤ 4096)
    (hy : -1000000 ≤ y ∧ y ≤ 1000000) (hx : -1000000 ≤ x ∧ x ≤ 1000000) (hl : (c + 1) * (a.s.getD 1 default * a.s.getD 2 default) ≤ a.l.length) :
    Fnc Tryz.prog 28 [picV a, .int .i64 c, .int .i64 y, .int .i64 x] W (fun r w' => r = i32 (pic a.l (a.s.getD 1 default) (a.s.getD 2 default) c y x) ∧ Below W.heap.size W w') := by
  have hB := Below.refl W.heap.size W
  obtain ⟨H, hH⟩ : ∃ H, H = a.s.getD 1 default := ⟨_, rfl⟩
  obtain ⟨V, hV⟩ : ∃ V, V = a.s.getD 2 default := ⟨_, rfl⟩
  unfold picV
  rw [← hH] at h1 hl ⊢
  rw [← hV] at h2 hl ⊢
  refine Fnc.enter (n := 42) Tryz.func28 (by kernel_rfl) rfl rfl rfl ?_
  refine Cw.seq ?_
  refine Cw.region ?_
  refine Lw.boxV (cs := [a.y, .int .i64 H, .int .i64 V]) rfl rfl rfl ?_
  rintro A_p w eA_p b_p hn -
  replace hB := hB.bs hn
  replace h_y := h_y.bs hn
  clear hn
  refine Lw.val (Ex.assign (show _ = some (i32 (0#32)) from rfl)) rfl ?_
  refine Lw.nil ?_
  refine Pw.thenN (Cw.out ?_)
  refine Cw.seq ?_
  refine Cw.seq ?_
  refine Cw.region ?_
  refine Lw.val (Ex.move rfl) rfl ?_
  refine Lw.val (Ex.lss rfl rfl) rfl ?_
  refine Lw.val (Ex.move rfl) rfl ?_
  refine Lw.part 11 rfl ?_ ?_
  · intro g
    have g := of_decide_eq_true g
    refine Lw.pass (dj := 11) rfl rfl rfl rfl ?_
    refine Lw.pass (dj := 11) rfl rfl rfl rfl ?_
    refine Lw.pass (dj := 11) rfl rfl rfl rfl ?_
    refine Lw.pass (dj := 11) rfl rfl rfl rfl ?_
    refine Lw.val (Ex.pickT rfl rfl) rfl ?_
    refine Lw.val (Ex.move rfl) rfl ?_
    refine Lw.pass (dj := 17) rfl rfl rfl rfl ?_
    refine Lw.pass (dj := 17) rfl rfl rfl rfl ?_
    refine Lw.val (Ex.pickT rfl rfl) rfl ?_
    refine Lw.val (Ex.move rfl) rfl ?_
    refine Lw.pass (dj := 21) rfl rfl rfl rfl ?_
    refine Lw.pass (dj := 21) rfl rfl rfl rfl ?_
    refine Lw.pass (dj := 21) rfl rfl rfl rfl ?_
    refine Lw.pass (dj := 21) rfl rfl rfl rfl ?_
    refine Lw.val (Ex.pickT rfl rfl) rfl ?_
    refine Lw.nil ?_
    refine Pw.thenN (Cw.out ?_)
    refine Cw.condT rfl ?_
    refine Cw.seq ?_
    refine Cw.region ?_
    refine Lw.val (Ex.assign (show _ = some (i32 (0#32)) from rfl)) rfl ?_
    refine Lw.nil ?_
    refine Pw.thenN (Cw.out ?_)
    refine Cw.ret ?_
    refine Pw.thenR ?_
    refine Pw.ret1 rfl rfl ?_
    exact ⟨congrArg i32 (by rw [pic, if_pos (by omega)]), hB⟩
  intro g1
  have g1 := of_decide_eq_false g1
  refine Lw.take (dj := 11) rfl rfl ?_
  refine Lw.val (Ex.move rfl) rfl ?_
  refine Lw.take (dj := 11) rfl rfl ?_
  refine Lw.val (Ex.fieldAddr (q := 0) Tryz.underlying67 rfl (sz_3 _) rfl) rfl ?_
  refine Lw.take (dj := 11) rfl rfl ?_
  refine Lw.val (Ex.ldB (ag_3 _) rfl (by assumption) rfl) rfl ?_
  refine Lw.take (dj := 11) rfl rfl ?_
  refine Lw.val (Ex.geq rfl rfl) rfl ?_
  refine Lw.val (Ex.pickF rfl rfl) rfl ?_
  refine Lw.val (Ex.move rfl) rfl ?_
  refine Lw.part 17 rfl ?_ ?_
  · intro g
    have g := of_decide_eq_true g
    refine Lw.pass (dj := 17) rfl rfl rfl rfl ?_
    refine Lw.pass (dj := 17) rfl rfl rfl rfl ?_
    refine Lw.val (Ex.pickT rfl rfl) rfl ?_
    refine Lw.val (Ex.move rfl) rfl ?_
    refine Lw.pass (dj := 21) rfl rfl rfl rfl ?_
    refine Lw.pass (dj := 21) rfl rfl rfl rfl ?_
    refine Lw.pass (dj := 21) rfl rfl rfl rfl ?_
    refine Lw.pass (dj := 21) rfl rfl rfl rfl ?_
    refine Lw.val (Ex.pickT rfl rfl) rfl ?_
    refine Lw.nil ?_
    refine Pw.thenN (Cw.out ?_)
    refine Cw.condT rfl ?_
    refine Cw.seq ?_
    refine Cw.region ?_
    refine Lw.val (Ex.assign (show _ = some (i32 (0#32)) from rfl)) rfl ?_
    refine Lw.nil ?_
    refine Pw.thenN (Cw.out ?_)
    refine Cw.ret ?_
    refine Pw.thenR ?_
    refine Pw.ret1 rfl rfl ?_
    exact ⟨congrArg i32 (by rw [pic, if_pos (by omega)]), hB⟩
  intro g2
  have g2 := of_decide_eq_false g2
  refine Lw.take (dj := 17) rfl rfl ?_
  refine Lw.val (Ex.move rfl) rfl ?_
  refine Lw.take (dj := 17) rfl rfl ?_
  refine Lw.val (Ex.lss rfl rfl) rfl ?_
  refine Lw.val (Ex.pickF rfl rfl) rfl ?_
  refine Lw.val (Ex.move rfl) rfl ?_
  refine Lw.part 21 rfl ?_ ?_
  · intro g
    have g := of_decide_eq_true g
    refine Lw.pass (dj := 21) rfl rfl rfl rfl ?_
    refine Lw.pass (dj := 21) rfl rfl rfl rfl ?_
    refine Lw.pass (dj := 21) rfl rfl rfl rfl ?_
    refine Lw.pass (dj := 21) rfl rfl rfl rfl ?_
    refine Lw.val (Ex.pickT rfl rfl) rfl ?_
    refine Lw.nil ?_
    refine Pw.thenN (Cw.out ?_)
    refine Cw.condT rfl ?_
    refine Cw.seq ?_
    refine Cw.region ?_
    refine Lw.val (Ex.assign (show _ = some (i32 (0#32)) from rfl)) rfl ?_
    refine Lw.nil ?_
    refine Pw.thenN (Cw.out ?_)
    refine Cw.ret ?_
    refine Pw.thenR ?_
    refine Pw.ret1 rfl rfl ?_
    exact ⟨congrArg i32 (by rw [pic, if_pos (by omega)]), hB⟩
  intro g3
  have g3 := of_decide_eq_false g3
  refine Lw.take (dj := 21) rfl rfl ?_
  refine Lw.val (Ex.move rfl) rfl ?_
  refine Lw.take (dj := 21) rfl rfl ?_
  refine Lw.val (Ex.fieldAddr (q := 0) Tryz.underlying67 rfl (sz_3 _) rfl) rfl ?_
  refine Lw.take (dj := 21) rfl rfl ?_
  refine Lw.val (Ex.ldB (ag_3 _) rfl (by assumption) rfl) rfl ?_
  refine Lw.take (dj := 21) rfl rfl ?_
  refine Lw.val (Ex.geq rfl rfl) rfl ?_
  refine Lw.val (Ex.pickF rfl rfl) rfl ?_
  refine Lw.nil ?_
  refine Pw.thenN (Cw.out ?_)
  refine Cw.cond rfl ?_ ?_
  · intro g
    have g := of_decide_eq_true g
    refine Cw.seq ?_
    refine Cw.region ?_
    refine Lw.val (Ex.assign (show _ = some (i32 (0#32)) from rfl)) rfl ?_
    refine Lw.nil ?_
    refine Pw.thenN (Cw.out ?_)
    refine Cw.ret ?_
    refine Pw.thenR ?_
    refine Pw.ret1 rfl rfl ?_
    exact ⟨congrArg i32 (by rw [pic, if_pos (by omega)]), hB⟩
  intro g4
  have g4 := of_decide_eq_false g4
  have e1 : 0 ≤ c * H ∧ c * H ≤ 4096 * 64 := ⟨Int.mul_nonneg hc.1 h1.1, Int.mul_le_mul hc.2 h1.2 h1.1 (by decide)⟩
  have e2 : 0 ≤ (c * H + y) * V := Int.mul_nonneg (by omega) h2.1
  have e3 : (c * H + y + 1) * V ≤ (c * H + H) * V := Int.mul_le_mul_of_nonneg_right (by omega) h2.1
  have e4 : (c + 1) * (H * V) = (c * H + H) * V := by rw [← Int.mul_assoc, Int.add_mul c 1 H, Int.one_mul]
  have e5 : (c * H + y + 1) * V = (c * H + y) * V + V := by rw [Int.add_mul (c * H + y) 1 V, Int.one_mul]
  have ll := h_y.le
  obtain ⟨k, hk⟩ : ∃ k : Nat, (c * H + y) * V + x = (k : Int) := ⟨_, (Int.toNat_of_nonneg (by omega)).symm⟩
  have hkl : k < a.l.length := by omega
  refine Cw.skip ?_
  refine Pw.thenN (Cw.out ?_)
  refine Cw.seq ?_
  refine Cw.region ?_
  refine Lw.val (Ex.fieldAddr (q := 0) Tryz.underlying67 rfl (sz_23 _) rfl) rfl ?_
  refine Lw.val (Ex.ldB (ag_23 _) rfl (by assumption) rfl) rfl ?_
  refine Lw.val (Ex.move rfl) rfl ?_
  refine Lw.val (Ex.fieldAddr (q := 0) Tryz.underlying67 rfl (sz_3 _) rfl) rfl ?_
  refine Lw.val (Ex.ldB (ag_3 _) rfl (by assumption) rfl) rfl ?_
  refine Lw.val (Ex.mulI rfl rfl (by omega)) rfl ?_
  refine Lw.val (Ex.move rfl) rfl ?_
  refine Lw.val (Ex.addI rfl rfl (by omega)) rfl ?_
  refine Lw.val (Ex.fieldAddr (q := 0) Tryz.underlying67 rfl (sz_3 _) rfl) rfl ?_
  refine Lw.val (Ex.ldB (ag_3 _) rfl (by assumption) rfl) rfl ?_
  refine Lw.val (Ex.mulI rfl rfl (by omega)) rfl ?_
  refine Lw.val (Ex.move rfl) rfl ?_
  refine Lw.val (Ex.addI rfl rfl (by omega)) rfl ?_
  refine Lw.val (Ex.idxT st_23 rfl rfl h_y k hk hkl) rfl ?_
  refine Lw.val (Ex.ldT (ag_21 _) rfl (by assumption) (by omega)) rfl ?_
  refine Lw.val (Ex.assign rfl) rfl ?_
  refine Lw.nil ?_
  refine Pw.thenN (Cw.out ?_)
  refine Cw.ret ?_
  refine Pw.ret1 rfl rfl ?_
  exact ⟨congrArg i32 (by rw [pic, if_neg (by omega), hk]; rfl), hB⟩

theorem spots_c (u : Value) (s : List Int) (W : World) (h_u : SlT (Value.int .i64) W u s) :
    Fnc Tryz.prog 29 [u] W (fun r w' => ∃ A, r = .func (.func 88) #[] #[.pointer (some ⟨A, 0, none⟩)] ∧ Blk w' A 22 [u] ∧ A = W.heap.size ∧ Below W.heap.size W w') := by
  have hB := Below.refl W.heap.size W
  have hu1 := h_u.one
  refine Fnc.enter (n := 4) Tryz.func29 (by kernel_rfl) rfl rfl rfl ?_
  refine Cw.seq ?_
  refine Cw.region ?_
  refine Lw.boxV (cs := [u]) rfl hu1 rfl ?_
  rintro A w eA b_A hn -
  replace hB := hB.bs hn
  clear hn
  refine Lw.val (Ex.assign rfl) rfl ?_
  refine Lw.nil ?_
  refine Pw.thenN (Cw.out ?_)
  refine Cw.seq ?_
  refine Cw.region ?_
  refine Lw.val (Ex.mkFn (vs := []) (us := [.pointer (some ⟨A, 0, none⟩)]) rfl rfl) rfl ?_
  refine Lw.val (Ex.assign rfl) rfl ?_
  refine Lw.nil ?_
  refine Pw.thenN (Cw.out ?_)
  refine Cw.ret ?_
  refine Pw.ret1 rfl rfl ?_
  exact ⟨A, rfl, b_A, eA, hB⟩

theorem spots_sq (A : Nat) (u : Value) (s : List Int) (w : World) (b_A : Blk w A 22 [u]) (h_u : SlT (Value.int .i64) w u s) (hok : Shapes.ok s = true) (hl : s.length = 3) :
    Sq Tryz.prog 88 [] [.pointer (some ⟨A, 0, none⟩)] (fun i : Nat => [spotV s i]) (fun b => b = A ∨ u.ownBlock = some b) none (List.range (Shapes.size s).toNat) w := by
  intro lp J W hW hJ hY h0
  show Fnc Tryz.prog 88 [.func (.yield lp) #[] #[], .pointer (some ⟨A, 0, none⟩)] W (fun _ A' => J (List.range (Shapes.size s).toNat) A')
  have b_A := b_A.bs hW
  have h_u := h_u.bs hW
  clear hW
  have sz := Shapes.size_le s
  have hS := (Shapes.ok_iff s).1 hok
  have s1 := good_at hS.2.1 (k := 1) (by omega)
  have s2 := good_at hS.2.1 (k := 2) (by omega)
  have q1 : 1 * 1 ≤ s.getD 1 default * s.getD 2 default := Int.mul_le_mul s1.1 s2.1 (by decide) (by omega)
  have q2 : s.getD 1 default * s.getD 2 default ≤ 64 * 64 := Int.mul_le_mul s1.2 s2.2 (by omega) (by decide)
  refine Fnc.enterG (n := 37) Tryz.func88 (by kernel_rfl) rfl rfl rfl ?_
  refine Cg.seq ?_
  refine Cg.region (by kernel_rfl) ?_
  refine Lw.val (Ex.ldB (ag_22 _) rfl (by assumption) rfl) rfl ?_
  refine Lw.callF rfl rfl (size_c u s W h_u) ?_
  rintro _ w1 ⟨rfl, hn⟩
  have h0 := hJ _ _ _ h0 ⟨none, below_grown hn none, .inl rfl⟩
  have b_A := b_A.bs hn
  have h_u := h_u.bs hn
  refine Lw.know 5 (v' := .int .i64 (((Shapes.size s).toNat : Nat) : Int)) rfl (congrArg (Value.int .i64) (by omega)) ?_
  refine Lw.val (Ex.move rfl) rfl ?_
  refine Lw.nil (Pg.low ?_)
  refine Pg.thenN (Cg.out ?_)
  refine Cg.block ?_
  refine Cg.loop (S := Nat) (fun i => [(0, .func (.yield lp) #[] #[]), (1, .pointer (some ⟨A, 0, none⟩)), (5, .int .i64 (((Shapes.size s).toNat : Nat) : Int)), (6, .int .i64 (i : Int))]) (fun i w' => i ≤ (Shapes.size s).toNat ∧ J (List.range i) w' ∧ Blk w' A 22 [u] ∧ SlT (Value.int .i64) w' u s) (fun i => (Shapes.size s).toNat - i) (0) ⟨rfl, rfl, rfl, rfl, trivial⟩ ?_ ?_
  · exact ⟨Nat.zero_le _, h0, b_A, h_u⟩
  clear h0 b_A h_u hn
  rintro i w ⟨hi, h0, b_A, h_u⟩
  refine Cg.seq ?_
  refine Cg.region (by kernel_rfl) ?_
  refine Lw.val (Ex.lss rfl rfl) rfl ?_
  refine Lw.nil (Pg.low ?_)
  refine Pg.thenN (Cg.out ?_)
  refine Cg.seq ?_
  refine Cg.cond rfl ?_ ?_
  · intro h
    have hi' : i < (Shapes.size s).toNat := by have := of_decide_eq_true h; omega
    have d1 := Int.ediv_nonneg (show 0 ≤ (i : Int) by omega) (show 0 ≤ s.getD 2 default by omega)
    refine Cg.skip ?_
    refine Pg.thenN (Cg.out ?_)
    refine Cg.seq ?_
    refine Cg.block ?_
    refine Cg.seq ?_
    refine Cg.region (by kernel_rfl) ?_
    refine Lw.val (Ex.move rfl) rfl ?_
    refine Lw.val (Ex.assign rfl) rfl ?_
    refine Lw.nil (Pg.low ?_)
    refine Pg.thenN (Cg.out ?_)
    refine Cg.seq ?_
    refine Cg.tailY 25 mixed (by kernel_rfl) (by kernel_rfl) ?_
    refine Qw.val (fun w1 hq => Ex.move rfl) rfl ?_
    refine Qw.val (fun w1 hq => Ex.move rfl) rfl ?_
    refine Qw.val (fun w1 hq => Ex.ldB (ag_22 _) rfl (Blk.bs (by assumption) hq) rfl) rfl ?_
    refine Qw.val (fun w1 hq => Ex.idxT st_22 rfl rfl (Sl.bs (by assumption) hq) 1 rfl (by omega)) rfl ?_
    refine Qw.val (fun w1 hq => Ex.ldT (ag_3 _) rfl (Sl.bs (by assumption) hq) (by omega)) rfl ?_
    refine Qw.val (fun w1 hq => Ex.ldB (ag_22 _) rfl (Blk.bs (by assumption) hq) rfl) rfl ?_
    refine Qw.val (fun w1 hq => Ex.idxT st_22 rfl rfl (Sl.bs (by assumption) hq) 2 rfl (by omega)) rfl ?_
    refine Qw.val (fun w1 hq => Ex.ldT (ag_3 _) rfl (Sl.bs (by assumption) hq) (by omega)) rfl ?_
    refine Qw.val (fun w1 hq => Ex.mulI rfl rfl (by omega)) rfl ?_
    refine Qw.val (fun w1 hq => Ex.quoI rfl rfl (by omega) (by omega)) rfl ?_
    refine Qw.val (fun w1 hq => Ex.move rfl) rfl ?_
    refine Qw.val (fun w1 hq => Ex.ldB (ag_22 _) rfl (Blk.bs (by assumption) hq) rfl) rfl ?_
    refine Qw.val (fun w1 hq => Ex.idxT st_22 rfl rfl (Sl.bs (by assumption) hq) 2 rfl (by omega)) rfl ?_
    refine Qw.val (fun w1 hq => Ex.ldT (ag_3 _) rfl (Sl.bs (by assumption) hq) (by omega)) rfl ?_
    refine Qw.val (fun w1 hq => Ex.quoI rfl rfl (by omega) (by omega)) rfl ?_
    refine Qw.val (fun w1 hq => Ex.ldB (ag_22 _) rfl (Blk.bs (by assumption) hq) rfl) rfl ?_
    refine Qw.val (fun w1 hq => Ex.idxT st_22 rfl rfl (Sl.bs (by assumption) hq) 1 rfl (by omega)) rfl ?_
    refine Qw.val (fun w1 hq => Ex.ldT (ag_3 _) rfl (Sl.bs (by assumption) hq) (by omega)) rfl ?_
    refine Qw.val (fun w1 hq => Ex.remI rfl rfl (by omega) (by omega)) rfl ?_
    refine Qw.val (fun w1 hq => Ex.move rfl) rfl ?_
    refine Qw.val (fun w1 hq => Ex.ldB (ag_22 _) rfl (Blk.bs (by assumption) hq) rfl) rfl ?_
    refine Qw.val (fun w1 hq => Ex.idxT st_22 rfl rfl (Sl.bs (by assumption) hq) 2 rfl (by omega)) rfl ?_
    refine Qw.val (fun w1 hq => Ex.ldT (ag_3 _) rfl (Sl.bs (by assumption) hq) (by omega)) rfl ?_
    refine Qw.val (fun w1 hq => Ex.remI rfl rfl (by omega) (by omega)) rfl ?_
    refine Qw.val (fun w1 hq => Ex.build (vs := [(0, .int .i64 (spc s i)), (1, .int .i64 (spy s i)), (2, .int .i64 (spx s i))]) (cs := [.int .i64 (spc s i), .int .i64 (spy s i), .int .i64 (spx s i)]) rfl (bt_spot _ _ _)) rfl ?_
    refine Qw.doneY (fun w2 hq => ?_)
    have h2 := hJ _ _ _ h0 ⟨none, below_grown hq none, .inl rfl⟩
    have b_A := b_A.bs hq
    have h_u := h_u.bs hq
    have hpre := pre_range hi'
    refine Lg.yield rfl rfl rfl (hY (List.range i) i w2 h2 hpre) ?_
    rintro _ w3 ⟨rfl, h3, hB⟩
    have b_A := b_A.keep (hB.2 A (.inl rfl) (blk_lt b_A))
    have h_u : SlT (Value.int .i64) w3 u s := Sl.stay h_u fun k e hne => hB.2 k (.inr e) (Sl.blk h_u hne k e)
    refine Lg.plain 1 (by kernel_rfl) ?_
    refine Lw.val (Ex.not rfl) rfl ?_
    refine Lw.nil (Pg.low (Lg.out (Lg.nil ?_)))
    refine Pg.thenN (Cg.out ?_)
    refine Cg.condB rfl false (rfl) ?_
    refine Cg.skip ?_
    refine Pg.blkN ?_
    refine Pg.thenN (Cg.out ?_)
    refine Cg.region (by kernel_rfl) ?_
    refine Lw.val (Ex.addI rfl rfl (by omega)) rfl ?_
    refine Lw.val (Ex.move rfl) rfl ?_
    refine Lw.nil (Pg.low ?_)
    exact Pg.thenN (Pg.next (i + 1) ⟨rfl, rfl, rfl, rfl, trivial⟩ (⟨hi', by rw [List.range_succ]; exact h3, b_A, h_u⟩) (by omega))
  intro h
  have hi' : i = (Shapes.size s).toNat := by have := of_decide_eq_false h; omega
  subst hi'
  refine Cg.exit ?_
  refine Pg.thenE ?_
  refine Pg.thenE ?_
  refine Pg.blkHit ?_
  refine Pg.closeE ?_
  refine Pw.end0 rfl ?_
  exact h0
end Go.Proofs.YtgjpjpdmkeifeaaGreatDoor
