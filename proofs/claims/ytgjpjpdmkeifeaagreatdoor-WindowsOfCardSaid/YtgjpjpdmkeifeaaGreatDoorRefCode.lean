/- Contracts: the document's answers on tensors. -/
import Derived.Test.YtgjpjpdmkeifeaaGreatDoorTensorsLaw
import Derived.Test.YtgjpjpdmkeifeaaGreatDoorRefShape
namespace Go.Proofs.YtgjpjpdmkeifeaaGreatDoor
open Go Go.Dd Go.RowKit
set_option maxRecDepth 100000

theorem rep_zero (n : Nat) : (List.replicate n [Value.int .i32 0]).flatten = (List.replicate n 0#32).map i32 := by
  induction n with
  | zero => rfl
  | succ n ih => simp [List.replicate_succ, i32]
theorem rtcheck_c (x y : Value) (s : List Int) (l : List (BitVec 32)) (w : World) (hx : SlT (Value.int .i64) w x s) (hy : SlT i32 w y l) :
    Fnc Tryz.prog 30 [.agg #[x, y]] w (fun r w' => r = .bool (tok s l) ∧ Below w.heap.size w w') := by
  refine Fnc.enter (n := 15) Tryz.func30 (by kernel_rfl) rfl rfl rfl ?_
  refine Cw.seq ?_
  refine Cw.region ?_
  refine Lw.valW (Xw.box (cs := [x, y]) rfl rfl) rfl ?_
  rintro _ w1 ⟨rfl, hb, hB1, hs1⟩
  have hx1 := hx.bs hB1
  have hy1 := hy.bs hB1
  refine Lw.val (Ex.assign rfl) rfl ?_
  refine Lw.nil ?_
  refine Pw.thenN (Cw.out ?_)
  refine Cw.seq ?_
  refine Cw.quiet mixed (by kernel_rfl) ?_
  refine Qw.val (fun w1 hq => Ex.fieldAddr (q := 0) Tryz.underlying25 rfl (sz_22 _) rfl) rfl ?_
  refine Qw.val (fun w1 hq => Ex.ldB (ag_22 _) rfl (Blk.bs (by assumption) hq) rfl) rfl ?_
  refine Qw.callF rfl rfl (fun w1 hq => (rcheck_c x s w1 (hx1.bs hq)).q hq) ?_
  refine Qw.val (fun w1 hq => Ex.move rfl) rfl ?_
  refine Qw.part 6 rfl ?_ ?_
  · intro g
    refine Qw.take (dj := 6) rfl rfl ?_
    refine Qw.val (fun w1 hq => Ex.fieldAddr (q := 0) Tryz.underlying25 rfl (sz_23 _) rfl) rfl ?_
    refine Qw.take (dj := 6) rfl rfl ?_
    refine Qw.val (fun w1 hq => Ex.ldB (ag_23 _) rfl (Blk.bs (by assumption) hq) rfl) rfl ?_
    refine Qw.take (dj := 6) rfl rfl ?_
    refine Qw.val (fun w1 hq => Ex.lenS st_23 rfl (Sl.bs (by assumption) hq)) rfl ?_
    refine Qw.take (dj := 6) rfl rfl ?_
    refine Qw.val (fun w1 hq => Ex.fieldAddr (q := 0) Tryz.underlying25 rfl (sz_22 _) rfl) rfl ?_
    refine Qw.take (dj := 6) rfl rfl ?_
    refine Qw.val (fun w1 hq => Ex.ldB (ag_22 _) rfl (Blk.bs (by assumption) hq) rfl) rfl ?_
    refine Qw.take (dj := 6) rfl rfl ?_
    refine Qw.callF rfl rfl (fun w1 hq => (rsize_c x s w1 (hx1.bs hq)).q hq) ?_
    refine Qw.take (dj := 6) rfl rfl ?_
    refine Qw.val (fun w1 hq => Ex.eql rfl rfl) rfl ?_
    refine Qw.val (fun w1 hq => Ex.pickT rfl rfl) rfl ?_
    refine Qw.val (fun w1 hq => Ex.assign rfl) rfl ?_
    refine Qw.nil (fun w2 hq => ?_)
    refine Pw.thenN (Cw.out ?_)
    refine Cw.ret ?_
    refine Pw.ret1 rfl rfl ?_
    exact ⟨congrArg Value.bool (by unfold tok; rw [g]; rfl), bt hB1 hq⟩
  · intro g
    refine Qw.pass (dj := 6) rfl rfl rfl rfl ?_
    refine Qw.pass (dj := 6) rfl rfl rfl rfl ?_
    refine Qw.pass (dj := 6) rfl rfl rfl rfl ?_
    refine Qw.pass (dj := 6) rfl rfl rfl rfl ?_
    refine Qw.pass (dj := 6) rfl rfl rfl rfl ?_
    refine Qw.pass (dj := 6) rfl rfl rfl rfl ?_
    refine Qw.pass (dj := 6) rfl rfl rfl rfl ?_
    refine Qw.val (fun w1 hq => Ex.pickF rfl rfl) rfl ?_
    refine Qw.val (fun w1 hq => Ex.assign rfl) rfl ?_
    refine Qw.nil (fun w2 hq => ?_)
    refine Pw.thenN (Cw.out ?_)
    refine Cw.ret ?_
    refine Pw.ret1 rfl rfl ?_
    exact ⟨congrArg Value.bool (by unfold tok; rw [g]; rfl), bt hB1 hq⟩

end Go.Proofs.YtgjpjpdmkeifeaaGreatDoor
