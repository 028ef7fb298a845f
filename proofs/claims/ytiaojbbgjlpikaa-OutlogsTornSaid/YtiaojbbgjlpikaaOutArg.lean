/- Lists of numbers as a statement's argument. -/
import Derived.Test.YtiaojbbgjlpikaaOutLive
import Derived.Test.YtiaojbbgjlpikaaOpen
import Derived.Test.YtiaojbbgjlpikaaRows
namespace Go.Proofs.Ytiaojbbgjlpikaa
open Go Go.Dd Go.RowKit Go.ChangeShapes Go.WideShapes
set_option maxRecDepth 100000

theorem own : ownKnob Try.prog.godebug = none := by kernel_rfl
theorem laidOut : laidOutB Try.prog = true := by kernel_rfl

theorem in_ll {H : Type} {enc : TypeId × Value → H} {w : World} {cs : List Value} (h : In enc Try.prog w 22 cs) : ∃ v ps, cs = [v] ∧ LL w v ps ∧ ps.length ≤ 1125899906842624 := by
  obtain ⟨v, l, rfl, hs, hb⟩ := h.slT (α := {p : Value × Nums // SlT i32 w p.1 p.2}) (g := fun p => p.1.1) un_22 (by kernel_rfl) (fun cs h => by
    obtain ⟨u, x, rfl, hu, -⟩ := h.slT un_34 (by kernel_rfl) (fun cs h => In.num (BitVec.ofInt 32) i32 (fun _ h => wf_i32 h) un_21 h)
    exact ⟨⟨(u, x), hu⟩, rfl⟩)
  have kb : Try.prog.bytesOf 34 = 24 := by kernel_rfl
  rw [kb] at hb
  have hr : reachBytes ≤ 140737488355328 := by decide
  refine ⟨v, l.map (·.1), rfl, ⟨?_, fun p hp => ?_⟩, by rw [List.length_map]; omega⟩
  · unfold SlT
    rw [List.length_map, List.map_map]
    exact hs
  · obtain ⟨q, -, rfl⟩ := List.mem_map.1 hp
    exact q.2
theorem arg_ll {H : Type} {enc : TypeId × Value → H} {w : World} {base : Nat} {v : Value} (ho : Value.okWide Try.prog w .any base 22 v) (h : In enc Try.prog w 22 v.cells.toList) : ∃ ps, LL w v ps ∧ ps.length ≤ 1125899906842624 := by
  obtain ⟨a, len, cap, rfl⟩ := okWide_slice un_22 ho
  obtain ⟨v, ps, he, hl, hb⟩ := in_ll h
  simp [Value.cells] at he
  subst he
  exact ⟨ps, hl, hb⟩
theorem LL.take {w : World} {v : Value} {ps : List (Value × Nums)} {n : Nat} (h : LL w v ps) (hn : n ≤ ps.length) : LL w (cut v 1 0 n) (ps.take n) := ⟨SlT.take h.sl hn, fun p hp => h.each p (List.mem_of_mem_take hp)⟩
theorem nums2_take (ps : List (Value × Nums)) (n : Nat) : nums2 (ps.take n) = (nums2 ps).take n := by simp [nums2]
end Go.Proofs.Ytiaojbbgjlpikaa
