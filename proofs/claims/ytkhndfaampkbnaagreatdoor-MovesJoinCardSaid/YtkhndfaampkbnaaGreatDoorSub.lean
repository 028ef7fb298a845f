/- The step layer: a struct or array that is part of another one. Nothing here names a program. -/
import Derived.Test.YtkhndfaampkbnaaGreatDoorMem
namespace Go.Dd
open Go Go.RowKit
section
variable {P : Program} {n : Nat} {E : Env} {w : World} {e ty : TypeId} {x : Operand}
/-- A struct or array that lies within a block. -/
theorem Ex.ldAt {b o k : Nat} {T : TypeId} {cs ds : List Value} (hag : (isAgg e).run P w = .ok true w) (hs : (sizeOf e).run P w = .ok k w) (hk : ds.length = k) (hx : ev E x = some (.pointer (some ⟨b, o, none⟩))) (h : Blk w b T cs) (hd : (cs.drop o).take k = ds) :
    Ex P n E (.load e x) ty w (.agg ds.toArray) := fun a ha _ _ _ _ => by
  subst hk
  have hl := run_loadCells_list (P := P) w ⟨b, o, none⟩ ds (fun j v hv => by
    rw [add_lit, h.cell]
    rw [← hd, List.getElem?_take] at hv
    split at hv
    · rw [List.getElem?_drop] at hv; exact hv
    · cases hv)
  simp [execOp, ha.ev hx, Instr.loadAt, Instr.sureAddr, loadVar, hag, hs, hl]
end
end Go.Dd
