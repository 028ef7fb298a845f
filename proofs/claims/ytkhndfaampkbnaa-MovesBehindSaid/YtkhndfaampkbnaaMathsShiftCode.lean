/- Contracts: what is below 0 made 0; shifts. -/
import Derived.Test.YtkhndfaampkbnaaMathsCode
namespace Go.Proofs.Ytkhndfaampkbnaa
open Go Go.Dd Go.RowKit

def reluB (x : BitVec 32) : BitVec 32 := if 0 < x.toInt then x else 0#32
theorem relu_eq (x : BitVec 32) : Value.int .i32 (if (0 : Int) < x.toInt then x.toInt else 0) = i32 (reluB x) := by
  unfold reluB
  split <;> rfl
def reluG (l : List (BitVec 32)) : BitVec 32 := reluB (l.getD 0 default)


end Go.Proofs.Ytkhndfaampkbnaa
