/- Part of the proof of imatL_holds: what the row needs of Up. Conditions: as each theorem states. -/
import Derived.RangeFuncNested
import Derived.RangeFuncBound
import Derived.RangeFuncCalls
import Derived.RangeFuncLeaves
import Derived.Shelf.Abstract
import Derived.Shelf.RegionOpen
import Derived.WalkKit
import Derived.OwnWalkIn
import Derived.TacticsInMore
import Derived.LoopNIn
import Derived.LoopIn
import Derived.Test.YthkfkfbfblppeaaGreatSwGB
namespace Go.Proofs.YthkfkfbfblppeaaGreat
set_option linter.unusedSimpArgs false
set_option linter.unusedVariables false
open Go.RowKit
theorem Kz.below {m B0 : Nat} {A B : World} (k : Kz m A B) (h : B0 ≤ m) (hA : B0 ≤ A.heap.size) : Below B0 A B :=
  ⟨k.zero.os, k.zero.tape, k.zero.output, k.zero.size, fun i hi => k.block i (by omega) (.inl (by omega))⟩
variable {F : Fence} {n : Nat} {P : Program}
end Go.Proofs.YthkfkfbfblppeaaGreat
