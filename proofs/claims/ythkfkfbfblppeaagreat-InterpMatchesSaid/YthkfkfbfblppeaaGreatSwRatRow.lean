/- Part of the proof of imatL_holds: what the row needs of RatRow. Conditions: as each theorem states. -/
import Derived.Test.YthkfkfbfblppeaaGreatSwBigRow
import Derived.Test.YthkfkfbfblppeaaGreatSwGG
namespace Go.Proofs.YthkfkfbfblppeaaGreat
set_option linter.unusedSimpArgs false
set_option linter.unusedVariables false
open Go.RowKit Go.ChangeShapes Go.WideShapes Go.ChangeAt Go.Deep
section
variable {H : Type} {enc : TypeId × Value → H} {w : World} {base : Nat} {spare : Nat → Bool} {held : Bool}
theorem Tryz.cellsB : Tryz.prog.cellsOf 4 = 1 := by kernel_rfl
end
end Go.Proofs.YthkfkfbfblppeaaGreat
