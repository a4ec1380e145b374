/- Walk of Long of layer 5's law package. Conditions: the slices lie in one block. -/
import Derived.Test.YthkfkfbfblppeaaGreatGF
namespace Go.Proofs.YthkfkfbfblppeaaGreat
set_option linter.unusedSimpArgs false
set_option linter.unusedVariables false
open Go.RowKit

/-- What Long returns: if it is false, no number is of a length that the laws leave out. -/
def LongB (vs : List (Option Addr × Nat × Nat)) (e : Ending) : Prop := ∃ r, e = .returned (.bool r) ∧ (r = false → ∀ (i : Nat) (hi : i < vs.length), (vs[i]).2.1 ≤ 20 ∨ 512 < (vs[i]).2.1)

end Go.Proofs.YthkfkfbfblppeaaGreat
