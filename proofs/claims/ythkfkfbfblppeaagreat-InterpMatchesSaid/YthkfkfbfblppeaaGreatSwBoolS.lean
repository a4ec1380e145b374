/- Part of the proof of imatL_holds: what the row needs of BoolS. Conditions: as each theorem states. -/
import Derived.Test.YthkfkfbfblppeaaGreatSwGA
namespace Go.Proofs.YthkfkfbfblppeaaGreat
set_option linter.unusedSimpArgs false
set_option linter.unusedVariables false
open Go.RowKit
abbrev OwBo (w : World) (B : Nat) (v : Value) (l : List Bool) : Prop := w.ownsRow B 4 1 v l.length (l.map Value.bool)
theorem OwBo.rd {w : World} {B : Nat} {v : Value} {l : List Bool} (h : OwBo w B v l) : Rd w v (l.map Value.bool) := own_rd (B := B) (e := 4) (by rw [List.length_map]; exact h)
end Go.Proofs.YthkfkfbfblppeaaGreat
