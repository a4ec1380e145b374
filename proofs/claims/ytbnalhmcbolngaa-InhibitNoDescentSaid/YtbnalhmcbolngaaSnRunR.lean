/- Part of the proof of nodL_holds: what the row needs of RunR. Conditions: as each theorem states. -/
import Derived.Test.YtbnalhmcbolngaaSnInhA
import Derived.Test.YtbnalhmcbolngaaSnGA
import Derived.Test.YtbnalhmcbolngaaSnSpecR
import Derived.Test.YtbnalhmcbolngaaSnGB
namespace Go.Proofs.Ytbnalhmcbolngaa
set_option linter.unusedSimpArgs false
set_option linter.unusedVariables false
open Go.RowKit
abbrev blkCells (x : BlkD) : List Value := [.bool x.1, .bool x.2.1, .bool x.2.2]
abbrev OwBk (w : World) (B : Nat) (v : Value) (l : List BlkD) : Prop := w.ownsRow B 78 3 v l.length (l.flatMap blkCells)
theorem Try.infoBlk : (Try.prog.info? 78).map (fun i => (i.zero, i.size, i.bytes)) = some (some (.agg #[.bool false, .bool false, .bool false]), 3, 3) := by kernel_rfl
end Go.Proofs.Ytbnalhmcbolngaa
