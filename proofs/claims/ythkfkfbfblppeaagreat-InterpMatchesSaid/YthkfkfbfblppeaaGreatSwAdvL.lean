/- Part of the proof of imatL_holds: what the row needs of AdvL. Conditions: as each theorem states. -/
import Derived.Test.YthkfkfbfblppeaaGreatSwRatLs
import Derived.Test.YthkfkfbfblppeaaGreatSwGK
import Derived.Test.YthkfkfbfblppeaaGreatSwRatRb
import Derived.Test.YthkfkfbfblppeaaGreatSwUp
namespace Go.Proofs.YthkfkfbfblppeaaGreat
set_option linter.unusedSimpArgs false
set_option linter.unusedVariables false
open Go.RowKit Go.Shelf
attribute [local go_sem] Oper.semAt_some
def ltR (a b : RR) : Bool := decide ((cmpR a b).1 < 0)
def allow (ms : Nat → Nat → Bool) (M i : Nat) : Bool := (List.range M).all fun j => ms j i
def pick (ms : Nat → Nat → Bool) (M n : Nat) : List Nat := (List.range n).filter (allow ms M)
end Go.Proofs.YthkfkfbfblppeaaGreat
