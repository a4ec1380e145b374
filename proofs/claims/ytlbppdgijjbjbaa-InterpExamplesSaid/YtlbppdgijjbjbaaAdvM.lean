/- Walks of Least of advise and of its reference. Conditions: costs and booleans read as slices. -/
import Derived.Test.YtlbppdgijjbjbaaAdvF
import Derived.Test.YtlbppdgijjbjbaaRatSb
import Derived.Test.YtlbppdgijjbjbaaBoolS
namespace Go.Proofs.Ytlbppdgijjbjbaa
set_option linter.unusedSimpArgs false
set_option linter.unusedVariables false
open Go.RowKit

/-- What some masks allow. -/
def mskF (l : List (List Bool)) : Nat → Nat → Bool := fun j i => (l.getD j []).getD i false
def pickL (l : List (List Bool)) (n : Nat) : List Nat := pick (mskF l) l.length n
/-- What Least returns. -/
def leastS (costs : List RR) (all : List Bool) : Int × Int :=
  if costs.length = 0 then (0, 3) else if costs.length ≠ all.length then (0, 16) else if chkRs costs ≠ 0 then (0, chkRs costs)
  else match bestF costs (pickL [all] costs.length) with
    | none => (0, 9)
    | some i => ((i : Nat), 0)
theorem leastS_0 {costs : List RR} {all : List Bool} (h : costs.length = 0) : leastS costs all = (0, 3) := if_pos h
theorem leastS_1 {costs : List RR} {all : List Bool} (h : costs.length ≠ 0) (h2 : costs.length ≠ all.length) : leastS costs all = (0, 16) := by unfold leastS; rw [if_neg h, if_pos h2]
theorem leastS_2 {costs : List RR} {all : List Bool} (h : costs.length ≠ 0) (h2 : costs.length = all.length) (h3 : chkRs costs ≠ 0) : leastS costs all = (0, chkRs costs) := by unfold leastS; rw [if_neg h, if_neg (by simpa using h2), if_pos h3]
theorem leastS_3 {costs : List RR} {all : List Bool} (h : costs.length ≠ 0) (h2 : costs.length = all.length) (h3 : chkRs costs = 0) : leastS costs all = (if (bestF costs (pickL [all] costs.length)).isSome = true then (keyB (bestF costs (pickL [all] costs.length)), 0) else (0, 9)) := by
  unfold leastS
  rw [if_neg h, if_neg (by simpa using h2), if_neg (by simpa using h3)]
  cases bestF costs (pickL [all] costs.length) <;> rfl

end Go.Proofs.Ytlbppdgijjbjbaa
