/- Walks of Least of advise and of its reference. Conditions: costs and booleans read as slices. -/
import Derived.Test.YtbnalhmcbolngaaAdvF
import Derived.Test.YtbnalhmcbolngaaRatSb
import Derived.Test.YtbnalhmcbolngaaBoolS
namespace Go.Proofs.Ytbnalhmcbolngaa
set_option linter.unusedSimpArgs false
set_option linter.unusedVariables false
open Go.RowKit

/-- What some masks allow. -/
def mskF (l : List (List Bool)) : Nat → Nat → Bool := fun j i => (l.getD j []).getD i false
def pickL (l : List (List Bool)) (n : Nat) : List Nat := pick (mskF l) l.length n
/-- What Least returns. -/
def leastS (costs : List RR) (all : List Bool) : Int × Int :=
  if costs.length = 0 then (0, 3) else if costs.length ≠ all.length then (0, 16) else if chkRs costs ≠ 0 then (0, chkRs costs)
  else match bestF costs (pickL [all] costs.length) with
    | none => (0, 9)
    | some i => ((i : Nat), 0)
theorem leastS_0 {costs : List RR} {all : List Bool} (h : costs.length = 0) : leastS costs all = (0, 3) := if_pos h
theorem leastS_1 {costs : List RR} {all : List Bool} (h : costs.length ≠ 0) (h2 : costs.length ≠ all.length) : leastS costs all = (0, 16) := by unfold leastS; rw [if_neg h, if_pos h2]
theorem leastS_2 {costs : List RR} {all : List Bool} (h : costs.length ≠ 0) (h2 : costs.length = all.length) (h3 : chkRs costs ≠ 0) : leastS costs all = (0, chkRs costs) := by unfold leastS; rw [if_neg h, if_neg (by simpa using h2), if_pos h3]
theorem leastS_3 {costs : List RR} {all : List Bool} (h : costs.length ≠ 0) (h2 : costs.length = all.length) (h3 : chkRs costs = 0) : leastS costs all = (if (bestF costs (pickL [all] costs.length)).isSome = true then (keyB (bestF costs (pickL [all] costs.length)), 0) else (0, 9)) := by
  unfold leastS
  rw [if_neg h, if_neg (by simpa using h2), if_neg (by simpa using h3)]
  cases bestF costs (pickL [all] costs.length) <;> rfl

/-- Masks of a list that lie in a row of the call's own. -/
theorem rdMs_one {w : World} {aa : Option Addr} {ca : Nat} {all : List Bool} {b : Nat} (h : Rd w (.slice aa all.length ca) (all.map Value.bool)) (hb : Blk w b #[.slice aa all.length ca] 74) {N : Nat} (hN : N ≤ all.length) : RdMs w.heap.size w (some ⟨b, 0, none⟩) 1 N (mskF [all]) := by
  intro j hj
  obtain rfl : j = 0 := by omega
  obtain ⟨a, cap, hv, hc, hm, hr⟩ := rdB_get h
  injection hv with e1 _ e3
  subst e1; subst e3
  refine ⟨b, 0, aa, all.length, ca, rfl, hb.lt, by have := hb.cell 0; simpa using this, hN, by omega, fun i hi => ?_⟩
  obtain ⟨b2, o2, e1, e2, e3⟩ := hr i (by omega)
  exact ⟨b2, o2, e1, e2, e3⟩

end Go.Proofs.Ytbnalhmcbolngaa
