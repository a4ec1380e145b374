/-
  No cell of these rows narrows 'for every input' (looked for: loops, veiled, ifaces, maps, wideKeys, modest, calm, conditions, laid).
  DERIVED. THE GIVEN ROWS OF THIS SEAT. 6 by the template 'for every input the law returns true; each argument reads behind the call as it read before'; 0 by the template 'total and deterministic' (their statements: YtdbhneoaibbofaaTotals.lean).
  GIVEN WITH THE SEED: the statements are not yours to turn. If you find one false, say at which input.
  Laid BY PROGRAM, IN A SANDBOX (cutbox-rows.mjs): the forced cells as the released guide's own fill.sh prints them over the translation c02278232ff0675e… (all of the seat's roots in one cut). By AI agents, Wed Nov 11 2026. No macro, syntax, notation, axiom, sorry.
-/
import Derived.Test.YtdbhneoaibbofaaChecked
import GoSem.Claim
import GoSem.ClaimJoined
import GoSem.ClaimMapViews
import Derived.JoinedTies
import Derived.KernelRfl
namespace Go.Proofs.Ytdbhneoaibbofaa
/- THE CELL 'sum', in the pinned program and in every row, IS THE sha256 OF THE DUMP (.gsa) THAT YtdbhneoaibbofaaProg.lean LOADS. Nothing in Lean hashes anything: it is a label: what it is worth is what the hold of that sum in a sandbox is worth. -/
noncomputable def Try.pinned : Pinned := { name := "ytdbhneoaibbofaa", sum := "c02278232ff0675e753d5fcc2aa1fa51f3174836d6f2c3799898e66924cfe31a", checked := Try.checked }
namespace Rows
def none {H : Type} : Left H := { results := [], args := [] }

/-- 'clearwaylaw30.InhibitMasks': WHATEVER THE INPUT: true; the input reads as it did. -/
def inhibitMasksSpec : ChangeSpec := { name := "inhibitMasks", fn := fun _ => fun
  | [d1, d2, d3] => { results := [.lit (.bool true)], args := [d1, d2, d3] }
  | _ => none }
def inhibitMasksRow : OpenClaim := { program := "ytdbhneoaibbofaa", sum := "c02278232ff0675e753d5fcc2aa1fa51f3174836d6f2c3799898e66924cfe31a", func := "clearway/clearwaylaw30.InhibitMasks", spec := "inhibitMasks", unfollowed := true, recurses := true, apart := false }
def InhibitMasksSaid : Prop := inhibitMasksRow.holds Try.pinned (OpenSpec.ofChange inhibitMasksSpec)

/-- ITS FALSE NEIGHBOUR: 'it returns false'. Refute it at one input. -/
def inhibitMasksWrong : ChangeSpec := { name := "inhibitMasks", fn := fun _ => fun
  | [d1, d2, d3] => { results := [.lit (.bool false)], args := [d1, d2, d3] }
  | _ => none }
def InhibitMasksWrongFalsely : Prop := inhibitMasksRow.holds Try.pinned (OpenSpec.ofChange inhibitMasksWrong)

/-- 'clearwaylaw30.InhibitMonotone': WHATEVER THE INPUT: true; the input reads as it did. -/
def inhibitMonotoneSpec : ChangeSpec := { name := "inhibitMonotone", fn := fun _ => fun
  | [d1, d2, d3] => { results := [.lit (.bool true)], args := [d1, d2, d3] }
  | _ => none }
def inhibitMonotoneRow : OpenClaim := { program := "ytdbhneoaibbofaa", sum := "c02278232ff0675e753d5fcc2aa1fa51f3174836d6f2c3799898e66924cfe31a", func := "clearway/clearwaylaw30.InhibitMonotone", spec := "inhibitMonotone", unfollowed := true, recurses := true, apart := false }
def InhibitMonotoneSaid : Prop := inhibitMonotoneRow.holds Try.pinned (OpenSpec.ofChange inhibitMonotoneSpec)

/-- ITS FALSE NEIGHBOUR: 'it returns false'. Refute it at one input. -/
def inhibitMonotoneWrong : ChangeSpec := { name := "inhibitMonotone", fn := fun _ => fun
  | [d1, d2, d3] => { results := [.lit (.bool false)], args := [d1, d2, d3] }
  | _ => none }
def InhibitMonotoneWrongFalsely : Prop := inhibitMonotoneRow.holds Try.pinned (OpenSpec.ofChange inhibitMonotoneWrong)

/-- 'clearwaylaw30.InhibitMatches': WHATEVER THE INPUT: true; the input reads as it did. -/
def inhibitMatchesSpec : ChangeSpec := { name := "inhibitMatches", fn := fun _ => fun
  | [d1, d2, d3] => { results := [.lit (.bool true)], args := [d1, d2, d3] }
  | _ => none }
def inhibitMatchesRow : OpenClaim := { program := "ytdbhneoaibbofaa", sum := "c02278232ff0675e753d5fcc2aa1fa51f3174836d6f2c3799898e66924cfe31a", func := "clearway/clearwaylaw30.InhibitMatches", spec := "inhibitMatches", unfollowed := true, recurses := true, apart := false }
def InhibitMatchesSaid : Prop := inhibitMatchesRow.holds Try.pinned (OpenSpec.ofChange inhibitMatchesSpec)

/-- ITS FALSE NEIGHBOUR: 'it returns false'. Refute it at one input. -/
def inhibitMatchesWrong : ChangeSpec := { name := "inhibitMatches", fn := fun _ => fun
  | [d1, d2, d3] => { results := [.lit (.bool false)], args := [d1, d2, d3] }
  | _ => none }
def InhibitMatchesWrongFalsely : Prop := inhibitMatchesRow.holds Try.pinned (OpenSpec.ofChange inhibitMatchesWrong)

/-- 'clearwaylaw30.InhibitExamples': WHATEVER THE INPUT: true; the input reads as it did. -/
def inhibitExamplesSpec : ChangeSpec := { name := "inhibitExamples", fn := fun _ => fun
  | [] => { results := [.lit (.bool true)], args := [] }
  | _ => none }
def inhibitExamplesRow : OpenClaim := { program := "ytdbhneoaibbofaa", sum := "c02278232ff0675e753d5fcc2aa1fa51f3174836d6f2c3799898e66924cfe31a", func := "clearway/clearwaylaw30.InhibitExamples", spec := "inhibitExamples", unfollowed := true, recurses := true, apart := false }
def InhibitExamplesSaid : Prop := inhibitExamplesRow.holds Try.pinned (OpenSpec.ofChange inhibitExamplesSpec)

/-- ITS FALSE NEIGHBOUR: 'it returns false'. Refute it at one input. -/
def inhibitExamplesWrong : ChangeSpec := { name := "inhibitExamples", fn := fun _ => fun
  | [] => { results := [.lit (.bool false)], args := [] }
  | _ => none }
def InhibitExamplesWrongFalsely : Prop := inhibitExamplesRow.holds Try.pinned (OpenSpec.ofChange inhibitExamplesWrong)

/-- 'clearwaylaw30.InhibitHysteresis': WHATEVER THE INPUT: true; the input reads as it did. -/
def inhibitHysteresisSpec : ChangeSpec := { name := "inhibitHysteresis", fn := fun _ => fun
  | [d1, d2, d3] => { results := [.lit (.bool true)], args := [d1, d2, d3] }
  | _ => none }
def inhibitHysteresisRow : OpenClaim := { program := "ytdbhneoaibbofaa", sum := "c02278232ff0675e753d5fcc2aa1fa51f3174836d6f2c3799898e66924cfe31a", func := "clearway/clearwaylaw30.InhibitHysteresis", spec := "inhibitHysteresis", unfollowed := true, recurses := true, apart := false }
def InhibitHysteresisSaid : Prop := inhibitHysteresisRow.holds Try.pinned (OpenSpec.ofChange inhibitHysteresisSpec)

/-- ITS FALSE NEIGHBOUR: 'it returns false'. Refute it at one input. -/
def inhibitHysteresisWrong : ChangeSpec := { name := "inhibitHysteresis", fn := fun _ => fun
  | [d1, d2, d3] => { results := [.lit (.bool false)], args := [d1, d2, d3] }
  | _ => none }
def InhibitHysteresisWrongFalsely : Prop := inhibitHysteresisRow.holds Try.pinned (OpenSpec.ofChange inhibitHysteresisWrong)

/-- 'clearwaylaw30.InhibitAgree': WHATEVER THE INPUT: true; the input reads as it did. -/
def inhibitAgreeSpec : ChangeSpec := { name := "inhibitAgree", fn := fun _ => fun
  | [d1, d2, d3] => { results := [.lit (.bool true)], args := [d1, d2, d3] }
  | _ => none }
def inhibitAgreeRow : OpenClaim := { program := "ytdbhneoaibbofaa", sum := "c02278232ff0675e753d5fcc2aa1fa51f3174836d6f2c3799898e66924cfe31a", func := "clearway/clearwaylaw30.InhibitAgree", spec := "inhibitAgree", unfollowed := true, recurses := true, apart := false }
def InhibitAgreeSaid : Prop := inhibitAgreeRow.holds Try.pinned (OpenSpec.ofChange inhibitAgreeSpec)

/-- ITS FALSE NEIGHBOUR: 'it returns false'. Refute it at one input. -/
def inhibitAgreeWrong : ChangeSpec := { name := "inhibitAgree", fn := fun _ => fun
  | [d1, d2, d3] => { results := [.lit (.bool false)], args := [d1, d2, d3] }
  | _ => none }
def InhibitAgreeWrongFalsely : Prop := inhibitAgreeRow.holds Try.pinned (OpenSpec.ofChange inhibitAgreeWrong)

/- THE SECOND FORM. 'bulk': how many values and letters a reading holds, each counted each time it is reached (what is shared counts as often as it is met; a slice's spare places count too). A statement '..UptoSaid' is the law's where the arguments, and the package variables that the reading takes, are together of bulk at most 1048576: NARROWER than '..Said'. Prove '..Said' where nothing that the law and all that it calls make is longer than what came in: it says more and counts as full. Else prove '..UptoSaid'. A law counts once. -/
mutual
def uptoBulk {H : Type} : DataW H → Nat
  | .lit (.string bytes) => bytes.length + 1
  | .lit _ => 1
  | .nil => 1
  | .ptr d => uptoBulk d + 1
  | .slice elems spare => uptoBulkAll elems + uptoBulkAll spare + 1
  | .agg parts => uptoBulkAll parts + 1
  | .iface _ d => uptoBulk d + 1
  | .map entries => uptoBulkEntries entries + 1
  | .held _ => 1
def uptoBulkAll {H : Type} : List (DataW H) → Nat
  | [] => 0
  | d :: r => uptoBulk d + uptoBulkAll r
def uptoBulkEntries {H : Type} : List (Lit × DataW H) → Nat
  | [] => 0
  | x :: r => uptoBulkEntry x + uptoBulkEntries r
def uptoBulkEntry {H : Type} : Lit × DataW H → Nat
  | (.string bytes, d) => bytes.length + uptoBulk d + 1
  | (_, d) => uptoBulk d + 1
 end
def uptoSmall : (H : Type) → List (DataW H) → Bool := fun _ ds => decide (uptoBulkAll ds ≤ 1048576)
def OpenSpec.upto (s : _root_.Go.ChangeSpec) : _root_.Go.OpenSpec := { _root_.Go.OpenSpec.ofChange s with cond := some uptoSmall }

/-- 'clearwaylaw30.InhibitMasks', WHERE WHAT IT READS IS OF BULK AT MOST 1048576: true; the input reads as it did. -/
def inhibitMasksUptoRow : OpenClaim := { program := "ytdbhneoaibbofaa", sum := "c02278232ff0675e753d5fcc2aa1fa51f3174836d6f2c3799898e66924cfe31a", func := "clearway/clearwaylaw30.InhibitMasks", spec := "inhibitMasks", unfollowed := true, recurses := true, apart := false, narrowed := true }
def InhibitMasksUptoSaid : Prop := inhibitMasksUptoRow.holds Try.pinned (OpenSpec.upto inhibitMasksSpec)

/-- 'clearwaylaw30.InhibitMonotone', WHERE WHAT IT READS IS OF BULK AT MOST 1048576: true; the input reads as it did. -/
def inhibitMonotoneUptoRow : OpenClaim := { program := "ytdbhneoaibbofaa", sum := "c02278232ff0675e753d5fcc2aa1fa51f3174836d6f2c3799898e66924cfe31a", func := "clearway/clearwaylaw30.InhibitMonotone", spec := "inhibitMonotone", unfollowed := true, recurses := true, apart := false, narrowed := true }
def InhibitMonotoneUptoSaid : Prop := inhibitMonotoneUptoRow.holds Try.pinned (OpenSpec.upto inhibitMonotoneSpec)

/-- 'clearwaylaw30.InhibitMatches', WHERE WHAT IT READS IS OF BULK AT MOST 1048576: true; the input reads as it did. -/
def inhibitMatchesUptoRow : OpenClaim := { program := "ytdbhneoaibbofaa", sum := "c02278232ff0675e753d5fcc2aa1fa51f3174836d6f2c3799898e66924cfe31a", func := "clearway/clearwaylaw30.InhibitMatches", spec := "inhibitMatches", unfollowed := true, recurses := true, apart := false, narrowed := true }
def InhibitMatchesUptoSaid : Prop := inhibitMatchesUptoRow.holds Try.pinned (OpenSpec.upto inhibitMatchesSpec)

/-- 'clearwaylaw30.InhibitExamples', WHERE WHAT IT READS IS OF BULK AT MOST 1048576: true; the input reads as it did. -/
def inhibitExamplesUptoRow : OpenClaim := { program := "ytdbhneoaibbofaa", sum := "c02278232ff0675e753d5fcc2aa1fa51f3174836d6f2c3799898e66924cfe31a", func := "clearway/clearwaylaw30.InhibitExamples", spec := "inhibitExamples", unfollowed := true, recurses := true, apart := false, narrowed := true }
def InhibitExamplesUptoSaid : Prop := inhibitExamplesUptoRow.holds Try.pinned (OpenSpec.upto inhibitExamplesSpec)

/-- 'clearwaylaw30.InhibitHysteresis', WHERE WHAT IT READS IS OF BULK AT MOST 1048576: true; the input reads as it did. -/
def inhibitHysteresisUptoRow : OpenClaim := { program := "ytdbhneoaibbofaa", sum := "c02278232ff0675e753d5fcc2aa1fa51f3174836d6f2c3799898e66924cfe31a", func := "clearway/clearwaylaw30.InhibitHysteresis", spec := "inhibitHysteresis", unfollowed := true, recurses := true, apart := false, narrowed := true }
def InhibitHysteresisUptoSaid : Prop := inhibitHysteresisUptoRow.holds Try.pinned (OpenSpec.upto inhibitHysteresisSpec)

/-- 'clearwaylaw30.InhibitAgree', WHERE WHAT IT READS IS OF BULK AT MOST 1048576: true; the input reads as it did. -/
def inhibitAgreeUptoRow : OpenClaim := { program := "ytdbhneoaibbofaa", sum := "c02278232ff0675e753d5fcc2aa1fa51f3174836d6f2c3799898e66924cfe31a", func := "clearway/clearwaylaw30.InhibitAgree", spec := "inhibitAgree", unfollowed := true, recurses := true, apart := false, narrowed := true }
def InhibitAgreeUptoSaid : Prop := inhibitAgreeUptoRow.holds Try.pinned (OpenSpec.upto inhibitAgreeSpec)

end Rows
end Go.Proofs.Ytdbhneoaibbofaa
