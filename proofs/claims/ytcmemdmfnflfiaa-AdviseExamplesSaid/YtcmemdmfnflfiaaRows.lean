/-
  No cell of these rows narrows 'for every input' (looked for: loops, veiled, ifaces, maps, wideKeys, modest, calm, conditions, laid).
  DERIVED. THE GIVEN ROWS OF THIS SEAT. 6 by the template 'for every input the law returns true; each argument reads behind the call as it read before'; 0 by the template 'total and deterministic' (their statements: YtcmemdmfnflfiaaTotals.lean).
  GIVEN WITH THE SEED: the statements are not yours to turn. If you find one false, say at which input.
  Laid BY PROGRAM, IN A SANDBOX (cutbox-rows.mjs): the forced cells as the released guide's own fill.sh prints them over the translation 003be3bf69f483c7… (all of the seat's roots in one cut). By AI agents, Wed Nov 11 2026. No macro, syntax, notation, axiom, sorry.
-/
import Derived.Test.YtcmemdmfnflfiaaChecked
import GoSem.Claim
import GoSem.ClaimJoined
import GoSem.ClaimMapViews
import Derived.JoinedTies
import Derived.KernelRfl
namespace Go.Proofs.Ytcmemdmfnflfiaa
/- THE CELL 'sum', in the pinned program and in every row, IS THE sha256 OF THE DUMP (.gsa) THAT YtcmemdmfnflfiaaProg.lean LOADS. Nothing in Lean hashes anything: it is a label: what it is worth is what the hold of that sum in a sandbox is worth. -/
noncomputable def Try.pinned : Pinned := { name := "ytcmemdmfnflfiaa", sum := "003be3bf69f483c76c93ddbf0f93644d4bd5ffee91324552c2875601643fd829", checked := Try.checked }
namespace Rows
def none {H : Type} : Left H := { results := [], args := [] }

/-- 'clearwaylaw30.InhibitExamples': WHATEVER THE INPUT: true; the input reads as it did. -/
def inhibitExamplesSpec : ChangeSpec := { name := "inhibitExamples", fn := fun _ => fun
  | [] => { results := [.lit (.bool true)], args := [] }
  | _ => none }
def inhibitExamplesRow : OpenClaim := { program := "ytcmemdmfnflfiaa", sum := "003be3bf69f483c76c93ddbf0f93644d4bd5ffee91324552c2875601643fd829", func := "clearway/clearwaylaw30.InhibitExamples", spec := "inhibitExamples", unfollowed := true, recurses := true, apart := false }
def InhibitExamplesSaid : Prop := inhibitExamplesRow.holds Try.pinned (OpenSpec.ofChange inhibitExamplesSpec)

/-- ITS FALSE NEIGHBOUR: 'it returns false'. Refute it at one input. -/
def inhibitExamplesWrong : ChangeSpec := { name := "inhibitExamples", fn := fun _ => fun
  | [] => { results := [.lit (.bool false)], args := [] }
  | _ => none }
def InhibitExamplesWrongFalsely : Prop := inhibitExamplesRow.holds Try.pinned (OpenSpec.ofChange inhibitExamplesWrong)

/-- 'clearwaylaw30.InhibitHysteresis': WHATEVER THE INPUT: true; the input reads as it did. -/
def inhibitHysteresisSpec : ChangeSpec := { name := "inhibitHysteresis", fn := fun _ => fun
  | [d1, d2, d3] => { results := [.lit (.bool true)], args := [d1, d2, d3] }
  | _ => none }
def inhibitHysteresisRow : OpenClaim := { program := "ytcmemdmfnflfiaa", sum := "003be3bf69f483c76c93ddbf0f93644d4bd5ffee91324552c2875601643fd829", func := "clearway/clearwaylaw30.InhibitHysteresis", spec := "inhibitHysteresis", unfollowed := true, recurses := true, apart := false }
def InhibitHysteresisSaid : Prop := inhibitHysteresisRow.holds Try.pinned (OpenSpec.ofChange inhibitHysteresisSpec)

/-- ITS FALSE NEIGHBOUR: 'it returns false'. Refute it at one input. -/
def inhibitHysteresisWrong : ChangeSpec := { name := "inhibitHysteresis", fn := fun _ => fun
  | [d1, d2, d3] => { results := [.lit (.bool false)], args := [d1, d2, d3] }
  | _ => none }
def InhibitHysteresisWrongFalsely : Prop := inhibitHysteresisRow.holds Try.pinned (OpenSpec.ofChange inhibitHysteresisWrong)

/-- 'clearwaylaw28.AdviseExamples': WHATEVER THE INPUT: true; the input reads as it did. -/
def adviseExamplesSpec : ChangeSpec := { name := "adviseExamples", fn := fun _ => fun
  | [] => { results := [.lit (.bool true)], args := [] }
  | _ => none }
def adviseExamplesRow : OpenClaim := { program := "ytcmemdmfnflfiaa", sum := "003be3bf69f483c76c93ddbf0f93644d4bd5ffee91324552c2875601643fd829", func := "clearway/clearwaylaw28.AdviseExamples", spec := "adviseExamples", unfollowed := true, recurses := true, apart := false }
def AdviseExamplesSaid : Prop := adviseExamplesRow.holds Try.pinned (OpenSpec.ofChange adviseExamplesSpec)

/-- ITS FALSE NEIGHBOUR: 'it returns false'. Refute it at one input. -/
def adviseExamplesWrong : ChangeSpec := { name := "adviseExamples", fn := fun _ => fun
  | [] => { results := [.lit (.bool false)], args := [] }
  | _ => none }
def AdviseExamplesWrongFalsely : Prop := adviseExamplesRow.holds Try.pinned (OpenSpec.ofChange adviseExamplesWrong)

/-- 'clearwaylaw28.AdviseRuns': WHATEVER THE INPUT: true; the input reads as it did. -/
def adviseRunsSpec : ChangeSpec := { name := "adviseRuns", fn := fun _ => fun
  | [d1, d2, d3] => { results := [.lit (.bool true)], args := [d1, d2, d3] }
  | _ => none }
def adviseRunsRow : OpenClaim := { program := "ytcmemdmfnflfiaa", sum := "003be3bf69f483c76c93ddbf0f93644d4bd5ffee91324552c2875601643fd829", func := "clearway/clearwaylaw28.AdviseRuns", spec := "adviseRuns", unfollowed := true, recurses := true, apart := false }
def AdviseRunsSaid : Prop := adviseRunsRow.holds Try.pinned (OpenSpec.ofChange adviseRunsSpec)

/-- ITS FALSE NEIGHBOUR: 'it returns false'. Refute it at one input. -/
def adviseRunsWrong : ChangeSpec := { name := "adviseRuns", fn := fun _ => fun
  | [d1, d2, d3] => { results := [.lit (.bool false)], args := [d1, d2, d3] }
  | _ => none }
def AdviseRunsWrongFalsely : Prop := adviseRunsRow.holds Try.pinned (OpenSpec.ofChange adviseRunsWrong)

/-- 'clearwaylaw30.InhibitNoDescent': WHATEVER THE INPUT: true; the input reads as it did. -/
def inhibitNoDescentSpec : ChangeSpec := { name := "inhibitNoDescent", fn := fun _ => fun
  | [d1, d2, d3] => { results := [.lit (.bool true)], args := [d1, d2, d3] }
  | _ => none }
def inhibitNoDescentRow : OpenClaim := { program := "ytcmemdmfnflfiaa", sum := "003be3bf69f483c76c93ddbf0f93644d4bd5ffee91324552c2875601643fd829", func := "clearway/clearwaylaw30.InhibitNoDescent", spec := "inhibitNoDescent", unfollowed := true, recurses := true, apart := false }
def InhibitNoDescentSaid : Prop := inhibitNoDescentRow.holds Try.pinned (OpenSpec.ofChange inhibitNoDescentSpec)

/-- ITS FALSE NEIGHBOUR: 'it returns false'. Refute it at one input. -/
def inhibitNoDescentWrong : ChangeSpec := { name := "inhibitNoDescent", fn := fun _ => fun
  | [d1, d2, d3] => { results := [.lit (.bool false)], args := [d1, d2, d3] }
  | _ => none }
def InhibitNoDescentWrongFalsely : Prop := inhibitNoDescentRow.holds Try.pinned (OpenSpec.ofChange inhibitNoDescentWrong)

/-- 'clearwaylaw06.RatExamples': WHATEVER THE INPUT: true; the input reads as it did. -/
def ratExamplesSpec : ChangeSpec := { name := "ratExamples", fn := fun _ => fun
  | [] => { results := [.lit (.bool true)], args := [] }
  | _ => none }
def ratExamplesRow : OpenClaim := { program := "ytcmemdmfnflfiaa", sum := "003be3bf69f483c76c93ddbf0f93644d4bd5ffee91324552c2875601643fd829", func := "clearway/clearwaylaw06.RatExamples", spec := "ratExamples", inPlace := ["internal/bytealg.IndexByteString", "internal/bytealg.IndexString"], unfollowed := true, recurses := true, named := ["internal/bytealg.MaxLen"], apart := false }
def RatExamplesSaid : Prop := ratExamplesRow.holds Try.pinned (OpenSpec.ofChange ratExamplesSpec)

/-- ITS FALSE NEIGHBOUR: 'it returns false'. Refute it at one input. -/
def ratExamplesWrong : ChangeSpec := { name := "ratExamples", fn := fun _ => fun
  | [] => { results := [.lit (.bool false)], args := [] }
  | _ => none }
def RatExamplesWrongFalsely : Prop := ratExamplesRow.holds Try.pinned (OpenSpec.ofChange ratExamplesWrong)

/- THE SECOND FORM. 'bulk': how many values and letters a reading holds, each counted each time it is reached (what is shared counts as often as it is met; a slice's spare places count too). A statement '..UptoSaid' is the law's where the arguments, and the package variables that the reading takes, are together of bulk at most 1048576: NARROWER than '..Said'. Prove '..Said' where nothing that the law and all that it calls make is longer than what came in: it says more and counts as full. Else prove '..UptoSaid'. A law counts once. -/
mutual
def uptoBulk {H : Type} : DataW H → Nat
  | .lit (.string bytes) => bytes.length + 1
  | .lit _ => 1
  | .nil => 1
  | .ptr d => uptoBulk d + 1
  | .slice elems spare => uptoBulkAll elems + uptoBulkAll spare + 1
  | .agg parts => uptoBulkAll parts + 1
  | .iface _ d => uptoBulk d + 1
  | .map entries => uptoBulkEntries entries + 1
  | .held _ => 1
def uptoBulkAll {H : Type} : List (DataW H) → Nat
  | [] => 0
  | d :: r => uptoBulk d + uptoBulkAll r
def uptoBulkEntries {H : Type} : List (Lit × DataW H) → Nat
  | [] => 0
  | x :: r => uptoBulkEntry x + uptoBulkEntries r
def uptoBulkEntry {H : Type} : Lit × DataW H → Nat
  | (.string bytes, d) => bytes.length + uptoBulk d + 1
  | (_, d) => uptoBulk d + 1
 end
def uptoSmall : (H : Type) → List (DataW H) → Bool := fun _ ds => decide (uptoBulkAll ds ≤ 1048576)
def OpenSpec.upto (s : _root_.Go.ChangeSpec) : _root_.Go.OpenSpec := { _root_.Go.OpenSpec.ofChange s with cond := some uptoSmall }

/-- 'clearwaylaw30.InhibitExamples', WHERE WHAT IT READS IS OF BULK AT MOST 1048576: true; the input reads as it did. -/
def inhibitExamplesUptoRow : OpenClaim := { program := "ytcmemdmfnflfiaa", sum := "003be3bf69f483c76c93ddbf0f93644d4bd5ffee91324552c2875601643fd829", func := "clearway/clearwaylaw30.InhibitExamples", spec := "inhibitExamples", unfollowed := true, recurses := true, apart := false, narrowed := true }
def InhibitExamplesUptoSaid : Prop := inhibitExamplesUptoRow.holds Try.pinned (OpenSpec.upto inhibitExamplesSpec)

/-- 'clearwaylaw30.InhibitHysteresis', WHERE WHAT IT READS IS OF BULK AT MOST 1048576: true; the input reads as it did. -/
def inhibitHysteresisUptoRow : OpenClaim := { program := "ytcmemdmfnflfiaa", sum := "003be3bf69f483c76c93ddbf0f93644d4bd5ffee91324552c2875601643fd829", func := "clearway/clearwaylaw30.InhibitHysteresis", spec := "inhibitHysteresis", unfollowed := true, recurses := true, apart := false, narrowed := true }
def InhibitHysteresisUptoSaid : Prop := inhibitHysteresisUptoRow.holds Try.pinned (OpenSpec.upto inhibitHysteresisSpec)

/-- 'clearwaylaw28.AdviseExamples', WHERE WHAT IT READS IS OF BULK AT MOST 1048576: true; the input reads as it did. -/
def adviseExamplesUptoRow : OpenClaim := { program := "ytcmemdmfnflfiaa", sum := "003be3bf69f483c76c93ddbf0f93644d4bd5ffee91324552c2875601643fd829", func := "clearway/clearwaylaw28.AdviseExamples", spec := "adviseExamples", unfollowed := true, recurses := true, apart := false, narrowed := true }
def AdviseExamplesUptoSaid : Prop := adviseExamplesUptoRow.holds Try.pinned (OpenSpec.upto adviseExamplesSpec)

/-- 'clearwaylaw28.AdviseRuns', WHERE WHAT IT READS IS OF BULK AT MOST 1048576: true; the input reads as it did. -/
def adviseRunsUptoRow : OpenClaim := { program := "ytcmemdmfnflfiaa", sum := "003be3bf69f483c76c93ddbf0f93644d4bd5ffee91324552c2875601643fd829", func := "clearway/clearwaylaw28.AdviseRuns", spec := "adviseRuns", unfollowed := true, recurses := true, apart := false, narrowed := true }
def AdviseRunsUptoSaid : Prop := adviseRunsUptoRow.holds Try.pinned (OpenSpec.upto adviseRunsSpec)

/-- 'clearwaylaw30.InhibitNoDescent', WHERE WHAT IT READS IS OF BULK AT MOST 1048576: true; the input reads as it did. -/
def inhibitNoDescentUptoRow : OpenClaim := { program := "ytcmemdmfnflfiaa", sum := "003be3bf69f483c76c93ddbf0f93644d4bd5ffee91324552c2875601643fd829", func := "clearway/clearwaylaw30.InhibitNoDescent", spec := "inhibitNoDescent", unfollowed := true, recurses := true, apart := false, narrowed := true }
def InhibitNoDescentUptoSaid : Prop := inhibitNoDescentUptoRow.holds Try.pinned (OpenSpec.upto inhibitNoDescentSpec)

/-- 'clearwaylaw06.RatExamples', WHERE WHAT IT READS IS OF BULK AT MOST 1048576: true; the input reads as it did. -/
def ratExamplesUptoRow : OpenClaim := { program := "ytcmemdmfnflfiaa", sum := "003be3bf69f483c76c93ddbf0f93644d4bd5ffee91324552c2875601643fd829", func := "clearway/clearwaylaw06.RatExamples", spec := "ratExamples", inPlace := ["internal/bytealg.IndexByteString", "internal/bytealg.IndexString"], unfollowed := true, recurses := true, named := ["internal/bytealg.MaxLen"], apart := false, narrowed := true }
def RatExamplesUptoSaid : Prop := ratExamplesUptoRow.holds Try.pinned (OpenSpec.upto ratExamplesSpec)

end Rows
end Go.Proofs.Ytcmemdmfnflfiaa
