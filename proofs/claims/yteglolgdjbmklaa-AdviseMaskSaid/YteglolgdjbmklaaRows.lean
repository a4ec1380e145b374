/-
  No cell of these rows narrows 'for every input' (looked for: loops, veiled, ifaces, maps, wideKeys, modest, calm, conditions, laid).
  DERIVED. THE GIVEN ROWS OF THIS SEAT. 9 by the template 'for every input the law returns true; each argument reads behind the call as it read before'; 0 by the template 'total and deterministic' (their statements: YteglolgdjbmklaaTotals.lean).
  GIVEN WITH THE SEED: the statements are not yours to turn. If you find one false, say at which input.
  Laid BY PROGRAM, IN A SANDBOX (cutbox-rows.mjs): the forced cells as the released guide's own fill.sh prints them over the translation b0fb39898f763e78… (all of the seat's roots in one cut). By AI agents, Wed Nov 11 2026. No macro, syntax, notation, axiom, sorry.
-/
import Derived.Test.YteglolgdjbmklaaChecked
import GoSem.Claim
import GoSem.ClaimJoined
import GoSem.ClaimMapViews
import Derived.JoinedTies
import Derived.KernelRfl
namespace Go.Proofs.Yteglolgdjbmklaa
/- THE CELL 'sum', in the pinned program and in every row, IS THE sha256 OF THE DUMP (.gsa) THAT YteglolgdjbmklaaProg.lean LOADS. Nothing in Lean hashes anything: it is a label: what it is worth is what the hold of that sum in a sandbox is worth. -/
noncomputable def Try.pinned : Pinned := { name := "yteglolgdjbmklaa", sum := "b0fb39898f763e785a73d72fd57ff345690fc98aed0a18c13549a0d0df85355a", checked := Try.checked }
namespace Rows
def none {H : Type} : Left H := { results := [], args := [] }

/-- 'clearwaylaw28.AdviseKinds': WHATEVER THE INPUT: true; the input reads as it did. -/
def adviseKindsSpec : ChangeSpec := { name := "adviseKinds", fn := fun _ => fun
  | [d1, d2, d3] => { results := [.lit (.bool true)], args := [d1, d2, d3] }
  | _ => none }
def adviseKindsRow : OpenClaim := { program := "yteglolgdjbmklaa", sum := "b0fb39898f763e785a73d72fd57ff345690fc98aed0a18c13549a0d0df85355a", func := "clearway/clearwaylaw28.AdviseKinds", spec := "adviseKinds", unfollowed := true, recurses := true, apart := false }
def AdviseKindsSaid : Prop := adviseKindsRow.holds Try.pinned (OpenSpec.ofChange adviseKindsSpec)

/-- ITS FALSE NEIGHBOUR: 'it returns false'. Refute it at one input. -/
def adviseKindsWrong : ChangeSpec := { name := "adviseKinds", fn := fun _ => fun
  | [d1, d2, d3] => { results := [.lit (.bool false)], args := [d1, d2, d3] }
  | _ => none }
def AdviseKindsWrongFalsely : Prop := adviseKindsRow.holds Try.pinned (OpenSpec.ofChange adviseKindsWrong)

/-- 'clearwaylaw28.AdviseLeastMatches': WHATEVER THE INPUT: true; the input reads as it did. -/
def adviseLeastMatchesSpec : ChangeSpec := { name := "adviseLeastMatches", fn := fun _ => fun
  | [d1, d2] => { results := [.lit (.bool true)], args := [d1, d2] }
  | _ => none }
def adviseLeastMatchesRow : OpenClaim := { program := "yteglolgdjbmklaa", sum := "b0fb39898f763e785a73d72fd57ff345690fc98aed0a18c13549a0d0df85355a", func := "clearway/clearwaylaw28.AdviseLeastMatches", spec := "adviseLeastMatches", unfollowed := true, recurses := true, apart := false }
def AdviseLeastMatchesSaid : Prop := adviseLeastMatchesRow.holds Try.pinned (OpenSpec.ofChange adviseLeastMatchesSpec)

/-- ITS FALSE NEIGHBOUR: 'it returns false'. Refute it at one input. -/
def adviseLeastMatchesWrong : ChangeSpec := { name := "adviseLeastMatches", fn := fun _ => fun
  | [d1, d2] => { results := [.lit (.bool false)], args := [d1, d2] }
  | _ => none }
def AdviseLeastMatchesWrongFalsely : Prop := adviseLeastMatchesRow.holds Try.pinned (OpenSpec.ofChange adviseLeastMatchesWrong)

/-- 'clearwaylaw28.AdviseSymmetry': WHATEVER THE INPUT: true; the input reads as it did. -/
def adviseSymmetrySpec : ChangeSpec := { name := "adviseSymmetry", fn := fun _ => fun
  | [d1, d2, d3] => { results := [.lit (.bool true)], args := [d1, d2, d3] }
  | _ => none }
def adviseSymmetryRow : OpenClaim := { program := "yteglolgdjbmklaa", sum := "b0fb39898f763e785a73d72fd57ff345690fc98aed0a18c13549a0d0df85355a", func := "clearway/clearwaylaw28.AdviseSymmetry", spec := "adviseSymmetry", unfollowed := true, recurses := true, apart := false }
def AdviseSymmetrySaid : Prop := adviseSymmetryRow.holds Try.pinned (OpenSpec.ofChange adviseSymmetrySpec)

/-- ITS FALSE NEIGHBOUR: 'it returns false'. Refute it at one input. -/
def adviseSymmetryWrong : ChangeSpec := { name := "adviseSymmetry", fn := fun _ => fun
  | [d1, d2, d3] => { results := [.lit (.bool false)], args := [d1, d2, d3] }
  | _ => none }
def AdviseSymmetryWrongFalsely : Prop := adviseSymmetryRow.holds Try.pinned (OpenSpec.ofChange adviseSymmetryWrong)

/-- 'clearwaylaw28.AdviseLeast': WHATEVER THE INPUT: true; the input reads as it did. -/
def adviseLeastSpec : ChangeSpec := { name := "adviseLeast", fn := fun _ => fun
  | [d1, d2, d3] => { results := [.lit (.bool true)], args := [d1, d2, d3] }
  | _ => none }
def adviseLeastRow : OpenClaim := { program := "yteglolgdjbmklaa", sum := "b0fb39898f763e785a73d72fd57ff345690fc98aed0a18c13549a0d0df85355a", func := "clearway/clearwaylaw28.AdviseLeast", spec := "adviseLeast", unfollowed := true, recurses := true, apart := false }
def AdviseLeastSaid : Prop := adviseLeastRow.holds Try.pinned (OpenSpec.ofChange adviseLeastSpec)

/-- ITS FALSE NEIGHBOUR: 'it returns false'. Refute it at one input. -/
def adviseLeastWrong : ChangeSpec := { name := "adviseLeast", fn := fun _ => fun
  | [d1, d2, d3] => { results := [.lit (.bool false)], args := [d1, d2, d3] }
  | _ => none }
def AdviseLeastWrongFalsely : Prop := adviseLeastRow.holds Try.pinned (OpenSpec.ofChange adviseLeastWrong)

/-- 'clearwaylaw28.AdviseExamples': WHATEVER THE INPUT: true; the input reads as it did. -/
def adviseExamplesSpec : ChangeSpec := { name := "adviseExamples", fn := fun _ => fun
  | [] => { results := [.lit (.bool true)], args := [] }
  | _ => none }
def adviseExamplesRow : OpenClaim := { program := "yteglolgdjbmklaa", sum := "b0fb39898f763e785a73d72fd57ff345690fc98aed0a18c13549a0d0df85355a", func := "clearway/clearwaylaw28.AdviseExamples", spec := "adviseExamples", unfollowed := true, recurses := true, apart := false }
def AdviseExamplesSaid : Prop := adviseExamplesRow.holds Try.pinned (OpenSpec.ofChange adviseExamplesSpec)

/-- ITS FALSE NEIGHBOUR: 'it returns false'. Refute it at one input. -/
def adviseExamplesWrong : ChangeSpec := { name := "adviseExamples", fn := fun _ => fun
  | [] => { results := [.lit (.bool false)], args := [] }
  | _ => none }
def AdviseExamplesWrongFalsely : Prop := adviseExamplesRow.holds Try.pinned (OpenSpec.ofChange adviseExamplesWrong)

/-- 'clearwaylaw28.AdviseMask': WHATEVER THE INPUT: true; the input reads as it did. -/
def adviseMaskSpec : ChangeSpec := { name := "adviseMask", fn := fun _ => fun
  | [d] => { results := [.lit (.bool true)], args := [d] }
  | _ => none }
def adviseMaskRow : OpenClaim := { program := "yteglolgdjbmklaa", sum := "b0fb39898f763e785a73d72fd57ff345690fc98aed0a18c13549a0d0df85355a", func := "clearway/clearwaylaw28.AdviseMask", spec := "adviseMask", unfollowed := true, recurses := true, apart := false }
def AdviseMaskSaid : Prop := adviseMaskRow.holds Try.pinned (OpenSpec.ofChange adviseMaskSpec)

/-- ITS FALSE NEIGHBOUR: 'it returns false'. Refute it at one input. -/
def adviseMaskWrong : ChangeSpec := { name := "adviseMask", fn := fun _ => fun
  | [d] => { results := [.lit (.bool false)], args := [d] }
  | _ => none }
def AdviseMaskWrongFalsely : Prop := adviseMaskRow.holds Try.pinned (OpenSpec.ofChange adviseMaskWrong)

/-- 'clearwaylaw28.AdviseRuns': WHATEVER THE INPUT: true; the input reads as it did. -/
def adviseRunsSpec : ChangeSpec := { name := "adviseRuns", fn := fun _ => fun
  | [d1, d2, d3] => { results := [.lit (.bool true)], args := [d1, d2, d3] }
  | _ => none }
def adviseRunsRow : OpenClaim := { program := "yteglolgdjbmklaa", sum := "b0fb39898f763e785a73d72fd57ff345690fc98aed0a18c13549a0d0df85355a", func := "clearway/clearwaylaw28.AdviseRuns", spec := "adviseRuns", unfollowed := true, recurses := true, apart := false }
def AdviseRunsSaid : Prop := adviseRunsRow.holds Try.pinned (OpenSpec.ofChange adviseRunsSpec)

/-- ITS FALSE NEIGHBOUR: 'it returns false'. Refute it at one input. -/
def adviseRunsWrong : ChangeSpec := { name := "adviseRuns", fn := fun _ => fun
  | [d1, d2, d3] => { results := [.lit (.bool false)], args := [d1, d2, d3] }
  | _ => none }
def AdviseRunsWrongFalsely : Prop := adviseRunsRow.holds Try.pinned (OpenSpec.ofChange adviseRunsWrong)

/-- 'clearwaylaw30.InhibitNoDescent': WHATEVER THE INPUT: true; the input reads as it did. -/
def inhibitNoDescentSpec : ChangeSpec := { name := "inhibitNoDescent", fn := fun _ => fun
  | [d1, d2, d3] => { results := [.lit (.bool true)], args := [d1, d2, d3] }
  | _ => none }
def inhibitNoDescentRow : OpenClaim := { program := "yteglolgdjbmklaa", sum := "b0fb39898f763e785a73d72fd57ff345690fc98aed0a18c13549a0d0df85355a", func := "clearway/clearwaylaw30.InhibitNoDescent", spec := "inhibitNoDescent", unfollowed := true, recurses := true, apart := false }
def InhibitNoDescentSaid : Prop := inhibitNoDescentRow.holds Try.pinned (OpenSpec.ofChange inhibitNoDescentSpec)

/-- ITS FALSE NEIGHBOUR: 'it returns false'. Refute it at one input. -/
def inhibitNoDescentWrong : ChangeSpec := { name := "inhibitNoDescent", fn := fun _ => fun
  | [d1, d2, d3] => { results := [.lit (.bool false)], args := [d1, d2, d3] }
  | _ => none }
def InhibitNoDescentWrongFalsely : Prop := inhibitNoDescentRow.holds Try.pinned (OpenSpec.ofChange inhibitNoDescentWrong)

/-- 'clearwaylaw06.RatExamples': WHATEVER THE INPUT: true; the input reads as it did. -/
def ratExamplesSpec : ChangeSpec := { name := "ratExamples", fn := fun _ => fun
  | [] => { results := [.lit (.bool true)], args := [] }
  | _ => none }
def ratExamplesRow : OpenClaim := { program := "yteglolgdjbmklaa", sum := "b0fb39898f763e785a73d72fd57ff345690fc98aed0a18c13549a0d0df85355a", func := "clearway/clearwaylaw06.RatExamples", spec := "ratExamples", inPlace := ["internal/bytealg.IndexByteString", "internal/bytealg.IndexString"], unfollowed := true, recurses := true, named := ["internal/bytealg.MaxLen"], apart := false }
def RatExamplesSaid : Prop := ratExamplesRow.holds Try.pinned (OpenSpec.ofChange ratExamplesSpec)

/-- ITS FALSE NEIGHBOUR: 'it returns false'. Refute it at one input. -/
def ratExamplesWrong : ChangeSpec := { name := "ratExamples", fn := fun _ => fun
  | [] => { results := [.lit (.bool false)], args := [] }
  | _ => none }
def RatExamplesWrongFalsely : Prop := ratExamplesRow.holds Try.pinned (OpenSpec.ofChange ratExamplesWrong)

/- THE SECOND FORM. 'bulk': how many values and letters a reading holds, each counted each time it is reached (what is shared counts as often as it is met; a slice's spare places count too). A statement '..UptoSaid' is the law's where the arguments, and the package variables that the reading takes, are together of bulk at most 1048576: NARROWER than '..Said'. Prove '..Said' where nothing that the law and all that it calls make is longer than what came in: it says more and counts as full. Else prove '..UptoSaid'. A law counts once. -/
mutual
def uptoBulk {H : Type} : DataW H → Nat
  | .lit (.string bytes) => bytes.length + 1
  | .lit _ => 1
  | .nil => 1
  | .ptr d => uptoBulk d + 1
  | .slice elems spare => uptoBulkAll elems + uptoBulkAll spare + 1
  | .agg parts => uptoBulkAll parts + 1
  | .iface _ d => uptoBulk d + 1
  | .map entries => uptoBulkEntries entries + 1
  | .held _ => 1
def uptoBulkAll {H : Type} : List (DataW H) → Nat
  | [] => 0
  | d :: r => uptoBulk d + uptoBulkAll r
def uptoBulkEntries {H : Type} : List (Lit × DataW H) → Nat
  | [] => 0
  | x :: r => uptoBulkEntry x + uptoBulkEntries r
def uptoBulkEntry {H : Type} : Lit × DataW H → Nat
  | (.string bytes, d) => bytes.length + uptoBulk d + 1
  | (_, d) => uptoBulk d + 1
 end
def uptoSmall : (H : Type) → List (DataW H) → Bool := fun _ ds => decide (uptoBulkAll ds ≤ 1048576)
def OpenSpec.upto (s : _root_.Go.ChangeSpec) : _root_.Go.OpenSpec := { _root_.Go.OpenSpec.ofChange s with cond := some uptoSmall }

/-- 'clearwaylaw28.AdviseKinds', WHERE WHAT IT READS IS OF BULK AT MOST 1048576: true; the input reads as it did. -/
def adviseKindsUptoRow : OpenClaim := { program := "yteglolgdjbmklaa", sum := "b0fb39898f763e785a73d72fd57ff345690fc98aed0a18c13549a0d0df85355a", func := "clearway/clearwaylaw28.AdviseKinds", spec := "adviseKinds", unfollowed := true, recurses := true, apart := false, narrowed := true }
def AdviseKindsUptoSaid : Prop := adviseKindsUptoRow.holds Try.pinned (OpenSpec.upto adviseKindsSpec)

/-- 'clearwaylaw28.AdviseLeastMatches', WHERE WHAT IT READS IS OF BULK AT MOST 1048576: true; the input reads as it did. -/
def adviseLeastMatchesUptoRow : OpenClaim := { program := "yteglolgdjbmklaa", sum := "b0fb39898f763e785a73d72fd57ff345690fc98aed0a18c13549a0d0df85355a", func := "clearway/clearwaylaw28.AdviseLeastMatches", spec := "adviseLeastMatches", unfollowed := true, recurses := true, apart := false, narrowed := true }
def AdviseLeastMatchesUptoSaid : Prop := adviseLeastMatchesUptoRow.holds Try.pinned (OpenSpec.upto adviseLeastMatchesSpec)

/-- 'clearwaylaw28.AdviseSymmetry', WHERE WHAT IT READS IS OF BULK AT MOST 1048576: true; the input reads as it did. -/
def adviseSymmetryUptoRow : OpenClaim := { program := "yteglolgdjbmklaa", sum := "b0fb39898f763e785a73d72fd57ff345690fc98aed0a18c13549a0d0df85355a", func := "clearway/clearwaylaw28.AdviseSymmetry", spec := "adviseSymmetry", unfollowed := true, recurses := true, apart := false, narrowed := true }
def AdviseSymmetryUptoSaid : Prop := adviseSymmetryUptoRow.holds Try.pinned (OpenSpec.upto adviseSymmetrySpec)

/-- 'clearwaylaw28.AdviseLeast', WHERE WHAT IT READS IS OF BULK AT MOST 1048576: true; the input reads as it did. -/
def adviseLeastUptoRow : OpenClaim := { program := "yteglolgdjbmklaa", sum := "b0fb39898f763e785a73d72fd57ff345690fc98aed0a18c13549a0d0df85355a", func := "clearway/clearwaylaw28.AdviseLeast", spec := "adviseLeast", unfollowed := true, recurses := true, apart := false, narrowed := true }
def AdviseLeastUptoSaid : Prop := adviseLeastUptoRow.holds Try.pinned (OpenSpec.upto adviseLeastSpec)

/-- 'clearwaylaw28.AdviseExamples', WHERE WHAT IT READS IS OF BULK AT MOST 1048576: true; the input reads as it did. -/
def adviseExamplesUptoRow : OpenClaim := { program := "yteglolgdjbmklaa", sum := "b0fb39898f763e785a73d72fd57ff345690fc98aed0a18c13549a0d0df85355a", func := "clearway/clearwaylaw28.AdviseExamples", spec := "adviseExamples", unfollowed := true, recurses := true, apart := false, narrowed := true }
def AdviseExamplesUptoSaid : Prop := adviseExamplesUptoRow.holds Try.pinned (OpenSpec.upto adviseExamplesSpec)

/-- 'clearwaylaw28.AdviseMask', WHERE WHAT IT READS IS OF BULK AT MOST 1048576: true; the input reads as it did. -/
def adviseMaskUptoRow : OpenClaim := { program := "yteglolgdjbmklaa", sum := "b0fb39898f763e785a73d72fd57ff345690fc98aed0a18c13549a0d0df85355a", func := "clearway/clearwaylaw28.AdviseMask", spec := "adviseMask", unfollowed := true, recurses := true, apart := false, narrowed := true }
def AdviseMaskUptoSaid : Prop := adviseMaskUptoRow.holds Try.pinned (OpenSpec.upto adviseMaskSpec)

/-- 'clearwaylaw28.AdviseRuns', WHERE WHAT IT READS IS OF BULK AT MOST 1048576: true; the input reads as it did. -/
def adviseRunsUptoRow : OpenClaim := { program := "yteglolgdjbmklaa", sum := "b0fb39898f763e785a73d72fd57ff345690fc98aed0a18c13549a0d0df85355a", func := "clearway/clearwaylaw28.AdviseRuns", spec := "adviseRuns", unfollowed := true, recurses := true, apart := false, narrowed := true }
def AdviseRunsUptoSaid : Prop := adviseRunsUptoRow.holds Try.pinned (OpenSpec.upto adviseRunsSpec)

/-- 'clearwaylaw30.InhibitNoDescent', WHERE WHAT IT READS IS OF BULK AT MOST 1048576: true; the input reads as it did. -/
def inhibitNoDescentUptoRow : OpenClaim := { program := "yteglolgdjbmklaa", sum := "b0fb39898f763e785a73d72fd57ff345690fc98aed0a18c13549a0d0df85355a", func := "clearway/clearwaylaw30.InhibitNoDescent", spec := "inhibitNoDescent", unfollowed := true, recurses := true, apart := false, narrowed := true }
def InhibitNoDescentUptoSaid : Prop := inhibitNoDescentUptoRow.holds Try.pinned (OpenSpec.upto inhibitNoDescentSpec)

/-- 'clearwaylaw06.RatExamples', WHERE WHAT IT READS IS OF BULK AT MOST 1048576: true; the input reads as it did. -/
def ratExamplesUptoRow : OpenClaim := { program := "yteglolgdjbmklaa", sum := "b0fb39898f763e785a73d72fd57ff345690fc98aed0a18c13549a0d0df85355a", func := "clearway/clearwaylaw06.RatExamples", spec := "ratExamples", inPlace := ["internal/bytealg.IndexByteString", "internal/bytealg.IndexString"], unfollowed := true, recurses := true, named := ["internal/bytealg.MaxLen"], apart := false, narrowed := true }
def RatExamplesUptoSaid : Prop := ratExamplesUptoRow.holds Try.pinned (OpenSpec.upto ratExamplesSpec)

end Rows
end Go.Proofs.Yteglolgdjbmklaa
