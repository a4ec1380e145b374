/-
  No cell of these rows narrows 'for every input' (looked for: loops, veiled, ifaces, maps, wideKeys, modest, calm, conditions, laid).
  DERIVED. THE GIVEN ROWS OF THIS SEAT. 7 by the template 'for every input the law returns true; each argument reads behind the call as it read before'; 0 by the template 'total and deterministic' (their statements: YtoicjiiifffciaaTotals.lean).
  GIVEN WITH THE SEED: the statements are not yours to turn. If you find one false, say at which input.
  Laid BY PROGRAM, IN A SANDBOX (cutbox-rows.mjs): the forced cells as the released guide's own fill.sh prints them over the translation 4addb79ed1d6465f… (all of the seat's roots in one cut). By AI agents, Wed Nov 11 2026. No macro, syntax, notation, axiom, sorry.
-/
import Derived.Test.YtoicjiiifffciaaChecked
import GoSem.Claim
import GoSem.ClaimJoined
import GoSem.ClaimMapViews
import Derived.JoinedTies
import Derived.KernelRfl
namespace Go.Proofs.Ytoicjiiifffciaa
/- THE CELL 'sum', in the pinned program and in every row, IS THE sha256 OF THE DUMP (.gsa) THAT YtoicjiiifffciaaProg.lean LOADS. Nothing in Lean hashes anything: it is a label: what it is worth is what the hold of that sum in a sandbox is worth. -/
noncomputable def Try.pinned : Pinned := { name := "ytoicjiiifffciaa", sum := "4addb79ed1d6465fd5f7a86e03b7a05d04aaf1f5dc89d262d3f007cd8ce63d06", checked := Try.checked }
namespace Rows
def none {H : Type} : Left H := { results := [], args := [] }

/-- 'clearwaylaw05.BigCommon': WHATEVER THE INPUT: true; the input reads as it did. -/
def bigCommonSpec : ChangeSpec := { name := "bigCommon", fn := fun _ => fun
  | [d1, d2, d3] => { results := [.lit (.bool true)], args := [d1, d2, d3] }
  | _ => none }
def bigCommonRow : OpenClaim := { program := "ytoicjiiifffciaa", sum := "4addb79ed1d6465fd5f7a86e03b7a05d04aaf1f5dc89d262d3f007cd8ce63d06", func := "clearway/clearwaylaw05.BigCommon", spec := "bigCommon", unfollowed := true, recurses := true, apart := false }
def BigCommonSaid : Prop := bigCommonRow.holds Try.pinned (OpenSpec.ofChange bigCommonSpec)

/-- ITS FALSE NEIGHBOUR: 'it returns false'. Refute it at one input. -/
def bigCommonWrong : ChangeSpec := { name := "bigCommon", fn := fun _ => fun
  | [d1, d2, d3] => { results := [.lit (.bool false)], args := [d1, d2, d3] }
  | _ => none }
def BigCommonWrongFalsely : Prop := bigCommonRow.holds Try.pinned (OpenSpec.ofChange bigCommonWrong)

/-- 'clearwaylaw05.BigDivides': WHATEVER THE INPUT: true; the input reads as it did. -/
def bigDividesSpec : ChangeSpec := { name := "bigDivides", fn := fun _ => fun
  | [d1, d2] => { results := [.lit (.bool true)], args := [d1, d2] }
  | _ => none }
def bigDividesRow : OpenClaim := { program := "ytoicjiiifffciaa", sum := "4addb79ed1d6465fd5f7a86e03b7a05d04aaf1f5dc89d262d3f007cd8ce63d06", func := "clearway/clearwaylaw05.BigDivides", spec := "bigDivides", unfollowed := true, recurses := true, apart := false }
def BigDividesSaid : Prop := bigDividesRow.holds Try.pinned (OpenSpec.ofChange bigDividesSpec)

/-- ITS FALSE NEIGHBOUR: 'it returns false'. Refute it at one input. -/
def bigDividesWrong : ChangeSpec := { name := "bigDivides", fn := fun _ => fun
  | [d1, d2] => { results := [.lit (.bool false)], args := [d1, d2] }
  | _ => none }
def BigDividesWrongFalsely : Prop := bigDividesRow.holds Try.pinned (OpenSpec.ofChange bigDividesWrong)

/-- 'clearwaylaw05.BigRing': WHATEVER THE INPUT: true; the input reads as it did. -/
def bigRingSpec : ChangeSpec := { name := "bigRing", fn := fun _ => fun
  | [d1, d2, d3] => { results := [.lit (.bool true)], args := [d1, d2, d3] }
  | _ => none }
def bigRingRow : OpenClaim := { program := "ytoicjiiifffciaa", sum := "4addb79ed1d6465fd5f7a86e03b7a05d04aaf1f5dc89d262d3f007cd8ce63d06", func := "clearway/clearwaylaw05.BigRing", spec := "bigRing", unfollowed := true, recurses := true, apart := false }
def BigRingSaid : Prop := bigRingRow.holds Try.pinned (OpenSpec.ofChange bigRingSpec)

/-- ITS FALSE NEIGHBOUR: 'it returns false'. Refute it at one input. -/
def bigRingWrong : ChangeSpec := { name := "bigRing", fn := fun _ => fun
  | [d1, d2, d3] => { results := [.lit (.bool false)], args := [d1, d2, d3] }
  | _ => none }
def BigRingWrongFalsely : Prop := bigRingRow.holds Try.pinned (OpenSpec.ofChange bigRingWrong)

/-- 'clearwaylaw05.BigReads': WHATEVER THE INPUT: true; the input reads as it did. -/
def bigReadsSpec : ChangeSpec := { name := "bigReads", fn := fun _ => fun
  | [d1, d2] => { results := [.lit (.bool true)], args := [d1, d2] }
  | _ => none }
def bigReadsRow : OpenClaim := { program := "ytoicjiiifffciaa", sum := "4addb79ed1d6465fd5f7a86e03b7a05d04aaf1f5dc89d262d3f007cd8ce63d06", func := "clearway/clearwaylaw05.BigReads", spec := "bigReads", unfollowed := true, recurses := true, apart := false }
def BigReadsSaid : Prop := bigReadsRow.holds Try.pinned (OpenSpec.ofChange bigReadsSpec)

/-- ITS FALSE NEIGHBOUR: 'it returns false'. Refute it at one input. -/
def bigReadsWrong : ChangeSpec := { name := "bigReads", fn := fun _ => fun
  | [d1, d2] => { results := [.lit (.bool false)], args := [d1, d2] }
  | _ => none }
def BigReadsWrongFalsely : Prop := bigReadsRow.holds Try.pinned (OpenSpec.ofChange bigReadsWrong)

/-- 'clearwaylaw05.BigMatches': WHATEVER THE INPUT: true; the input reads as it did. -/
def bigMatchesSpec : ChangeSpec := { name := "bigMatches", fn := fun _ => fun
  | [d1, d2] => { results := [.lit (.bool true)], args := [d1, d2] }
  | _ => none }
def bigMatchesRow : OpenClaim := { program := "ytoicjiiifffciaa", sum := "4addb79ed1d6465fd5f7a86e03b7a05d04aaf1f5dc89d262d3f007cd8ce63d06", func := "clearway/clearwaylaw05.BigMatches", spec := "bigMatches", unfollowed := true, recurses := true, apart := false }
def BigMatchesSaid : Prop := bigMatchesRow.holds Try.pinned (OpenSpec.ofChange bigMatchesSpec)

/-- ITS FALSE NEIGHBOUR: 'it returns false'. Refute it at one input. -/
def bigMatchesWrong : ChangeSpec := { name := "bigMatches", fn := fun _ => fun
  | [d1, d2] => { results := [.lit (.bool false)], args := [d1, d2] }
  | _ => none }
def BigMatchesWrongFalsely : Prop := bigMatchesRow.holds Try.pinned (OpenSpec.ofChange bigMatchesWrong)

/-- 'clearwaylaw05.BigTexts': WHATEVER THE INPUT: true; the input reads as it did. -/
def bigTextsSpec : ChangeSpec := { name := "bigTexts", fn := fun _ => fun
  | [d1, d2, d3] => { results := [.lit (.bool true)], args := [d1, d2, d3] }
  | _ => none }
def bigTextsRow : OpenClaim := { program := "ytoicjiiifffciaa", sum := "4addb79ed1d6465fd5f7a86e03b7a05d04aaf1f5dc89d262d3f007cd8ce63d06", func := "clearway/clearwaylaw05.BigTexts", spec := "bigTexts", unfollowed := true, recurses := true, apart := false }
def BigTextsSaid : Prop := bigTextsRow.holds Try.pinned (OpenSpec.ofChange bigTextsSpec)

/-- ITS FALSE NEIGHBOUR: 'it returns false'. Refute it at one input. -/
def bigTextsWrong : ChangeSpec := { name := "bigTexts", fn := fun _ => fun
  | [d1, d2, d3] => { results := [.lit (.bool false)], args := [d1, d2, d3] }
  | _ => none }
def BigTextsWrongFalsely : Prop := bigTextsRow.holds Try.pinned (OpenSpec.ofChange bigTextsWrong)

/-- 'clearwaylaw05.BigExamples': WHATEVER THE INPUT: true; the input reads as it did. -/
def bigExamplesSpec : ChangeSpec := { name := "bigExamples", fn := fun _ => fun
  | [] => { results := [.lit (.bool true)], args := [] }
  | _ => none }
def bigExamplesRow : OpenClaim := { program := "ytoicjiiifffciaa", sum := "4addb79ed1d6465fd5f7a86e03b7a05d04aaf1f5dc89d262d3f007cd8ce63d06", func := "clearway/clearwaylaw05.BigExamples", spec := "bigExamples", unfollowed := true, recurses := true, apart := false }
def BigExamplesSaid : Prop := bigExamplesRow.holds Try.pinned (OpenSpec.ofChange bigExamplesSpec)

/-- ITS FALSE NEIGHBOUR: 'it returns false'. Refute it at one input. -/
def bigExamplesWrong : ChangeSpec := { name := "bigExamples", fn := fun _ => fun
  | [] => { results := [.lit (.bool false)], args := [] }
  | _ => none }
def BigExamplesWrongFalsely : Prop := bigExamplesRow.holds Try.pinned (OpenSpec.ofChange bigExamplesWrong)

/- THE SECOND FORM. 'bulk': how many values and letters a reading holds, each counted each time it is reached (what is shared counts as often as it is met; a slice's spare places count too). A statement '..UptoSaid' is the law's where the arguments, and the package variables that the reading takes, are together of bulk at most 1048576: NARROWER than '..Said'. Prove '..Said' where nothing that the law and all that it calls make is longer than what came in: it says more and counts as full. Else prove '..UptoSaid'. A law counts once. -/
mutual
def uptoBulk {H : Type} : DataW H → Nat
  | .lit (.string bytes) => bytes.length + 1
  | .lit _ => 1
  | .nil => 1
  | .ptr d => uptoBulk d + 1
  | .slice elems spare => uptoBulkAll elems + uptoBulkAll spare + 1
  | .agg parts => uptoBulkAll parts + 1
  | .iface _ d => uptoBulk d + 1
  | .map entries => uptoBulkEntries entries + 1
  | .held _ => 1
def uptoBulkAll {H : Type} : List (DataW H) → Nat
  | [] => 0
  | d :: r => uptoBulk d + uptoBulkAll r
def uptoBulkEntries {H : Type} : List (Lit × DataW H) → Nat
  | [] => 0
  | x :: r => uptoBulkEntry x + uptoBulkEntries r
def uptoBulkEntry {H : Type} : Lit × DataW H → Nat
  | (.string bytes, d) => bytes.length + uptoBulk d + 1
  | (_, d) => uptoBulk d + 1
 end
def uptoSmall : (H : Type) → List (DataW H) → Bool := fun _ ds => decide (uptoBulkAll ds ≤ 1048576)
def OpenSpec.upto (s : _root_.Go.ChangeSpec) : _root_.Go.OpenSpec := { _root_.Go.OpenSpec.ofChange s with cond := some uptoSmall }

/-- 'clearwaylaw05.BigCommon', WHERE WHAT IT READS IS OF BULK AT MOST 1048576: true; the input reads as it did. -/
def bigCommonUptoRow : OpenClaim := { program := "ytoicjiiifffciaa", sum := "4addb79ed1d6465fd5f7a86e03b7a05d04aaf1f5dc89d262d3f007cd8ce63d06", func := "clearway/clearwaylaw05.BigCommon", spec := "bigCommon", unfollowed := true, recurses := true, apart := false, narrowed := true }
def BigCommonUptoSaid : Prop := bigCommonUptoRow.holds Try.pinned (OpenSpec.upto bigCommonSpec)

/-- 'clearwaylaw05.BigDivides', WHERE WHAT IT READS IS OF BULK AT MOST 1048576: true; the input reads as it did. -/
def bigDividesUptoRow : OpenClaim := { program := "ytoicjiiifffciaa", sum := "4addb79ed1d6465fd5f7a86e03b7a05d04aaf1f5dc89d262d3f007cd8ce63d06", func := "clearway/clearwaylaw05.BigDivides", spec := "bigDivides", unfollowed := true, recurses := true, apart := false, narrowed := true }
def BigDividesUptoSaid : Prop := bigDividesUptoRow.holds Try.pinned (OpenSpec.upto bigDividesSpec)

/-- 'clearwaylaw05.BigRing', WHERE WHAT IT READS IS OF BULK AT MOST 1048576: true; the input reads as it did. -/
def bigRingUptoRow : OpenClaim := { program := "ytoicjiiifffciaa", sum := "4addb79ed1d6465fd5f7a86e03b7a05d04aaf1f5dc89d262d3f007cd8ce63d06", func := "clearway/clearwaylaw05.BigRing", spec := "bigRing", unfollowed := true, recurses := true, apart := false, narrowed := true }
def BigRingUptoSaid : Prop := bigRingUptoRow.holds Try.pinned (OpenSpec.upto bigRingSpec)

/-- 'clearwaylaw05.BigReads', WHERE WHAT IT READS IS OF BULK AT MOST 1048576: true; the input reads as it did. -/
def bigReadsUptoRow : OpenClaim := { program := "ytoicjiiifffciaa", sum := "4addb79ed1d6465fd5f7a86e03b7a05d04aaf1f5dc89d262d3f007cd8ce63d06", func := "clearway/clearwaylaw05.BigReads", spec := "bigReads", unfollowed := true, recurses := true, apart := false, narrowed := true }
def BigReadsUptoSaid : Prop := bigReadsUptoRow.holds Try.pinned (OpenSpec.upto bigReadsSpec)

/-- 'clearwaylaw05.BigMatches', WHERE WHAT IT READS IS OF BULK AT MOST 1048576: true; the input reads as it did. -/
def bigMatchesUptoRow : OpenClaim := { program := "ytoicjiiifffciaa", sum := "4addb79ed1d6465fd5f7a86e03b7a05d04aaf1f5dc89d262d3f007cd8ce63d06", func := "clearway/clearwaylaw05.BigMatches", spec := "bigMatches", unfollowed := true, recurses := true, apart := false, narrowed := true }
def BigMatchesUptoSaid : Prop := bigMatchesUptoRow.holds Try.pinned (OpenSpec.upto bigMatchesSpec)

/-- 'clearwaylaw05.BigTexts', WHERE WHAT IT READS IS OF BULK AT MOST 1048576: true; the input reads as it did. -/
def bigTextsUptoRow : OpenClaim := { program := "ytoicjiiifffciaa", sum := "4addb79ed1d6465fd5f7a86e03b7a05d04aaf1f5dc89d262d3f007cd8ce63d06", func := "clearway/clearwaylaw05.BigTexts", spec := "bigTexts", unfollowed := true, recurses := true, apart := false, narrowed := true }
def BigTextsUptoSaid : Prop := bigTextsUptoRow.holds Try.pinned (OpenSpec.upto bigTextsSpec)

/-- 'clearwaylaw05.BigExamples', WHERE WHAT IT READS IS OF BULK AT MOST 1048576: true; the input reads as it did. -/
def bigExamplesUptoRow : OpenClaim := { program := "ytoicjiiifffciaa", sum := "4addb79ed1d6465fd5f7a86e03b7a05d04aaf1f5dc89d262d3f007cd8ce63d06", func := "clearway/clearwaylaw05.BigExamples", spec := "bigExamples", unfollowed := true, recurses := true, apart := false, narrowed := true }
def BigExamplesUptoSaid : Prop := bigExamplesUptoRow.holds Try.pinned (OpenSpec.upto bigExamplesSpec)

end Rows
end Go.Proofs.Ytoicjiiifffciaa
