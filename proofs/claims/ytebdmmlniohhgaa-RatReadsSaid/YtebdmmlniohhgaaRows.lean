/-
  No cell of these rows narrows 'for every input' (looked for: loops, veiled, ifaces, maps, wideKeys, modest, calm, conditions, laid).
  DERIVED. THE GIVEN ROWS OF THIS SEAT. 8 by the template 'for every input the law returns true; each argument reads behind the call as it read before'; 0 by the template 'total and deterministic' (their statements: YtebdmmlniohhgaaTotals.lean).
  GIVEN WITH THE SEED: the statements are not yours to turn. If you find one false, say at which input.
  Laid BY PROGRAM, IN A SANDBOX (cutbox-rows.mjs): the forced cells as the released guide's own fill.sh prints them over the translation 95bb202aa2987660… (all of the seat's roots in one cut). By AI agents, Wed Nov 11 2026. No macro, syntax, notation, axiom, sorry.
-/
import Derived.Test.YtebdmmlniohhgaaChecked
import GoSem.Claim
import GoSem.ClaimJoined
import GoSem.ClaimMapViews
import Derived.JoinedTies
import Derived.KernelRfl
namespace Go.Proofs.Ytebdmmlniohhgaa
/- THE CELL 'sum', in the pinned program and in every row, IS THE sha256 OF THE DUMP (.gsa) THAT YtebdmmlniohhgaaProg.lean LOADS. Nothing in Lean hashes anything: it is a label: what it is worth is what the hold of that sum in a sandbox is worth. -/
noncomputable def Try.pinned : Pinned := { name := "ytebdmmlniohhgaa", sum := "95bb202aa298766007576384afa5a72827f29cbec28b32f6bd7980d165dfc1a7", checked := Try.checked }
namespace Rows
def none {H : Type} : Left H := { results := [], args := [] }

/-- 'clearwaylaw06.RatReads': WHATEVER THE INPUT: true; the input reads as it did. -/
def ratReadsSpec : ChangeSpec := { name := "ratReads", fn := fun _ => fun
  | [d1, d2, d3] => { results := [.lit (.bool true)], args := [d1, d2, d3] }
  | _ => none }
def ratReadsRow : OpenClaim := { program := "ytebdmmlniohhgaa", sum := "95bb202aa298766007576384afa5a72827f29cbec28b32f6bd7980d165dfc1a7", func := "clearway/clearwaylaw06.RatReads", spec := "ratReads", inPlace := ["internal/bytealg.IndexByteString", "internal/bytealg.IndexString"], unfollowed := true, recurses := true, named := ["internal/bytealg.MaxLen"], apart := false }
def RatReadsSaid : Prop := ratReadsRow.holds Try.pinned (OpenSpec.ofChange ratReadsSpec)

/-- ITS FALSE NEIGHBOUR: 'it returns false'. Refute it at one input. -/
def ratReadsWrong : ChangeSpec := { name := "ratReads", fn := fun _ => fun
  | [d1, d2, d3] => { results := [.lit (.bool false)], args := [d1, d2, d3] }
  | _ => none }
def RatReadsWrongFalsely : Prop := ratReadsRow.holds Try.pinned (OpenSpec.ofChange ratReadsWrong)

/-- 'clearwaylaw06.RatTexts': WHATEVER THE INPUT: true; the input reads as it did. -/
def ratTextsSpec : ChangeSpec := { name := "ratTexts", fn := fun _ => fun
  | [d1, d2] => { results := [.lit (.bool true)], args := [d1, d2] }
  | _ => none }
def ratTextsRow : OpenClaim := { program := "ytebdmmlniohhgaa", sum := "95bb202aa298766007576384afa5a72827f29cbec28b32f6bd7980d165dfc1a7", func := "clearway/clearwaylaw06.RatTexts", spec := "ratTexts", inPlace := ["internal/bytealg.IndexByteString", "internal/bytealg.IndexString"], unfollowed := true, recurses := true, named := ["internal/bytealg.MaxLen"], apart := false }
def RatTextsSaid : Prop := ratTextsRow.holds Try.pinned (OpenSpec.ofChange ratTextsSpec)

/-- ITS FALSE NEIGHBOUR: 'it returns false'. Refute it at one input. -/
def ratTextsWrong : ChangeSpec := { name := "ratTexts", fn := fun _ => fun
  | [d1, d2] => { results := [.lit (.bool false)], args := [d1, d2] }
  | _ => none }
def RatTextsWrongFalsely : Prop := ratTextsRow.holds Try.pinned (OpenSpec.ofChange ratTextsWrong)

/-- 'clearwaylaw06.RatField': WHATEVER THE INPUT: true; the input reads as it did. -/
def ratFieldSpec : ChangeSpec := { name := "ratField", fn := fun _ => fun
  | [d1, d2, d3] => { results := [.lit (.bool true)], args := [d1, d2, d3] }
  | _ => none }
def ratFieldRow : OpenClaim := { program := "ytebdmmlniohhgaa", sum := "95bb202aa298766007576384afa5a72827f29cbec28b32f6bd7980d165dfc1a7", func := "clearway/clearwaylaw06.RatField", spec := "ratField", inPlace := ["internal/bytealg.IndexByteString", "internal/bytealg.IndexString"], unfollowed := true, recurses := true, named := ["internal/bytealg.MaxLen"], apart := false }
def RatFieldSaid : Prop := ratFieldRow.holds Try.pinned (OpenSpec.ofChange ratFieldSpec)

/-- ITS FALSE NEIGHBOUR: 'it returns false'. Refute it at one input. -/
def ratFieldWrong : ChangeSpec := { name := "ratField", fn := fun _ => fun
  | [d1, d2, d3] => { results := [.lit (.bool false)], args := [d1, d2, d3] }
  | _ => none }
def RatFieldWrongFalsely : Prop := ratFieldRow.holds Try.pinned (OpenSpec.ofChange ratFieldWrong)

/-- 'clearwaylaw06.RatOrder': WHATEVER THE INPUT: true; the input reads as it did. -/
def ratOrderSpec : ChangeSpec := { name := "ratOrder", fn := fun _ => fun
  | [d1, d2, d3] => { results := [.lit (.bool true)], args := [d1, d2, d3] }
  | _ => none }
def ratOrderRow : OpenClaim := { program := "ytebdmmlniohhgaa", sum := "95bb202aa298766007576384afa5a72827f29cbec28b32f6bd7980d165dfc1a7", func := "clearway/clearwaylaw06.RatOrder", spec := "ratOrder", inPlace := ["internal/bytealg.IndexByteString", "internal/bytealg.IndexString"], unfollowed := true, recurses := true, named := ["internal/bytealg.MaxLen"], apart := false }
def RatOrderSaid : Prop := ratOrderRow.holds Try.pinned (OpenSpec.ofChange ratOrderSpec)

/-- ITS FALSE NEIGHBOUR: 'it returns false'. Refute it at one input. -/
def ratOrderWrong : ChangeSpec := { name := "ratOrder", fn := fun _ => fun
  | [d1, d2, d3] => { results := [.lit (.bool false)], args := [d1, d2, d3] }
  | _ => none }
def RatOrderWrongFalsely : Prop := ratOrderRow.holds Try.pinned (OpenSpec.ofChange ratOrderWrong)

/-- 'clearwaylaw06.RatExamples': WHATEVER THE INPUT: true; the input reads as it did. -/
def ratExamplesSpec : ChangeSpec := { name := "ratExamples", fn := fun _ => fun
  | [] => { results := [.lit (.bool true)], args := [] }
  | _ => none }
def ratExamplesRow : OpenClaim := { program := "ytebdmmlniohhgaa", sum := "95bb202aa298766007576384afa5a72827f29cbec28b32f6bd7980d165dfc1a7", func := "clearway/clearwaylaw06.RatExamples", spec := "ratExamples", inPlace := ["internal/bytealg.IndexByteString", "internal/bytealg.IndexString"], unfollowed := true, recurses := true, named := ["internal/bytealg.MaxLen"], apart := false }
def RatExamplesSaid : Prop := ratExamplesRow.holds Try.pinned (OpenSpec.ofChange ratExamplesSpec)

/-- ITS FALSE NEIGHBOUR: 'it returns false'. Refute it at one input. -/
def ratExamplesWrong : ChangeSpec := { name := "ratExamples", fn := fun _ => fun
  | [] => { results := [.lit (.bool false)], args := [] }
  | _ => none }
def RatExamplesWrongFalsely : Prop := ratExamplesRow.holds Try.pinned (OpenSpec.ofChange ratExamplesWrong)

/-- 'clearwaylaw05.BigReads': WHATEVER THE INPUT: true; the input reads as it did. -/
def bigReadsSpec : ChangeSpec := { name := "bigReads", fn := fun _ => fun
  | [d1, d2] => { results := [.lit (.bool true)], args := [d1, d2] }
  | _ => none }
def bigReadsRow : OpenClaim := { program := "ytebdmmlniohhgaa", sum := "95bb202aa298766007576384afa5a72827f29cbec28b32f6bd7980d165dfc1a7", func := "clearway/clearwaylaw05.BigReads", spec := "bigReads", unfollowed := true, recurses := true, apart := false }
def BigReadsSaid : Prop := bigReadsRow.holds Try.pinned (OpenSpec.ofChange bigReadsSpec)

/-- ITS FALSE NEIGHBOUR: 'it returns false'. Refute it at one input. -/
def bigReadsWrong : ChangeSpec := { name := "bigReads", fn := fun _ => fun
  | [d1, d2] => { results := [.lit (.bool false)], args := [d1, d2] }
  | _ => none }
def BigReadsWrongFalsely : Prop := bigReadsRow.holds Try.pinned (OpenSpec.ofChange bigReadsWrong)

/-- 'clearwaylaw05.BigMatches': WHATEVER THE INPUT: true; the input reads as it did. -/
def bigMatchesSpec : ChangeSpec := { name := "bigMatches", fn := fun _ => fun
  | [d1, d2] => { results := [.lit (.bool true)], args := [d1, d2] }
  | _ => none }
def bigMatchesRow : OpenClaim := { program := "ytebdmmlniohhgaa", sum := "95bb202aa298766007576384afa5a72827f29cbec28b32f6bd7980d165dfc1a7", func := "clearway/clearwaylaw05.BigMatches", spec := "bigMatches", unfollowed := true, recurses := true, apart := false }
def BigMatchesSaid : Prop := bigMatchesRow.holds Try.pinned (OpenSpec.ofChange bigMatchesSpec)

/-- ITS FALSE NEIGHBOUR: 'it returns false'. Refute it at one input. -/
def bigMatchesWrong : ChangeSpec := { name := "bigMatches", fn := fun _ => fun
  | [d1, d2] => { results := [.lit (.bool false)], args := [d1, d2] }
  | _ => none }
def BigMatchesWrongFalsely : Prop := bigMatchesRow.holds Try.pinned (OpenSpec.ofChange bigMatchesWrong)

/-- 'clearwaylaw05.BigExamples': WHATEVER THE INPUT: true; the input reads as it did. -/
def bigExamplesSpec : ChangeSpec := { name := "bigExamples", fn := fun _ => fun
  | [] => { results := [.lit (.bool true)], args := [] }
  | _ => none }
def bigExamplesRow : OpenClaim := { program := "ytebdmmlniohhgaa", sum := "95bb202aa298766007576384afa5a72827f29cbec28b32f6bd7980d165dfc1a7", func := "clearway/clearwaylaw05.BigExamples", spec := "bigExamples", unfollowed := true, recurses := true, apart := false }
def BigExamplesSaid : Prop := bigExamplesRow.holds Try.pinned (OpenSpec.ofChange bigExamplesSpec)

/-- ITS FALSE NEIGHBOUR: 'it returns false'. Refute it at one input. -/
def bigExamplesWrong : ChangeSpec := { name := "bigExamples", fn := fun _ => fun
  | [] => { results := [.lit (.bool false)], args := [] }
  | _ => none }
def BigExamplesWrongFalsely : Prop := bigExamplesRow.holds Try.pinned (OpenSpec.ofChange bigExamplesWrong)

/- THE SECOND FORM. 'bulk': how many values and letters a reading holds, each counted each time it is reached (what is shared counts as often as it is met; a slice's spare places count too). A statement '..UptoSaid' is the law's where the arguments, and the package variables that the reading takes, are together of bulk at most 1048576: NARROWER than '..Said'. Prove '..Said' where nothing that the law and all that it calls make is longer than what came in: it says more and counts as full. Else prove '..UptoSaid'. A law counts once. -/
mutual
def uptoBulk {H : Type} : DataW H → Nat
  | .lit (.string bytes) => bytes.length + 1
  | .lit _ => 1
  | .nil => 1
  | .ptr d => uptoBulk d + 1
  | .slice elems spare => uptoBulkAll elems + uptoBulkAll spare + 1
  | .agg parts => uptoBulkAll parts + 1
  | .iface _ d => uptoBulk d + 1
  | .map entries => uptoBulkEntries entries + 1
  | .held _ => 1
def uptoBulkAll {H : Type} : List (DataW H) → Nat
  | [] => 0
  | d :: r => uptoBulk d + uptoBulkAll r
def uptoBulkEntries {H : Type} : List (Lit × DataW H) → Nat
  | [] => 0
  | x :: r => uptoBulkEntry x + uptoBulkEntries r
def uptoBulkEntry {H : Type} : Lit × DataW H → Nat
  | (.string bytes, d) => bytes.length + uptoBulk d + 1
  | (_, d) => uptoBulk d + 1
 end
def uptoSmall : (H : Type) → List (DataW H) → Bool := fun _ ds => decide (uptoBulkAll ds ≤ 1048576)
def OpenSpec.upto (s : _root_.Go.ChangeSpec) : _root_.Go.OpenSpec := { _root_.Go.OpenSpec.ofChange s with cond := some uptoSmall }

/-- 'clearwaylaw06.RatReads', WHERE WHAT IT READS IS OF BULK AT MOST 1048576: true; the input reads as it did. -/
def ratReadsUptoRow : OpenClaim := { program := "ytebdmmlniohhgaa", sum := "95bb202aa298766007576384afa5a72827f29cbec28b32f6bd7980d165dfc1a7", func := "clearway/clearwaylaw06.RatReads", spec := "ratReads", inPlace := ["internal/bytealg.IndexByteString", "internal/bytealg.IndexString"], unfollowed := true, recurses := true, named := ["internal/bytealg.MaxLen"], apart := false, narrowed := true }
def RatReadsUptoSaid : Prop := ratReadsUptoRow.holds Try.pinned (OpenSpec.upto ratReadsSpec)

/-- 'clearwaylaw06.RatTexts', WHERE WHAT IT READS IS OF BULK AT MOST 1048576: true; the input reads as it did. -/
def ratTextsUptoRow : OpenClaim := { program := "ytebdmmlniohhgaa", sum := "95bb202aa298766007576384afa5a72827f29cbec28b32f6bd7980d165dfc1a7", func := "clearway/clearwaylaw06.RatTexts", spec := "ratTexts", inPlace := ["internal/bytealg.IndexByteString", "internal/bytealg.IndexString"], unfollowed := true, recurses := true, named := ["internal/bytealg.MaxLen"], apart := false, narrowed := true }
def RatTextsUptoSaid : Prop := ratTextsUptoRow.holds Try.pinned (OpenSpec.upto ratTextsSpec)

/-- 'clearwaylaw06.RatField', WHERE WHAT IT READS IS OF BULK AT MOST 1048576: true; the input reads as it did. -/
def ratFieldUptoRow : OpenClaim := { program := "ytebdmmlniohhgaa", sum := "95bb202aa298766007576384afa5a72827f29cbec28b32f6bd7980d165dfc1a7", func := "clearway/clearwaylaw06.RatField", spec := "ratField", inPlace := ["internal/bytealg.IndexByteString", "internal/bytealg.IndexString"], unfollowed := true, recurses := true, named := ["internal/bytealg.MaxLen"], apart := false, narrowed := true }
def RatFieldUptoSaid : Prop := ratFieldUptoRow.holds Try.pinned (OpenSpec.upto ratFieldSpec)

/-- 'clearwaylaw06.RatOrder', WHERE WHAT IT READS IS OF BULK AT MOST 1048576: true; the input reads as it did. -/
def ratOrderUptoRow : OpenClaim := { program := "ytebdmmlniohhgaa", sum := "95bb202aa298766007576384afa5a72827f29cbec28b32f6bd7980d165dfc1a7", func := "clearway/clearwaylaw06.RatOrder", spec := "ratOrder", inPlace := ["internal/bytealg.IndexByteString", "internal/bytealg.IndexString"], unfollowed := true, recurses := true, named := ["internal/bytealg.MaxLen"], apart := false, narrowed := true }
def RatOrderUptoSaid : Prop := ratOrderUptoRow.holds Try.pinned (OpenSpec.upto ratOrderSpec)

/-- 'clearwaylaw06.RatExamples', WHERE WHAT IT READS IS OF BULK AT MOST 1048576: true; the input reads as it did. -/
def ratExamplesUptoRow : OpenClaim := { program := "ytebdmmlniohhgaa", sum := "95bb202aa298766007576384afa5a72827f29cbec28b32f6bd7980d165dfc1a7", func := "clearway/clearwaylaw06.RatExamples", spec := "ratExamples", inPlace := ["internal/bytealg.IndexByteString", "internal/bytealg.IndexString"], unfollowed := true, recurses := true, named := ["internal/bytealg.MaxLen"], apart := false, narrowed := true }
def RatExamplesUptoSaid : Prop := ratExamplesUptoRow.holds Try.pinned (OpenSpec.upto ratExamplesSpec)

/-- 'clearwaylaw05.BigReads', WHERE WHAT IT READS IS OF BULK AT MOST 1048576: true; the input reads as it did. -/
def bigReadsUptoRow : OpenClaim := { program := "ytebdmmlniohhgaa", sum := "95bb202aa298766007576384afa5a72827f29cbec28b32f6bd7980d165dfc1a7", func := "clearway/clearwaylaw05.BigReads", spec := "bigReads", unfollowed := true, recurses := true, apart := false, narrowed := true }
def BigReadsUptoSaid : Prop := bigReadsUptoRow.holds Try.pinned (OpenSpec.upto bigReadsSpec)

/-- 'clearwaylaw05.BigMatches', WHERE WHAT IT READS IS OF BULK AT MOST 1048576: true; the input reads as it did. -/
def bigMatchesUptoRow : OpenClaim := { program := "ytebdmmlniohhgaa", sum := "95bb202aa298766007576384afa5a72827f29cbec28b32f6bd7980d165dfc1a7", func := "clearway/clearwaylaw05.BigMatches", spec := "bigMatches", unfollowed := true, recurses := true, apart := false, narrowed := true }
def BigMatchesUptoSaid : Prop := bigMatchesUptoRow.holds Try.pinned (OpenSpec.upto bigMatchesSpec)

/-- 'clearwaylaw05.BigExamples', WHERE WHAT IT READS IS OF BULK AT MOST 1048576: true; the input reads as it did. -/
def bigExamplesUptoRow : OpenClaim := { program := "ytebdmmlniohhgaa", sum := "95bb202aa298766007576384afa5a72827f29cbec28b32f6bd7980d165dfc1a7", func := "clearway/clearwaylaw05.BigExamples", spec := "bigExamples", unfollowed := true, recurses := true, apart := false, narrowed := true }
def BigExamplesUptoSaid : Prop := bigExamplesUptoRow.holds Try.pinned (OpenSpec.upto bigExamplesSpec)

end Rows
end Go.Proofs.Ytebdmmlniohhgaa
