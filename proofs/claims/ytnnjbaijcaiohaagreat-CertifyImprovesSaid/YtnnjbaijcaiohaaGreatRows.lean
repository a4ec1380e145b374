/-
  No cell of these rows narrows 'for every input' (looked for: loops, veiled, ifaces, maps, wideKeys, modest, calm, conditions, laid).
  DERIVED. THE GIVEN ROWS OF THIS SEAT. 6 by the template 'for every input the law returns true; each argument reads behind the call as it read before'; 0 by the template 'total and deterministic' (their statements: YtnnjbaijcaiohaaGreatTotals.lean).
  GIVEN WITH THE SEED: the statements are not yours to turn. If you find one false, say at which input.
  Laid BY PROGRAM, IN A SANDBOX (cutbox-rows.mjs): the forced cells as the released guide's own fill.sh prints them over the translation 530e9240d2ab9dea… (all of the seat's roots in one cut). By AI agents, Wed Nov 11 2026. No macro, syntax, notation, axiom, sorry.
-/
import Derived.Test.YtnnjbaijcaiohaaGreatChecked
import GoSem.Claim
import GoSem.ClaimJoined
import GoSem.ClaimMapViews
import Derived.JoinedTies
import Derived.KernelRfl
namespace Go.Proofs.YtnnjbaijcaiohaaGreat
/- THE CELL 'sum', in the pinned program and in every row, IS THE sha256 OF THE DUMP (.gsa) THAT YtnnjbaijcaiohaaGreatProg.lean LOADS. Nothing in Lean hashes anything: it is a label: what it is worth is what the hold of that sum in a sandbox is worth. -/
noncomputable def Tryz.pinned : Pinned := { name := "ytnnjbaijcaiohaagreat", sum := "530e9240d2ab9deaa3a679c841a7e15b85ceeaf618d33b553e0c86b80fe6d152", checked := Tryz.checked }
namespace Rows
def none {H : Type} : Left H := { results := [], args := [] }

/-- 'clearwaylaw22.IterateMatches': WHATEVER THE INPUT: true; the input reads as it did. -/
def iterateMatchesSpec : ChangeSpec := { name := "iterateMatches", fn := fun _ => fun
  | [d1, d2, d3, d4, d5] => { results := [.lit (.bool true)], args := [d1, d2, d3, d4, d5] }
  | _ => none }
def iterateMatchesRow : OpenClaim := { program := "ytnnjbaijcaiohaagreat", sum := "530e9240d2ab9deaa3a679c841a7e15b85ceeaf618d33b553e0c86b80fe6d152", func := "clearway/clearwaylaw22.IterateMatches", spec := "iterateMatches", unfollowed := true, recurses := true, apart := false }
def IterateMatchesSaid : Prop := iterateMatchesRow.holds Tryz.pinned (OpenSpec.ofChange iterateMatchesSpec)

/-- ITS FALSE NEIGHBOUR: 'it returns false'. Refute it at one input. -/
def iterateMatchesWrong : ChangeSpec := { name := "iterateMatches", fn := fun _ => fun
  | [d1, d2, d3, d4, d5] => { results := [.lit (.bool false)], args := [d1, d2, d3, d4, d5] }
  | _ => none }
def IterateMatchesWrongFalsely : Prop := iterateMatchesRow.holds Tryz.pinned (OpenSpec.ofChange iterateMatchesWrong)

/-- 'clearwaylaw23.CertifyEvaluates': WHATEVER THE INPUT: true; the input reads as it did. -/
def certifyEvaluatesSpec : ChangeSpec := { name := "certifyEvaluates", fn := fun _ => fun
  | [d1, d2] => { results := [.lit (.bool true)], args := [d1, d2] }
  | _ => none }
def certifyEvaluatesRow : OpenClaim := { program := "ytnnjbaijcaiohaagreat", sum := "530e9240d2ab9deaa3a679c841a7e15b85ceeaf618d33b553e0c86b80fe6d152", func := "clearway/clearwaylaw23.CertifyEvaluates", spec := "certifyEvaluates", unfollowed := true, recurses := true, apart := false }
def CertifyEvaluatesSaid : Prop := certifyEvaluatesRow.holds Tryz.pinned (OpenSpec.ofChange certifyEvaluatesSpec)

/-- ITS FALSE NEIGHBOUR: 'it returns false'. Refute it at one input. -/
def certifyEvaluatesWrong : ChangeSpec := { name := "certifyEvaluates", fn := fun _ => fun
  | [d1, d2] => { results := [.lit (.bool false)], args := [d1, d2] }
  | _ => none }
def CertifyEvaluatesWrongFalsely : Prop := certifyEvaluatesRow.holds Tryz.pinned (OpenSpec.ofChange certifyEvaluatesWrong)

/-- 'clearwaylaw23.CertifyMatches': WHATEVER THE INPUT: true; the input reads as it did. -/
def certifyMatchesSpec : ChangeSpec := { name := "certifyMatches", fn := fun _ => fun
  | [d1, d2, d3] => { results := [.lit (.bool true)], args := [d1, d2, d3] }
  | _ => none }
def certifyMatchesRow : OpenClaim := { program := "ytnnjbaijcaiohaagreat", sum := "530e9240d2ab9deaa3a679c841a7e15b85ceeaf618d33b553e0c86b80fe6d152", func := "clearway/clearwaylaw23.CertifyMatches", spec := "certifyMatches", unfollowed := true, recurses := true, apart := false }
def CertifyMatchesSaid : Prop := certifyMatchesRow.holds Tryz.pinned (OpenSpec.ofChange certifyMatchesSpec)

/-- ITS FALSE NEIGHBOUR: 'it returns false'. Refute it at one input. -/
def certifyMatchesWrong : ChangeSpec := { name := "certifyMatches", fn := fun _ => fun
  | [d1, d2, d3] => { results := [.lit (.bool false)], args := [d1, d2, d3] }
  | _ => none }
def CertifyMatchesWrongFalsely : Prop := certifyMatchesRow.holds Tryz.pinned (OpenSpec.ofChange certifyMatchesWrong)

/-- 'clearwaylaw23.CertifyExamples': WHATEVER THE INPUT: true; the input reads as it did. -/
def certifyExamplesSpec : ChangeSpec := { name := "certifyExamples", fn := fun _ => fun
  | [] => { results := [.lit (.bool true)], args := [] }
  | _ => none }
def certifyExamplesRow : OpenClaim := { program := "ytnnjbaijcaiohaagreat", sum := "530e9240d2ab9deaa3a679c841a7e15b85ceeaf618d33b553e0c86b80fe6d152", func := "clearway/clearwaylaw23.CertifyExamples", spec := "certifyExamples", unfollowed := true, recurses := true, apart := false }
def CertifyExamplesSaid : Prop := certifyExamplesRow.holds Tryz.pinned (OpenSpec.ofChange certifyExamplesSpec)

/-- ITS FALSE NEIGHBOUR: 'it returns false'. Refute it at one input. -/
def certifyExamplesWrong : ChangeSpec := { name := "certifyExamples", fn := fun _ => fun
  | [] => { results := [.lit (.bool false)], args := [] }
  | _ => none }
def CertifyExamplesWrongFalsely : Prop := certifyExamplesRow.holds Tryz.pinned (OpenSpec.ofChange certifyExamplesWrong)

/-- 'clearwaylaw23.CertifyBounds': WHATEVER THE INPUT: true; the input reads as it did. -/
def certifyBoundsSpec : ChangeSpec := { name := "certifyBounds", fn := fun _ => fun
  | [d1, d2] => { results := [.lit (.bool true)], args := [d1, d2] }
  | _ => none }
def certifyBoundsRow : OpenClaim := { program := "ytnnjbaijcaiohaagreat", sum := "530e9240d2ab9deaa3a679c841a7e15b85ceeaf618d33b553e0c86b80fe6d152", func := "clearway/clearwaylaw23.CertifyBounds", spec := "certifyBounds", unfollowed := true, recurses := true, apart := false }
def CertifyBoundsSaid : Prop := certifyBoundsRow.holds Tryz.pinned (OpenSpec.ofChange certifyBoundsSpec)

/-- ITS FALSE NEIGHBOUR: 'it returns false'. Refute it at one input. -/
def certifyBoundsWrong : ChangeSpec := { name := "certifyBounds", fn := fun _ => fun
  | [d1, d2] => { results := [.lit (.bool false)], args := [d1, d2] }
  | _ => none }
def CertifyBoundsWrongFalsely : Prop := certifyBoundsRow.holds Tryz.pinned (OpenSpec.ofChange certifyBoundsWrong)

/-- 'clearwaylaw23.CertifyImproves': WHATEVER THE INPUT: true; the input reads as it did. -/
def certifyImprovesSpec : ChangeSpec := { name := "certifyImproves", fn := fun _ => fun
  | [d1, d2, d3] => { results := [.lit (.bool true)], args := [d1, d2, d3] }
  | _ => none }
def certifyImprovesRow : OpenClaim := { program := "ytnnjbaijcaiohaagreat", sum := "530e9240d2ab9deaa3a679c841a7e15b85ceeaf618d33b553e0c86b80fe6d152", func := "clearway/clearwaylaw23.CertifyImproves", spec := "certifyImproves", unfollowed := true, recurses := true, apart := false }
def CertifyImprovesSaid : Prop := certifyImprovesRow.holds Tryz.pinned (OpenSpec.ofChange certifyImprovesSpec)

/-- ITS FALSE NEIGHBOUR: 'it returns false'. Refute it at one input. -/
def certifyImprovesWrong : ChangeSpec := { name := "certifyImproves", fn := fun _ => fun
  | [d1, d2, d3] => { results := [.lit (.bool false)], args := [d1, d2, d3] }
  | _ => none }
def CertifyImprovesWrongFalsely : Prop := certifyImprovesRow.holds Tryz.pinned (OpenSpec.ofChange certifyImprovesWrong)

/- THE SECOND FORM. 'bulk': how many values and letters a reading holds, each counted each time it is reached (what is shared counts as often as it is met; a slice's spare places count too). A statement '..UptoSaid' is the law's where the arguments, and the package variables that the reading takes, are together of bulk at most 1048576: NARROWER than '..Said'. Prove '..Said' where nothing that the law and all that it calls make is longer than what came in: it says more and counts as full. Else prove '..UptoSaid'. A law counts once. -/
mutual
def uptoBulk {H : Type} : DataW H → Nat
  | .lit (.string bytes) => bytes.length + 1
  | .lit _ => 1
  | .nil => 1
  | .ptr d => uptoBulk d + 1
  | .slice elems spare => uptoBulkAll elems + uptoBulkAll spare + 1
  | .agg parts => uptoBulkAll parts + 1
  | .iface _ d => uptoBulk d + 1
  | .map entries => uptoBulkEntries entries + 1
  | .held _ => 1
def uptoBulkAll {H : Type} : List (DataW H) → Nat
  | [] => 0
  | d :: r => uptoBulk d + uptoBulkAll r
def uptoBulkEntries {H : Type} : List (Lit × DataW H) → Nat
  | [] => 0
  | x :: r => uptoBulkEntry x + uptoBulkEntries r
def uptoBulkEntry {H : Type} : Lit × DataW H → Nat
  | (.string bytes, d) => bytes.length + uptoBulk d + 1
  | (_, d) => uptoBulk d + 1
 end
def uptoSmall : (H : Type) → List (DataW H) → Bool := fun _ ds => decide (uptoBulkAll ds ≤ 1048576)
def OpenSpec.upto (s : _root_.Go.ChangeSpec) : _root_.Go.OpenSpec := { _root_.Go.OpenSpec.ofChange s with cond := some uptoSmall }

/-- 'clearwaylaw22.IterateMatches', WHERE WHAT IT READS IS OF BULK AT MOST 1048576: true; the input reads as it did. -/
def iterateMatchesUptoRow : OpenClaim := { program := "ytnnjbaijcaiohaagreat", sum := "530e9240d2ab9deaa3a679c841a7e15b85ceeaf618d33b553e0c86b80fe6d152", func := "clearway/clearwaylaw22.IterateMatches", spec := "iterateMatches", unfollowed := true, recurses := true, apart := false, narrowed := true }
def IterateMatchesUptoSaid : Prop := iterateMatchesUptoRow.holds Tryz.pinned (OpenSpec.upto iterateMatchesSpec)

/-- 'clearwaylaw23.CertifyEvaluates', WHERE WHAT IT READS IS OF BULK AT MOST 1048576: true; the input reads as it did. -/
def certifyEvaluatesUptoRow : OpenClaim := { program := "ytnnjbaijcaiohaagreat", sum := "530e9240d2ab9deaa3a679c841a7e15b85ceeaf618d33b553e0c86b80fe6d152", func := "clearway/clearwaylaw23.CertifyEvaluates", spec := "certifyEvaluates", unfollowed := true, recurses := true, apart := false, narrowed := true }
def CertifyEvaluatesUptoSaid : Prop := certifyEvaluatesUptoRow.holds Tryz.pinned (OpenSpec.upto certifyEvaluatesSpec)

/-- 'clearwaylaw23.CertifyMatches', WHERE WHAT IT READS IS OF BULK AT MOST 1048576: true; the input reads as it did. -/
def certifyMatchesUptoRow : OpenClaim := { program := "ytnnjbaijcaiohaagreat", sum := "530e9240d2ab9deaa3a679c841a7e15b85ceeaf618d33b553e0c86b80fe6d152", func := "clearway/clearwaylaw23.CertifyMatches", spec := "certifyMatches", unfollowed := true, recurses := true, apart := false, narrowed := true }
def CertifyMatchesUptoSaid : Prop := certifyMatchesUptoRow.holds Tryz.pinned (OpenSpec.upto certifyMatchesSpec)

/-- 'clearwaylaw23.CertifyExamples', WHERE WHAT IT READS IS OF BULK AT MOST 1048576: true; the input reads as it did. -/
def certifyExamplesUptoRow : OpenClaim := { program := "ytnnjbaijcaiohaagreat", sum := "530e9240d2ab9deaa3a679c841a7e15b85ceeaf618d33b553e0c86b80fe6d152", func := "clearway/clearwaylaw23.CertifyExamples", spec := "certifyExamples", unfollowed := true, recurses := true, apart := false, narrowed := true }
def CertifyExamplesUptoSaid : Prop := certifyExamplesUptoRow.holds Tryz.pinned (OpenSpec.upto certifyExamplesSpec)

/-- 'clearwaylaw23.CertifyBounds', WHERE WHAT IT READS IS OF BULK AT MOST 1048576: true; the input reads as it did. -/
def certifyBoundsUptoRow : OpenClaim := { program := "ytnnjbaijcaiohaagreat", sum := "530e9240d2ab9deaa3a679c841a7e15b85ceeaf618d33b553e0c86b80fe6d152", func := "clearway/clearwaylaw23.CertifyBounds", spec := "certifyBounds", unfollowed := true, recurses := true, apart := false, narrowed := true }
def CertifyBoundsUptoSaid : Prop := certifyBoundsUptoRow.holds Tryz.pinned (OpenSpec.upto certifyBoundsSpec)

/-- 'clearwaylaw23.CertifyImproves', WHERE WHAT IT READS IS OF BULK AT MOST 1048576: true; the input reads as it did. -/
def certifyImprovesUptoRow : OpenClaim := { program := "ytnnjbaijcaiohaagreat", sum := "530e9240d2ab9deaa3a679c841a7e15b85ceeaf618d33b553e0c86b80fe6d152", func := "clearway/clearwaylaw23.CertifyImproves", spec := "certifyImproves", unfollowed := true, recurses := true, apart := false, narrowed := true }
def CertifyImprovesUptoSaid : Prop := certifyImprovesUptoRow.holds Tryz.pinned (OpenSpec.upto certifyImprovesSpec)

end Rows
end Go.Proofs.YtnnjbaijcaiohaaGreat
