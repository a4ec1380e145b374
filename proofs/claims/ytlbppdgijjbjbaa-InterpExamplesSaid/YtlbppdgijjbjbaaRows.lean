/-
  No cell of these rows narrows 'for every input' (looked for: loops, veiled, ifaces, maps, wideKeys, modest, calm, conditions, laid).
  DERIVED. THE GIVEN ROWS OF THIS SEAT. 4 by the template 'for every input the law returns true; each argument reads behind the call as it read before'; 0 by the template 'total and deterministic' (their statements: YtlbppdgijjbjbaaTotals.lean).
  GIVEN WITH THE SEED: the statements are not yours to turn. If you find one false, say at which input.
  Laid BY PROGRAM, IN A SANDBOX (cutbox-rows.mjs): the forced cells as the released guide's own fill.sh prints them over the translation cf1601125b3b98f6… (all of the seat's roots in one cut). By AI agents, Wed Nov 11 2026. No macro, syntax, notation, axiom, sorry.
-/
import Derived.Test.YtlbppdgijjbjbaaChecked
import GoSem.Claim
import GoSem.ClaimJoined
import GoSem.ClaimMapViews
import Derived.JoinedTies
import Derived.KernelRfl
namespace Go.Proofs.Ytlbppdgijjbjbaa
/- THE CELL 'sum', in the pinned program and in every row, IS THE sha256 OF THE DUMP (.gsa) THAT YtlbppdgijjbjbaaProg.lean LOADS. Nothing in Lean hashes anything: it is a label: what it is worth is what the hold of that sum in a sandbox is worth. -/
noncomputable def Try.pinned : Pinned := { name := "ytlbppdgijjbjbaa", sum := "cf1601125b3b98f643e634adf04d82dc84e69cf9e196473678a94d69f5f38c39", checked := Try.checked }
namespace Rows
def none {H : Type} : Left H := { results := [], args := [] }

/-- 'clearwaylaw07.InterpUnity': WHATEVER THE INPUT: true; the input reads as it did. -/
def interpUnitySpec : ChangeSpec := { name := "interpUnity", fn := fun _ => fun
  | [d1, d2] => { results := [.lit (.bool true)], args := [d1, d2] }
  | _ => none }
def interpUnityRow : OpenClaim := { program := "ytlbppdgijjbjbaa", sum := "cf1601125b3b98f643e634adf04d82dc84e69cf9e196473678a94d69f5f38c39", func := "clearway/clearwaylaw07.InterpUnity", spec := "interpUnity", unfollowed := true, recurses := true, apart := false }
def InterpUnitySaid : Prop := interpUnityRow.holds Try.pinned (OpenSpec.ofChange interpUnitySpec)

/-- ITS FALSE NEIGHBOUR: 'it returns false'. Refute it at one input. -/
def interpUnityWrong : ChangeSpec := { name := "interpUnity", fn := fun _ => fun
  | [d1, d2] => { results := [.lit (.bool false)], args := [d1, d2] }
  | _ => none }
def InterpUnityWrongFalsely : Prop := interpUnityRow.holds Try.pinned (OpenSpec.ofChange interpUnityWrong)

/-- 'clearwaylaw07.InterpBetween': WHATEVER THE INPUT: true; the input reads as it did. -/
def interpBetweenSpec : ChangeSpec := { name := "interpBetween", fn := fun _ => fun
  | [d1, d2, d3, d4] => { results := [.lit (.bool true)], args := [d1, d2, d3, d4] }
  | _ => none }
def interpBetweenRow : OpenClaim := { program := "ytlbppdgijjbjbaa", sum := "cf1601125b3b98f643e634adf04d82dc84e69cf9e196473678a94d69f5f38c39", func := "clearway/clearwaylaw07.InterpBetween", spec := "interpBetween", unfollowed := true, recurses := true, apart := false }
def InterpBetweenSaid : Prop := interpBetweenRow.holds Try.pinned (OpenSpec.ofChange interpBetweenSpec)

/-- ITS FALSE NEIGHBOUR: 'it returns false'. Refute it at one input. -/
def interpBetweenWrong : ChangeSpec := { name := "interpBetween", fn := fun _ => fun
  | [d1, d2, d3, d4] => { results := [.lit (.bool false)], args := [d1, d2, d3, d4] }
  | _ => none }
def InterpBetweenWrongFalsely : Prop := interpBetweenRow.holds Try.pinned (OpenSpec.ofChange interpBetweenWrong)

/-- 'clearwaylaw07.InterpExamples': WHATEVER THE INPUT: true; the input reads as it did. -/
def interpExamplesSpec : ChangeSpec := { name := "interpExamples", fn := fun _ => fun
  | [] => { results := [.lit (.bool true)], args := [] }
  | _ => none }
def interpExamplesRow : OpenClaim := { program := "ytlbppdgijjbjbaa", sum := "cf1601125b3b98f643e634adf04d82dc84e69cf9e196473678a94d69f5f38c39", func := "clearway/clearwaylaw07.InterpExamples", spec := "interpExamples", unfollowed := true, recurses := true, apart := false }
def InterpExamplesSaid : Prop := interpExamplesRow.holds Try.pinned (OpenSpec.ofChange interpExamplesSpec)

/-- ITS FALSE NEIGHBOUR: 'it returns false'. Refute it at one input. -/
def interpExamplesWrong : ChangeSpec := { name := "interpExamples", fn := fun _ => fun
  | [] => { results := [.lit (.bool false)], args := [] }
  | _ => none }
def InterpExamplesWrongFalsely : Prop := interpExamplesRow.holds Try.pinned (OpenSpec.ofChange interpExamplesWrong)

/-- 'clearwaylaw07.InterpVertices': WHATEVER THE INPUT: true; the input reads as it did. -/
def interpVerticesSpec : ChangeSpec := { name := "interpVertices", fn := fun _ => fun
  | [d1, d2, d3] => { results := [.lit (.bool true)], args := [d1, d2, d3] }
  | _ => none }
def interpVerticesRow : OpenClaim := { program := "ytlbppdgijjbjbaa", sum := "cf1601125b3b98f643e634adf04d82dc84e69cf9e196473678a94d69f5f38c39", func := "clearway/clearwaylaw07.InterpVertices", spec := "interpVertices", unfollowed := true, recurses := true, apart := false }
def InterpVerticesSaid : Prop := interpVerticesRow.holds Try.pinned (OpenSpec.ofChange interpVerticesSpec)

/-- ITS FALSE NEIGHBOUR: 'it returns false'. Refute it at one input. -/
def interpVerticesWrong : ChangeSpec := { name := "interpVertices", fn := fun _ => fun
  | [d1, d2, d3] => { results := [.lit (.bool false)], args := [d1, d2, d3] }
  | _ => none }
def InterpVerticesWrongFalsely : Prop := interpVerticesRow.holds Try.pinned (OpenSpec.ofChange interpVerticesWrong)

/- THE SECOND FORM. 'bulk': how many values and letters a reading holds, each counted each time it is reached (what is shared counts as often as it is met; a slice's spare places count too). A statement '..UptoSaid' is the law's where the arguments, and the package variables that the reading takes, are together of bulk at most 1048576: NARROWER than '..Said'. Prove '..Said' where nothing that the law and all that it calls make is longer than what came in: it says more and counts as full. Else prove '..UptoSaid'. A law counts once. -/
mutual
def uptoBulk {H : Type} : DataW H → Nat
  | .lit (.string bytes) => bytes.length + 1
  | .lit _ => 1
  | .nil => 1
  | .ptr d => uptoBulk d + 1
  | .slice elems spare => uptoBulkAll elems + uptoBulkAll spare + 1
  | .agg parts => uptoBulkAll parts + 1
  | .iface _ d => uptoBulk d + 1
  | .map entries => uptoBulkEntries entries + 1
  | .held _ => 1
def uptoBulkAll {H : Type} : List (DataW H) → Nat
  | [] => 0
  | d :: r => uptoBulk d + uptoBulkAll r
def uptoBulkEntries {H : Type} : List (Lit × DataW H) → Nat
  | [] => 0
  | x :: r => uptoBulkEntry x + uptoBulkEntries r
def uptoBulkEntry {H : Type} : Lit × DataW H → Nat
  | (.string bytes, d) => bytes.length + uptoBulk d + 1
  | (_, d) => uptoBulk d + 1
 end
def uptoSmall : (H : Type) → List (DataW H) → Bool := fun _ ds => decide (uptoBulkAll ds ≤ 1048576)
def OpenSpec.upto (s : _root_.Go.ChangeSpec) : _root_.Go.OpenSpec := { _root_.Go.OpenSpec.ofChange s with cond := some uptoSmall }

/-- 'clearwaylaw07.InterpUnity', WHERE WHAT IT READS IS OF BULK AT MOST 1048576: true; the input reads as it did. -/
def interpUnityUptoRow : OpenClaim := { program := "ytlbppdgijjbjbaa", sum := "cf1601125b3b98f643e634adf04d82dc84e69cf9e196473678a94d69f5f38c39", func := "clearway/clearwaylaw07.InterpUnity", spec := "interpUnity", unfollowed := true, recurses := true, apart := false, narrowed := true }
def InterpUnityUptoSaid : Prop := interpUnityUptoRow.holds Try.pinned (OpenSpec.upto interpUnitySpec)

/-- 'clearwaylaw07.InterpBetween', WHERE WHAT IT READS IS OF BULK AT MOST 1048576: true; the input reads as it did. -/
def interpBetweenUptoRow : OpenClaim := { program := "ytlbppdgijjbjbaa", sum := "cf1601125b3b98f643e634adf04d82dc84e69cf9e196473678a94d69f5f38c39", func := "clearway/clearwaylaw07.InterpBetween", spec := "interpBetween", unfollowed := true, recurses := true, apart := false, narrowed := true }
def InterpBetweenUptoSaid : Prop := interpBetweenUptoRow.holds Try.pinned (OpenSpec.upto interpBetweenSpec)

/-- 'clearwaylaw07.InterpExamples', WHERE WHAT IT READS IS OF BULK AT MOST 1048576: true; the input reads as it did. -/
def interpExamplesUptoRow : OpenClaim := { program := "ytlbppdgijjbjbaa", sum := "cf1601125b3b98f643e634adf04d82dc84e69cf9e196473678a94d69f5f38c39", func := "clearway/clearwaylaw07.InterpExamples", spec := "interpExamples", unfollowed := true, recurses := true, apart := false, narrowed := true }
def InterpExamplesUptoSaid : Prop := interpExamplesUptoRow.holds Try.pinned (OpenSpec.upto interpExamplesSpec)

/-- 'clearwaylaw07.InterpVertices', WHERE WHAT IT READS IS OF BULK AT MOST 1048576: true; the input reads as it did. -/
def interpVerticesUptoRow : OpenClaim := { program := "ytlbppdgijjbjbaa", sum := "cf1601125b3b98f643e634adf04d82dc84e69cf9e196473678a94d69f5f38c39", func := "clearway/clearwaylaw07.InterpVertices", spec := "interpVertices", unfollowed := true, recurses := true, apart := false, narrowed := true }
def InterpVerticesUptoSaid : Prop := interpVerticesUptoRow.holds Try.pinned (OpenSpec.upto interpVerticesSpec)

end Rows
end Go.Proofs.Ytlbppdgijjbjbaa
