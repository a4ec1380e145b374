/-
  No cell of these rows narrows 'for every input' (looked for: loops, veiled, ifaces, maps, wideKeys, modest, calm, conditions, laid).
  DERIVED. THE GIVEN ROWS OF THIS SEAT. 3 by the template 'for every input the law returns true; each argument reads behind the call as it read before'; 0 by the template 'total and deterministic' (their statements: YtfflknbeidihoaaGreatTotals.lean).
  GIVEN WITH THE SEED: the statements are not yours to turn. If you find one false, say at which input.
  Laid BY PROGRAM, IN A SANDBOX (cutbox-rows.mjs): the forced cells as the released guide's own fill.sh prints them over the translation 149c251d2ef288e8… (all of the seat's roots in one cut). By AI agents, Wed Nov 11 2026. No macro, syntax, notation, axiom, sorry.
-/
import Derived.Test.YtfflknbeidihoaaGreatChecked
import GoSem.Claim
import GoSem.ClaimJoined
import GoSem.ClaimMapViews
import Derived.JoinedTies
import Derived.KernelRfl
namespace Go.Proofs.YtfflknbeidihoaaGreat
/- THE CELL 'sum', in the pinned program and in every row, IS THE sha256 OF THE DUMP (.gsa) THAT YtfflknbeidihoaaGreatProg.lean LOADS. Nothing in Lean hashes anything: it is a label: what it is worth is what the hold of that sum in a sandbox is worth. -/
noncomputable def Tryz.pinned : Pinned := { name := "ytfflknbeidihoaagreat", sum := "149c251d2ef288e863e181e12603526671ffb2d8d3eccb649986f9895763b408", checked := Tryz.checked }
namespace Rows
def none {H : Type} : Left H := { results := [], args := [] }

/-- 'clearwaylaw22.IterateMatches': WHATEVER THE INPUT: true; the input reads as it did. -/
def iterateMatchesSpec : ChangeSpec := { name := "iterateMatches", fn := fun _ => fun
  | [d1, d2, d3, d4, d5] => { results := [.lit (.bool true)], args := [d1, d2, d3, d4, d5] }
  | _ => none }
def iterateMatchesRow : OpenClaim := { program := "ytfflknbeidihoaagreat", sum := "149c251d2ef288e863e181e12603526671ffb2d8d3eccb649986f9895763b408", func := "clearway/clearwaylaw22.IterateMatches", spec := "iterateMatches", unfollowed := true, recurses := true, apart := false }
def IterateMatchesSaid : Prop := iterateMatchesRow.holds Tryz.pinned (OpenSpec.ofChange iterateMatchesSpec)

/-- ITS FALSE NEIGHBOUR: 'it returns false'. Refute it at one input. -/
def iterateMatchesWrong : ChangeSpec := { name := "iterateMatches", fn := fun _ => fun
  | [d1, d2, d3, d4, d5] => { results := [.lit (.bool false)], args := [d1, d2, d3, d4, d5] }
  | _ => none }
def IterateMatchesWrongFalsely : Prop := iterateMatchesRow.holds Tryz.pinned (OpenSpec.ofChange iterateMatchesWrong)

/-- 'clearwaylaw22.IterateUnfolds': WHATEVER THE INPUT: true; the input reads as it did. -/
def iterateUnfoldsSpec : ChangeSpec := { name := "iterateUnfolds", fn := fun _ => fun
  | [d1, d2, d3] => { results := [.lit (.bool true)], args := [d1, d2, d3] }
  | _ => none }
def iterateUnfoldsRow : OpenClaim := { program := "ytfflknbeidihoaagreat", sum := "149c251d2ef288e863e181e12603526671ffb2d8d3eccb649986f9895763b408", func := "clearway/clearwaylaw22.IterateUnfolds", spec := "iterateUnfolds", unfollowed := true, recurses := true, apart := false }
def IterateUnfoldsSaid : Prop := iterateUnfoldsRow.holds Tryz.pinned (OpenSpec.ofChange iterateUnfoldsSpec)

/-- ITS FALSE NEIGHBOUR: 'it returns false'. Refute it at one input. -/
def iterateUnfoldsWrong : ChangeSpec := { name := "iterateUnfolds", fn := fun _ => fun
  | [d1, d2, d3] => { results := [.lit (.bool false)], args := [d1, d2, d3] }
  | _ => none }
def IterateUnfoldsWrongFalsely : Prop := iterateUnfoldsRow.holds Tryz.pinned (OpenSpec.ofChange iterateUnfoldsWrong)

/-- 'clearwaylaw22.IterateExamples': WHATEVER THE INPUT: true; the input reads as it did. -/
def iterateExamplesSpec : ChangeSpec := { name := "iterateExamples", fn := fun _ => fun
  | [] => { results := [.lit (.bool true)], args := [] }
  | _ => none }
def iterateExamplesRow : OpenClaim := { program := "ytfflknbeidihoaagreat", sum := "149c251d2ef288e863e181e12603526671ffb2d8d3eccb649986f9895763b408", func := "clearway/clearwaylaw22.IterateExamples", spec := "iterateExamples", unfollowed := true, recurses := true, apart := false }
def IterateExamplesSaid : Prop := iterateExamplesRow.holds Tryz.pinned (OpenSpec.ofChange iterateExamplesSpec)

/-- ITS FALSE NEIGHBOUR: 'it returns false'. Refute it at one input. -/
def iterateExamplesWrong : ChangeSpec := { name := "iterateExamples", fn := fun _ => fun
  | [] => { results := [.lit (.bool false)], args := [] }
  | _ => none }
def IterateExamplesWrongFalsely : Prop := iterateExamplesRow.holds Tryz.pinned (OpenSpec.ofChange iterateExamplesWrong)

/- THE SECOND FORM. 'bulk': how many values and letters a reading holds, each counted each time it is reached (what is shared counts as often as it is met; a slice's spare places count too). A statement '..UptoSaid' is the law's where the arguments, and the package variables that the reading takes, are together of bulk at most 1048576: NARROWER than '..Said'. Prove '..Said' where nothing that the law and all that it calls make is longer than what came in: it says more and counts as full. Else prove '..UptoSaid'. A law counts once. -/
mutual
def uptoBulk {H : Type} : DataW H → Nat
  | .lit (.string bytes) => bytes.length + 1
  | .lit _ => 1
  | .nil => 1
  | .ptr d => uptoBulk d + 1
  | .slice elems spare => uptoBulkAll elems + uptoBulkAll spare + 1
  | .agg parts => uptoBulkAll parts + 1
  | .iface _ d => uptoBulk d + 1
  | .map entries => uptoBulkEntries entries + 1
  | .held _ => 1
def uptoBulkAll {H : Type} : List (DataW H) → Nat
  | [] => 0
  | d :: r => uptoBulk d + uptoBulkAll r
def uptoBulkEntries {H : Type} : List (Lit × DataW H) → Nat
  | [] => 0
  | x :: r => uptoBulkEntry x + uptoBulkEntries r
def uptoBulkEntry {H : Type} : Lit × DataW H → Nat
  | (.string bytes, d) => bytes.length + uptoBulk d + 1
  | (_, d) => uptoBulk d + 1
 end
def uptoSmall : (H : Type) → List (DataW H) → Bool := fun _ ds => decide (uptoBulkAll ds ≤ 1048576)
def OpenSpec.upto (s : _root_.Go.ChangeSpec) : _root_.Go.OpenSpec := { _root_.Go.OpenSpec.ofChange s with cond := some uptoSmall }

/-- 'clearwaylaw22.IterateMatches', WHERE WHAT IT READS IS OF BULK AT MOST 1048576: true; the input reads as it did. -/
def iterateMatchesUptoRow : OpenClaim := { program := "ytfflknbeidihoaagreat", sum := "149c251d2ef288e863e181e12603526671ffb2d8d3eccb649986f9895763b408", func := "clearway/clearwaylaw22.IterateMatches", spec := "iterateMatches", unfollowed := true, recurses := true, apart := false, narrowed := true }
def IterateMatchesUptoSaid : Prop := iterateMatchesUptoRow.holds Tryz.pinned (OpenSpec.upto iterateMatchesSpec)

/-- 'clearwaylaw22.IterateUnfolds', WHERE WHAT IT READS IS OF BULK AT MOST 1048576: true; the input reads as it did. -/
def iterateUnfoldsUptoRow : OpenClaim := { program := "ytfflknbeidihoaagreat", sum := "149c251d2ef288e863e181e12603526671ffb2d8d3eccb649986f9895763b408", func := "clearway/clearwaylaw22.IterateUnfolds", spec := "iterateUnfolds", unfollowed := true, recurses := true, apart := false, narrowed := true }
def IterateUnfoldsUptoSaid : Prop := iterateUnfoldsUptoRow.holds Tryz.pinned (OpenSpec.upto iterateUnfoldsSpec)

/-- 'clearwaylaw22.IterateExamples', WHERE WHAT IT READS IS OF BULK AT MOST 1048576: true; the input reads as it did. -/
def iterateExamplesUptoRow : OpenClaim := { program := "ytfflknbeidihoaagreat", sum := "149c251d2ef288e863e181e12603526671ffb2d8d3eccb649986f9895763b408", func := "clearway/clearwaylaw22.IterateExamples", spec := "iterateExamples", unfollowed := true, recurses := true, apart := false, narrowed := true }
def IterateExamplesUptoSaid : Prop := iterateExamplesUptoRow.holds Tryz.pinned (OpenSpec.upto iterateExamplesSpec)

end Rows
end Go.Proofs.YtfflknbeidihoaaGreat
