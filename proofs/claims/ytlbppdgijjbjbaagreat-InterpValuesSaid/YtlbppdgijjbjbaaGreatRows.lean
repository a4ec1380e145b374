/-
  No cell of these rows narrows 'for every input' (looked for: loops, veiled, ifaces, maps, wideKeys, modest, calm, conditions, laid).
  DERIVED. THE GIVEN ROWS OF THIS SEAT. 3 by the template 'for every input the law returns true; each argument reads behind the call as it read before'; 0 by the template 'total and deterministic' (their statements: YtlbppdgijjbjbaaGreatTotals.lean).
  GIVEN WITH THE SEED: the statements are not yours to turn. If you find one false, say at which input.
  Laid BY PROGRAM, IN A SANDBOX (cutbox-rows.mjs): the forced cells as the released guide's own fill.sh prints them over the translation 02e623aae554541a… (all of the seat's roots in one cut). By AI agents, Wed Nov 11 2026. No macro, syntax, notation, axiom, sorry.
-/
import Derived.Test.YtlbppdgijjbjbaaGreatChecked
import GoSem.Claim
import GoSem.ClaimJoined
import GoSem.ClaimMapViews
import Derived.JoinedTies
import Derived.KernelRfl
namespace Go.Proofs.YtlbppdgijjbjbaaGreat
/- THE CELL 'sum', in the pinned program and in every row, IS THE sha256 OF THE DUMP (.gsa) THAT YtlbppdgijjbjbaaGreatProg.lean LOADS. Nothing in Lean hashes anything: it is a label: what it is worth is what the hold of that sum in a sandbox is worth. -/
noncomputable def Tryz.pinned : Pinned := { name := "ytlbppdgijjbjbaagreat", sum := "02e623aae554541ab8a2db109606389d26d1081c60b2ff1e6eb19ac59315d00c", checked := Tryz.checked }
namespace Rows
def none {H : Type} : Left H := { results := [], args := [] }

/-- 'clearwaylaw07.InterpValues': WHATEVER THE INPUT: true; the input reads as it did. -/
def interpValuesSpec : ChangeSpec := { name := "interpValues", fn := fun _ => fun
  | [d1, d2, d3] => { results := [.lit (.bool true)], args := [d1, d2, d3] }
  | _ => none }
def interpValuesRow : OpenClaim := { program := "ytlbppdgijjbjbaagreat", sum := "02e623aae554541ab8a2db109606389d26d1081c60b2ff1e6eb19ac59315d00c", func := "clearway/clearwaylaw07.InterpValues", spec := "interpValues", unfollowed := true, recurses := true, apart := false }
def InterpValuesSaid : Prop := interpValuesRow.holds Tryz.pinned (OpenSpec.ofChange interpValuesSpec)

/-- ITS FALSE NEIGHBOUR: 'it returns false'. Refute it at one input. -/
def interpValuesWrong : ChangeSpec := { name := "interpValues", fn := fun _ => fun
  | [d1, d2, d3] => { results := [.lit (.bool false)], args := [d1, d2, d3] }
  | _ => none }
def InterpValuesWrongFalsely : Prop := interpValuesRow.holds Tryz.pinned (OpenSpec.ofChange interpValuesWrong)

/-- 'clearwaylaw07.InterpMatches': WHATEVER THE INPUT: true; the input reads as it did. -/
def interpMatchesSpec : ChangeSpec := { name := "interpMatches", fn := fun _ => fun
  | [d1, d2, d3] => { results := [.lit (.bool true)], args := [d1, d2, d3] }
  | _ => none }
def interpMatchesRow : OpenClaim := { program := "ytlbppdgijjbjbaagreat", sum := "02e623aae554541ab8a2db109606389d26d1081c60b2ff1e6eb19ac59315d00c", func := "clearway/clearwaylaw07.InterpMatches", spec := "interpMatches", unfollowed := true, recurses := true, apart := false }
def InterpMatchesSaid : Prop := interpMatchesRow.holds Tryz.pinned (OpenSpec.ofChange interpMatchesSpec)

/-- ITS FALSE NEIGHBOUR: 'it returns false'. Refute it at one input. -/
def interpMatchesWrong : ChangeSpec := { name := "interpMatches", fn := fun _ => fun
  | [d1, d2, d3] => { results := [.lit (.bool false)], args := [d1, d2, d3] }
  | _ => none }
def InterpMatchesWrongFalsely : Prop := interpMatchesRow.holds Tryz.pinned (OpenSpec.ofChange interpMatchesWrong)

/-- 'clearwaylaw28.AdviseChooses': WHATEVER THE INPUT: true; the input reads as it did. -/
def adviseChoosesSpec : ChangeSpec := { name := "adviseChooses", fn := fun _ => fun
  | [d] => { results := [.lit (.bool true)], args := [d] }
  | _ => none }
def adviseChoosesRow : OpenClaim := { program := "ytlbppdgijjbjbaagreat", sum := "02e623aae554541ab8a2db109606389d26d1081c60b2ff1e6eb19ac59315d00c", func := "clearway/clearwaylaw28.AdviseChooses", spec := "adviseChooses", unfollowed := true, recurses := true, apart := false }
def AdviseChoosesSaid : Prop := adviseChoosesRow.holds Tryz.pinned (OpenSpec.ofChange adviseChoosesSpec)

/-- ITS FALSE NEIGHBOUR: 'it returns false'. Refute it at one input. -/
def adviseChoosesWrong : ChangeSpec := { name := "adviseChooses", fn := fun _ => fun
  | [d] => { results := [.lit (.bool false)], args := [d] }
  | _ => none }
def AdviseChoosesWrongFalsely : Prop := adviseChoosesRow.holds Tryz.pinned (OpenSpec.ofChange adviseChoosesWrong)

/- THE SECOND FORM. 'bulk': how many values and letters a reading holds, each counted each time it is reached (what is shared counts as often as it is met; a slice's spare places count too). A statement '..UptoSaid' is the law's where the arguments, and the package variables that the reading takes, are together of bulk at most 1048576: NARROWER than '..Said'. Prove '..Said' where nothing that the law and all that it calls make is longer than what came in: it says more and counts as full. Else prove '..UptoSaid'. A law counts once. -/
mutual
def uptoBulk {H : Type} : DataW H → Nat
  | .lit (.string bytes) => bytes.length + 1
  | .lit _ => 1
  | .nil => 1
  | .ptr d => uptoBulk d + 1
  | .slice elems spare => uptoBulkAll elems + uptoBulkAll spare + 1
  | .agg parts => uptoBulkAll parts + 1
  | .iface _ d => uptoBulk d + 1
  | .map entries => uptoBulkEntries entries + 1
  | .held _ => 1
def uptoBulkAll {H : Type} : List (DataW H) → Nat
  | [] => 0
  | d :: r => uptoBulk d + uptoBulkAll r
def uptoBulkEntries {H : Type} : List (Lit × DataW H) → Nat
  | [] => 0
  | x :: r => uptoBulkEntry x + uptoBulkEntries r
def uptoBulkEntry {H : Type} : Lit × DataW H → Nat
  | (.string bytes, d) => bytes.length + uptoBulk d + 1
  | (_, d) => uptoBulk d + 1
 end
def uptoSmall : (H : Type) → List (DataW H) → Bool := fun _ ds => decide (uptoBulkAll ds ≤ 1048576)
def OpenSpec.upto (s : _root_.Go.ChangeSpec) : _root_.Go.OpenSpec := { _root_.Go.OpenSpec.ofChange s with cond := some uptoSmall }

/-- 'clearwaylaw07.InterpValues', WHERE WHAT IT READS IS OF BULK AT MOST 1048576: true; the input reads as it did. -/
def interpValuesUptoRow : OpenClaim := { program := "ytlbppdgijjbjbaagreat", sum := "02e623aae554541ab8a2db109606389d26d1081c60b2ff1e6eb19ac59315d00c", func := "clearway/clearwaylaw07.InterpValues", spec := "interpValues", unfollowed := true, recurses := true, apart := false, narrowed := true }
def InterpValuesUptoSaid : Prop := interpValuesUptoRow.holds Tryz.pinned (OpenSpec.upto interpValuesSpec)

/-- 'clearwaylaw07.InterpMatches', WHERE WHAT IT READS IS OF BULK AT MOST 1048576: true; the input reads as it did. -/
def interpMatchesUptoRow : OpenClaim := { program := "ytlbppdgijjbjbaagreat", sum := "02e623aae554541ab8a2db109606389d26d1081c60b2ff1e6eb19ac59315d00c", func := "clearway/clearwaylaw07.InterpMatches", spec := "interpMatches", unfollowed := true, recurses := true, apart := false, narrowed := true }
def InterpMatchesUptoSaid : Prop := interpMatchesUptoRow.holds Tryz.pinned (OpenSpec.upto interpMatchesSpec)

/-- 'clearwaylaw28.AdviseChooses', WHERE WHAT IT READS IS OF BULK AT MOST 1048576: true; the input reads as it did. -/
def adviseChoosesUptoRow : OpenClaim := { program := "ytlbppdgijjbjbaagreat", sum := "02e623aae554541ab8a2db109606389d26d1081c60b2ff1e6eb19ac59315d00c", func := "clearway/clearwaylaw28.AdviseChooses", spec := "adviseChooses", unfollowed := true, recurses := true, apart := false, narrowed := true }
def AdviseChoosesUptoSaid : Prop := adviseChoosesUptoRow.holds Tryz.pinned (OpenSpec.upto adviseChoosesSpec)

end Rows
end Go.Proofs.YtlbppdgijjbjbaaGreat
