/-
  No cell of these rows narrows 'for every input' (looked for: loops, veiled, ifaces, maps, wideKeys, modest, calm, conditions, laid).
  DERIVED. THE GIVEN ROWS OF THIS SEAT. 2 by the template 'for every input the law returns true; each argument reads behind the call as it read before'; 0 by the template 'total and deterministic' (their statements: YtfflknbeidihoaaTotals.lean).
  GIVEN WITH THE SEED: the statements are not yours to turn. If you find one false, say at which input.
  Laid BY PROGRAM, IN A SANDBOX (cutbox-rows.mjs): the forced cells as the released guide's own fill.sh prints them over the translation 48b693467f84e1c8… (all of the seat's roots in one cut). By AI agents, Wed Nov 11 2026. No macro, syntax, notation, axiom, sorry.
-/
import Derived.Test.YtfflknbeidihoaaChecked
import GoSem.Claim
import GoSem.ClaimJoined
import GoSem.ClaimMapViews
import Derived.JoinedTies
import Derived.KernelRfl
namespace Go.Proofs.Ytfflknbeidihoaa
/- THE CELL 'sum', in the pinned program and in every row, IS THE sha256 OF THE DUMP (.gsa) THAT YtfflknbeidihoaaProg.lean LOADS. Nothing in Lean hashes anything: it is a label: what it is worth is what the hold of that sum in a sandbox is worth. -/
noncomputable def Try.pinned : Pinned := { name := "ytfflknbeidihoaa", sum := "48b693467f84e1c8595b061630a5ac4498a0e1acc51d4dbc605d08baade1441a", checked := Try.checked }
namespace Rows
def none {H : Type} : Left H := { results := [], args := [] }

/-- 'clearwaylaw22.IterateSplits': WHATEVER THE INPUT: true; the input reads as it did. -/
def iterateSplitsSpec : ChangeSpec := { name := "iterateSplits", fn := fun _ => fun
  | [d1, d2, d3, d4, d5] => { results := [.lit (.bool true)], args := [d1, d2, d3, d4, d5] }
  | _ => none }
def iterateSplitsRow : OpenClaim := { program := "ytfflknbeidihoaa", sum := "48b693467f84e1c8595b061630a5ac4498a0e1acc51d4dbc605d08baade1441a", func := "clearway/clearwaylaw22.IterateSplits", spec := "iterateSplits", unfollowed := true, recurses := true, apart := false }
def IterateSplitsSaid : Prop := iterateSplitsRow.holds Try.pinned (OpenSpec.ofChange iterateSplitsSpec)

/-- ITS FALSE NEIGHBOUR: 'it returns false'. Refute it at one input. -/
def iterateSplitsWrong : ChangeSpec := { name := "iterateSplits", fn := fun _ => fun
  | [d1, d2, d3, d4, d5] => { results := [.lit (.bool false)], args := [d1, d2, d3, d4, d5] }
  | _ => none }
def IterateSplitsWrongFalsely : Prop := iterateSplitsRow.holds Try.pinned (OpenSpec.ofChange iterateSplitsWrong)

/-- 'clearwaylaw22.IterateChances': WHATEVER THE INPUT: true; the input reads as it did. -/
def iterateChancesSpec : ChangeSpec := { name := "iterateChances", fn := fun _ => fun
  | [d1, d2, d3, d4] => { results := [.lit (.bool true)], args := [d1, d2, d3, d4] }
  | _ => none }
def iterateChancesRow : OpenClaim := { program := "ytfflknbeidihoaa", sum := "48b693467f84e1c8595b061630a5ac4498a0e1acc51d4dbc605d08baade1441a", func := "clearway/clearwaylaw22.IterateChances", spec := "iterateChances", unfollowed := true, recurses := true, apart := false }
def IterateChancesSaid : Prop := iterateChancesRow.holds Try.pinned (OpenSpec.ofChange iterateChancesSpec)

/-- ITS FALSE NEIGHBOUR: 'it returns false'. Refute it at one input. -/
def iterateChancesWrong : ChangeSpec := { name := "iterateChances", fn := fun _ => fun
  | [d1, d2, d3, d4] => { results := [.lit (.bool false)], args := [d1, d2, d3, d4] }
  | _ => none }
def IterateChancesWrongFalsely : Prop := iterateChancesRow.holds Try.pinned (OpenSpec.ofChange iterateChancesWrong)

/- THE SECOND FORM. 'bulk': how many values and letters a reading holds, each counted each time it is reached (what is shared counts as often as it is met; a slice's spare places count too). A statement '..UptoSaid' is the law's where the arguments, and the package variables that the reading takes, are together of bulk at most 1048576: NARROWER than '..Said'. Prove '..Said' where nothing that the law and all that it calls make is longer than what came in: it says more and counts as full. Else prove '..UptoSaid'. A law counts once. -/
mutual
def uptoBulk {H : Type} : DataW H → Nat
  | .lit (.string bytes) => bytes.length + 1
  | .lit _ => 1
  | .nil => 1
  | .ptr d => uptoBulk d + 1
  | .slice elems spare => uptoBulkAll elems + uptoBulkAll spare + 1
  | .agg parts => uptoBulkAll parts + 1
  | .iface _ d => uptoBulk d + 1
  | .map entries => uptoBulkEntries entries + 1
  | .held _ => 1
def uptoBulkAll {H : Type} : List (DataW H) → Nat
  | [] => 0
  | d :: r => uptoBulk d + uptoBulkAll r
def uptoBulkEntries {H : Type} : List (Lit × DataW H) → Nat
  | [] => 0
  | x :: r => uptoBulkEntry x + uptoBulkEntries r
def uptoBulkEntry {H : Type} : Lit × DataW H → Nat
  | (.string bytes, d) => bytes.length + uptoBulk d + 1
  | (_, d) => uptoBulk d + 1
 end
def uptoSmall : (H : Type) → List (DataW H) → Bool := fun _ ds => decide (uptoBulkAll ds ≤ 1048576)
def OpenSpec.upto (s : _root_.Go.ChangeSpec) : _root_.Go.OpenSpec := { _root_.Go.OpenSpec.ofChange s with cond := some uptoSmall }

/-- 'clearwaylaw22.IterateSplits', WHERE WHAT IT READS IS OF BULK AT MOST 1048576: true; the input reads as it did. -/
def iterateSplitsUptoRow : OpenClaim := { program := "ytfflknbeidihoaa", sum := "48b693467f84e1c8595b061630a5ac4498a0e1acc51d4dbc605d08baade1441a", func := "clearway/clearwaylaw22.IterateSplits", spec := "iterateSplits", unfollowed := true, recurses := true, apart := false, narrowed := true }
def IterateSplitsUptoSaid : Prop := iterateSplitsUptoRow.holds Try.pinned (OpenSpec.upto iterateSplitsSpec)

/-- 'clearwaylaw22.IterateChances', WHERE WHAT IT READS IS OF BULK AT MOST 1048576: true; the input reads as it did. -/
def iterateChancesUptoRow : OpenClaim := { program := "ytfflknbeidihoaa", sum := "48b693467f84e1c8595b061630a5ac4498a0e1acc51d4dbc605d08baade1441a", func := "clearway/clearwaylaw22.IterateChances", spec := "iterateChances", unfollowed := true, recurses := true, apart := false, narrowed := true }
def IterateChancesUptoSaid : Prop := iterateChancesUptoRow.holds Try.pinned (OpenSpec.upto iterateChancesSpec)

end Rows
end Go.Proofs.Ytfflknbeidihoaa
