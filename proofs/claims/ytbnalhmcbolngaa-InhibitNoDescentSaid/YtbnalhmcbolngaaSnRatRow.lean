/- Part of the proof of nodL_holds: what the row needs of RatRow. Conditions: as each theorem states. -/
import Derived.Test.YtbnalhmcbolngaaSnBigRow
import Derived.Test.YtbnalhmcbolngaaSnGG
namespace Go.Proofs.Ytbnalhmcbolngaa
set_option linter.unusedSimpArgs false
set_option linter.unusedVariables false
open Go.RowKit Go.ChangeShapes Go.WideShapes Go.ChangeAt Go.Deep
section
variable {H : Type} {enc : TypeId × Value → H} {w : World} {base : Nat} {spare : Nat → Bool} {held : Bool}
theorem Try.cellsB : Try.prog.cellsOf 4 = 1 := by kernel_rfl
theorem lst3 {α : Type} {l : List α} (h : l.length = 3) : ∃ a b c, l = [a, b, c] := by match l, h with | [a, b, c], _ => exact ⟨a, b, c, rfl⟩
end
end Go.Proofs.Ytbnalhmcbolngaa
