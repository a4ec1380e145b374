/- Part of the proof of mat6_holds: what the row needs of ArgR. Conditions: as each theorem states. -/
import Derived.Test.YtbnalhmcbolngaaGreatSmRatRow
import Derived.Test.YtbnalhmcbolngaaGreatSmRatLs
import Derived.Test.YtbnalhmcbolngaaGreatSmBoolS
import Derived.Test.YtbnalhmcbolngaaGreatSmGI
namespace Go.Proofs.YtbnalhmcbolngaaGreat
set_option linter.unusedSimpArgs false
set_option linter.unusedVariables false
open Go.RowKit Go.ChangeShapes Go.WideShapes Go.ChangeAt Go.Deep
section
variable {H : Type} {enc : TypeId × Value → H} {w : World} {base : Nat} {spare : Nat → Bool} {held : Bool}
instance : Inhabited Bnd := ⟨(0, 0, 0)⟩
end
end Go.Proofs.YtbnalhmcbolngaaGreat
