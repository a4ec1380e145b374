/- Part of the proof of nodL_holds: what the row needs of ArgU. Conditions: as each theorem states. -/
import Derived.Test.YtbnalhmcbolngaaSnBigRow
import Derived.Test.YtbnalhmcbolngaaSnArgR
namespace Go.Proofs.Ytbnalhmcbolngaa
set_option linter.unusedSimpArgs false
set_option linter.unusedVariables false
open Go.ChangeShapes Go.WideShapes Go.ChangeAt Go.RowKit
section
variable {H : Type} {enc : TypeId × Value → H} {w : World} {base : Nat} {spare : Nat → Bool} {held : Bool}
theorem rd_of_rdN1U {w : World} {v : Value} {α : Type} {l : List α} {f : α → Value} (h : RdN 1 w v (l.map fun x => [f x])) : Rd w v (l.map f) := by
  obtain ⟨a, cap, hv, hc, hm, hr⟩ := h
  simp only [List.length_map] at hv hc hr
  refine ⟨a, cap, by simpa using hv, by simpa using hc, hm, fun i hi => ?_⟩
  simp only [List.length_map] at hi
  obtain ⟨b, off, ha, hb, hx⟩ := hr i hi
  have h0 := hx 0 (by omega)
  exact ⟨b, off, ha, hb, by simpa [hi] using h0⟩
end
end Go.Proofs.Ytbnalhmcbolngaa
