/- Part of the proof of nodL_holds: what the row needs of SpecT. Conditions: as each theorem states. -/
import Derived.Test.YtbnalhmcbolngaaSnTame
namespace Go.Proofs.Ytbnalhmcbolngaa
set_option linter.unusedSimpArgs false
set_option linter.unusedVariables false
open Go.RowKit
theorem tame_chk (de dl se sl ae al r : Int) : chk (umod de 2000) (umod de 2000 + umod dl 500) (umod se 2000) (umod se 2000 + umod sl 500) (umod ae 2000) (umod ae 2000 + umod al 500) (umod r 101) = 0 := by
  have a1 := umod_bd de (k := 2000) (by omega) (by omega)
  have a2 := umod_bd dl (k := 500) (by omega) (by omega)
  have a3 := umod_bd se (k := 2000) (by omega) (by omega)
  have a4 := umod_bd sl (k := 500) (by omega) (by omega)
  have a5 := umod_bd ae (k := 2000) (by omega) (by omega)
  have a6 := umod_bd al (k := 500) (by omega) (by omega)
  have a7 := umod_bd r (k := 101) (by omega) (by omega)
  refine chk_0 ((gapB_iff _ _).2 ⟨by omega, by omega, by omega⟩) ((gapB_iff _ _).2 ⟨by omega, by omega, by omega⟩) ((gapB_iff _ _).2 ⟨by omega, by omega, by omega⟩) (by omega) (by omega)
theorem cutL_bd {l : List Int} {x : Int} (h : x ∈ cutL l) : -200 ≤ x ∧ x < 2800 := by
  obtain ⟨y, _, rfl⟩ := List.mem_map.1 h
  have := umod_bd y (k := 3000) (by omega) (by omega)
  omega
theorem any_wrong_no {l : List Int} (h : ∀ x ∈ l, -2000 ≤ x ∧ x ≤ 60000) : l.any wrongB = false := by
  rw [List.any_eq_false]
  intro x hx
  have := h x hx
  simp [wrongB_no (z := x) (by omega)]
end Go.Proofs.Ytbnalhmcbolngaa
