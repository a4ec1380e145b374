/- Walks towards Parse of layer 5: its closure. Conditions: none. -/
import Derived.Test.YtoicjiiifffciaaBigIn
namespace Go.Proofs.Ytoicjiiifffciaa
set_option linter.unusedSimpArgs false
set_option linter.unusedVariables false
open Go.RowKit

/-- No digit. -/
def noDig (c : Int) : Bool := decide (c < 48) || decide (57 < c)

theorem parse1_any (c : Int) (w : World) : Calls Try.prog 54 #[.int .i32 c] w fun e w' => e = .returned (.bool (noDig c)) ∧ Ext w w' := by
  by_cases h : c < 48
  · have E := Lib.hid (show noDig c = true by unfold noDig; simp [h])
    go_enter Try.func54, Try.ntmps54
    go_wp2_with fail
    go_ret
    exact ⟨by rw [E.out]; rfl, Ext.refl w⟩
  · by_cases h2 : 57 < c
    · have E := Lib.hid (show noDig c = true by unfold noDig; simp [h2])
      go_enter Try.func54, Try.ntmps54
      go_wp2_with fail
      go_ret
      exact ⟨by rw [E.out]; rfl, Ext.refl w⟩
    · have E := Lib.hid (show noDig c = false by unfold noDig; simp [h, h2])
      go_enter Try.func54, Try.ntmps54
      go_wp2_with fail
      go_ret
      exact ⟨by rw [E.out]; rfl, Ext.refl w⟩

end Go.Proofs.Ytoicjiiifffciaa
