/- Part of the proof of nodL_holds: what the row needs of InhA. Conditions: as each theorem states. -/
import Derived.Test.YtbnalhmcbolngaaSnGA
import Derived.Test.YtbnalhmcbolngaaSnGI
namespace Go.Proofs.Ytbnalhmcbolngaa
set_option linter.unusedSimpArgs false
set_option linter.unusedVariables false
open Go.RowKit
set_option maxHeartbeats 400000 in
theorem wrong30_any (n : Int) (w : World) :
    Calls Try.prog 59 #[.int .i64 n] w fun e w' => e = .returned (.bool (decide (n < -2000) || decide (60000 < n))) ∧ Ext w w' := by
  go_enter Try.func59, Try.ntmps59
  go_wp2
  all_goals (go_ret; refine ⟨ret_bool ?_, Ext.refl w⟩; simp <;> omega)
end Go.Proofs.Ytbnalhmcbolngaa
