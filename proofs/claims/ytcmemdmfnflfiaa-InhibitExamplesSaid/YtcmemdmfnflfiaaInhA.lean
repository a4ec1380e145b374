/- Walks of the small functions of layer 30 and of its reference: what each call returns. Conditions: none. -/
import Derived.Test.YtcmemdmfnflfiaaGA
import Derived.Test.YtcmemdmfnflfiaaGI
namespace Go.Proofs.Ytcmemdmfnflfiaa
set_option linter.unusedSimpArgs false
set_option linter.unusedVariables false
open Go.RowKit

set_option maxHeartbeats 400000 in
theorem wrong30_any (n : Int) (w : World) :
    Calls Try.prog 40 #[.int .i64 n] w fun e w' => e = .returned (.bool (decide (n < -2000) || decide (60000 < n))) ∧ Ext w w' := by
  go_enter Try.func40, Try.ntmps40
  go_wp2
  all_goals (go_ret; refine ⟨ret_bool ?_, Ext.refl w⟩; simp <;> omega)

end Go.Proofs.Ytcmemdmfnflfiaa
