/- Constants of layer 6's examples. Conditions: none. -/
import Derived.Test.YtebdmmlniohhgaaRatX
namespace Go.Proofs.Ytebdmmlniohhgaa
set_option linter.unusedSimpArgs false
set_option linter.unusedVariables false

theorem k_x : ofS 6 (-4) = ⟨true, [3], [2]⟩ := by kernel_rfl
theorem k_12 : ofS 1 2 = ⟨false, [1], [2]⟩ := by kernel_rfl
theorem k_13 : ofS 1 3 = ⟨false, [1], [3]⟩ := by kernel_rfl
theorem k_23 : ofS 2 3 = ⟨false, [2], [3]⟩ := by kernel_rfl
theorem k_m14 : ofS (-1) 4 = ⟨true, [1], [4]⟩ := by kernel_rfl
theorem k_fl : floorR ⟨true, [3], [2]⟩ = (-2, 0) := by kernel_rfl
theorem k_add : addR ⟨false, [1], [2]⟩ ⟨false, [1], [3]⟩ = (⟨false, [5], [6]⟩, 0) := by kernel_rfl
theorem k_mul : mulR ⟨false, [1], [2]⟩ ⟨false, [2], [3]⟩ = (⟨false, [1], [3]⟩, 0) := by kernel_rfl
theorem k_div : divR ⟨false, [1], [2]⟩ ⟨true, [1], [4]⟩ = (⟨true, [2], []⟩, 0) := by kernel_rfl
theorem k_five : rep ((5 : Int) : Rat) = ⟨false, [5], []⟩ := by kernel_rfl
theorem k_p1 : parseQ ⟨#[50, 47, 52]⟩ = (zR, 2) := by kernel_rfl
theorem k_p2 : parseQ ⟨#[51, 47, 49]⟩ = (zR, 2) := by kernel_rfl
theorem k_p3 : parseQ ⟨#[45, 48]⟩ = (zR, 2) := by kernel_rfl
theorem k_d3 : decT 3 = ⟨#[51]⟩ := by unfold decT; rw [if_neg (by decide), decR_pos (by decide), show 3 / 10 = 0 from rfl, decR_zero]; rfl
theorem k_d2 : decT 2 = ⟨#[50]⟩ := by unfold decT; rw [if_neg (by decide), decR_pos (by decide), show 2 / 10 = 0 from rfl, decR_zero]; rfl
theorem k_tx : textR ⟨true, [3], [2]⟩ = (⟨#[45, 51, 47, 50]⟩, 0) := by
  unfold textR
  rw [show nv [3] = 3 from rfl, show nv [2] = 2 from rfl, k_d3, k_d2, if_pos (show chkR ⟨true, [3], [2]⟩ = 0 by kernel_rfl), if_neg (by simp), if_pos rfl]
  rfl

end Go.Proofs.Ytebdmmlniohhgaa
