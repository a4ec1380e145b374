/- Constants of layer 6's examples at the limits. Conditions: none. -/
import Derived.Test.YtcmemdmfnflfiaaRatDt
import Derived.Test.YtcmemdmfnflfiaaGK
import Derived.Test.YtcmemdmfnflfiaaGJ
namespace Go.Proofs.Ytcmemdmfnflfiaa
set_option linter.unusedSimpArgs false
set_option linter.unusedVariables false

def tp6 : List Int := List.replicate 128 4294967295
def lo6 : List Int := List.replicate 128 0 ++ [1]
theorem y_tp : Lim tp6 := lims _ (by kernel_rfl)
theorem y_lo : Lim lo6 := lims _ (by kernel_rfl)
theorem y_tpl : tp6.length = 128 := by kernel_rfl
theorem y_lol : lo6.length = 129 := by kernel_rfl
theorem y_1 : addR ⟨true, [], []⟩ ⟨false, lo6, []⟩ = (zR, 2) := by kernel_rfl
theorem y_2 : addR ⟨false, lo6, []⟩ ⟨true, [], []⟩ = (zR, 4) := by kernel_rfl
theorem y_3 : addR ⟨false, tp6, []⟩ ⟨false, [1], []⟩ = (zR, 4) := by kernel_rfl
theorem y_4 : mulR ⟨false, tp6, []⟩ ⟨false, tp6, []⟩ = (zR, 4) := by kernel_rfl
theorem y_5 : mulR ⟨false, tp6, []⟩ ⟨false, [1], tp6⟩ = (⟨false, [1], []⟩, 0) := by kernel_rfl
theorem y_6 : divR ⟨true, [], []⟩ zR = (zR, 2) := by kernel_rfl
theorem y_7 : divR ⟨false, [1], []⟩ zR = (zR, 14) := by kernel_rfl
theorem y_8 : ofR 0 0 = (zR, 14) := by kernel_rfl
theorem y_9 : floorR ⟨false, tp6, []⟩ = (0, 7) := by kernel_rfl
theorem y_10 : floorR (rep ((-9223372036854775808 : Int) : Rat)) = (-9223372036854775808, 0) := by kernel_rfl
theorem y_11 : floorR ⟨false, [0, 2147483648], []⟩ = (0, 7) := by kernel_rfl
theorem y_12 : dotR [] [] = (zR, 0) := by kernel_rfl
theorem y_13 : dotR [⟨true, [], []⟩] [] = (zR, 16) := by kernel_rfl
theorem y_14 : dotR [⟨false, [1], []⟩, ⟨true, [], []⟩] [⟨false, [1], []⟩, ⟨false, lo6, []⟩] = (zR, 2) := by kernel_rfl
theorem y_15 : dotR [⟨false, tp6, []⟩, ⟨false, tp6, []⟩] [⟨false, [1], []⟩, ⟨false, [1], []⟩] = (zR, 4) := by kernel_rfl
theorem y_c0 : chkR ⟨false, lo6, []⟩ = 4 := by kernel_rfl
theorem y_c1 : chkR ⟨false, [1, 0], lo6⟩ = 4 := by kernel_rfl
theorem y_c2 : chkR ⟨false, [1, 0], []⟩ = 2 := by kernel_rfl
theorem y_c3 : chkR ⟨true, [], []⟩ = 2 := by kernel_rfl
theorem y_c4 : chkR ⟨false, [], [2]⟩ = 2 := by kernel_rfl
theorem y_c5 : chkR ⟨false, [2], [1]⟩ = 2 := by kernel_rfl
theorem y_c6 : chkR ⟨false, [2], [4]⟩ = 2 := by kernel_rfl
theorem y_c7 : chkR ⟨false, [2], [0]⟩ = 2 := by kernel_rfl
theorem y_c8 : chkR ⟨false, [], []⟩ = 0 := by kernel_rfl
theorem y_c9 : chkR ⟨false, tp6, []⟩ = 0 := by kernel_rfl
theorem y_ca : chkR ⟨false, [1], tp6⟩ = 0 := by kernel_rfl
theorem textR_err (r : RR) : (textR r).2 = chkR r := by
  unfold textR
  split
  · rename_i h; exact h.symm
  · rfl

end Go.Proofs.Ytcmemdmfnflfiaa
