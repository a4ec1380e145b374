/- Constants of layer 5's examples. Conditions: none. -/
import Derived.Test.YtebdmmlniohhgaaGF
namespace Go.Proofs.Ytebdmmlniohhgaa
set_option linter.unusedSimpArgs false
set_option linter.unusedVariables false

/-- The greatest number; one that is too long; digits. -/
def topL : List Int := List.replicate 512 4294967295
def longL : List Int := List.replicate 512 0 ++ [1]
def nines (k : Nat) : ByteArray := strOfNums (List.replicate k 57)

theorem x_top : Lim topL := lims _ (by kernel_rfl)
theorem x_long : Lim longL := lims _ (by kernel_rfl)
theorem x_len : topL.length = 512 := by kernel_rfl
theorem x_len2 : longL.length = 513 := by kernel_rfl
theorem x_a : addS topL [1] = ([], 4) := by kernel_rfl
theorem x_b : addS longL [1, 0] = ([], 4) := by kernel_rfl
theorem x_c : addS [1, 0] longL = ([], 2) := by kernel_rfl
theorem x_d : addS [1] longL = ([], 4) := by kernel_rfl
theorem x_e : subS [1] [2] = ([], 7) := by kernel_rfl
theorem x_f : mulS topL [2] = ([], 4) := by kernel_rfl
theorem x_g : mulS topL [1] = (topL, 0) := by kernel_rfl
theorem x_h : divS [1, 0] [] = ([], [], 2) := by kernel_rfl
theorem x_i : divS topL [] = ([], [], 14) := by kernel_rfl
theorem x_j : intS [0, 0, 1] = (0, 7) := by kernel_rfl
theorem x_k : intS [4294967295, 4294967295] = (18446744073709551615, 0) := by kernel_rfl
theorem x_m : bitsS topL = (16384, 0) := by kernel_rfl
theorem x_o : parseS (nines 4097) = ([], 4) := by kernel_rfl
theorem x_p : (parseS (nines 4096)).2 = 0 ∧ (parseS (nines 4096)).1.length = 426 := ⟨by kernel_rfl, by kernel_rfl⟩
theorem x_q : gcdS [] [] = ([], 0) := by kernel_rfl

end Go.Proofs.Ytebdmmlniohhgaa
