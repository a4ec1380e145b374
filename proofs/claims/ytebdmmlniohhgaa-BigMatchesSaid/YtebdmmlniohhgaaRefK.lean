/- Walks of the reference's Mul, DivMod and GCD of layer 5. Conditions: slices of limbs. -/
import Derived.Test.YtebdmmlniohhgaaRefC
import Derived.Test.YtebdmmlniohhgaaRefH
import Derived.Test.YtebdmmlniohhgaaRefJ
import Derived.Test.YtebdmmlniohhgaaGD
namespace Go.Proofs.Ytebdmmlniohhgaa
set_option linter.unusedSimpArgs false
set_option linter.unusedVariables false
open Go.RowKit

set_option maxHeartbeats 1000000 in
theorem refMul_any (v1 v2 : Value) (l1 l2 : List Int) (w : World) (h1 : RdI .u32 w v1 l1) (h2 : RdI .u32 w v2 l2) (hl1 : Lim l1) (hl2 : Lim l2) :
    Calls Try.prog 46 #[v1, v2] w fun e w' => Res w w' e (mulS l1 l2) ∧ Ext w w' := by
  have H1 := Lib.hid h1; have H2 := Lib.hid h2; have HL1 := Lib.hid hl1; have HL2 := Lib.hid hl2
  clear h1 h2 hl1 hl2
  by_cases hc : chk2 l1 l2 = 0
  · have HC := Lib.hid hc
    obtain ⟨⟨g1, z1⟩, g2, z2⟩ := chk2_0 hc
    have Z1 := Lib.hid z1; have Z2 := Lib.hid z2
    have E1 := Lib.hid (show mulS l1 l2 = fitL (nv l1 * nv l2) from opS_ok hc)
    clear hc z1 z2
    go_enter Try.func46, Try.ntmps46
    go_wp2_with fail
    refine (wrong_any v1 v2 l1 l2 _ H1.out H2.out).mono ?_
    rintro e w1 ⟨rfl, hx1⟩
    rw [HC.out]
    have X1 := Lib.hid hx1; clear hx1
    go_wp2_with fail
    refine (product_any v1 v2 l1 l2 _ (H1.out.ext X1.out) (H2.out.ext X1.out) HL1.out HL2.out (by omega) (by omega)).mono ?_
    rintro e w2 ⟨⟨v3, rfl, n3⟩, hx2⟩
    have N3 := Lib.hid (n3.from X1.out); have X2 := Lib.hid (X1.out.trans hx2); clear n3 hx2
    go_wp2_with fail
    refine (refFit_any v3 _ _ w N3.out).mono ?_
    rintro e w3 ⟨⟨v4, rfl, n4⟩, hx3⟩
    obtain ⟨f2, hf2⟩ : ∃ f2, f2 = (fitL (nv l1 * nv l2)).2 := ⟨_, rfl⟩
    rw [← hf2]
    have N4 := Lib.hid n4; have X3 := Lib.hid (X2.out.trans hx3); have HF := Lib.hid hf2; clear n4 hx3 hf2
    go_wp2_with fail
    go_ret2
    refine ⟨?_, X3.out⟩
    rw [E1.out, HF.out]
    exact ⟨_, rfl, N4.out⟩
  · have e1 : mulS l1 l2 = ([], chk2 l1 l2) := opS_err hc
    obtain ⟨c, hcc⟩ : ∃ c, c = chk2 l1 l2 := ⟨_, rfl⟩
    have hk := fun W h1 h2 => wrong_any v1 v2 l1 l2 W h1 h2
    rw [← hcc] at hk e1 hc
    have hcb : (c != 0) = true := by simpa using hc
    have HK := Lib.hid hk; have E1 := Lib.hid e1
    clear hc hcc hk e1
    go_enter Try.func46, Try.ntmps46
    go_wp2_with fail
    refine (HK.out _ H1.out H2.out).mono ?_
    rintro e w1 ⟨rfl, hx1⟩
    have X1 := Lib.hid hx1; clear hx1
    go_wp2_with fail
    go_ret2
    exact ⟨Res.mk (NewV.nil _ _) E1.out, X1.out⟩

set_option maxHeartbeats 1000000 in
theorem refDivMod_any (v1 v2 : Value) (l1 l2 : List Int) (w : World) (h1 : RdI .u32 w v1 l1) (h2 : RdI .u32 w v2 l2) (hl1 : Lim l1) (hl2 : Lim l2) :
    Calls Try.prog 47 #[v1, v2] w fun e w' => Res3 w w' e (divS l1 l2) ∧ Ext w w' := by
  have H1 := Lib.hid h1; have H2 := Lib.hid h2; have HL1 := Lib.hid hl1; have HL2 := Lib.hid hl2
  clear h1 h2 hl1 hl2
  by_cases hc : chk2 l1 l2 = 0
  · have HC := Lib.hid hc
    obtain ⟨⟨g1, z1⟩, g2, z2⟩ := chk2_0 hc
    have Z1 := Lib.hid z1; have Z2 := Lib.hid z2
    by_cases h0 : nv l2 = 0
    · have e1 := Lib.hid (show divS l1 l2 = ([], [], 14) by unfold divS; rw [if_pos hc, if_pos h0])
      obtain rfl : l2 = [] := List.length_eq_zero_iff.1 ((nv_zero_iff HL2.out z2).1 h0)
      obtain ⟨a2, c2, rfl, _, _, _⟩ := rdU H2.out
      clear hc z1 z2 h0
      go_enter Try.func47, Try.ntmps47
      go_wp2_with fail
      refine (wrong_any v1 _ l1 _ _ H1.out H2.out).mono ?_
      rintro e w1 ⟨rfl, hx1⟩
      rw [HC.out]
      have X1 := Lib.hid hx1; clear hx1
      go_wp2_with fail
      go_ret3
      exact ⟨Res3.mk (NewV.nil _ _) (NewV.nil _ _) e1.out, X1.out⟩
    · have e1 := Lib.hid (show divS l1 l2 = (lim (nv l1 / nv l2), lim (nv l1 % nv l2), 0) by unfold divS; rw [if_pos hc, if_neg h0])
      obtain ⟨a2, c2, rfl, _, _, _⟩ := rdU H2.out
      have hl0 : ((l2.length : Int) == 0) = false := by
        have : l2.length ≠ 0 := fun h => h0 ((nv_zero_iff HL2.out z2).2 h)
        simp; intro h; subst h; simp at this
      have hp := Lib.hid (show 0 < nv l2 by omega)
      clear hc z1 z2 h0
      go_enter Try.func47, Try.ntmps47
      go_wp2_with fail
      refine (wrong_any v1 _ l1 _ _ H1.out H2.out).mono ?_
      rintro e w1 ⟨rfl, hx1⟩
      rw [HC.out]
      have X1 := Lib.hid hx1; clear hx1
      go_wp2_with fail
      refine (refDivide_any _ _ l1 l2 _ (H1.out.ext X1.out) (H2.out.ext X1.out) HL1.out HL2.out Z1.out Z2.out (by omega) (by omega) hp.out).mono ?_
      rintro e w2 ⟨⟨v3, v4, rfl, n1, n2⟩, hx2⟩
      have N1 := Lib.hid n1; have N2 := Lib.hid n2; have X2 := Lib.hid hx2
      clear n1 n2 hx2
      go_wp2_with fail
      go_ret3
      exact ⟨Res3.mk (N1.out.from X1.out) (N2.out.from X1.out) e1.out, X1.out.trans X2.out⟩
  · have e1 : divS l1 l2 = ([], [], chk2 l1 l2) := by unfold divS; rw [if_neg hc]
    obtain ⟨c, hcc⟩ : ∃ c, c = chk2 l1 l2 := ⟨_, rfl⟩
    have hk := fun W h1 h2 => wrong_any v1 v2 l1 l2 W h1 h2
    rw [← hcc] at hk e1 hc
    have hcb : (c != 0) = true := by simpa using hc
    have HK := Lib.hid hk; have E1 := Lib.hid e1
    clear hc hcc hk e1
    go_enter Try.func47, Try.ntmps47
    go_wp2_with fail
    refine (HK.out _ H1.out H2.out).mono ?_
    rintro e w1 ⟨rfl, hx1⟩
    have X1 := Lib.hid hx1; clear hx1
    go_wp2_with fail
    go_ret3
    exact ⟨Res3.mk (NewV.nil _ _) (NewV.nil _ _) E1.out, X1.out⟩

set_option maxHeartbeats 1000000 in
theorem refGCD_any (v1 v2 : Value) (l1 l2 : List Int) (w : World) (h1 : RdI .u32 w v1 l1) (h2 : RdI .u32 w v2 l2) (hl1 : Lim l1) (hl2 : Lim l2) :
    Calls Try.prog 49 #[v1, v2] w fun e w' => Res w w' e (gcdS l1 l2) ∧ Ext w w' := by
  have H1 := Lib.hid h1; have H2 := Lib.hid h2; have HL1 := Lib.hid hl1; have HL2 := Lib.hid hl2
  clear h1 h2 hl1 hl2
  by_cases hc : chk2 l1 l2 = 0
  · have HC := Lib.hid hc
    obtain ⟨⟨g1, z1⟩, g2, z2⟩ := chk2_0 hc
    have Z1 := Lib.hid z1; have Z2 := Lib.hid z2
    have E1 := Lib.hid (show gcdS l1 l2 = (lim (Nat.gcd (nv l1) (nv l2)), 0) from opS_ok hc)
    clear hc z1 z2
    go_enter Try.func49, Try.ntmps49
    go_wp2_with fail
    refine (wrong_any v1 v2 l1 l2 _ H1.out H2.out).mono ?_
    rintro e w1 ⟨rfl, hx1⟩
    rw [HC.out]
    have X1 := Lib.hid hx1; clear hx1
    go_wp2_with fail
    refine (common_any v1 v2 l1 l2 _ (H1.out.ext X1.out) (H2.out.ext X1.out) HL1.out HL2.out Z1.out Z2.out (by omega) (by omega)).mono ?_
    rintro e w2 ⟨⟨v3, rfl, n3⟩, hx2⟩
    have N3 := Lib.hid (n3.from X1.out); have X2 := Lib.hid (X1.out.trans hx2); clear n3 hx2
    go_wp2_with fail
    go_ret2
    exact ⟨Res.mk N3.out E1.out, X2.out⟩
  · have e1 : gcdS l1 l2 = ([], chk2 l1 l2) := opS_err hc
    obtain ⟨c, hcc⟩ : ∃ c, c = chk2 l1 l2 := ⟨_, rfl⟩
    have hk := fun W h1 h2 => wrong_any v1 v2 l1 l2 W h1 h2
    rw [← hcc] at hk e1 hc
    have hcb : (c != 0) = true := by simpa using hc
    have HK := Lib.hid hk; have E1 := Lib.hid e1
    clear hc hcc hk e1
    go_enter Try.func49, Try.ntmps49
    go_wp2_with fail
    refine (HK.out _ H1.out H2.out).mono ?_
    rintro e w1 ⟨rfl, hx1⟩
    have X1 := Lib.hid hx1; clear hx1
    go_wp2_with fail
    go_ret2
    exact ⟨Res.mk (NewV.nil _ _) E1.out, X1.out⟩

end Go.Proofs.Ytebdmmlniohhgaa
