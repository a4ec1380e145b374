/- Walks of the reference's Sub of layer 5. Conditions: slices of limbs. -/
import Derived.Test.YtebdmmlniohhgaaGF
import Derived.Test.YtebdmmlniohhgaaRefC
namespace Go.Proofs.Ytebdmmlniohhgaa
set_option linter.unusedSimpArgs false
set_option linter.unusedVariables false
open Go.RowKit

set_option maxHeartbeats 1000000 in
theorem refSub_any (v1 v2 : Value) (l1 l2 : List Int) (w : World) (h1 : RdI .u32 w v1 l1) (h2 : RdI .u32 w v2 l2) (hl1 : Lim l1) (hl2 : Lim l2) :
    Calls Try.prog 45 #[v1, v2] w fun e w' => Res w w' e (subS l1 l2) ∧ Ext w w' := by
  have H1 := Lib.hid h1; have H2 := Lib.hid h2; have HL1 := Lib.hid hl1; have HL2 := Lib.hid hl2
  clear h1 h2 hl1 hl2
  by_cases hc : chk2 l1 l2 = 0
  · have HC := Lib.hid hc
    obtain ⟨⟨g1, z1⟩, g2, z2⟩ := chk2_0 hc
    have Z1 := Lib.hid z1; have Z2 := Lib.hid z2
    obtain ⟨d, hd⟩ : ∃ d, d = cmpN (nv l1) (nv l2) := ⟨_, rfl⟩
    have hk := fun W h1 h2 => refOrder_any v1 v2 l1 l2 W h1 h2 HL1.out HL2.out (by omega) (by omega)
    rw [← hd] at hk
    have HK := Lib.hid hk
    by_cases hlt : nv l1 < nv l2
    · have E1 := Lib.hid (subS_lt hc hlt)
      have hdd : d = -1 := by rw [hd]; exact cmpN_lt hlt
      subst hdd
      clear hc z1 z2 hd hk hlt
      go_enter Try.func45, Try.ntmps45
      go_wp2_with fail
      refine (wrong_any v1 v2 l1 l2 _ H1.out H2.out).mono ?_
      rintro e w1 ⟨rfl, hx1⟩
      rw [HC.out]
      have X1 := Lib.hid hx1; clear hx1
      go_wp2_with fail
      refine (HK.out _ (H1.out.ext X1.out) (H2.out.ext X1.out)).mono ?_
      rintro e w2 ⟨rfl, hx2⟩
      have X2 := Lib.hid (X1.out.trans hx2); clear hx2
      go_wp2_with fail
      go_ret2
      exact ⟨Res.mk (NewV.nil _ _) E1.out, X2.out⟩
    · have E1 := Lib.hid (subS_ok g1 z1 g2 z2 (by omega))
      have hq : decide (d < 0) = false := by rw [hd, cmpN_neg]; exact decide_eq_false hlt
      have hge := Lib.hid (show nv l2 ≤ nv l1 by omega)
      clear hc z1 z2 hd hk hlt
      go_enter Try.func45, Try.ntmps45
      go_wp2_with fail
      refine (wrong_any v1 v2 l1 l2 _ H1.out H2.out).mono ?_
      rintro e w1 ⟨rfl, hx1⟩
      rw [HC.out]
      have X1 := Lib.hid hx1; clear hx1
      go_wp2_with fail
      refine (HK.out _ (H1.out.ext X1.out) (H2.out.ext X1.out)).mono ?_
      rintro e w2 ⟨rfl, hx2⟩
      have X2 := Lib.hid (X1.out.trans hx2); clear hx2
      go_wp2_with fail
      refine (difference_any v1 v2 l1 l2 _ (H1.out.ext X2.out) (H2.out.ext X2.out) HL1.out HL2.out Z2.out (by omega) hge.out).mono ?_
      rintro e w3 ⟨⟨v3, rfl, n3⟩, hx3⟩
      have N3 := Lib.hid (n3.from X2.out); have X3 := Lib.hid (X2.out.trans hx3); clear n3 hx3
      go_wp2_with fail
      go_ret2
      exact ⟨Res.mk N3.out E1.out, X3.out⟩
  · have e1 : subS l1 l2 = ([], chk2 l1 l2) := opS_err hc
    obtain ⟨c, hcc⟩ : ∃ c, c = chk2 l1 l2 := ⟨_, rfl⟩
    have hk := fun W h1 h2 => wrong_any v1 v2 l1 l2 W h1 h2
    rw [← hcc] at hk e1 hc
    have hcb : (c != 0) = true := by simpa using hc
    have HK := Lib.hid hk; have E1 := Lib.hid e1
    clear hc hcc hk e1
    go_enter Try.func45, Try.ntmps45
    go_wp2_with fail
    refine (HK.out _ H1.out H2.out).mono ?_
    rintro e w1 ⟨rfl, hx1⟩
    have X1 := Lib.hid hx1; clear hx1
    go_wp2_with fail
    go_ret2
    exact ⟨Res.mk (NewV.nil _ _) E1.out, X1.out⟩

end Go.Proofs.Ytebdmmlniohhgaa
