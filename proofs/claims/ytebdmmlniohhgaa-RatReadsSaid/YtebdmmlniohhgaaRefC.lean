/- Walks of the reference's From, fit, Add, Sub and Cmp of layer 5. Conditions: slices of limbs. -/
import Derived.Test.YtebdmmlniohhgaaGF
import Derived.Test.YtebdmmlniohhgaaGC
namespace Go.Proofs.Ytebdmmlniohhgaa
set_option linter.unusedSimpArgs false
set_option linter.unusedVariables false
open Go.RowKit

set_option maxHeartbeats 1000000 in
theorem refFit_any (v : Value) (n : Nat) (w w0 : World) (h : NewV w0 w v (lim n)) :
    Calls Try.prog 85 #[v] w fun e w' => (∃ v', e = .returned (.tuple #[v', .int .i64 (fitL n).2]) ∧ NewV w0 w' v' (fitL n).1) ∧ Ext w w' := by
  obtain ⟨a, c, rfl⟩ := h.shape
  have H := Lib.hid h; clear h
  by_cases hn : n < MAXN
  · have hl := len_max.2 hn
    have E := Lib.hid (fitL_ok hn)
    have q : ¬ (512 : Int) < ((lim n).length : Int) := by omega
    clear hn
    go_enter Try.func85, Try.ntmps85
    go_wp2_with fail
    go_ret2
    rw [E.out]
    exact ⟨⟨_, rfl, H.out⟩, Ext.refl w⟩
  · have hl : 512 < (lim n).length := by
      rcases Nat.lt_or_ge 512 (lim n).length with h | h
      · exact h
      · exact absurd (len_max.1 h) hn
    have E := Lib.hid (fitL_long hn)
    have q : (512 : Int) < ((lim n).length : Int) := by omega
    clear hn
    go_enter Try.func85, Try.ntmps85
    go_wp2_with fail
    go_ret2
    rw [E.out]
    exact ⟨⟨_, rfl, NewV.nil _ _⟩, Ext.refl w⟩

set_option maxHeartbeats 1000000 in
theorem refAdd_any (v1 v2 : Value) (l1 l2 : List Int) (w : World) (h1 : RdI .u32 w v1 l1) (h2 : RdI .u32 w v2 l2) (hl1 : Lim l1) (hl2 : Lim l2) :
    Calls Try.prog 44 #[v1, v2] w fun e w' => Res w w' e (addS l1 l2) ∧ Ext w w' := by
  have H1 := Lib.hid h1; have H2 := Lib.hid h2; have HL1 := Lib.hid hl1; have HL2 := Lib.hid hl2
  clear h1 h2 hl1 hl2
  by_cases hc : chk2 l1 l2 = 0
  · have HC := Lib.hid hc
    obtain ⟨⟨g1, z1⟩, g2, z2⟩ := chk2_0 hc
    have Z1 := Lib.hid z1; have Z2 := Lib.hid z2
    have E1 := Lib.hid (show addS l1 l2 = fitL (nv l1 + nv l2) from opS_ok hc)
    clear hc z1 z2
    go_enter Try.func44, Try.ntmps44
    go_wp2_with fail
    refine (wrong_any v1 v2 l1 l2 _ H1.out H2.out).mono ?_
    rintro e w1 ⟨rfl, hx1⟩
    rw [HC.out]
    have X1 := Lib.hid hx1; clear hx1
    go_wp2_with fail
    refine (sum_any v1 v2 l1 l2 _ (H1.out.ext X1.out) (H2.out.ext X1.out) HL1.out HL2.out (by omega) (by omega)).mono ?_
    rintro e w2 ⟨⟨v3, rfl, n3⟩, hx2⟩
    have N3 := Lib.hid (n3.from X1.out); have X2 := Lib.hid (X1.out.trans hx2); clear n3 hx2
    go_wp2_with fail
    refine (refFit_any v3 _ _ w N3.out).mono ?_
    rintro e w3 ⟨⟨v4, rfl, n4⟩, hx3⟩
    obtain ⟨f2, hf2⟩ : ∃ f2, f2 = (fitL (nv l1 + nv l2)).2 := ⟨_, rfl⟩
    rw [← hf2]
    have N4 := Lib.hid n4; have X3 := Lib.hid (X2.out.trans hx3); have HF := Lib.hid hf2; clear n4 hx3 hf2
    go_wp2_with fail
    go_ret2
    refine ⟨?_, X3.out⟩
    rw [E1.out, HF.out]
    exact ⟨_, rfl, N4.out⟩
  · have e1 : addS l1 l2 = ([], chk2 l1 l2) := opS_err hc
    obtain ⟨c, hcc⟩ : ∃ c, c = chk2 l1 l2 := ⟨_, rfl⟩
    have hk := fun W h1 h2 => wrong_any v1 v2 l1 l2 W h1 h2
    rw [← hcc] at hk e1 hc
    have hcb : (c != 0) = true := by simpa using hc
    have HK := Lib.hid hk; have E1 := Lib.hid e1
    clear hc hcc hk e1
    go_enter Try.func44, Try.ntmps44
    go_wp2_with fail
    refine (HK.out _ H1.out H2.out).mono ?_
    rintro e w1 ⟨rfl, hx1⟩
    have X1 := Lib.hid hx1; clear hx1
    go_wp2_with fail
    go_ret2
    exact ⟨Res.mk (NewV.nil _ _) E1.out, X1.out⟩

set_option maxHeartbeats 1000000 in
theorem refCmp_any (v1 v2 : Value) (l1 l2 : List Int) (w : World) (h1 : RdI .u32 w v1 l1) (h2 : RdI .u32 w v2 l2) (hl1 : Lim l1) (hl2 : Lim l2) :
    Calls Try.prog 48 #[v1, v2] w fun e w' => e = .returned (.tuple #[.int .i64 (cmpS l1 l2).1, .int .i64 (cmpS l1 l2).2]) ∧ Ext w w' := by
  have H1 := Lib.hid h1; have H2 := Lib.hid h2; have HL1 := Lib.hid hl1; have HL2 := Lib.hid hl2
  clear h1 h2 hl1 hl2
  by_cases hc : chk2 l1 l2 = 0
  · have HC := Lib.hid hc
    obtain ⟨⟨g1, z1⟩, g2, z2⟩ := chk2_0 hc
    have Z1 := Lib.hid z1; have Z2 := Lib.hid z2
    obtain ⟨d, hd⟩ : ∃ d, d = cmpN (nv l1) (nv l2) := ⟨_, rfl⟩
    have e1 : cmpS l1 l2 = (d, 0) := by unfold cmpS; rw [if_pos hc, hd]
    have hk := fun W h1 h2 => refOrder_any v1 v2 l1 l2 W h1 h2 HL1.out HL2.out (by omega) (by omega)
    rw [← hd] at hk
    have E1 := Lib.hid e1; have HK := Lib.hid hk
    clear hc z1 z2 hd e1 hk
    go_enter Try.func48, Try.ntmps48
    go_wp2_with fail
    refine (wrong_any v1 v2 l1 l2 _ H1.out H2.out).mono ?_
    rintro e w1 ⟨rfl, hx1⟩
    rw [HC.out]
    have X1 := Lib.hid hx1; clear hx1
    go_wp2_with fail
    refine (HK.out _ (H1.out.ext X1.out) (H2.out.ext X1.out)).mono ?_
    rintro e w2 ⟨rfl, hx2⟩
    have X2 := Lib.hid (X1.out.trans hx2); clear hx2
    go_wp2_with fail
    go_ret2
    exact ⟨by rw [E1.out]; first | rfl | exact ⟨rfl, rfl⟩ | simp, X2.out⟩
  · have e1 : cmpS l1 l2 = (0, chk2 l1 l2) := by unfold cmpS; rw [if_neg hc]
    obtain ⟨c, hcc⟩ : ∃ c, c = chk2 l1 l2 := ⟨_, rfl⟩
    have hk := fun W h1 h2 => wrong_any v1 v2 l1 l2 W h1 h2
    rw [← hcc] at hk e1 hc
    have hcb : (c != 0) = true := by simpa using hc
    have HK := Lib.hid hk; have E1 := Lib.hid e1
    clear hc hcc hk e1
    go_enter Try.func48, Try.ntmps48
    go_wp2_with fail
    refine (HK.out _ H1.out H2.out).mono ?_
    rintro e w1 ⟨rfl, hx1⟩
    have X1 := Lib.hid hx1; clear hx1
    go_wp2_with fail
    go_ret2
    exact ⟨by rw [E1.out]; first | rfl | exact ⟨rfl, rfl⟩ | simp, X1.out⟩

end Go.Proofs.Ytebdmmlniohhgaa
