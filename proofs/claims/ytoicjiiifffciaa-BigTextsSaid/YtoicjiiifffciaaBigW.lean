/- Walk of DivMod of layer 5. Conditions: slices of limbs. -/
import Derived.Test.YtoicjiiifffciaaBigU
namespace Go.Proofs.Ytoicjiiifffciaa
set_option linter.unusedSimpArgs false
set_option linter.unusedVariables false
open Go.RowKit

/-- What DivMod returns. -/
def divS (l1 l2 : List Int) : List Int × List Int × Int :=
  if chk2 l1 l2 = 0 then (if nv l2 = 0 then ([], [], 14) else (lim (nv l1 / nv l2), lim (nv l1 % nv l2), 0)) else ([], [], chk2 l1 l2)

/-- Two numbers and an error. -/
def Res3 (w w' : World) (e : Ending) (r : List Int × List Int × Int) : Prop := ∃ v1 v2, e = .returned (.tuple #[v1, v2, .int .i64 r.2.2]) ∧ NewV w w' v1 r.1 ∧ NewV w w' v2 r.2.1
theorem Res3.mk {w w' : World} {v1 v2 : Value} {l1 l2 : List Int} {x : Int} {r : List Int × List Int × Int} (h1 : NewV w w' v1 l1) (h2 : NewV w w' v2 l2) (e : r = (l1, l2, x)) : Res3 w w' (.returned (.tuple #[v1, v2, .int .i64 x])) r := by subst e; exact ⟨v1, v2, rfl, h1, h2⟩

theorem nv_zero_iff {l : List Int} (hl : Lim l) (hz : NoZ l) : nv l = 0 ↔ l.length = 0 := by
  constructor
  · intro h
    by_cases h0 : l = []
    · subst h0; rfl
    · have := nv_pos_of_noZ hl hz h0; omega
  · intro h; rw [List.length_eq_zero_iff.1 h]; rfl

set_option maxHeartbeats 1000000 in
theorem divMod_any (v1 v2 : Value) (l1 l2 : List Int) (w : World) (h1 : RdI .u32 w v1 l1) (h2 : RdI .u32 w v2 l2) (hl1 : Lim l1) (hl2 : Lim l2) :
    Calls Try.prog 14 #[v1, v2] w fun e w' => Res3 w w' e (divS l1 l2) ∧ Ext w w' := by
  have H1 := Lib.hid h1; have H2 := Lib.hid h2
  obtain ⟨a1, c1, rfl, hc1, hm1, hr1⟩ := rdU h1
  obtain ⟨a2, c2, rfl, hc2, hm2, hr2⟩ := rdU h2
  have HL1 := Lib.hid hl1; have HL2 := Lib.hid hl2
  clear h1 h2 hr1 hr2 hl1 hl2
  by_cases hc : chk2 l1 l2 = 0
  · have HC := Lib.hid hc
    obtain ⟨⟨g1, z1⟩, g2, z2⟩ := chk2_0 hc
    have Z1 := Lib.hid z1; have Z2 := Lib.hid z2
    by_cases h0 : nv l2 = 0
    · have e1 := Lib.hid (show divS l1 l2 = ([], [], 14) by unfold divS; rw [if_pos hc, if_pos h0])
      obtain rfl : l2 = [] := List.length_eq_zero_iff.1 ((nv_zero_iff HL2.out z2).1 h0)
      clear hc z1 z2 h0
      go_enter Try.func14, Try.ntmps14
      go_wp2_with fail
      refine (check2_any _ _ l1 [] _ H1.out H2.out).mono ?_
      rintro e w1 ⟨rfl, hx1⟩
      rw [HC.out]
      have X1 := Lib.hid hx1; clear hx1
      go_wp2_with fail
      go_ret3
      exact ⟨Res3.mk (NewV.nil _ _) (NewV.nil _ _) e1.out, X1.out⟩
    · have e1 := Lib.hid (show divS l1 l2 = (lim (nv l1 / nv l2), lim (nv l1 % nv l2), 0) by unfold divS; rw [if_pos hc, if_neg h0])
      have hl0 : ((l2.length : Int) == 0) = false := by
        have : l2.length ≠ 0 := fun h => h0 ((nv_zero_iff HL2.out z2).2 h)
        simp; intro h; subst h; simp at this
      have hp := Lib.hid (show 0 < nv l2 by omega)
      clear hc z1 z2 h0
      go_enter Try.func14, Try.ntmps14
      go_wp2_with fail
      refine (check2_any _ _ l1 l2 _ H1.out H2.out).mono ?_
      rintro e w1 ⟨rfl, hx1⟩
      rw [HC.out]
      have X1 := Lib.hid hx1; clear hx1
      go_wp2_with fail
      refine (divide_any _ _ l1 l2 _ (H1.out.ext X1.out) (H2.out.ext X1.out) HL1.out HL2.out Z1.out Z2.out (by omega) (by omega) hp.out).mono ?_
      rintro e w2 ⟨⟨v1, v2, rfl, n1, n2⟩, hx2⟩
      have N1 := Lib.hid n1; have N2 := Lib.hid n2; have X2 := Lib.hid hx2
      clear n1 n2 hx2
      go_wp2_with fail
      go_ret3
      exact ⟨Res3.mk (N1.out.from X1.out) (N2.out.from X1.out) e1.out, X1.out.trans X2.out⟩
  · have e1 := Lib.hid (show divS l1 l2 = ([], [], chk2 l1 l2) by unfold divS; rw [if_neg hc])
    have hc' : (chk2 l1 l2 != 0) = true := by simpa using hc
    obtain ⟨c, hcc⟩ : ∃ c, c = chk2 l1 l2 := ⟨_, rfl⟩
    have hk := fun W h1 h2 => check2_any (.slice a1 l1.length c1) (.slice a2 l2.length c2) l1 l2 W h1 h2
    rw [← hcc] at hk hc' e1
    have HK := Lib.hid hk
    clear hc hcc hk
    go_enter Try.func14, Try.ntmps14
    go_wp2_with fail
    refine (HK.out _ H1.out H2.out).mono ?_
    rintro e w1 ⟨rfl, hx1⟩
    have X1 := Lib.hid hx1; clear hx1
    go_wp2_with fail
    go_ret3
    exact ⟨Res3.mk (NewV.nil _ _) (NewV.nil _ _) e1.out, X1.out⟩

end Go.Proofs.Ytoicjiiifffciaa
