/- Walks of Sub, Cmp of layer 5. Conditions: slices of limbs. -/
import Derived.Test.YtoicjiiifffciaaBigI
namespace Go.Proofs.Ytoicjiiifffciaa
set_option linter.unusedSimpArgs false
set_option linter.unusedVariables false
open Go.RowKit

theorem subS_lt {l1 l2 : List Int} (h : chk2 l1 l2 = 0) (hl : nv l1 < nv l2) : subS l1 l2 = ([], 7) := by unfold subS; rw [opS_ok h, if_pos hl]
theorem subS_ge {l1 l2 : List Int} (h : chk2 l1 l2 = 0) (hl : ¬ nv l1 < nv l2) : subS l1 l2 = (lim (nv l1 - nv l2), 0) := by unfold subS; rw [opS_ok h, if_neg hl]
theorem cmpN_neg {x y : Nat} : decide (cmpN x y < 0) = decide (x < y) := by
  rcases Nat.lt_trichotomy x y with h | h | h
  · rw [cmpN_lt h]; simp [h]
  · subst h; rw [cmpN_eq]; simp
  · rw [cmpN_gt h]; have : ¬ x < y := by omega
    simp [this]

theorem NewV.shape {w w' : World} {v : Value} {l : List Int} (h : NewV w w' v l) : ∃ a c, v = .slice a l.length c := by
  obtain ⟨o, h1, _⟩ := h
  rcases h1 with ⟨_, h0, a, ha, rfl⟩ | ⟨g, cap, _, rfl, _⟩
  · rw [h0]; exact ⟨_, _, rfl⟩
  · exact ⟨_, _, rfl⟩

set_option maxHeartbeats 1000000 in
theorem sub2_any (v1 v2 : Value) (l1 l2 : List Int) (w : World) (h1 : RdI .u32 w v1 l1) (h2 : RdI .u32 w v2 l2) (hl1 : Lim l1) (hl2 : Lim l2) :
    Calls Try.prog 19 #[v1, v2] w fun e w' => Res w w' e (subS l1 l2) ∧ Ext w w' := by
  have H1 := Lib.hid h1; have H2 := Lib.hid h2
  obtain ⟨a1, c1, rfl, hc1, hm1, hr1⟩ := rdU h1
  obtain ⟨a2, c2, rfl, hc2, hm2, hr2⟩ := rdU h2
  have HL1 := Lib.hid hl1; have HL2 := Lib.hid hl2
  clear h1 h2 hr1 hr2 hl1 hl2
  by_cases hc : chk2 l1 l2 = 0
  · have HC := Lib.hid hc
    obtain ⟨⟨g1, z1⟩, g2, z2⟩ := chk2_0 hc
    have Z1 := Lib.hid z1; have Z2 := Lib.hid z2
    clear hc z1 z2
    by_cases hlt : nv l1 < nv l2
    · have e1 := Lib.hid (subS_lt HC.out hlt)
      have hn : cmpN (nv l1) (nv l2) = -1 := cmpN_lt hlt
      have HN := Lib.hid hn
      clear hn hlt
      go_enter Try.func19, Try.ntmps19
      go_wp2_with fail
      refine (check2_any _ _ l1 l2 _ H1.out H2.out).mono ?_
      rintro e w1 ⟨rfl, hx1⟩
      rw [HC.out]
      have X1 := Lib.hid hx1; clear hx1
      go_wp2_with fail
      refine (order_any _ _ l1 l2 _ (H1.out.ext X1.out) (H2.out.ext X1.out) HL1.out HL2.out Z1.out Z2.out).mono ?_
      rintro e w2 ⟨rfl, hx2⟩
      rw [HN.out]
      have X2 := Lib.hid (X1.out.trans hx2); clear hx2
      go_wp2_with fail
      go_ret2
      exact ⟨Res.mk (NewV.nil _ _) e1.out, X2.out⟩
    · have e1 := Lib.hid (subS_ge HC.out hlt)
      have hn : decide (cmpN (nv l1) (nv l2) < 0) = false := by rw [cmpN_neg]; exact decide_eq_false hlt
      have hge := Lib.hid (show nv l2 ≤ nv l1 by omega)
      obtain ⟨c, hcc⟩ : ∃ c, c = cmpN (nv l1) (nv l2) := ⟨_, rfl⟩
      have hk := fun W h1 h2 => order_any (.slice a1 l1.length c1) (.slice a2 l2.length c2) l1 l2 W h1 h2 HL1.out HL2.out Z1.out Z2.out
      rw [← hcc] at hk hn
      have HK := Lib.hid hk
      clear hk hcc hlt
      go_enter Try.func19, Try.ntmps19
      go_wp2_with fail
      refine (check2_any _ _ l1 l2 _ H1.out H2.out).mono ?_
      rintro e w1 ⟨rfl, hx1⟩
      rw [HC.out]
      have X1 := Lib.hid hx1; clear hx1
      go_wp2_with fail
      refine (HK.out _ (H1.out.ext X1.out) (H2.out.ext X1.out)).mono ?_
      rintro e w2 ⟨rfl, hx2⟩
      have X2 := Lib.hid (X1.out.trans hx2); clear hx2
      go_wp2_with fail
      refine (clone_any _ l1 _ (H1.out.ext X2.out) (by omega)).mono ?_
      rintro e w3 ⟨⟨vc, rfl, hnew⟩, hx3⟩
      obtain ⟨ac, cc, rfl⟩ := hnew.shape
      obtain ⟨o, ho, hof⟩ := hnew
      have X3 := Lib.hid (X2.out.trans hx3); have HO := Lib.hid ho; have HF := Lib.hid hof
      have D2 := Lib.hid (((RdA.of (H2.out.ext X2.out)).ext hx3).mono (q := fun b => o ≠ some b) (fun b hb e => by have := hof b e; omega))
      clear hx3 ho hof
      go_wp2_with fail
      refine (subtract_any o _ _ l1 l2 w3 HO.out HL1.out D2.out HL2.out Z2.out hge.out).mono ?_
      rintro e w4 ⟨v', rfl, h4, hg4⟩
      have P4 := Lib.hid h4; have G4 := Lib.hid hg4; clear h4 hg4
      go_wp2_with fail
      go_ret2
      refine ⟨Res.mk ⟨o, P4.out, fun g hg => ?_⟩ e1.out, ?_⟩
      · have := HF.out g hg; have := X2.out.size; omega
      · exact ((Gr.of_ext (o := none) X3.out).fresh G4.out (fun g hg => by right; have := HF.out g hg; have := X2.out.size; omega)).ext
  · have e1 := Lib.hid (show subS l1 l2 = ([], chk2 l1 l2) from opS_err hc)
    have hc' : (chk2 l1 l2 != 0) = true := by simpa using hc
    obtain ⟨c, hcc⟩ : ∃ c, c = chk2 l1 l2 := ⟨_, rfl⟩
    have hk := fun W h1 h2 => check2_any (.slice a1 l1.length c1) (.slice a2 l2.length c2) l1 l2 W h1 h2
    rw [← hcc] at hk hc' e1
    have HK := Lib.hid hk
    clear hc hcc hk
    go_enter Try.func19, Try.ntmps19
    go_wp2_with fail
    refine (HK.out _ H1.out H2.out).mono ?_
    rintro e w1 ⟨rfl, hx1⟩
    have X1 := Lib.hid hx1; clear hx1
    go_wp2_with fail
    go_ret2
    exact ⟨Res.mk (NewV.nil _ _) e1.out, X1.out⟩

theorem cmp2_any (v1 v2 : Value) (l1 l2 : List Int) (w : World) (h1 : RdI .u32 w v1 l1) (h2 : RdI .u32 w v2 l2) (hl1 : Lim l1) (hl2 : Lim l2) :
    Calls Try.prog 18 #[v1, v2] w fun e w' => e = .returned (.tuple #[.int .i64 (cmpS l1 l2).1, .int .i64 (cmpS l1 l2).2]) ∧ Ext w w' := by
  have H1 := Lib.hid h1; have H2 := Lib.hid h2
  obtain ⟨a1, c1, rfl, hc1, hm1, hr1⟩ := rdU h1
  obtain ⟨a2, c2, rfl, hc2, hm2, hr2⟩ := rdU h2
  have HL1 := Lib.hid hl1; have HL2 := Lib.hid hl2
  clear h1 h2 hr1 hr2 hl1 hl2
  by_cases hc : chk2 l1 l2 = 0
  · have HC := Lib.hid hc
    obtain ⟨⟨g1, z1⟩, g2, z2⟩ := chk2_0 hc
    have Z1 := Lib.hid z1; have Z2 := Lib.hid z2
    have e1 := Lib.hid (show cmpS l1 l2 = (cmpN (nv l1) (nv l2), 0) by unfold cmpS; rw [if_pos hc])
    clear hc z1 z2
    go_enter Try.func18, Try.ntmps18
    go_wp2_with fail
    refine (check2_any _ _ l1 l2 _ H1.out H2.out).mono ?_
    rintro e w1 ⟨rfl, hx1⟩
    rw [HC.out]
    have X1 := Lib.hid hx1; clear hx1
    go_wp2_with fail
    refine (order_any _ _ l1 l2 _ (H1.out.ext X1.out) (H2.out.ext X1.out) HL1.out HL2.out Z1.out Z2.out).mono ?_
    rintro e w2 ⟨rfl, hx2⟩
    have X2 := Lib.hid (X1.out.trans hx2); clear hx2
    go_wp2_with fail
    go_ret2
    exact ⟨by rw [e1.out]; rfl, X2.out⟩
  · have e1 := Lib.hid (show cmpS l1 l2 = (0, chk2 l1 l2) by unfold cmpS; rw [if_neg hc])
    have hc' : (chk2 l1 l2 != 0) = true := by simpa using hc
    obtain ⟨c, hcc⟩ : ∃ c, c = chk2 l1 l2 := ⟨_, rfl⟩
    have hk := fun W h1 h2 => check2_any (.slice a1 l1.length c1) (.slice a2 l2.length c2) l1 l2 W h1 h2
    rw [← hcc] at hk hc' e1
    have HK := Lib.hid hk
    clear hc hcc hk
    go_enter Try.func18, Try.ntmps18
    go_wp2_with fail
    refine (HK.out _ H1.out H2.out).mono ?_
    rintro e w1 ⟨rfl, hx1⟩
    have X1 := Lib.hid hx1; clear hx1
    go_wp2_with fail
    go_ret2
    exact ⟨by rw [e1.out]; rfl, X1.out⟩

end Go.Proofs.Ytoicjiiifffciaa
