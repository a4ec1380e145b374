/- Walk of the law BigCommon: it returns true. Conditions: slices of limbs. (Written by mkcommon.py.) -/
import Derived.Test.YtoicjiiifffciaaLawDiv
namespace Go.Proofs.Ytoicjiiifffciaa
set_option linter.unusedSimpArgs false
set_option linter.unusedVariables false
open Go.RowKit

theorem same_one (v1 v2 : Value) (l : List Int) (w : World) (h1 : RdI .u32 w v1 l) (h2 : RdI .u32 w v2 l) :
    Calls Try.prog 13 #[v1, .int .i64 0, v2, .int .i64 0] w fun en w' => en = .returned (.bool true) ∧ Ext w w' := by
  have := same_any v1 v2 0 0 l l w h1 h2
  rwa [decide_eq_true (by exact ⟨rfl, rfl, rfl⟩)] at this
theorem gcdS_ok {l1 l2 : List Int} (h1 : l1.length ≤ 512) (z1 : NoZ l1) (h2 : l2.length ≤ 512) (z2 : NoZ l2) : gcdS l1 l2 = (lim (Nat.gcd (nv l1) (nv l2)), 0) := by
  unfold gcdS; rw [opS_ok (chk2_ok h1 z1 h2 z2)]

set_option maxRecDepth 100000 in
set_option maxHeartbeats 8000000 in
theorem common_any (v1 v2 v3 : Value) (l1 l2 l3 : List Int) (w : World) (h1 : RdI .u32 w v1 l1) (h2 : RdI .u32 w v2 l2) (h3 : RdI .u32 w v3 l3) (hl1 : Lim l1) (hl2 : Lim l2) (hl3 : Lim l3) :
    Calls Try.prog 3 #[v1, v2, v3] w fun en w' => en = .returned (.bool true) ∧ Ext w w' := by
  have H1 := Lib.hid h1; have H2 := Lib.hid h2; have H3 := Lib.hid h3
  obtain ⟨a1, c1, rfl, hc1, hm1, hr1⟩ := rdU h1
  obtain ⟨a2, c2, rfl, hc2, hm2, hr2⟩ := rdU h2
  obtain ⟨a3, c3, rfl, hc3, hm3, hr3⟩ := rdU h3
  have HL1 := Lib.hid hl1; have HL2 := Lib.hid hl2; have HL3 := Lib.hid hl3
  clear h1 h2 h3 hr1 hr2 hr3 hl1 hl2 hl3
  go_enter Try.func3, Try.ntmps3
  go_wp2_with fail
  refine (long3_any a1 a2 a3 l1.length l2.length l3.length c1 c2 c3 w).mono ?_
  rintro e w1 ⟨⟨r, rfl, hr⟩, hx1⟩
  have X1 := Lib.hid hx1
  clear hx1
  cases r
  · have hr := hr rfl
    have HR := Lib.hid hr
    clear hr
    go_wp2_with fail
    refine (awake_any _).mono ?_
    rintro e w2 ⟨rfl, hx2⟩
    have X2 := Lib.hid (X1.out.trans hx2)
    clear hx2
    go_wp2_with fail
    by_cases hc : chk2 l1 l2 = 0
    · obtain ⟨⟨g1, z1⟩, g2, z2⟩ := chk2_0 hc
      have hk1 : l1.length ≤ 20 := by have := HR.out.1; omega
      have hk2 : l2.length ≤ 20 := by have := HR.out.2.1; omega
      have hn1 := nv_max HL1.out g1
      have hn2 := nv_max HL2.out g2
      obtain ⟨G, hG⟩ : ∃ G, G = Nat.gcd (nv l1) (nv l2) := ⟨_, rfl⟩
      have s1 := gcdS_ok g1 z1 g2 z2
      have s2 := gcdS_ok g2 z2 g1 z1
      rw [Nat.gcd_comm, ← hG] at s2
      rw [← hG] at s1
      have S1 := Lib.hid s1; have S2 := Lib.hid s2
      have Z1 := Lib.hid z1; have Z2 := Lib.hid z2
      have GG := Lib.hid hG
      clear hc s1 s2 z1 z2 hG
      refine (gcd_any _ _ _ _ _ (H1.out.ext X2.out) (H2.out.ext X2.out) HL1.out HL2.out).mono ?_
      rw [S1.out]
      rintro e w3 ⟨⟨v7, rfl, n7⟩, hx⟩
      obtain ⟨a7, c7, rfl⟩ := n7.shape
      have R7 := Lib.hid n7.rd
      have X3 := Lib.hid (X2.out.trans hx)
      clear hx n7
      go_wp2_with fail
      refine (gcd_any _ _ _ _ _ (H2.out.ext X3.out) (H1.out.ext X3.out) HL2.out HL1.out).mono ?_
      rw [S2.out]
      rintro e w4 ⟨⟨v9, rfl, n9⟩, hx⟩
      have R7 := Lib.hid (R7.out.ext hx)
      have R9 := Lib.hid n9.rd
      have X4 := Lib.hid (X3.out.trans hx)
      clear hx n9
      go_wp2_with fail
      have hG := GG.out
      by_cases hG0 : G = 0
      · have hA0 : nv l1 = 0 := by have := Nat.gcd_eq_zero_iff.1 (hG.symm.trans hG0); exact this.1
        have hB0 : nv l2 = 0 := by have := Nat.gcd_eq_zero_iff.1 (hG.symm.trans hG0); exact this.2
        obtain rfl : l1 = [] := List.length_eq_zero_iff.1 ((nv_zero_iff HL1.out Z1.out).1 hA0)
        obtain rfl : l2 = [] := List.length_eq_zero_iff.1 ((nv_zero_iff HL2.out Z2.out).1 hB0)
        have hd0 : lim G = [] := by rw [hG0, lim_zero]
        rw [hd0] at R7 R9 ⊢
        clear hd0 hG hA0 hB0 hn1 hn2 S1 S2 hG0 hk1 hk2 g1 g2
        refine (same_one _ _ _ _ R7.out R9.out).mono ?_
        rintro e w5 ⟨rfl, hx⟩
        have X5 := Lib.hid (X4.out.trans hx)
        clear hx
        go_wp2_with fail
        go_ret
        exact ⟨rfl, X5.out⟩
      · have hd0 : (((lim G).length : Int) == 0) = false := by
          have : (lim G).length ≠ 0 := fun h => hG0 (by have := (nv_zero_iff (lim_lim G) (lim_noZ G)).2 h; rwa [nv_lim] at this)
          simp; intro h; rw [h] at this; simp at this
        have hGl : G ≤ nv l1 ∨ G ≤ nv l2 := by
          rcases Nat.eq_zero_or_pos (nv l1) with h | h
          · rcases Nat.eq_zero_or_pos (nv l2) with h' | h'
            · exact absurd (by rw [hG, h, h']; rfl) hG0
            · exact .inr (by rw [hG]; exact Nat.gcd_le_right _ h')
          · exact .inl (by rw [hG]; exact Nat.gcd_le_left _ h)
        have hGm : G < MAXN := by omega
        have qG := chkE_limB hGm
        have hm1 : nv l1 % G = 0 := Nat.mod_eq_zero_of_dvd (by rw [hG]; exact Nat.gcd_dvd_left _ _)
        have hm2 : nv l2 % G = 0 := Nat.mod_eq_zero_of_dvd (by rw [hG]; exact Nat.gcd_dvd_right _ _)
        have s3 := divS_ok g1 Z1.out qG.1 qG.2 (by rw [nv_lim]; exact hG0)
        rw [nv_lim, hm1, lim_zero] at s3
        have s4 := divS_ok g2 Z2.out qG.1 qG.2 (by rw [nv_lim]; exact hG0)
        rw [nv_lim, hm2, lim_zero] at s4
        have S3 := Lib.hid s3; have S4 := Lib.hid s4
        have t : chkE l3 = 0 → mulS l1 l3 = (lim (nv l1 * nv l3), 0) ∧ mulS l2 l3 = (lim (nv l2 * nv l3), 0) ∧ gcdS (lim (nv l1 * nv l3)) (lim (nv l2 * nv l3)) = (lim (G * nv l3), 0) ∧ mulS (lim G) l3 = (lim (G * nv l3), 0) := by
          intro h3
          obtain ⟨g3, z3⟩ := chkE_0 h3
          have hk3 : l3.length ≤ 20 := by have := HR.out.2.2; omega
          have e1 := small_max HL1.out HL3.out hk1 hk3
          have e2 := small_max HL2.out HL3.out hk2 hk3
          have e1' := pow_max e1 (by omega)
          have e2' := pow_max e2 (by omega)
          have e3' : G * nv l3 < MAXN := by
            rcases hGl with h | h
            · exact Nat.lt_of_le_of_lt (Nat.mul_le_mul_right _ h) e1'
            · exact Nat.lt_of_le_of_lt (Nat.mul_le_mul_right _ h) e2'
          have q1 := chkE_limB e1'
          have q2 := chkE_limB e2'
          have u3 := gcdS_ok q1.1 q1.2 q2.1 q2.2
          rw [nv_lim, nv_lim, Nat.gcd_mul_right, ← hG] at u3
          have u4 := mulS_ok qG.1 qG.2 g3 z3 (by rw [nv_lim]; exact e3')
          rw [nv_lim] at u4
          exact ⟨mulS_ok g1 Z1.out g3 z3 e1', mulS_ok g2 Z2.out g3 z3 e2', u3, u4⟩
        have te : ¬ chkE l3 = 0 → ∃ c : Int, c ≠ 0 ∧ mulS l1 l3 = ([], c) ∧ chkE l3 = c := by
          intro h3
          have e : chk2 l1 l3 = chkE l3 := by unfold chk2 orE; rw [if_pos (chkE_ok g1 Z1.out)]
          exact ⟨chkE l3, h3, by unfold mulS; rw [opS_err (by rw [e]; exact h3), e], rfl⟩
        have T := Lib.hid t; have TE := Lib.hid te
        have hb : nv l2 ≠ 0 → gcdS l2 (lim (nv l1 % nv l2)) = (lim G, 0) := by
          intro h
          have q := chkE_limB (n := nv l1 % nv l2) (by have := Nat.mod_lt (nv l1) (Nat.pos_of_ne_zero h); omega)
          rw [gcdS_ok g2 Z2.out q.1 q.2, nv_lim, hG, Nat.gcd_comm (nv l2), ← Nat.gcd_rec, Nat.gcd_comm]
        have HB := Lib.hid hb
        clear hGl hGm qG hm1 hm2 s3 s4 t te hG hb hn1 hn2 S1 S2 hG0
        refine (same_one _ _ _ _ R7.out R9.out).mono ?_
        rintro e w5 ⟨rfl, hx⟩
        have R7 := Lib.hid (R7.out.ext hx)
        have R9 := Lib.hid (R9.out.ext hx)
        have X5 := Lib.hid (X4.out.trans hx)
        clear hx
        go_wp2_with fail
        refine (divMod_any _ _ _ _ _ (H1.out.ext X5.out) R7.out HL1.out (lim_lim _)).mono ?_
        rw [S3.out]
        rintro e w6 ⟨⟨v11, v12, rfl, n11, n12⟩, hx⟩
        obtain ⟨a12, c12, rfl⟩ := n12.shape
        have R7 := Lib.hid (R7.out.ext hx)
        have X6 := Lib.hid (X5.out.trans hx)
        clear hx n11 n12
        go_wp2_with fail
        refine (divMod_any _ _ _ _ _ (H2.out.ext X6.out) R7.out HL2.out (lim_lim _)).mono ?_
        rw [S4.out]
        rintro e w7 ⟨⟨v14, v15, rfl, n14, n15⟩, hx⟩
        obtain ⟨a15, c15, rfl⟩ := n15.shape
        have R7 := Lib.hid (R7.out.ext hx)
        have X7 := Lib.hid (X6.out.trans hx)
        clear hx n14 n15
        by_cases hb0 : l2.length = 0
        · obtain rfl : l2 = [] := List.length_eq_zero_iff.1 hb0
          clear hb0
          go_wp2_with fail
          by_cases h3 : chkE l3 = 0
          · obtain ⟨u1, u2, u3, u4⟩ := T.out h3
            have U1 := Lib.hid u1; have U2 := Lib.hid u2; have U3 := Lib.hid u3; have U4 := Lib.hid u4
            clear u1 u2 u3 u4 h3
            refine (mul2_any _ _ _ _ _ (H1.out.ext X7.out) (H3.out.ext X7.out) HL1.out HL3.out).mono ?_
            rw [U1.out]
            rintro e w8 ⟨⟨v22, rfl, n22⟩, hx⟩
            have R7 := Lib.hid (R7.out.ext hx)
            have R22 := Lib.hid n22.rd
            have X8 := Lib.hid (X7.out.trans hx)
            clear hx n22
            go_wp2_with fail
            refine (mul2_any _ _ _ _ _ (H2.out.ext X8.out) (H3.out.ext X8.out) HL2.out HL3.out).mono ?_
            rw [U2.out]
            rintro e w9 ⟨⟨v24, rfl, n24⟩, hx⟩
            have R7 := Lib.hid (R7.out.ext hx)
            have R22 := Lib.hid (R22.out.ext hx)
            have R24 := Lib.hid n24.rd
            have X9 := Lib.hid (X8.out.trans hx)
            clear hx n24
            go_wp2_with fail
            refine (gcd_any _ _ _ _ _ R22.out R24.out (lim_lim _) (lim_lim _)).mono ?_
            rw [U3.out]
            rintro e w10 ⟨⟨v26, rfl, n26⟩, hx⟩
            have R7 := Lib.hid (R7.out.ext hx)
            have R22 := Lib.hid (R22.out.ext hx)
            have R24 := Lib.hid (R24.out.ext hx)
            have R26 := Lib.hid n26.rd
            have X10 := Lib.hid (X9.out.trans hx)
            clear hx n26
            go_wp2_with fail
            refine (mul2_any _ _ _ _ _ R7.out (H3.out.ext X10.out) (lim_lim _) HL3.out).mono ?_
            rw [U4.out]
            rintro e w11 ⟨⟨v28, rfl, n28⟩, hx⟩
            have R7 := Lib.hid (R7.out.ext hx)
            have R22 := Lib.hid (R22.out.ext hx)
            have R24 := Lib.hid (R24.out.ext hx)
            have R26 := Lib.hid (R26.out.ext hx)
            have R28 := Lib.hid n28.rd
            have X11 := Lib.hid (X10.out.trans hx)
            clear hx n28
            go_wp2_with fail
            refine (same_one _ _ _ _ R26.out R28.out).mono ?_
            rintro e w12 ⟨rfl, hx⟩
            have R7 := Lib.hid (R7.out.ext hx)
            have R22 := Lib.hid (R22.out.ext hx)
            have R24 := Lib.hid (R24.out.ext hx)
            have R26 := Lib.hid (R26.out.ext hx)
            have R28 := Lib.hid (R28.out.ext hx)
            have X12 := Lib.hid (X11.out.trans hx)
            clear hx
            go_wp2_with fail
            go_ret
            exact ⟨rfl, X12.out⟩
          · obtain ⟨c, hc0, u1, u2⟩ := TE.out h3
            have hcb : (c != 0) = true := by simpa using hc0
            have U1 := Lib.hid u1; have U2 := Lib.hid u2; clear u1 u2 hc0 h3
            refine (mul2_any _ _ _ _ _ (H1.out.ext X7.out) (H3.out.ext X7.out) HL1.out HL3.out).mono ?_
            rw [U1.out]
            rintro e w8 ⟨⟨v22, rfl, n22⟩, hx⟩
            have R7 := Lib.hid (R7.out.ext hx)
            have X8 := Lib.hid (X7.out.trans hx)
            clear hx n22
            go_wp2_with fail
            obtain ⟨c9, hc9⟩ : ∃ c9, c9 = (mulS ([] : List Int) l3).2 := ⟨_, rfl⟩
            have hm9 := mul2_any (.slice a2 ([] : List Int).length c2) (.slice a3 l3.length c3) ([] : List Int) l3 _ (H2.out.ext X8.out) (H3.out.ext X8.out) HL2.out HL3.out
            unfold Res at hm9
            rw [← hc9] at hm9
            refine (hm9).mono ?_
            rintro e w9 ⟨⟨v24, rfl, n24⟩, hx⟩
            have R7 := Lib.hid (R7.out.ext hx)
            have X9 := Lib.hid (X8.out.trans hx)
            clear hx n24 hm9 hc9
            go_wp2_with fail
            have hk9 := check1_any (.slice a3 l3.length c3) l3 _ (H3.out.ext X9.out)
            rw [U2.out] at hk9
            refine (hk9).mono ?_
            rintro e w10 ⟨rfl, hx⟩
            have R7 := Lib.hid (R7.out.ext hx)
            have X10 := Lib.hid (X9.out.trans hx)
            clear hx hk9
            go_wp2_with fail
            go_ret
            exact ⟨rfl, X10.out⟩
        · have q1 : (0 : Int) < (l2.length : Int) := by omega
          have h0 : nv l2 ≠ 0 := fun h => hb0 ((nv_zero_iff HL2.out Z2.out).1 h)
          have S5 := Lib.hid (divS_ok g1 Z1.out g2 Z2.out h0); have S6 := Lib.hid (HB.out h0)
          clear h0
          go_wp2_with fail
          refine (divMod_any _ _ _ _ _ (H1.out.ext X7.out) (H2.out.ext X7.out) HL1.out HL2.out).mono ?_
          rw [S5.out]
          rintro e w8 ⟨⟨v17, v18, rfl, n17, n18⟩, hx⟩
          have R7 := Lib.hid (R7.out.ext hx)
          have R18 := Lib.hid n18.rd
          have X8 := Lib.hid (X7.out.trans hx)
          clear hx n17 n18
          go_wp2_with fail
          refine (gcd_any _ _ _ _ _ (H2.out.ext X8.out) R18.out HL2.out (lim_lim _)).mono ?_
          rw [S6.out]
          rintro e w9 ⟨⟨v20, rfl, n20⟩, hx⟩
          have R7 := Lib.hid (R7.out.ext hx)
          have R18 := Lib.hid (R18.out.ext hx)
          have R20 := Lib.hid n20.rd
          have X9 := Lib.hid (X8.out.trans hx)
          clear hx n20
          go_wp2_with fail
          refine (same_one _ _ _ _ R20.out R7.out).mono ?_
          rintro e w10 ⟨rfl, hx⟩
          have R7 := Lib.hid (R7.out.ext hx)
          have R20 := Lib.hid (R20.out.ext hx)
          have X10 := Lib.hid (X9.out.trans hx)
          clear hx
          go_wp2_with fail
          by_cases h3 : chkE l3 = 0
          · obtain ⟨u1, u2, u3, u4⟩ := T.out h3
            have U1 := Lib.hid u1; have U2 := Lib.hid u2; have U3 := Lib.hid u3; have U4 := Lib.hid u4
            clear u1 u2 u3 u4 h3
            refine (mul2_any _ _ _ _ _ (H1.out.ext X10.out) (H3.out.ext X10.out) HL1.out HL3.out).mono ?_
            rw [U1.out]
            rintro e w11 ⟨⟨v22, rfl, n22⟩, hx⟩
            have R7 := Lib.hid (R7.out.ext hx)
            have R22 := Lib.hid n22.rd
            have X11 := Lib.hid (X10.out.trans hx)
            clear hx n22
            go_wp2_with fail
            refine (mul2_any _ _ _ _ _ (H2.out.ext X11.out) (H3.out.ext X11.out) HL2.out HL3.out).mono ?_
            rw [U2.out]
            rintro e w12 ⟨⟨v24, rfl, n24⟩, hx⟩
            have R7 := Lib.hid (R7.out.ext hx)
            have R22 := Lib.hid (R22.out.ext hx)
            have R24 := Lib.hid n24.rd
            have X12 := Lib.hid (X11.out.trans hx)
            clear hx n24
            go_wp2_with fail
            refine (gcd_any _ _ _ _ _ R22.out R24.out (lim_lim _) (lim_lim _)).mono ?_
            rw [U3.out]
            rintro e w13 ⟨⟨v26, rfl, n26⟩, hx⟩
            have R7 := Lib.hid (R7.out.ext hx)
            have R22 := Lib.hid (R22.out.ext hx)
            have R24 := Lib.hid (R24.out.ext hx)
            have R26 := Lib.hid n26.rd
            have X13 := Lib.hid (X12.out.trans hx)
            clear hx n26
            go_wp2_with fail
            refine (mul2_any _ _ _ _ _ R7.out (H3.out.ext X13.out) (lim_lim _) HL3.out).mono ?_
            rw [U4.out]
            rintro e w14 ⟨⟨v28, rfl, n28⟩, hx⟩
            have R7 := Lib.hid (R7.out.ext hx)
            have R22 := Lib.hid (R22.out.ext hx)
            have R24 := Lib.hid (R24.out.ext hx)
            have R26 := Lib.hid (R26.out.ext hx)
            have R28 := Lib.hid n28.rd
            have X14 := Lib.hid (X13.out.trans hx)
            clear hx n28
            go_wp2_with fail
            refine (same_one _ _ _ _ R26.out R28.out).mono ?_
            rintro e w15 ⟨rfl, hx⟩
            have R7 := Lib.hid (R7.out.ext hx)
            have R22 := Lib.hid (R22.out.ext hx)
            have R24 := Lib.hid (R24.out.ext hx)
            have R26 := Lib.hid (R26.out.ext hx)
            have R28 := Lib.hid (R28.out.ext hx)
            have X15 := Lib.hid (X14.out.trans hx)
            clear hx
            go_wp2_with fail
            go_ret
            exact ⟨rfl, X15.out⟩
          · obtain ⟨c, hc0, u1, u2⟩ := TE.out h3
            have hcb : (c != 0) = true := by simpa using hc0
            have U1 := Lib.hid u1; have U2 := Lib.hid u2; clear u1 u2 hc0 h3
            refine (mul2_any _ _ _ _ _ (H1.out.ext X10.out) (H3.out.ext X10.out) HL1.out HL3.out).mono ?_
            rw [U1.out]
            rintro e w11 ⟨⟨v22, rfl, n22⟩, hx⟩
            have R7 := Lib.hid (R7.out.ext hx)
            have X11 := Lib.hid (X10.out.trans hx)
            clear hx n22
            go_wp2_with fail
            obtain ⟨c9, hc9⟩ : ∃ c9, c9 = (mulS l2 l3).2 := ⟨_, rfl⟩
            have hm9 := mul2_any (.slice a2 l2.length c2) (.slice a3 l3.length c3) l2 l3 _ (H2.out.ext X11.out) (H3.out.ext X11.out) HL2.out HL3.out
            unfold Res at hm9
            rw [← hc9] at hm9
            refine (hm9).mono ?_
            rintro e w12 ⟨⟨v24, rfl, n24⟩, hx⟩
            have R7 := Lib.hid (R7.out.ext hx)
            have X12 := Lib.hid (X11.out.trans hx)
            clear hx n24 hm9 hc9
            go_wp2_with fail
            have hk9 := check1_any (.slice a3 l3.length c3) l3 _ (H3.out.ext X12.out)
            rw [U2.out] at hk9
            refine (hk9).mono ?_
            rintro e w13 ⟨rfl, hx⟩
            have R7 := Lib.hid (R7.out.ext hx)
            have X13 := Lib.hid (X12.out.trans hx)
            clear hx hk9
            go_wp2_with fail
            go_ret
            exact ⟨rfl, X13.out⟩
    · have hgc : gcdS l1 l2 = ([], chk2 l1 l2) := opS_err hc
      obtain ⟨c, hcc⟩ : ∃ c, c = chk2 l1 l2 := ⟨_, rfl⟩
      rw [← hcc] at hgc hc
      have hcb : (c != 0) = true := by simpa using hc
      have S1 := Lib.hid hgc
      clear hgc hcc hc
      refine (gcd_any _ _ _ _ _ (H1.out.ext X2.out) (H2.out.ext X2.out) HL1.out HL2.out).mono ?_
      rw [S1.out]
      rintro e w3 ⟨⟨v7, rfl, n7⟩, hx⟩
      obtain ⟨a7, c7, rfl⟩ := n7.shape
      have X3 := Lib.hid (X2.out.trans hx)
      clear hx n7
      go_wp2_with fail
      go_ret
      exact ⟨rfl, X3.out⟩
  · clear hr
    go_wp2_with fail
    refine (awake_any _).mono ?_
    rintro e w2 ⟨rfl, hx2⟩
    have X2 := Lib.hid (X1.out.trans hx2)
    clear hx2
    go_wp2_with fail
    go_ret
    exact ⟨rfl, X2.out⟩

end Go.Proofs.Ytoicjiiifffciaa
