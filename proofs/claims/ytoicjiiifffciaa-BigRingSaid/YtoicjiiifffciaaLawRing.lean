/- Walk of the law BigRing: it returns true. Conditions: slices of limbs. (Written by mkring.py.) -/
import Derived.Test.YtoicjiiifffciaaLawCom
namespace Go.Proofs.Ytoicjiiifffciaa
set_option linter.unusedSimpArgs false
set_option linter.unusedVariables false
open Go.RowKit

theorem ring_bounds (A B C P M : Nat) (hA : A < P) (hB : B < P) (hC : C < P) (hP : 4 ≤ P) (hM : P * P * P ≤ M) :
    A + B < M ∧ B + C < M ∧ A + B + C < M ∧ A * B < M ∧ B * C < M ∧ A * C < M ∧ A * B * C < M ∧ A * (B + C) < M := by
  have h1 := Nat.mul_lt_mul'' hA hB
  have h2 := Nat.mul_lt_mul'' hB hC
  have h3 := Nat.mul_lt_mul'' hA hC
  have h4 := Nat.mul_lt_mul'' h1 hC
  have h5 : P * 4 ≤ P * P := Nat.mul_le_mul_left P hP
  have h6 : P * P * 4 ≤ P * P * P := Nat.mul_le_mul_left (P * P) hP
  rw [Nat.mul_add]
  omega

theorem p20 : ∃ P : Nat, P = 4294967296 ^ 20 ∧ 4 ≤ P ∧ P * P * P ≤ MAXN := by
  refine ⟨_, rfl, ?_, ?_⟩
  · exact Nat.le_trans (show 4 ≤ 4294967296 ^ 1 by decide) (pow_le (by omega))
  · rw [← Nat.pow_add, ← Nat.pow_add]; unfold MAXN; exact pow_le (by decide)

set_option maxRecDepth 100000 in
set_option maxHeartbeats 2500000 in
theorem ring_any (v1 v2 v3 : Value) (l1 l2 l3 : List Int) (w : World) (h1 : RdI .u32 w v1 l1) (h2 : RdI .u32 w v2 l2) (h3 : RdI .u32 w v3 l3) (hl1 : Lim l1) (hl2 : Lim l2) (hl3 : Lim l3) :
    Calls Try.prog 5 #[v1, v2, v3] w fun en w' => en = .returned (.bool true) ∧ Ext w w' := by
  have H1 := Lib.hid h1; have H2 := Lib.hid h2; have H3 := Lib.hid h3
  obtain ⟨a1, c1, rfl, hc1, hm1, hr1⟩ := rdU h1
  obtain ⟨a2, c2, rfl, hc2, hm2, hr2⟩ := rdU h2
  obtain ⟨a3, c3, rfl, hc3, hm3, hr3⟩ := rdU h3
  have HL1 := Lib.hid hl1; have HL2 := Lib.hid hl2; have HL3 := Lib.hid hl3
  clear h1 h2 h3 hr1 hr2 hr3 hl1 hl2 hl3
  go_enter Try.func5, Try.ntmps5
  go_wp2_with fail
  refine (long3_any a1 a2 a3 l1.length l2.length l3.length c1 c2 c3 w).mono ?_
  rintro e w1 ⟨⟨r, rfl, hr⟩, hx1⟩
  have X1 := Lib.hid hx1
  clear hx1
  cases r
  · have hr := hr rfl
    have HR := Lib.hid hr
    clear hr
    go_wp2_with fail
    refine (awake_any _).mono ?_
    rintro e w2 ⟨rfl, hx2⟩
    have X2 := Lib.hid (X1.out.trans hx2)
    clear hx2
    go_wp2_with fail
    by_cases k1 : chkE l1 = 0
    · have K1 := Lib.hid k1
      clear k1
      refine (check1_any _ l1 _ (H1.out.ext X2.out)).mono ?_
      rw [K1.out]
      rintro e w3 ⟨rfl, hx⟩
      have X3 := Lib.hid (X2.out.trans hx)
      clear hx
      go_wp2_with fail
      by_cases k2 : chkE l2 = 0
      · have K2 := Lib.hid k2
        clear k2
        refine (check1_any _ l2 _ (H2.out.ext X3.out)).mono ?_
        rw [K2.out]
        rintro e w4 ⟨rfl, hx⟩
        have X4 := Lib.hid (X3.out.trans hx)
        clear hx
        go_wp2_with fail
        by_cases k3 : chkE l3 = 0
        · have K3 := Lib.hid k3
          clear k3
          refine (check1_any _ l3 _ (H3.out.ext X4.out)).mono ?_
          rw [K3.out]
          rintro e w5 ⟨rfl, hx⟩
          have X5 := Lib.hid (X4.out.trans hx)
          clear hx
          go_wp2_with fail
          obtain ⟨g1, z1⟩ := chkE_0 K1.out
          obtain ⟨g2, z2⟩ := chkE_0 K2.out
          obtain ⟨g3, z3⟩ := chkE_0 K3.out
          obtain ⟨P, hP, hP4, hPM⟩ := p20
          have b1 : nv l1 < P := by rw [hP]; exact Nat.lt_of_lt_of_le (nv_lt HL1.out) (pow_le (by have := HR.out.1; omega))
          have b2 : nv l2 < P := by rw [hP]; exact Nat.lt_of_lt_of_le (nv_lt HL2.out) (pow_le (by have := HR.out.2.1; omega))
          have b3 : nv l3 < P := by rw [hP]; exact Nat.lt_of_lt_of_le (nv_lt HL3.out) (pow_le (by have := HR.out.2.2; omega))
          obtain ⟨m1, m2, m3, m4, m5, m6, m7, m8⟩ := ring_bounds _ _ _ P MAXN b1 b2 b3 hP4 hPM
          clear hP hP4 hPM b1 b2 b3
          have q1 := chkE_limB m1; have q2 := chkE_limB m2; have q4 := chkE_limB m4; have q5 := chkE_limB m5; have q6 := chkE_limB m6
          have S1 := Lib.hid (addS_ok g1 z1 g2 z2 m1)
          have S2 : Hid (addS l2 l1 = (lim (nv l1 + nv l2), 0)) := Lib.hid (by rw [addS_ok g2 z2 g1 z1 (by rw [Nat.add_comm]; exact m1), Nat.add_comm])
          have S4 := Lib.hid (addS_ok g2 z2 g3 z3 m2)
          have S5 : Hid (addS (lim (nv l1 + nv l2)) l3 = (lim (nv l1 + nv l2 + nv l3), 0)) := Lib.hid (by rw [addS_ok q1.1 q1.2 g3 z3 (by rw [nv_lim]; exact m3), nv_lim])
          have S6 : Hid (addS l1 (lim (nv l2 + nv l3)) = (lim (nv l1 + nv l2 + nv l3), 0)) := Lib.hid (by rw [addS_ok g1 z1 q2.1 q2.2 (by rw [nv_lim, ← Nat.add_assoc]; exact m3), nv_lim, ← Nat.add_assoc])
          have S8 : Hid (subS (lim (nv l1 + nv l2)) l2 = (l1, 0)) := Lib.hid (by rw [subS_ok q1.1 q1.2 g2 z2 (by rw [nv_lim]; exact Nat.le_add_left _ _), nv_lim, Nat.add_sub_cancel, lim_nv HL1.out z1])
          have S10 := Lib.hid (mulS_ok g1 z1 g2 z2 m4)
          have S11 : Hid (mulS l2 l1 = (lim (nv l1 * nv l2), 0)) := Lib.hid (by rw [mulS_ok g2 z2 g1 z1 (by rw [Nat.mul_comm]; exact m4), Nat.mul_comm])
          have S13 := Lib.hid (mulS_ok g2 z2 g3 z3 m5)
          have S14 : Hid (mulS (lim (nv l1 * nv l2)) l3 = (lim (nv l1 * nv l2 * nv l3), 0)) := Lib.hid (by rw [mulS_ok q4.1 q4.2 g3 z3 (by rw [nv_lim]; exact m7), nv_lim])
          have S15 : Hid (mulS l1 (lim (nv l2 * nv l3)) = (lim (nv l1 * nv l2 * nv l3), 0)) := Lib.hid (by rw [mulS_ok g1 z1 q5.1 q5.2 (by rw [nv_lim, ← Nat.mul_assoc]; exact m7), nv_lim, ← Nat.mul_assoc])
          have S17 := Lib.hid (mulS_ok g1 z1 g3 z3 m6)
          have S18 : Hid (mulS l1 (lim (nv l2 + nv l3)) = (lim (nv l1 * (nv l2 + nv l3)), 0)) := Lib.hid (by rw [mulS_ok g1 z1 q2.1 q2.2 (by rw [nv_lim]; exact m8), nv_lim])
          have S19 : Hid (addS (lim (nv l1 * nv l2)) (lim (nv l1 * nv l3)) = (lim (nv l1 * (nv l2 + nv l3)), 0)) := Lib.hid (by rw [addS_ok q4.1 q4.2 q6.1 q6.2 (by rw [nv_lim, nv_lim, ← Nat.mul_add]; exact m8), nv_lim, nv_lim, ← Nat.mul_add])
          clear m1 m2 m3 m4 m5 m6 m7 m8 q1 q2 q4 q5 q6 g1 g2 g3 z1 z2 z3
          refine (add2_any _ _ _ _ _ (H1.out.ext X5.out) (H2.out.ext X5.out) HL1.out HL2.out).mono ?_
          rw [S1.out]
          rintro e w6 ⟨⟨v7, rfl, n7⟩, hx⟩
          have R7 := Lib.hid n7.rd
          have X6 := Lib.hid (X5.out.trans hx)
          clear hx n7
          go_wp2_with fail
          refine (add2_any _ _ _ _ _ (H2.out.ext X6.out) (H1.out.ext X6.out) HL2.out HL1.out).mono ?_
          rw [S2.out]
          rintro e w7 ⟨⟨v9, rfl, n9⟩, hx⟩
          have R7 := Lib.hid (R7.out.ext hx)
          have R9 := Lib.hid n9.rd
          have X7 := Lib.hid (X6.out.trans hx)
          clear hx n9
          go_wp2_with fail
          refine (same_one _ _ _ _ R7.out R9.out).mono ?_
          rintro e w8 ⟨rfl, hx⟩
          have R7 := Lib.hid (R7.out.ext hx)
          have X8 := Lib.hid (X7.out.trans hx)
          clear hx
          go_wp2_with fail
          refine (add2_any _ _ _ _ _ (H2.out.ext X8.out) (H3.out.ext X8.out) HL2.out HL3.out).mono ?_
          rw [S4.out]
          rintro e w9 ⟨⟨v11, rfl, n11⟩, hx⟩
          have R7 := Lib.hid (R7.out.ext hx)
          have R11 := Lib.hid n11.rd
          have X9 := Lib.hid (X8.out.trans hx)
          clear hx n11
          go_wp2_with fail
          refine (add2_any _ _ _ _ _ R7.out (H3.out.ext X9.out) (lim_lim _) HL3.out).mono ?_
          rw [S5.out]
          rintro e w10 ⟨⟨v12, rfl, n12⟩, hx⟩
          have R7 := Lib.hid (R7.out.ext hx)
          have R11 := Lib.hid (R11.out.ext hx)
          have R12 := Lib.hid n12.rd
          have X10 := Lib.hid (X9.out.trans hx)
          clear hx n12
          go_wp2_with fail
          refine (add2_any _ _ _ _ _ (H1.out.ext X10.out) R11.out HL1.out (lim_lim _)).mono ?_
          rw [S6.out]
          rintro e w11 ⟨⟨v13, rfl, n13⟩, hx⟩
          have R7 := Lib.hid (R7.out.ext hx)
          have R11 := Lib.hid (R11.out.ext hx)
          have R12 := Lib.hid (R12.out.ext hx)
          have R13 := Lib.hid n13.rd
          have X11 := Lib.hid (X10.out.trans hx)
          clear hx n13
          go_wp2_with fail
          refine (same_one _ _ _ _ R12.out R13.out).mono ?_
          rintro e w12 ⟨rfl, hx⟩
          have R7 := Lib.hid (R7.out.ext hx)
          have R11 := Lib.hid (R11.out.ext hx)
          have X12 := Lib.hid (X11.out.trans hx)
          clear hx
          go_wp2_with fail
          refine (sub2_any _ _ _ _ _ R7.out (H2.out.ext X12.out) (lim_lim _) HL2.out).mono ?_
          rw [S8.out]
          rintro e w13 ⟨⟨v15, rfl, n15⟩, hx⟩
          have R11 := Lib.hid (R11.out.ext hx)
          have R15 := Lib.hid n15.rd
          have X13 := Lib.hid (X12.out.trans hx)
          clear hx n15
          go_wp2_with fail
          refine (same_one _ _ _ _ R15.out (H1.out.ext X13.out)).mono ?_
          rintro e w14 ⟨rfl, hx⟩
          have R11 := Lib.hid (R11.out.ext hx)
          have X14 := Lib.hid (X13.out.trans hx)
          clear hx
          go_wp2_with fail
          refine (mul2_any _ _ _ _ _ (H1.out.ext X14.out) (H2.out.ext X14.out) HL1.out HL2.out).mono ?_
          rw [S10.out]
          rintro e w15 ⟨⟨v16, rfl, n16⟩, hx⟩
          have R11 := Lib.hid (R11.out.ext hx)
          have R16 := Lib.hid n16.rd
          have X15 := Lib.hid (X14.out.trans hx)
          clear hx n16
          go_wp2_with fail
          refine (mul2_any _ _ _ _ _ (H2.out.ext X15.out) (H1.out.ext X15.out) HL2.out HL1.out).mono ?_
          rw [S11.out]
          rintro e w16 ⟨⟨v17, rfl, n17⟩, hx⟩
          have R11 := Lib.hid (R11.out.ext hx)
          have R16 := Lib.hid (R16.out.ext hx)
          have R17 := Lib.hid n17.rd
          have X16 := Lib.hid (X15.out.trans hx)
          clear hx n17
          go_wp2_with fail
          refine (same_one _ _ _ _ R16.out R17.out).mono ?_
          rintro e w17 ⟨rfl, hx⟩
          have R11 := Lib.hid (R11.out.ext hx)
          have R16 := Lib.hid (R16.out.ext hx)
          have X17 := Lib.hid (X16.out.trans hx)
          clear hx
          go_wp2_with fail
          refine (mul2_any _ _ _ _ _ (H2.out.ext X17.out) (H3.out.ext X17.out) HL2.out HL3.out).mono ?_
          rw [S13.out]
          rintro e w18 ⟨⟨v18, rfl, n18⟩, hx⟩
          have R11 := Lib.hid (R11.out.ext hx)
          have R16 := Lib.hid (R16.out.ext hx)
          have R18 := Lib.hid n18.rd
          have X18 := Lib.hid (X17.out.trans hx)
          clear hx n18
          go_wp2_with fail
          refine (mul2_any _ _ _ _ _ R16.out (H3.out.ext X18.out) (lim_lim _) HL3.out).mono ?_
          rw [S14.out]
          rintro e w19 ⟨⟨v19, rfl, n19⟩, hx⟩
          have R11 := Lib.hid (R11.out.ext hx)
          have R16 := Lib.hid (R16.out.ext hx)
          have R18 := Lib.hid (R18.out.ext hx)
          have R19 := Lib.hid n19.rd
          have X19 := Lib.hid (X18.out.trans hx)
          clear hx n19
          go_wp2_with fail
          refine (mul2_any _ _ _ _ _ (H1.out.ext X19.out) R18.out HL1.out (lim_lim _)).mono ?_
          rw [S15.out]
          rintro e w20 ⟨⟨v20, rfl, n20⟩, hx⟩
          have R11 := Lib.hid (R11.out.ext hx)
          have R16 := Lib.hid (R16.out.ext hx)
          have R19 := Lib.hid (R19.out.ext hx)
          have R20 := Lib.hid n20.rd
          have X20 := Lib.hid (X19.out.trans hx)
          clear hx n20
          go_wp2_with fail
          refine (same_one _ _ _ _ R19.out R20.out).mono ?_
          rintro e w21 ⟨rfl, hx⟩
          have R11 := Lib.hid (R11.out.ext hx)
          have R16 := Lib.hid (R16.out.ext hx)
          have X21 := Lib.hid (X20.out.trans hx)
          clear hx
          go_wp2_with fail
          refine (mul2_any _ _ _ _ _ (H1.out.ext X21.out) (H3.out.ext X21.out) HL1.out HL3.out).mono ?_
          rw [S17.out]
          rintro e w22 ⟨⟨v21, rfl, n21⟩, hx⟩
          have R11 := Lib.hid (R11.out.ext hx)
          have R16 := Lib.hid (R16.out.ext hx)
          have R21 := Lib.hid n21.rd
          have X22 := Lib.hid (X21.out.trans hx)
          clear hx n21
          go_wp2_with fail
          refine (mul2_any _ _ _ _ _ (H1.out.ext X22.out) R11.out HL1.out (lim_lim _)).mono ?_
          rw [S18.out]
          rintro e w23 ⟨⟨v22, rfl, n22⟩, hx⟩
          have R16 := Lib.hid (R16.out.ext hx)
          have R21 := Lib.hid (R21.out.ext hx)
          have R22 := Lib.hid n22.rd
          have X23 := Lib.hid (X22.out.trans hx)
          clear hx n22
          go_wp2_with fail
          refine (add2_any _ _ _ _ _ R16.out R21.out (lim_lim _) (lim_lim _)).mono ?_
          rw [S19.out]
          rintro e w24 ⟨⟨v23, rfl, n23⟩, hx⟩
          have R22 := Lib.hid (R22.out.ext hx)
          have R23 := Lib.hid n23.rd
          have X24 := Lib.hid (X23.out.trans hx)
          clear hx n23
          go_wp2_with fail
          refine (same_one _ _ _ _ R22.out R23.out).mono ?_
          rintro e w25 ⟨rfl, hx⟩
          have X25 := Lib.hid (X24.out.trans hx)
          clear hx
          go_wp2_with fail
          go_ret
          exact ⟨rfl, X25.out⟩
        · obtain ⟨c, hcc⟩ : ∃ c, c = chkE l3 := ⟨_, rfl⟩
          have hk := check1_any (.slice a3 l3.length c3) l3 _ (H3.out.ext X4.out)
          rw [← hcc] at hk k3
          have hcb : (c != 0) = true := by simpa using k3
          refine hk.mono ?_
          clear hk hcc k3
          rintro e w5 ⟨rfl, hx⟩
          have X5 := Lib.hid (X4.out.trans hx)
          clear hx
          go_wp2_with fail
          refine (awake_any _).mono ?_
          rintro e w6 ⟨rfl, hx⟩
          have X6 := Lib.hid (X5.out.trans hx)
          clear hx
          go_wp2_with fail
          go_ret
          exact ⟨rfl, X6.out⟩
      · obtain ⟨c, hcc⟩ : ∃ c, c = chkE l2 := ⟨_, rfl⟩
        have hk := check1_any (.slice a2 l2.length c2) l2 _ (H2.out.ext X3.out)
        rw [← hcc] at hk k2
        have hcb : (c != 0) = true := by simpa using k2
        refine hk.mono ?_
        clear hk hcc k2
        rintro e w4 ⟨rfl, hx⟩
        have X4 := Lib.hid (X3.out.trans hx)
        clear hx
        go_wp2_with fail
        refine (awake_any _).mono ?_
        rintro e w5 ⟨rfl, hx⟩
        have X5 := Lib.hid (X4.out.trans hx)
        clear hx
        go_wp2_with fail
        go_ret
        exact ⟨rfl, X5.out⟩
    · obtain ⟨c, hcc⟩ : ∃ c, c = chkE l1 := ⟨_, rfl⟩
      have hk := check1_any (.slice a1 l1.length c1) l1 _ (H1.out.ext X2.out)
      rw [← hcc] at hk k1
      have hcb : (c != 0) = true := by simpa using k1
      refine hk.mono ?_
      clear hk hcc k1
      rintro e w3 ⟨rfl, hx⟩
      have X3 := Lib.hid (X2.out.trans hx)
      clear hx
      go_wp2_with fail
      refine (awake_any _).mono ?_
      rintro e w4 ⟨rfl, hx⟩
      have X4 := Lib.hid (X3.out.trans hx)
      clear hx
      go_wp2_with fail
      go_ret
      exact ⟨rfl, X4.out⟩
  · clear hr
    go_wp2_with fail
    refine (awake_any _).mono ?_
    rintro e w2 ⟨rfl, hx2⟩
    have X2 := Lib.hid (X1.out.trans hx2)
    clear hx2
    go_wp2_with fail
    go_ret
    exact ⟨rfl, X2.out⟩

end Go.Proofs.Ytoicjiiifffciaa
