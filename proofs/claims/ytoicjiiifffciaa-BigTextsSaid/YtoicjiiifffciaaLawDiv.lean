/- Walk of the law BigDivides: it returns true. Conditions: slices of limbs. -/
import Derived.Test.YtoicjiiifffciaaBigRow
namespace Go.Proofs.Ytoicjiiifffciaa
set_option linter.unusedSimpArgs false
set_option linter.unusedVariables false
open Go.RowKit

theorem chkE_limB {n : Nat} (h : n < MAXN) : (lim n).length ≤ 512 ∧ NoZ (lim n) := ⟨len_max.2 h, lim_noZ n⟩
theorem mulS_ok {l1 l2 : List Int} (h1 : l1.length ≤ 512) (z1 : NoZ l1) (h2 : l2.length ≤ 512) (z2 : NoZ l2) (hm : nv l1 * nv l2 < MAXN) : mulS l1 l2 = (lim (nv l1 * nv l2), 0) := by
  unfold mulS; rw [opS_ok (chk2_ok h1 z1 h2 z2), fitL_ok hm]
theorem addS_ok {l1 l2 : List Int} (h1 : l1.length ≤ 512) (z1 : NoZ l1) (h2 : l2.length ≤ 512) (z2 : NoZ l2) (hm : nv l1 + nv l2 < MAXN) : addS l1 l2 = (lim (nv l1 + nv l2), 0) := by
  unfold addS; rw [opS_ok (chk2_ok h1 z1 h2 z2), fitL_ok hm]
theorem cmpS_ok {l1 l2 : List Int} (h1 : l1.length ≤ 512) (z1 : NoZ l1) (h2 : l2.length ≤ 512) (z2 : NoZ l2) : cmpS l1 l2 = (cmpN (nv l1) (nv l2), 0) := by
  unfold cmpS; rw [if_pos (chk2_ok h1 z1 h2 z2)]
theorem divS_ok {l1 l2 : List Int} (h1 : l1.length ≤ 512) (z1 : NoZ l1) (h2 : l2.length ≤ 512) (z2 : NoZ l2) (h0 : nv l2 ≠ 0) : divS l1 l2 = (lim (nv l1 / nv l2), lim (nv l1 % nv l2), 0) := by
  unfold divS; rw [if_pos (chk2_ok h1 z1 h2 z2), if_neg h0]
theorem subS_ok {l1 l2 : List Int} (h1 : l1.length ≤ 512) (z1 : NoZ l1) (h2 : l2.length ≤ 512) (z2 : NoZ l2) (h0 : nv l2 ≤ nv l1) : subS l1 l2 = (lim (nv l1 - nv l2), 0) := by
  unfold subS; rw [opS_ok (chk2_ok h1 z1 h2 z2), if_neg (by omega)]
theorem divS_err {l1 l2 : List Int} (h : ¬ (chk2 l1 l2 = 0 ∧ nv l2 ≠ 0)) : ∃ c, c ≠ 0 ∧ divS l1 l2 = ([], [], c) := by
  unfold divS
  by_cases h1 : chk2 l1 l2 = 0
  · rw [if_pos h1, if_pos (Classical.byContradiction fun h2 => h ⟨h1, h2⟩)]; exact ⟨14, by decide, rfl⟩
  · rw [if_neg h1]; exact ⟨_, h1, rfl⟩
theorem small_max {l1 l2 : List Int} (hl1 : Lim l1) (hl2 : Lim l2) (h1 : l1.length ≤ 20) (h2 : l2.length ≤ 20) : nv l1 * nv l2 < 4294967296 ^ 40 := by
  have e1 : nv l1 < 4294967296 ^ 20 := Nat.lt_of_lt_of_le (nv_lt hl1) (pow_le h1)
  have e2 : nv l2 < 4294967296 ^ 20 := Nat.lt_of_lt_of_le (nv_lt hl2) (pow_le h2)
  rw [show 40 = 20 + 20 from rfl, Nat.pow_add]
  exact Nat.mul_lt_mul'' e1 e2
theorem pow_max {n k : Nat} (h : n < 4294967296 ^ k) (hk : k ≤ 512) : n < MAXN := by unfold MAXN; exact Nat.lt_of_lt_of_le h (pow_le hk)

set_option maxRecDepth 100000 in
set_option maxHeartbeats 4000000 in
theorem divides_any (v1 v2 : Value) (l1 l2 : List Int) (w : World) (h1 : RdI .u32 w v1 l1) (h2 : RdI .u32 w v2 l2) (hl1 : Lim l1) (hl2 : Lim l2) :
    Calls Try.prog 4 #[v1, v2] w fun en w' => en = .returned (.bool true) ∧ Ext w w' := by
  have H1 := Lib.hid h1; have H2 := Lib.hid h2
  obtain ⟨a1, c1, rfl, hc1, hm1, hr1⟩ := rdU h1
  obtain ⟨a2, c2, rfl, hc2, hm2, hr2⟩ := rdU h2
  have HL1 := Lib.hid hl1; have HL2 := Lib.hid hl2
  clear h1 h2 hr1 hr2 hl1 hl2
  go_enter Try.func4, Try.ntmps4
  go_wp2_with fail
  refine (long2_any a1 a2 l1.length l2.length c1 c2 w).mono ?_
  rintro e w1 ⟨⟨r, rfl, hr⟩, hx1⟩
  have X1 := Lib.hid hx1
  clear hx1
  cases r
  · have hr := hr rfl
    have HR := Lib.hid hr
    clear hr
    go_wp2_with fail
    refine (awake_any _).mono ?_
    rintro e w2 ⟨rfl, hx2⟩
    have X2 := Lib.hid (X1.out.trans hx2)
    clear hx2
    go_wp2_with fail
    have hcall := divMod_any _ _ l1 l2 _ (H1.out.ext X2.out) (H2.out.ext X2.out) HL1.out HL2.out
    by_cases hok : chk2 l1 l2 = 0 ∧ nv l2 ≠ 0
    · obtain ⟨hc, h0⟩ := hok
      obtain ⟨⟨g1, z1⟩, g2, z2⟩ := chk2_0 hc
      have hk1 : l1.length ≤ 20 := by have := HR.out.1; omega
      have hk2 : l2.length ≤ 20 := by have := HR.out.2; omega
      have hmul := pow_max (small_max HL1.out HL2.out hk1 hk2) (by omega)
      have hn1 := nv_max HL1.out g1
      have hn2 := nv_max HL2.out g2
      have hq : nv l1 / nv l2 ≤ nv l1 := Nat.div_le_self _ _
      have hrm : nv l1 % nv l2 < nv l2 := Nat.mod_lt _ (by omega)
      have hqr : nv l1 / nv l2 * nv l2 + nv l1 % nv l2 = nv l1 := by rw [Nat.mul_comm]; exact Nat.div_add_mod _ _
      have s1 := divS_ok g1 z1 g2 z2 h0
      have q1 := chkE_limB (n := nv l1 / nv l2) (by omega)
      have q2 := chkE_limB (n := nv l1 % nv l2) (by omega)
      have s2 := mulS_ok q1.1 q1.2 g2 z2 (by rw [nv_lim]; omega)
      rw [nv_lim] at s2
      have q3 := chkE_limB (n := nv l1 / nv l2 * nv l2) (by omega)
      have s3 := addS_ok q3.1 q3.2 q2.1 q2.2 (by rw [nv_lim, nv_lim, hqr]; exact hn1)
      rw [nv_lim, nv_lim, hqr, lim_nv HL1.out z1] at s3
      have s4 := cmpS_ok q2.1 q2.2 g2 z2
      rw [nv_lim, cmpN_lt hrm] at s4
      have s5 := mulS_ok g1 z1 g2 z2 hmul
      have q4 := chkE_limB (n := nv l1 * nv l2) hmul
      have s6 := divS_ok q4.1 q4.2 g2 z2 h0
      rw [nv_lim, Nat.mul_div_cancel _ (Nat.pos_of_ne_zero h0), Nat.mul_mod_left, lim_nv HL1.out z1] at s6
      have s7 : lim 0 = [] := lim_eq (l := []) rfl (fun x h => by cases h) (by unfold NoZ; decide)
      rw [s7] at s6
      rw [s1] at hcall
      have S2 := Lib.hid s2; have S3 := Lib.hid s3; have S4 := Lib.hid s4; have S5 := Lib.hid s5; have S6 := Lib.hid s6
      clear hc h0 g1 z1 g2 z2 hk1 hk2 hmul hn1 hn2 hq hrm hqr s1 q1 q2 s2 q3 s3 s4 s5 q4 s6 s7
      refine hcall.mono ?_
      clear hcall
      rintro e w3 ⟨⟨vq, vr, rfl, nq, nr⟩, hx3⟩
      have hX3 := X2.out.trans hx3
      have Q := Lib.hid nq.rd; have R := Lib.hid nr.rd; have X3 := Lib.hid hX3
      clear nq nr hx3 hX3
      go_wp2_with fail
      refine (mul2_any _ _ _ _ _ Q.out (H2.out.ext X3.out) (lim_lim _) HL2.out).mono ?_
      rw [S2.out]
      rintro e w4 ⟨⟨vp, rfl, np⟩, hx4⟩
      have P := Lib.hid np.rd; have R := Lib.hid (R.out.ext hx4); have X4 := Lib.hid (X3.out.trans hx4)
      clear np hx4
      go_wp2_with fail
      refine (add2_any _ _ _ _ _ P.out R.out (lim_lim _) (lim_lim _)).mono ?_
      rw [S3.out]
      rintro e w5 ⟨⟨vs, rfl, ns⟩, hx5⟩
      have S := Lib.hid ns.rd; have R := Lib.hid (R.out.ext hx5); have X5 := Lib.hid (X4.out.trans hx5)
      clear ns hx5
      go_wp2_with fail
      refine (cmp2_any _ _ _ _ _ R.out (H2.out.ext X5.out) (lim_lim _) HL2.out).mono ?_
      rw [S4.out]
      rintro e w6 ⟨rfl, hx6⟩
      have S := Lib.hid (S.out.ext hx6); have X6 := Lib.hid (X5.out.trans hx6)
      clear hx6
      go_wp2_with fail
      refine (mul2_any _ _ _ _ _ (H1.out.ext X6.out) (H2.out.ext X6.out) HL1.out HL2.out).mono ?_
      rw [S5.out]
      rintro e w7 ⟨⟨vm, rfl, nm⟩, hx7⟩
      have M := Lib.hid nm.rd; have S := Lib.hid (S.out.ext hx7); have X7 := Lib.hid (X6.out.trans hx7)
      clear nm hx7
      go_wp2_with fail
      refine (divMod_any _ _ _ _ _ M.out (H2.out.ext X7.out) (lim_lim _) HL2.out).mono ?_
      rw [S6.out]
      rintro e w8 ⟨⟨vx, vy, rfl, nx, ny⟩, hx8⟩
      obtain ⟨ay, cy, rfl⟩ := ny.shape
      have XX := Lib.hid nx.rd; have S := Lib.hid (S.out.ext hx8); have X8 := Lib.hid (X7.out.trans hx8)
      clear nx ny hx8
      go_wp2_with fail
      have hs1 := same_any vs (.slice a1 l1.length c1) 0 0 l1 l1 w8 S.out (H1.out.ext X8.out)
      rw [decide_eq_true (by exact ⟨rfl, rfl, rfl⟩)] at hs1
      refine hs1.mono ?_
      clear hs1
      rintro e w9 ⟨rfl, hx9⟩
      have XX := Lib.hid (XX.out.ext hx9); have X9 := Lib.hid (X8.out.trans hx9)
      clear hx9
      go_wp2_with fail
      have hs1 := same_any vx (.slice a1 l1.length c1) 0 0 l1 l1 w9 XX.out (H1.out.ext X9.out)
      rw [decide_eq_true (by exact ⟨rfl, rfl, rfl⟩)] at hs1
      refine hs1.mono ?_
      clear hs1
      rintro e w10 ⟨rfl, hx10⟩
      have X10 := Lib.hid (X9.out.trans hx10)
      clear hx10
      go_wp2_with fail
      go_ret
      exact ⟨rfl, X10.out⟩
    · obtain ⟨c, hc0, he⟩ := divS_err hok
      rw [he] at hcall
      have hcb : (c != 0) = true := by simpa using hc0
      refine hcall.mono ?_
      clear hcall hok he hc0
      rintro e w3 ⟨⟨vq, vr, rfl, nq, nr⟩, hx3⟩
      obtain ⟨aq, cq, rfl⟩ := nq.shape
      obtain ⟨ar, cr, rfl⟩ := nr.shape
      have X3 := Lib.hid (X2.out.trans hx3)
      clear nq nr hx3
      go_wp2_with fail
      go_ret
      exact ⟨rfl, X3.out⟩
  · clear hr
    go_wp2_with fail
    refine (awake_any _).mono ?_
    rintro e w2 ⟨rfl, hx2⟩
    have X2 := Lib.hid (X1.out.trans hx2)
    clear hx2
    go_wp2_with fail
    go_ret
    exact ⟨rfl, X2.out⟩

end Go.Proofs.Ytoicjiiifffciaa
