/- Walk of Floor of layer 6. Conditions: an api.Rat whose slices read as limbs. -/
import Derived.Test.YtebdmmlniohhgaaRatT
namespace Go.Proofs.Ytebdmmlniohhgaa
set_option linter.unusedSimpArgs false
set_option linter.unusedVariables false
open Go.RowKit

/-- The absolute value of what Floor returns. -/
def flA (b : Bool) (n d : Nat) : Nat := if b = true ∧ 0 < n % d then n / d + 1 else n / d
theorem floor_flA {r : RR} (hl : LimR r) (h : chkR r = 0) : (qv r).floor = sg r.neg (flA r.neg (nv r.num) (dnv r.den)) := by
  obtain ⟨e1, e2, _⟩ := valid_rep hl h
  rw [Rat.floor_def, e1, e2]
  have hd : 0 < dnv r.den := by have := vof_den hl h; exact Nat.pos_of_ne_zero this
  unfold flA sg
  cases r.neg
  · simp
  · simp only [if_true, true_and]
    generalize nv r.num = n
    generalize dnv r.den = d at *
    have h1 := Nat.div_add_mod n d
    have h2 := Nat.mod_lt n hd
    split
    · rename_i hp
      obtain ⟨q, hq⟩ : ∃ q, q = n / d := ⟨_, rfl⟩
      obtain ⟨m, hm⟩ : ∃ m, m = n % d := ⟨_, rfl⟩
      rw [← hq, ← hm] at h1
      rw [← hm] at h2 hp
      rw [← hq]
      have hn : (n : Int) = (d : Int) * q + m := by rw [← h1]; simp
      have : (-(n : Int)) = -((q + 1 : Nat) : Int) * d + ((d - m : Nat) : Int) := by
        rw [hn, Int.ofNat_sub (by omega), Int.neg_mul, Int.natCast_add, Int.add_mul, Int.mul_comm (q : Int) d]
        omega
      rw [this, Int.add_comm, Int.add_mul_ediv_right _ _ (by omega), Int.ediv_eq_zero_of_lt (by omega) (by omega)]
      omega
    · rename_i hp
      have e : (n : Int) = (d : Int) * (n / d : Nat) := by
        have : n = d * (n / d) := by omega
        rw [← Int.natCast_mul, ← this]
      rw [e, ← Int.mul_neg, Int.mul_ediv_cancel_left _ (by omega)]

theorem wrap_neg (A : Nat) (h : A ≤ 9223372036854775808) : wrap64 (IntKind.u64.wrap (-(A : Int))) = -(A : Int) := by
  have e : IntKind.u64.wrap (-(A : Int)) = (-(A : Int)) % 18446744073709551616 := rfl
  rw [e]; unfold wrap64; omega

theorem intS_lim {A : Nat} (h : (lim A).length ≤ 512) : intS (lim A) = if A < 18446744073709551616 then ((A : Int), 0) else (0, 7) := by
  unfold intS
  rw [if_pos (chkE_can h (lim_noZ _)), nv_lim]
  have e : (2 < (lim A).length) ↔ ¬ A < 18446744073709551616 := by
    rw [← Nat.not_le, lim_len_le]
  by_cases h1 : A < 18446744073709551616
  · rw [if_neg (fun h2 => e.1 h2 h1), if_pos h1]
  · rw [if_pos (e.2 h1), if_neg h1]

set_option maxRecDepth 100000 in
set_option maxHeartbeats 2000000 in
theorem floorR_any (va : Value) (ra : RR) (w : World) (ha : RdR w va ra) (la : LimR ra) :
    Calls Try.prog 31 #[va] w fun e w' => e = .returned (.tuple #[.int .i64 (floorR ra).1, .int .i64 (floorR ra).2]) ∧ Ext w w' := by
  have HCA := Lib.hid (chk_at ha la)
  have hof := fun W (x : Ext w W) => ofR_any va ra W (ha.ext x)
  obtain ⟨a1, c1, a2, c2, rfl⟩ := ha.shape
  obtain ⟨s1, l1, l2⟩ := ra
  dsimp only at HCA hof ⊢
  have HOF := Lib.hid hof
  have A0 := Lib.hid (Blk.new w #[.bool s1, .slice a1 l1.length c1, .slice a2 l2.length c2] 26)
  have X0 := Lib.hid ((Ext.refl w).alloc (.cells #[.bool s1, .slice a1 l1.length c1, .slice a2 l2.length c2] 26))
  by_cases hc : chkR ⟨s1, l1, l2⟩ = 0
  · rw [hc] at HCA
    obtain ⟨v1, v2, v3, v4, v5, v6⟩ := valid_len la hc
    dsimp only at v1 v2 v3 v4 v5 v6
    have hfl := floor_flA la hc
    dsimp only at hfl
    rw [← nv_dl] at hfl
    obtain ⟨A, hA⟩ : ∃ A, A = flA s1 (nv l1) (nv (dl l2)) := ⟨_, rfl⟩
    rw [← hA] at hfl
    have e : floorR ⟨s1, l1, l2⟩ = if -9223372036854775808 ≤ sg s1 A ∧ sg s1 A ≤ 9223372036854775807 then (sg s1 A, 0) else (0, 7) := by unfold floorR; rw [if_pos hc, hfl]
    have hq1 : (lim (nv l1 / nv (dl l2))).length ≤ 128 := Nat.le_trans (lim_len_le.2 (Nat.lt_of_le_of_lt (Nat.div_le_self _ _) (nv_lt la.1))) v1
    have hdv := divS_ok (l1 := l1) (l2 := dl l2) (by omega) v3 (by omega) v4 v5
    obtain ⟨q, hq⟩ : ∃ q, q = nv l1 / nv (dl l2) := ⟨_, rfl⟩
    obtain ⟨m, hm⟩ : ∃ m, m = nv l1 % nv (dl l2) := ⟨_, rfl⟩
    unfold flA at hA
    rw [← hq] at hA hq1 hdv
    rw [← hm] at hA hdv
    have hpl := add_short (P := q) (Q := 1) (k := 200) (by omega) (by rw [lim_one]; simp) (by omega)
    rw [lim_one] at hpl
    have E := Lib.hid e; have HAA := Lib.hid hA; have HDV := Lib.hid hdv; have HPL := Lib.hid hpl; have L1 := Lib.hid la.1; have V6 := Lib.hid v6
    clear e hA hdv hpl hfl hof ha hq hm v3 v4 v5 v6 hc la
    go_enter Try.func31, Try.ntmps31
    go_wp2_with fail
    refine (HCA.out _ X0.out).mono ?_
    rintro e w3 ⟨rfl, hx3⟩
    have P0 := Lib.hid (A0.out.ext hx3); have X3 := Lib.hid (X0.out.trans hx3)
    clear hx3
    have c0 := P0.out.cell; have f0 := P0.out.free; have l0 := P0.out.lt
    go_wp2_with fail
    refine (HOF.out _ X3.out).mono ?_
    rintro e w4 ⟨⟨vv, rfl, vn, vd, rfl, hn4, hd4⟩, hx4⟩
    obtain ⟨a5, c5, rfl⟩ := rdU_shape hn4
    obtain ⟨a6, c6, rfl⟩ := rdU_shape hd4
    have N4 := Lib.hid hn4; have D4 := Lib.hid hd4; have X4 := Lib.hid (X3.out.trans hx4)
    clear hx4 hn4 hd4 c0 f0 l0
    go_wp2_with fail
    have hdc := divMod_any (.slice a5 l1.length c5) (.slice a6 (dl l2).length c6) l1 (dl l2) (w4.alloc (.cells #[.slice a5 l1.length c5, .slice a6 (dl l2).length c6, .bool s1] 76)) (N4.out.ext ((Ext.refl w4).alloc _)) (D4.out.ext ((Ext.refl w4).alloc _)) L1.out V6.out
    rw [HDV.out] at hdc
    refine hdc.mono ?_
    clear hdc
    rintro e w5 ⟨⟨vq, vr, rfl, nq, nr⟩, hx5⟩
    obtain ⟨aq, cq, rfl⟩ := nq.shape
    obtain ⟨ar, cr, rfl⟩ := nr.shape
    have PV := Lib.hid ((Blk.new w4 #[.slice a5 l1.length c5, .slice a6 (dl l2).length c6, .bool s1] 76).ext hx5); have X5 := Lib.hid ((X4.out.alloc _).trans hx5); have NQ := Lib.hid nq.rd
    clear nq nr hx5
    have c0 := PV.out.cell; have f0 := PV.out.free; have l0 := PV.out.lt
    cases s1
    · have hAq : A = q := by rw [HAA.out]; simp
      have hA5 : (lim A).length ≤ 512 := by rw [hAq]; omega
      rw [← hAq] at NQ
      have XA := X5
      subst hAq
      have NA := NQ
      go_wp2_with fail
      have hin := int_any _ (lim A) _ NA.out (lim_lim _)
      rw [intS_lim hA5] at hin
      by_cases hbig : A < 18446744073709551616
      · rw [if_pos hbig] at hin
        have HIN := Lib.hid hin
        clear hin
        go_wp2_with fail
        refine HIN.out.mono ?_
        rintro e w9 ⟨rfl, hx9⟩
        have P9 := Lib.hid (PV.out.ext hx9); have X9 := Lib.hid (XA.out.trans hx9)
        clear hx9
        have c9 := P9.out.cell; have f9 := P9.out.free; have l9 := P9.out.lt
        by_cases h63 : A < 9223372036854775808
        · have q9 : (A : Int) ≤ 9223372036854775807 := by omega
          have q10 : ((A : Int) == 9223372036854775808) = false := by simp only [beq_eq_false_iff_ne]; omega
          have q11 : ¬ (9223372036854775808 : Int) < (A : Int) := by omega
          have e : floorR ⟨false, l1, l2⟩ = ((A : Int), 0) := by rw [E.out, if_pos (by unfold sg; simp only [Bool.false_eq_true, if_false]; omega)]; rfl
          have E2 := Lib.hid e
          clear e h63 hbig
          go_wp2_with fail
          all_goals
            go_ret2
            exact ⟨by rw [E2.out]; first | rfl | (simp only [wrap_neg A (by omega)]; rfl), X9.out⟩
        · have e : floorR ⟨false, l1, l2⟩ = (0, 7) := by rw [E.out, if_neg (by unfold sg; simp only [Bool.false_eq_true, if_false]; omega)]
          have E2 := Lib.hid e
          clear e
          by_cases hgt : 9223372036854775808 < A
          · have q9 : (9223372036854775808 : Int) < (A : Int) := by omega
            clear h63 hgt
            go_wp2_with fail
            all_goals
              go_ret2
              exact ⟨by rw [E2.out]; rfl, X9.out⟩
          · have q9 : ¬ (9223372036854775808 : Int) < (A : Int) := by omega
            have q10 : ((A : Int) == 9223372036854775808) = true := by simp only [beq_iff_eq]; omega
            clear h63 hgt
            go_wp2_with fail
            all_goals
              go_ret2
              exact ⟨by rw [E2.out]; rfl, X9.out⟩
      · rw [if_neg hbig] at hin
        have HIN := Lib.hid hin
        clear hin
        have e : floorR ⟨false, l1, l2⟩ = (0, 7) := by rw [E.out, if_neg (by unfold sg; simp only [Bool.false_eq_true, if_false]; omega)]
        have E2 := Lib.hid e
        clear e
        go_wp2_with fail
        refine HIN.out.mono ?_
        rintro e w9 ⟨rfl, hx9⟩
        have X9 := Lib.hid (XA.out.trans hx9)
        clear hx9
        go_wp2_with fail
        go_ret2
        exact ⟨by rw [E2.out]; rfl, X9.out⟩
    · by_cases hm0 : 0 < m
      · have hAq : A = q + 1 := by rw [HAA.out, if_pos ⟨rfl, hm0⟩]
        have hA5 : (lim A).length ≤ 512 := by
          rw [hAq]
          have := len_sum (x := q) (y := 1) (k := 200) (by omega) (by rw [lim_one]; simp) (Nat.le_refl _)
          omega
        rw [← hAq] at HPL
        have hml : (0 : Int) < ((lim m).length : Int) := by
          have : lim m ≠ [] := fun e => by have := nv_lim m; rw [e] at this; rw [show nv [] = 0 from rfl] at this; omega
          have := List.length_pos_iff.2 this
          omega
        clear hAq hm0
        go_wp2_with fail
        have hpl2 := plusR_any (.slice aq (lim q).length cq) (.slice (some ⟨w5.heap.size, 0, none⟩) 1 1) (lim q) [1] _ (NQ.out.ext ((Ext.refl w5).alloc (.cells #[.int .u32 1] 46))) (rdU_new w5 [1] (by simp)) (lim_lim _) (lims [1] (by decide))
        rw [HPL.out] at hpl2
        refine hpl2.mono ?_
        clear hpl2
        rintro e w6 ⟨⟨v6, rfl, n6⟩, hx6⟩
        obtain ⟨a7, c7, rfl⟩ := n6.shape
        have NA := Lib.hid n6.rd; have PV := Lib.hid ((PV.out.alloc (.cells #[.int .u32 1] 46)).ext hx6); have XA := Lib.hid ((X5.out.alloc (.cells #[.int .u32 1] 46)).trans hx6)
        clear n6 hx6 c0 f0 l0
        go_wp2_with fail
        have hin := int_any _ (lim A) _ NA.out (lim_lim _)
        rw [intS_lim hA5] at hin
        by_cases hbig : A < 18446744073709551616
        · rw [if_pos hbig] at hin
          have HIN := Lib.hid hin
          clear hin
          go_wp2_with fail
          refine HIN.out.mono ?_
          rintro e w9 ⟨rfl, hx9⟩
          have P9 := Lib.hid (PV.out.ext hx9); have X9 := Lib.hid (XA.out.trans hx9)
          clear hx9
          have c9 := P9.out.cell; have f9 := P9.out.free; have l9 := P9.out.lt
          by_cases h63 : A ≤ 9223372036854775808
          · have q9 : (A : Int) ≤ 9223372036854775808 := by omega
            have e : floorR ⟨true, l1, l2⟩ = (-(A : Int), 0) := by rw [E.out, if_pos (by unfold sg; simp only [if_true]; omega)]; rfl
            have E2 := Lib.hid e
            clear e
            have q11 : ¬ (9223372036854775808 : Int) < (A : Int) := by omega
            by_cases heq : A = 9223372036854775808
            · have q10 : ((A : Int) == 9223372036854775808) = true := by simp only [beq_iff_eq]; omega
              clear heq h63
              go_wp2_with fail
              all_goals
                go_ret2
                exact ⟨by rw [E2.out]; first | rfl | (simp only [wrap_neg A (by omega)]; rfl), X9.out⟩
            · have q10 : ((A : Int) == 9223372036854775808) = false := by simp only [beq_eq_false_iff_ne]; omega
              clear heq h63
              go_wp2_with fail
              all_goals
                go_ret2
                exact ⟨by rw [E2.out]; first | rfl | (simp only [wrap_neg A (by omega)]; rfl), X9.out⟩
          · have e : floorR ⟨true, l1, l2⟩ = (0, 7) := by rw [E.out, if_neg (by unfold sg; simp only [if_true]; omega)]
            have E2 := Lib.hid e
            clear e
            have q9 : (9223372036854775808 : Int) < (A : Int) := by omega
            clear h63
            go_wp2_with fail
            all_goals
              go_ret2
              exact ⟨by rw [E2.out]; rfl, X9.out⟩
        · rw [if_neg hbig] at hin
          have HIN := Lib.hid hin
          clear hin
          have e : floorR ⟨true, l1, l2⟩ = (0, 7) := by rw [E.out, if_neg (by unfold sg; simp only [if_true]; omega)]
          have E2 := Lib.hid e
          clear e
          go_wp2_with fail
          refine HIN.out.mono ?_
          rintro e w9 ⟨rfl, hx9⟩
          have X9 := Lib.hid (XA.out.trans hx9)
          clear hx9
          go_wp2_with fail
          go_ret2
          exact ⟨by rw [E2.out]; rfl, X9.out⟩
      · have hAq : A = q := by rw [HAA.out, if_neg (fun h => hm0 h.2)]
        have hA5 : (lim A).length ≤ 512 := by rw [hAq]; omega
        have hm1 : m = 0 := by omega
        have XA := X5
        subst hAq
        subst hm1
        have NA := NQ
        go_wp2_with fail
        have hin := int_any _ (lim A) _ NA.out (lim_lim _)
        rw [intS_lim hA5] at hin
        by_cases hbig : A < 18446744073709551616
        · rw [if_pos hbig] at hin
          have HIN := Lib.hid hin
          clear hin
          go_wp2_with fail
          refine HIN.out.mono ?_
          rintro e w9 ⟨rfl, hx9⟩
          have P9 := Lib.hid (PV.out.ext hx9); have X9 := Lib.hid (XA.out.trans hx9)
          clear hx9
          have c9 := P9.out.cell; have f9 := P9.out.free; have l9 := P9.out.lt
          by_cases h63 : A ≤ 9223372036854775808
          · have q9 : (A : Int) ≤ 9223372036854775808 := by omega
            have e : floorR ⟨true, l1, l2⟩ = (-(A : Int), 0) := by rw [E.out, if_pos (by unfold sg; simp only [if_true]; omega)]; rfl
            have E2 := Lib.hid e
            clear e
            have q11 : ¬ (9223372036854775808 : Int) < (A : Int) := by omega
            by_cases heq : A = 9223372036854775808
            · have q10 : ((A : Int) == 9223372036854775808) = true := by simp only [beq_iff_eq]; omega
              clear heq h63
              go_wp2_with fail
              all_goals
                go_ret2
                exact ⟨by rw [E2.out]; first | rfl | (simp only [wrap_neg A (by omega)]; rfl), X9.out⟩
            · have q10 : ((A : Int) == 9223372036854775808) = false := by simp only [beq_eq_false_iff_ne]; omega
              clear heq h63
              go_wp2_with fail
              all_goals
                go_ret2
                exact ⟨by rw [E2.out]; first | rfl | (simp only [wrap_neg A (by omega)]; rfl), X9.out⟩
          · have e : floorR ⟨true, l1, l2⟩ = (0, 7) := by rw [E.out, if_neg (by unfold sg; simp only [if_true]; omega)]
            have E2 := Lib.hid e
            clear e
            have q9 : (9223372036854775808 : Int) < (A : Int) := by omega
            clear h63
            go_wp2_with fail
            all_goals
              go_ret2
              exact ⟨by rw [E2.out]; rfl, X9.out⟩
        · rw [if_neg hbig] at hin
          have HIN := Lib.hid hin
          clear hin
          have e : floorR ⟨true, l1, l2⟩ = (0, 7) := by rw [E.out, if_neg (by unfold sg; simp only [if_true]; omega)]
          have E2 := Lib.hid e
          clear e
          go_wp2_with fail
          refine HIN.out.mono ?_
          rintro e w9 ⟨rfl, hx9⟩
          have X9 := Lib.hid (XA.out.trans hx9)
          clear hx9
          go_wp2_with fail
          go_ret2
          exact ⟨by rw [E2.out]; rfl, X9.out⟩
  · have e : floorR ⟨s1, l1, l2⟩ = (0, chkR ⟨s1, l1, l2⟩) := by unfold floorR; rw [if_neg hc]
    obtain ⟨cc, hcc⟩ : ∃ cc, cc = chkR ⟨s1, l1, l2⟩ := ⟨_, rfl⟩
    rw [← hcc] at HCA hc e
    have E := Lib.hid e
    have hcb' : (cc != 0) = true := by simpa using hc
    clear e hc hcc
    go_enter Try.func31, Try.ntmps31
    go_wp2_with fail
    refine (HCA.out _ X0.out).mono ?_
    rintro e w3 ⟨rfl, hx3⟩
    have X3 := Lib.hid (X0.out.trans hx3)
    clear hx3
    go_wp2_with fail
    go_ret2
    exact ⟨by rw [E.out]; rfl, X3.out⟩

end Go.Proofs.Ytebdmmlniohhgaa
