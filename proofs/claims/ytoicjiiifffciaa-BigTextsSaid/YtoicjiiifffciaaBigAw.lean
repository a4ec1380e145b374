/- Walks of awake, same and Long of layer 5's law package. Conditions: slices of limbs. -/
import Derived.Test.YtoicjiiifffciaaBigTx
namespace Go.Proofs.Ytoicjiiifffciaa
set_option linter.unusedSimpArgs false
set_option linter.unusedVariables false
open Go.RowKit

theorem decR_go (n q r : Nat) (l : List Nat) (h : n = 10 * q + r) (hr : r < 10) (hn : n ≠ 0) (e : decR q = l) : decR n = r :: l := by
  rw [decR_pos hn, show n % 10 = r by omega, show n / 10 = q by omega, e]
theorem aw_dec : decR 18446744073709551616 = [6, 1, 6, 1, 5, 5, 9, 0, 7, 3, 7, 0, 4, 4, 7, 6, 4, 4, 8, 1] :=
  decR_go 18446744073709551616 1844674407370955161 6 _ (by decide) (by decide) (by decide) (
  decR_go 1844674407370955161 184467440737095516 1 _ (by decide) (by decide) (by decide) (
  decR_go 184467440737095516 18446744073709551 6 _ (by decide) (by decide) (by decide) (
  decR_go 18446744073709551 1844674407370955 1 _ (by decide) (by decide) (by decide) (
  decR_go 1844674407370955 184467440737095 5 _ (by decide) (by decide) (by decide) (
  decR_go 184467440737095 18446744073709 5 _ (by decide) (by decide) (by decide) (
  decR_go 18446744073709 1844674407370 9 _ (by decide) (by decide) (by decide) (
  decR_go 1844674407370 184467440737 0 _ (by decide) (by decide) (by decide) (
  decR_go 184467440737 18446744073 7 _ (by decide) (by decide) (by decide) (
  decR_go 18446744073 1844674407 3 _ (by decide) (by decide) (by decide) (
  decR_go 1844674407 184467440 7 _ (by decide) (by decide) (by decide) (
  decR_go 184467440 18446744 0 _ (by decide) (by decide) (by decide) (
  decR_go 18446744 1844674 4 _ (by decide) (by decide) (by decide) (
  decR_go 1844674 184467 4 _ (by decide) (by decide) (by decide) (
  decR_go 184467 18446 7 _ (by decide) (by decide) (by decide) (
  decR_go 18446 1844 6 _ (by decide) (by decide) (by decide) (
  decR_go 1844 184 4 _ (by decide) (by decide) (by decide) (
  decR_go 184 18 4 _ (by decide) (by decide) (by decide) (
  decR_go 18 1 8 _ (by decide) (by decide) (by decide) (
  decR_go 1 0 1 _ (by decide) (by decide) (by decide) (
  decR_zero))))))))))))))))))))

theorem lim_eq {n : Nat} {l : List Int} (h : nv l = n) (hl : Lim l) (hz : NoZ l) : lim n = l := by rw [← h, lim_nv hl hz]
theorem rdU_new (w : World) (l : List Int) (h : l.length ≤ 1000) : RdI .u32 (w.alloc (.cells (l.map (Value.int .u32)).toArray 50)) (.slice (some ⟨w.heap.size, 0, none⟩) l.length l.length) l :=
  (RowU.new w l (by omega)).rdI

theorem chk2_ok {l1 l2 : List Int} (h1 : l1.length ≤ 512) (z1 : NoZ l1) (h2 : l2.length ≤ 512) (z2 : NoZ l2) : chk2 l1 l2 = 0 := by
  unfold chk2 orE; rw [if_pos (chkE_ok h1 z1), chkE_ok h2 z2]

theorem aw1 : lim 4294967296 = [0, 1] := lim_eq (by decide) (by intro x hx; simp at hx; omega) (by unfold NoZ; decide)
theorem aw2 : lim 4294967295 = [4294967295] := lim_eq (by decide) (by intro x hx; simp at hx; omega) (by unfold NoZ; decide)
theorem aw3 : lim 1000000007 = [1000000007] := lim_eq (by decide) (by intro x hx; simp at hx; omega) (by unfold NoZ; decide)
theorem aw4 : lim 12 = [12] := lim_eq (by decide) (by intro x hx; simp at hx; omega) (by unfold NoZ; decide)
theorem aw5 : lim 48 = [48] := lim_eq (by decide) (by intro x hx; simp at hx; omega) (by unfold NoZ; decide)
theorem aw6 : lim 36 = [36] := lim_eq (by decide) (by intro x hx; simp at hx; omega) (by unfold NoZ; decide)
theorem aw7 : lim 18446744065119617025 = [1, 4294967294] := lim_eq (by decide) (by intro x hx; simp at hx; omega) (by unfold NoZ; decide)
theorem aw8 : lim 83333333 = [83333333] := lim_eq (by decide) (by intro x hx; simp at hx; omega) (by unfold NoZ; decide)
theorem aw9 : lim 11 = [11] := lim_eq (by decide) (by intro x hx; simp at hx; omega) (by unfold NoZ; decide)

theorem aw_mul : mulS [4294967295] [4294967295] = ([1, 4294967294], 0) := by
  unfold mulS
  rw [opS_ok (chk2_ok (by decide) (by unfold NoZ; decide) (by decide) (by unfold NoZ; decide)), show nv [4294967295] * nv [4294967295] = 18446744065119617025 by decide, fitL_ok (len_max.1 (by rw [aw7]; decide)), aw7]
theorem aw_div : divS [1000000007] [12] = ([83333333], [11], 0) := by
  unfold divS
  rw [if_pos (chk2_ok (by decide) (by unfold NoZ; decide) (by decide) (by unfold NoZ; decide)), if_neg (by decide), show nv [1000000007] / nv [12] = 83333333 by decide, show nv [1000000007] % nv [12] = 11 by decide, aw8, aw9]
theorem aw_gcd : gcdS [48] [36] = ([12], 0) := by
  unfold gcdS
  rw [opS_ok (chk2_ok (by decide) (by unfold NoZ; decide) (by decide) (by unfold NoZ; decide)), show Nat.gcd (nv [48]) (nv [36]) = 12 by decide, aw4]
theorem aw_text : textS [0, 0, 1] = (⟨#[49, 56, 52, 52, 54, 55, 52, 52, 48, 55, 51, 55, 48, 57, 53, 53, 49, 54, 49, 54]⟩, 0) := by
  unfold textS
  rw [if_pos (chkE_ok (by decide) (by unfold NoZ; decide)), show nv [0, 0, 1] = 18446744073709551616 by decide]
  unfold decT
  rw [if_neg (by decide), aw_dec]
  rfl

theorem from_lit (n : Nat) (k : Int) (l : List Int) (w : World) (hn : n < 18446744073709551616) (hk : k = n) (e : lim n = l) :
    Calls Try.prog 21 #[.int .u64 k] w fun e w' => (∃ v, e = .returned v ∧ NewV w w' v l) ∧ Ext w w' := by
  subst hk; rw [← e]; exact from_any n w hn
theorem eq_lit (v1 v2 : Value) (l : List Int) (w : World) (h1 : RdI .u32 w v1 l) (h2 : RdI .u32 w v2 l) : Calls Try.prog 23 #[v1, v2] w fun e w' => e = .returned (.bool true) ∧ Ext w w' := by
  have := equalNat_any v1 v2 l l w h1 h2
  rwa [decide_eq_true rfl] at this

theorem lims (l : List Int) (h : l.all (fun x => decide (0 ≤ x) && decide (x < 4294967296)) = true) : Lim l := by
  intro x hx
  have := List.all_eq_true.1 h x hx
  simpa using this

set_option maxRecDepth 100000 in
set_option maxHeartbeats 4000000 in
theorem awake_any (w : World) : Calls Try.prog 11 #[] w fun en w' => en = .returned (.bool true) ∧ Ext w w' := by
  go_enter Try.func11, Try.ntmps11
  go_wp2_with fail
  refine (from_lit 4294967296 _ _ _ (by decide) (by rfl) aw1).mono ?_
  rintro e w1 ⟨⟨v1, rfl, h1⟩, hx1⟩
  have X1 := Lib.hid hx1; have V1 := Lib.hid h1.rd
  clear hx1 h1
  go_wp2_with fail
  refine (from_lit 4294967295 _ _ _ (by decide) (by rfl) aw2).mono ?_
  rintro e w2 ⟨⟨v2, rfl, h2⟩, hx2⟩
  have X2 := Lib.hid (X1.out.trans hx2); have V1 := Lib.hid (V1.out.ext hx2); have V2 := Lib.hid h2.rd
  clear hx2 h2
  go_wp2_with fail
  refine (mul2_any _ _ _ _ _ V2.out V2.out (lims _ (by decide)) (lims _ (by decide))).mono ?_
  rintro e w3 ⟨⟨v3, rfl, h3⟩, hx3⟩
  rw [aw_mul] at h3 ⊢
  have X3 := Lib.hid (X2.out.trans hx3); have V1 := Lib.hid (V1.out.ext hx3); have V3 := Lib.hid h3.rd
  clear hx3 h3
  go_wp2_with fail
  refine (from_lit 1000000007 _ _ _ (by decide) (by rfl) aw3).mono ?_
  rintro e w4 ⟨⟨v4, rfl, h4⟩, hx4⟩
  have X4 := Lib.hid (X3.out.trans hx4); have V1 := Lib.hid (V1.out.ext hx4); have V3 := Lib.hid (V3.out.ext hx4); have V4 := Lib.hid h4.rd
  clear hx4 h4
  go_wp2_with fail
  refine (from_lit 12 _ _ _ (by decide) (by rfl) aw4).mono ?_
  rintro e w5 ⟨⟨v5, rfl, h5⟩, hx5⟩
  have X5 := Lib.hid (X4.out.trans hx5); have V1 := Lib.hid (V1.out.ext hx5); have V3 := Lib.hid (V3.out.ext hx5); have V4 := Lib.hid (V4.out.ext hx5); have V5 := Lib.hid h5.rd
  clear hx5 h5
  go_wp2_with fail
  refine (divMod_any _ _ _ _ _ V4.out V5.out (lims _ (by decide)) (lims _ (by decide))).mono ?_
  rintro e w6 ⟨⟨v6, v7, rfl, h6, h7⟩, hx6⟩
  rw [aw_div] at h6 h7 ⊢
  have X6 := Lib.hid (X5.out.trans hx6); have V1 := Lib.hid (V1.out.ext hx6); have V3 := Lib.hid (V3.out.ext hx6); have V6 := Lib.hid h6.rd; have V7 := Lib.hid h7.rd
  clear hx6 h6 h7 V4 V5
  go_wp2_with fail
  refine (from_lit 48 _ _ _ (by decide) (by rfl) aw5).mono ?_
  rintro e w7 ⟨⟨v8, rfl, h8⟩, hx7⟩
  have X7 := Lib.hid (X6.out.trans hx7); have V1 := Lib.hid (V1.out.ext hx7); have V3 := Lib.hid (V3.out.ext hx7); have V6 := Lib.hid (V6.out.ext hx7); have V7 := Lib.hid (V7.out.ext hx7); have V8 := Lib.hid h8.rd
  clear hx7 h8
  go_wp2_with fail
  refine (from_lit 36 _ _ _ (by decide) (by rfl) aw6).mono ?_
  rintro e w8 ⟨⟨v9, rfl, h9⟩, hx8⟩
  have X8 := Lib.hid (X7.out.trans hx8); have V1 := Lib.hid (V1.out.ext hx8); have V3 := Lib.hid (V3.out.ext hx8); have V6 := Lib.hid (V6.out.ext hx8); have V7 := Lib.hid (V7.out.ext hx8); have V8 := Lib.hid (V8.out.ext hx8); have V9 := Lib.hid h9.rd
  clear hx8 h9
  go_wp2_with fail
  refine (gcd_any _ _ _ _ _ V8.out V9.out (lims _ (by decide)) (lims _ (by decide))).mono ?_
  rintro e w9 ⟨⟨v10, rfl, h10⟩, hx9⟩
  rw [aw_gcd] at h10 ⊢
  have X9 := Lib.hid (X8.out.trans hx9); have V1 := Lib.hid (V1.out.ext hx9); have V3 := Lib.hid (V3.out.ext hx9); have V6 := Lib.hid (V6.out.ext hx9); have V7 := Lib.hid (V7.out.ext hx9); have V10 := Lib.hid h10.rd
  clear hx9 h10 V8 V9
  go_wp2_with fail
  refine (text_any _ [0, 0, 1] _ (rdU_new w9 [0, 0, 1] (by decide)) (lims _ (by decide))).mono ?_
  rintro e w10 ⟨rfl, hx10⟩
  rw [aw_text]
  have hx10 := ((Ext.refl w9).alloc _).trans hx10
  have X10 := Lib.hid (X9.out.trans hx10); have V1 := Lib.hid (V1.out.ext hx10); have V3 := Lib.hid (V3.out.ext hx10); have V6 := Lib.hid (V6.out.ext hx10); have V7 := Lib.hid (V7.out.ext hx10); have V10 := Lib.hid (V10.out.ext hx10)
  clear hx10
  go_wp2_with fail
  refine (eq_lit _ _ [0, 1] _ (V1.out.ext ((Ext.refl _).alloc _)) (rdU_new w10 [0, 1] (by decide))).mono ?_
  rintro e w11 ⟨rfl, hx11⟩
  have hx11 := ((Ext.refl w10).alloc _).trans hx11
  have X11 := Lib.hid (X10.out.trans hx11)
  have V3 := Lib.hid (V3.out.ext hx11)
  have V6 := Lib.hid (V6.out.ext hx11)
  have V7 := Lib.hid (V7.out.ext hx11)
  have V10 := Lib.hid (V10.out.ext hx11)
  clear hx11
  go_wp2_with fail
  refine (eq_lit _ _ [1, 4294967294] _ (V3.out.ext ((Ext.refl _).alloc _)) (rdU_new w11 [1, 4294967294] (by decide))).mono ?_
  rintro e w12 ⟨rfl, hx12⟩
  have hx12 := ((Ext.refl w11).alloc _).trans hx12
  have X12 := Lib.hid (X11.out.trans hx12)
  have V6 := Lib.hid (V6.out.ext hx12)
  have V7 := Lib.hid (V7.out.ext hx12)
  have V10 := Lib.hid (V10.out.ext hx12)
  clear hx12
  go_wp2_with fail
  refine (eq_lit _ _ [83333333] _ (V6.out.ext ((Ext.refl _).alloc _)) (rdU_new w12 [83333333] (by decide))).mono ?_
  rintro e w13 ⟨rfl, hx13⟩
  have hx13 := ((Ext.refl w12).alloc _).trans hx13
  have X13 := Lib.hid (X12.out.trans hx13)
  have V7 := Lib.hid (V7.out.ext hx13)
  have V10 := Lib.hid (V10.out.ext hx13)
  clear hx13
  go_wp2_with fail
  refine (eq_lit _ _ [11] _ (V7.out.ext ((Ext.refl _).alloc _)) (rdU_new w13 [11] (by decide))).mono ?_
  rintro e w14 ⟨rfl, hx14⟩
  have hx14 := ((Ext.refl w13).alloc _).trans hx14
  have X14 := Lib.hid (X13.out.trans hx14)
  have V10 := Lib.hid (V10.out.ext hx14)
  clear hx14
  go_wp2_with fail
  refine (eq_lit _ _ [12] _ (V10.out.ext ((Ext.refl _).alloc _)) (rdU_new w14 [12] (by decide))).mono ?_
  rintro e w15 ⟨rfl, hx15⟩
  have hx15 := ((Ext.refl w14).alloc _).trans hx15
  have X15 := Lib.hid (X14.out.trans hx15)
  clear hx15
  go_wp2_with fail
  go_ret
  exact ⟨rfl, X15.out⟩

set_option maxHeartbeats 1000000 in
/-- same: both without an error, and equal. -/
theorem same_any (v1 v2 : Value) (e f : Int) (l1 l2 : List Int) (w : World) (h1 : RdI .u32 w v1 l1) (h2 : RdI .u32 w v2 l2) :
    Calls Try.prog 13 #[v1, .int .i64 e, v2, .int .i64 f] w fun en w' => en = .returned (.bool (decide (e = 0 ∧ f = 0 ∧ l1 = l2))) ∧ Ext w w' := by
  have H1 := Lib.hid h1; have H2 := Lib.hid h2
  clear h1 h2
  by_cases he : e = 0
  · by_cases hf : f = 0
    · subst he; subst hf
      have hd : decide ((0 : Int) = 0 ∧ (0 : Int) = 0 ∧ l1 = l2) = decide (l1 = l2) := by simp
      rw [hd]
      obtain ⟨b, hb⟩ : ∃ b, b = decide (l1 = l2) := ⟨_, rfl⟩
      have hc := equalNat_any v1 v2 l1 l2 w H1.out H2.out
      rw [← hb] at hc ⊢
      have HC := Lib.hid hc
      clear hc hb hd
      go_enter Try.func13, Try.ntmps13
      go_wp2_with fail
      refine HC.out.mono ?_
      rintro en w1 ⟨rfl, hx1⟩
      have X1 := Lib.hid hx1; clear hx1
      go_wp2_with fail
      go_ret
      exact ⟨rfl, X1.out⟩
    · subst he
      have hb : (f == 0) = false := by simpa using hf
      have hd : decide ((0 : Int) = 0 ∧ f = 0 ∧ l1 = l2) = false := decide_eq_false (fun h => hf h.2.1)
      rw [hd]
      clear hd hf
      go_enter Try.func13, Try.ntmps13
      go_wp2_with fail
      go_ret
      exact ⟨rfl, Ext.refl w⟩
  · have hb : (e == 0) = false := by simpa using he
    have hd : decide (e = 0 ∧ f = 0 ∧ l1 = l2) = false := decide_eq_false (fun h => he h.1)
    rw [hd]
    clear hd he
    go_enter Try.func13, Try.ntmps13
    go_wp2_with fail
    go_ret
    exact ⟨rfl, Ext.refl w⟩

end Go.Proofs.Ytoicjiiifffciaa
