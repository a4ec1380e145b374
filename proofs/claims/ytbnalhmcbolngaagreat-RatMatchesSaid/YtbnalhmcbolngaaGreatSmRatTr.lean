/- Part of the proof of mat6_holds: what the row needs of RatTr. Conditions: as each theorem states. -/
import Derived.Test.YtbnalhmcbolngaaGreatSmGJ
import Derived.Test.YtbnalhmcbolngaaGreatSmRatRb
import Derived.Test.YtbnalhmcbolngaaGreatSmRefL
namespace Go.Proofs.YtbnalhmcbolngaaGreat
set_option linter.unusedSimpArgs false
set_option linter.unusedVariables false
open Go.RowKit
set_option maxHeartbeats 2000000 in
theorem refTextR_any (va : Value) (ra : RR) (w : World) (ha : RdR w va ra) (la : LimR ra) :
    Calls Tryz.prog 58 #[va] w fun e w' => e = .returned (.tuple #[.string (textR ra).1, .int .i64 (textR ra).2]) ∧ Ext w w' := by
  have HCA := Lib.hid (fun W (x : Ext w W) => refCheckR_any va ra W (ha.ext x) la)
  have h0 := ha
  obtain ⟨a1, c1, a2, c2, rfl⟩ := ha.shape
  obtain ⟨vn, vd, ev, hn, hd⟩ := h0
  injection ev with ev
  simp only [Array.mk.injEq, List.cons.injEq, and_true, true_and] at ev
  obtain ⟨rfl, rfl⟩ := ev
  obtain ⟨s1, l1, l2⟩ := ra
  dsimp only at HCA hn hd ⊢
  have A0 := Lib.hid (Blk.new w #[.bool s1, .slice a1 l1.length c1, .slice a2 l2.length c2] 33)
  have X0 := Lib.hid ((Ext.refl w).alloc (.cells #[.bool s1, .slice a1 l1.length c1, .slice a2 l2.length c2] 33))
  by_cases hc : chkR ⟨s1, l1, l2⟩ = 0
  · rw [hc] at HCA
    have hst := chkR_0 la hc
    have TN := Lib.hid (fun W (x : Ext w W) => digitsT_any _ l1 W (hn.ext x) la.1 hst.2.2.1 (by have : l1.length ≤ 128 := hst.1; omega))
    have TD := Lib.hid (fun W (x : Ext w W) => digitsT_any _ l2 W (hd.ext x) la.2 hst.2.2.2.1 (by have : l2.length ≤ 128 := hst.2.1; omega))
    obtain ⟨SN, hSN⟩ : ∃ SN, SN = decT (nv l1) := ⟨_, rfl⟩
    obtain ⟨SD, hSD⟩ : ∃ SD, SD = decT (nv l2) := ⟨_, rfl⟩
    have bN : SN.size ≤ 4097 := by
      rw [hSN]
      have h1 := decT_size (nv l1)
      have h2 : blen (nv l1) ≤ 32 * l1.length := blen_le.2 (by rw [← pow_two]; exact nv_lt la.1)
      have h3 : l1.length ≤ 128 := hst.1
      omega
    have bD : SD.size ≤ 4097 := by
      rw [hSD]
      have h1 := decT_size (nv l2)
      have h2 : blen (nv l2) ≤ 32 * l2.length := blen_le.2 (by rw [← pow_two]; exact nv_lt la.2)
      have h3 : l2.length ≤ 128 := hst.2.1
      omega
    have bN2 : ((⟨#[45]⟩ : ByteArray) ++ SN).size ≤ 4098 := by rw [ByteArray.size_append]; show 1 + SN.size ≤ 4098; omega
    have bD2 : ((⟨#[47]⟩ : ByteArray) ++ SD).size ≤ 4098 := by rw [ByteArray.size_append]; show 1 + SD.size ≤ 4098; omega
    have b1 : (⟨#[45]⟩ : ByteArray).size = 1 := rfl
    have b2 : (⟨#[47]⟩ : ByteArray).size = 1 := rfl
    have e : textR ⟨s1, l1, l2⟩ = (if l2 = [] then (if s1 = true then ⟨#[45]⟩ ++ SN else SN) else (if s1 = true then ⟨#[45]⟩ ++ SN else SN) ++ (⟨#[47]⟩ ++ SD), 0) := by unfold textR; rw [if_pos hc, hSN, hSD]
    rw [← hSN] at TN
    rw [← hSD] at TD
    have E := Lib.hid e
    clear e hc hst hSN hSD hn hd ha
    cases s1
    all_goals
      go_enter Tryz.func58, Tryz.ntmps58
      go_wp2_with fail
      refine (HCA.out _ X0.out).mono ?_
      rintro e w3 ⟨rfl, hx3⟩
      have P0 := Lib.hid (A0.out.ext hx3); have X3 := Lib.hid (X0.out.trans hx3)
      clear hx3
      have c0 := P0.out.cell; have f0 := P0.out.free; have l0 := P0.out.lt
      go_wp2_with fail
      refine (TN.out _ X3.out).mono ?_
      rintro e w4 ⟨rfl, hx4⟩
      have P4 := Lib.hid (P0.out.ext hx4); have X4 := Lib.hid (X3.out.trans hx4)
      clear hx4 c0 f0 l0
      have c0 := P4.out.cell; have f0 := P4.out.free; have l0 := P4.out.lt
      by_cases hz : l2.length = 0
      · have q1 : ¬ (0 : Int) < (l2.length : Int) := by omega
        have HZ := Lib.hid (List.length_eq_zero_iff.1 hz)
        clear hz
        go_wp2_with fail
        go_ret2
        exact ⟨by rw [E.out, if_pos HZ.out]; rfl, X4.out⟩
      · have q1 : (0 : Int) < (l2.length : Int) := by omega
        have HZ := Lib.hid (fun e : l2 = [] => hz (by rw [e]; rfl))
        clear hz
        go_wp2_with fail
        refine (TD.out _ X4.out).mono ?_
        rintro e w5 ⟨rfl, hx5⟩
        have X5 := Lib.hid (X4.out.trans hx5)
        clear hx5
        go_wp2_with fail
        go_ret2
        exact ⟨by rw [E.out, if_neg HZ.out, ← ByteArray.append_assoc]; rfl, X5.out⟩
  · have e : textR ⟨s1, l1, l2⟩ = (⟨#[]⟩, chkR ⟨s1, l1, l2⟩) := by unfold textR; rw [if_neg hc]
    obtain ⟨cc, hcc⟩ : ∃ cc, cc = chkR ⟨s1, l1, l2⟩ := ⟨_, rfl⟩
    rw [← hcc] at HCA hc e
    have E := Lib.hid e
    have hcb' : (cc != 0) = true := by simpa using hc
    clear e hc hcc
    go_enter Tryz.func58, Tryz.ntmps58
    go_wp2_with fail
    refine (HCA.out _ X0.out).mono ?_
    rintro e w3 ⟨rfl, hx3⟩
    have X3 := Lib.hid (X0.out.trans hx3)
    clear hx3
    go_wp2_with fail
    go_ret2
    exact ⟨by rw [E.out]; rfl, X3.out⟩
end Go.Proofs.YtbnalhmcbolngaaGreat
