/- Walk of the law BigReads: it returns true. Conditions: a number of 64 bits, a text. -/
import Derived.Test.YtebdmmlniohhgaaBigOv
import Derived.Test.YtebdmmlniohhgaaRefM
namespace Go.Proofs.Ytebdmmlniohhgaa
set_option linter.unusedSimpArgs false
set_option linter.unusedVariables false
open Go.RowKit

set_option maxHeartbeats 4000000 in
theorem reads_any (n : Nat) (s : ByteArray) (w : World) (hn : n < 18446744073709551616) :
    Calls Try.prog 8 #[.int .u64 n, .string s] w fun en w' => en = .returned (.bool true) ∧ Ext w w' := by
  by_cases hs : 200 < s.size
  · go_enter Try.func8, Try.ntmps8
    go_wp2_with fail
    refine (awake_any _).mono ?_
    rintro e w1 ⟨rfl, hx1⟩
    have X1 := Lib.hid hx1
    clear hx1
    go_wp2_with fail
    go_ret
    exact ⟨rfl, X1.out⟩
  · have hp := fun W => refParse_any s W
    have hq := fun W => parse_any s W
    obtain ⟨R, hR⟩ : ∃ R, R = parseS s := ⟨_, rfl⟩
    rw [← hR] at hp hq
    obtain ⟨L, c⟩ := R
    have hf := fun W => from_any n W hn
    have hr := fun W => refFrom_any n W hn
    obtain ⟨K, hK⟩ : ∃ K, K = lim n := ⟨_, rfl⟩
    rw [← hK] at hf hr
    have HP := Lib.hid hp; have HQ := Lib.hid hq; have HF := Lib.hid hf; have HR := Lib.hid hr
    clear hp hq hf hr hR hK
    go_enter Try.func8, Try.ntmps8
    go_wp2_with fail
    refine (HP.out _).mono ?_
    rintro e w1 ⟨⟨v1, rfl, n1⟩, hx1⟩
    obtain ⟨a1, c1, rfl⟩ := n1.shape
    have N1 := Lib.hid n1.rd; have X1 := Lib.hid hx1
    clear n1 hx1
    dsimp only at N1 ⊢
    go_wp2_with fail
    go_loopw [7, 8, 9, 10] (fun i _ _ _ wr => ∃ k : Nat, k ≤ 2 ∧ i = .int .i64 k ∧ Ext w1 wr) (fun i _ _ _ _ => 2 - (intOf i).toNat)
    case atStart => exact ⟨0, by omega, rfl, Ext.refl _⟩
    case round =>
      obtain ⟨k, hk, rfl, hx⟩ := hrel
      have X := Lib.hid hx
      clear hx
      by_cases hlt : k < 2
      · go_wp2_with fail
        refine (HF.out _).mono ?_
        rintro e w2 ⟨⟨v2, rfl, n2⟩, hx2⟩
        obtain ⟨a2, c2, rfl⟩ := n2.shape
        have K2 := Lib.hid (Kp.new n2); have X2 := Lib.hid hx2
        clear n2 hx2
        go_wp2_with fail
        refine (HQ.out _).mono ?_
        rintro e w3 ⟨⟨v3, rfl, n3⟩, hx3⟩
        obtain ⟨a3, c3, rfl⟩ := n3.shape
        have K3 := Lib.hid (Kp.new n3); have X3 := Lib.hid (X2.out.trans hx3); have K23 := Lib.hid (K2.out.ext hx3)
        have z23 := hx3.size
        clear n3 hx3
        dsimp only at K3 ⊢
        go_wp2_with fail
        refine (HR.out _).mono ?_
        rintro e w4 ⟨⟨v4, rfl, n4⟩, hx4⟩
        obtain ⟨a4, c4, rfl⟩ := n4.shape
        have N4 := Lib.hid n4.rd; have X4 := Lib.hid hx4
        clear n4 hx4
        go_wp2_with fail
        refine (equalSame_any _ _ K _ (K23.out.rd.ext X4.out) N4.out).mono ?_
        rintro e w5 ⟨rfl, hx5⟩
        have X5 := Lib.hid (X4.out.trans hx5)
        clear hx5
        go_wp2_with fail
        refine (equalSame_any _ _ L _ (K3.out.rd.ext X5.out) (N1.out.ext ((X.out.trans X3.out).trans X5.out))).mono ?_
        rintro e w6 ⟨rfl, hx6⟩
        have X6 := Lib.hid (X5.out.trans hx6)
        clear hx6
        go_wp2_with fail
        refine (overKp_any _ K _ _ _ (K23.out.ext X6.out)).mono ?_
        rintro e w7 ⟨rfl, hg7⟩
        have K7 := Lib.hid ((K3.out.ext X6.out).gr hg7 (.inl (Nat.le_refl _))); have X7 := Lib.hid (GrI.ext ((X3.out).trans X6.out) hg7 (Nat.le_refl _))
        clear hg7
        go_wp2_with fail
        refine (overKp_any _ L _ _ _ K7.out).mono ?_
        rintro e w8 ⟨rfl, hg8⟩
        have X8 := Lib.hid (GrI.ext X7.out hg8 X2.out.size)
        clear hg8
        go_wp2_with fail
        go_roundw
        case rel => exact ⟨k + 1, by omega, by go_num, X.out.trans X8.out⟩
        case measure => simp [intOf]; omega
      · have q : ¬ ((k : Int) < 2) := by omega
        go_wp2_with fail
        refine (awake_any _).mono ?_
        rintro e w2 ⟨rfl, hx2⟩
        have X2 := Lib.hid hx2
        clear hx2
        go_wp2_with fail
        go_ret
        exact ⟨rfl, (X1.out.trans X.out).trans X2.out⟩

end Go.Proofs.Ytebdmmlniohhgaa
