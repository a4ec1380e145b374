/- Walk of the reference's Bits of layer 5. Conditions: a slice of limbs. -/
import Derived.Test.YtebdmmlniohhgaaGF
import Derived.Test.YtebdmmlniohhgaaGC
namespace Go.Proofs.Ytebdmmlniohhgaa
set_option linter.unusedSimpArgs false
set_option linter.unusedVariables false
open Go.RowKit

set_option maxHeartbeats 1000000 in
theorem refBits_any (v : Value) (l : List Int) (w : World) (h : RdI .u32 w v l) (hl : Lim l) :
    Calls Try.prog 43 #[v] w fun e w' => e = .returned (.tuple #[.int .i64 (bitsS l).1, .int .i64 (bitsS l).2]) ∧ Ext w w' := by
  have H := Lib.hid h; have HL := Lib.hid hl
  obtain ⟨a, ca, rfl, hca, hma, hra⟩ := rdU h
  have HA := Lib.hid hra
  clear h hl hra
  by_cases hc : chkE l = 0
  · have HC := Lib.hid hc
    obtain ⟨g, z⟩ := chkE_0 hc
    by_cases h0 : l.length = 0
    · obtain rfl : l = [] := List.length_eq_zero_iff.1 h0
      have E1 := Lib.hid (show bitsS [] = (0, 0) by unfold bitsS; rw [if_pos hc]; rfl)
      clear hc z h0
      go_enter Try.func43, Try.ntmps43
      go_wp2_with fail
      refine (refCheck1_any _ [] _ H.out).mono ?_
      rintro e w1 ⟨rfl, hx1⟩
      rw [HC.out]
      have X1 := Lib.hid hx1; clear hx1
      go_wp2_with fail
      go_ret2
      exact ⟨by rw [E1.out]; first | rfl | exact ⟨rfl, rfl⟩ | simp, X1.out⟩
    · have hbl := blen_nv HL.out z (by omega)
      have hyl := getD_lim HL.out (l.length - 1)
      obtain ⟨y, hy⟩ : ∃ y, y = l.getD (l.length - 1) 0 := ⟨_, rfl⟩
      obtain ⟨b, off, rfl, hb, hcell⟩ := HA.out (l.length - 1) (by omega)
      rw [← hy] at hcell hyl hbl
      have E1 := Lib.hid (show bitsS l = ((blen (nv l) : Int), 0) by unfold bitsS; rw [if_pos hc])
      have HB := Lib.hid hbl
      have hq : ((l.length : Int) == 0) = false := by simp; intro h; subst h; simp at h0
      obtain ⟨m, hm⟩ : ∃ m, m = l.length - 1 := ⟨_, rfl⟩
      have hlm : (l.length : Int) - 1 = (m : Int) := by omega
      rw [← hm] at hcell
      have hm1 : m < l.length := by omega
      have q3 : (0 : Int) ≤ (m : Int) := by omega
      have q4 : (m : Int) < (l.length : Int) := by omega
      have HCE := Lib.hid hcell; have HLM := Lib.hid hlm; have HM := Lib.hid hm
      clear hc z hbl hy h0 hcell hm
      go_enter Try.func43, Try.ntmps43
      go_wp2_with fail
      refine (refCheck1_any _ l _ H.out).mono ?_
      rintro e w1 ⟨rfl, hx1⟩
      rw [HC.out]
      have hcell2 := (hx1.cell (p := ⟨b, off + m, none⟩) hb).trans HCE.out
      have X1 := Lib.hid hx1; clear hx1
      go_wp2_with fail
      go_loopw [5, 6] (fun n i wr => ∃ x : Nat, x < 4294967296 ∧ i = .int .u32 x ∧ n = .int .i64 ((32 * (l.length - 1) + blen y.toNat - blen x : Nat) : Int) ∧ blen x ≤ blen y.toNat ∧ wr = w1) (fun _ i _ => (intOf i).toNat)
      case atStart =>
        exact ⟨y.toNat, by omega, by first | rfl | (congr 1; omega), by congr 1; omega, Nat.le_refl _, by first | rfl | trivial⟩
      case round =>
        obtain ⟨x, hx, rfl, rfl, hle, rfl⟩ := hrel
        by_cases hx0 : x = 0
        · subst hx0
          have e0 : 32 * (l.length - 1) + blen y.toNat - blen 0 = blen (nv l) := by rw [HB.out]; rfl
          rw [e0]
          obtain ⟨q, hq⟩ : ∃ q : Int, q = ((blen (nv l) : Nat) : Int) := ⟨_, rfl⟩
          have E2 : bitsS l = (q, 0) := by rw [E1.out, hq]
          rw [← hq]
          have E3 := Lib.hid E2
          clear E2 hq e0
          go_wp2
          go_ret2
          exact ⟨by rw [E3.out]; first | rfl | exact ⟨rfl, rfl⟩ | simp, X1.out⟩
        · have q5 : (0 : Int) < (x : Int) := by omega
          have hbx := blen_half hx0
          have h5 : blen y.toNat ≤ 32 := blen_le.2 (by omega)
          obtain ⟨q, hq⟩ : ∃ q : Int, q = ((32 * (l.length - 1) + blen y.toNat - blen x : Nat) : Int) := ⟨_, rfl⟩
          have hq2 : q + 1 = ((32 * (l.length - 1) + blen y.toNat - blen (x / 2) : Nat) : Int) := by omega
          have hq3 : 0 ≤ q ∧ q < 100000 := by omega
          rw [← hq]
          have HQ := Lib.hid hq2
          have hle2 : blen (x / 2) ≤ blen y.toNat := by omega
          have HLE := Lib.hid hle2
          clear hq hq2 hbx h5 hle hle2
          go_wp2
          go_roundw
          case rel => exact ⟨x / 2, by omega, by first | rfl | (congr 1), by rw [← HQ.out], HLE.out, by first | rfl | trivial⟩
          case measure => simp [intOf] <;> omega
  · have e1 : bitsS l = (0, chkE l) := by unfold bitsS; rw [if_neg hc]
    have hk := fun W h => refCheck1_any (.slice a l.length ca) l W h
    obtain ⟨c, hcc⟩ : ∃ c, c = chkE l := ⟨_, rfl⟩
    rw [← hcc] at hc e1 hk
    have hcb : (c != 0) = true := by simpa using hc
    have HK := Lib.hid hk; have E1 := Lib.hid e1
    clear hc hcc hk e1
    go_enter Try.func43, Try.ntmps43
    go_wp2_with fail
    refine (HK.out _ H.out).mono ?_
    rintro e w1 ⟨rfl, hx1⟩
    have X1 := Lib.hid hx1; clear hx1
    go_wp2_with fail
    go_ret2
    exact ⟨by rw [E1.out]; first | rfl | exact ⟨rfl, rfl⟩ | simp, X1.out⟩

end Go.Proofs.Ytebdmmlniohhgaa
