/- Part of the proof of mat6_holds: what the row needs of RefF. Conditions: as each theorem states. -/
import Derived.Test.YtbnalhmcbolngaaGreatSmGF
import Derived.Test.YtbnalhmcbolngaaGreatSmGC
namespace Go.Proofs.YtbnalhmcbolngaaGreat
set_option linter.unusedSimpArgs false
set_option linter.unusedVariables false
open Go.RowKit
set_option maxHeartbeats 1000000 in
theorem refInt_any (v : Value) (l : List Int) (w : World) (h : RdI .u32 w v l) (hl : Lim l) :
    Calls Tryz.prog 121 #[v] w fun e w' => e = .returned (.tuple #[.int .u64 (intS l).1, .int .i64 (intS l).2]) ∧ Ext w w' := by
  have H := Lib.hid h; have HL := Lib.hid hl
  obtain ⟨a, ca, rfl, hca, hma, hra⟩ := rdU h
  have HA := Lib.hid hra
  clear h hl hra
  by_cases hc : chkE l = 0
  · have HC := Lib.hid hc
    by_cases h2 : 2 < l.length
    · have E1 := Lib.hid (show intS l = (0, 7) by unfold intS; rw [if_pos hc, if_pos h2])
      have q1 : (2 : Int) < (l.length : Int) := by omega
      clear hc
      go_enter Tryz.func121, Tryz.ntmps121
      go_wp2_with fail
      refine (refCheck1_any _ l _ H.out).mono ?_
      rintro e w1 ⟨rfl, hx1⟩
      rw [HC.out]
      have X1 := Lib.hid hx1; clear hx1
      go_wp2_with fail
      go_ret2
      exact ⟨by rw [E1.out]; first | rfl | exact ⟨rfl, rfl⟩ | simp, X1.out⟩
    · have E1 := Lib.hid (show intS l = ((nv l : Int), 0) by unfold intS; rw [if_pos hc, if_neg h2])
      have q1 : ¬ (2 : Int) < (l.length : Int) := by omega
      clear hc
      go_enter Tryz.func121, Tryz.ntmps121
      go_wp2_with fail
      refine (refCheck1_any _ l _ H.out).mono ?_
      rintro e w1 ⟨rfl, hx1⟩
      rw [HC.out]
      have X1 := Lib.hid hx1; clear hx1
      go_wp2_with fail
      go_loopw [5, 6] (fun n i wr => ∃ k : Nat, k ≤ l.length ∧ i = .int .i64 ((k : Int) - 1) ∧ n = .int .u64 (nv (l.drop k)) ∧ wr = w1) (fun _ i _ => (intOf i + 1).toNat)
      case atStart => exact ⟨l.length, Nat.le_refl _, by first | rfl | go_num, by rw [List.drop_length]; rfl, rfl⟩
      case round =>
        obtain ⟨k, hk, rfl, rfl, rfl⟩ := hrel
        by_cases h0 : k = 0
        · subst h0
          rw [List.drop_zero]
          go_wp2
          go_ret2
          exact ⟨by rw [E1.out]; first | rfl | exact ⟨rfl, rfl⟩ | simp, X1.out⟩
        · obtain ⟨j, rfl⟩ : ∃ j, k = j + 1 := ⟨k - 1, by omega⟩
          have hnd := nv_drop_succ l j (by omega)
          have hyl := getD_lim HL.out j
          obtain ⟨b, off, rfl, hb, hcell⟩ := HA.out j (by omega)
          have hcell2 := (X1.out.cell (p := ⟨b, off + j, none⟩) hb).trans hcell
          obtain ⟨y, hy⟩ : ∃ y, y = l.getD j 0 := ⟨_, rfl⟩
          rw [← hy] at hcell2 hyl hnd
          have hr : nv (l.drop (j + 1)) < 4294967296 := by
            have e1 := nv_lt (lim_drop HL.out (j + 1))
            have e2 : (l.drop (j + 1)).length ≤ 1 := by rw [List.length_drop]; omega
            have e3 := pow_le e2
            rw [Nat.pow_one] at e3
            omega
          obtain ⟨r, hrr⟩ : ∃ r : Int, r = ((nv (l.drop (j + 1)) : Nat) : Int) := ⟨_, rfl⟩
          have hres : (4294967296 * r + y : Int) = ((nv (l.drop j) : Nat) : Int) := by rw [hnd]; omega
          have hr0 : 0 ≤ r ∧ r < 4294967296 := by omega
          have q2 : ((j + 1 : Nat) : Int) - 1 = (j : Int) := by omega
          rw [← hrr, q2]
          have q3 : (0 : Int) ≤ (j : Int) := by omega
          have q4 : (j : Int) < (l.length : Int) := by omega
          have HRES := Lib.hid hres
          clear hnd hcell hy hr hrr hres q2
          go_wp2
          go_roundw
          case rel => exact ⟨j, by omega, by go_num, by rw [← HRES.out], by first | rfl | trivial⟩
          case measure => simp [intOf] <;> omega
  · have e1 : intS l = (0, chkE l) := by unfold intS; rw [if_neg hc]
    have hk := fun W h => refCheck1_any (.slice a l.length ca) l W h
    obtain ⟨c, hcc⟩ : ∃ c, c = chkE l := ⟨_, rfl⟩
    rw [← hcc] at hc e1 hk
    have hcb : (c != 0) = true := by simpa using hc
    have HK := Lib.hid hk; have E1 := Lib.hid e1
    clear hc hcc hk e1
    go_enter Tryz.func121, Tryz.ntmps121
    go_wp2_with fail
    refine (HK.out _ H.out).mono ?_
    rintro e w1 ⟨rfl, hx1⟩
    have X1 := Lib.hid hx1; clear hx1
    go_wp2_with fail
    go_ret2
    exact ⟨by rw [E1.out]; first | rfl | exact ⟨rfl, rfl⟩ | simp, X1.out⟩
end Go.Proofs.YtbnalhmcbolngaaGreat
