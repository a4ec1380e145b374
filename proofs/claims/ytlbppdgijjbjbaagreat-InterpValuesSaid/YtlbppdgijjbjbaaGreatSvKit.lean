/- Part of the proof of ivalL_holds: what the row needs of Kit. Conditions: as each theorem states. -/
import Derived.Test.YtlbppdgijjbjbaaGreatSvGA
import Derived.Test.YtlbppdgijjbjbaaGreatSvBoolS
namespace Go.Proofs.YtlbppdgijjbjbaaGreat
set_option linter.unusedSimpArgs false
set_option linter.unusedVariables false
open Go.RowKit
set_option maxHeartbeats 400000 in
theorem equalInts_any (v1 v2 : Value) (l1 l2 : List Int) (w : World) (h1 : RdI .i64 w v1 l1) (h2 : RdI .i64 w v2 l2) :
    Calls Tryz.prog 29 #[v1, v2] w fun e w' => e = .returned (.bool (decide (l1 = l2))) ∧ Ext w w' := by
  obtain ⟨a1, c1, rfl, hc1, hm1, hr1⟩ := h1.get
  obtain ⟨a2, c2, rfl, hc2, hm2, hr2⟩ := h2.get
  clear h1 h2
  by_cases hlen : l1.length = l2.length
  · have H1 := Lib.hid hr1; clear hr1
    have H2 := Lib.hid hr2; clear hr2
    rw [← hlen]
    rw [← hlen] at H2 hc2
    have HL := Lib.hid hlen; clear hlen
    go_enter Tryz.func29, Tryz.ntmps29
    go_wp2
    go_loopw [5] (fun i wr => ∃ k : Nat, k ≤ l1.length ∧ i = .int .i64 k ∧ l1.take k = l2.take k ∧ ∃ n, wr = w.drewN n)
      (fun i _ => l1.length - (intOf i).toNat)
    case atStart => exact ⟨0, Nat.zero_le _, rfl, rfl, 0, rfl⟩
    case round =>
      obtain ⟨k, hk, rfl, htake, n, rfl⟩ := hrel
      have HT := Lib.hid htake; clear htake
      by_cases hlt : k < l1.length
      · obtain ⟨b1, o1, rfl, hb1, hx1⟩ := H1.out k hlt
        obtain ⟨b2, o2, rfl, hb2, hx2⟩ := H2.out k hlt
        go_wp2_with fail
        go_quiet (fail)
        go_wp2
        · have hne : (l1[k] != l2[k]?.getD 0) = true := by assumption
          go_ret
          refine ⟨ret_bool ?_, ((Ext.refl w).drewN _).drewN _⟩
          rw [eq_comm, decide_eq_false_iff_not]
          rintro rfl
          simp [hlt] at hne
        · have he : (l1[k] != l2[k]?.getD 0) = false := by assumption
          have hlt2 : k < l2.length := HL.out ▸ hlt
          go_roundw
          case rel => exact ⟨k + 1, by omega, by go_num, take_succ_eq HT.out hlt hlt2 (by simpa [hlt2] using he), _, rfl⟩
          case measure => simp [intOf]; omega
      · go_wp2
        go_ret
        refine ⟨ret_bool ?_, (Ext.refl w).drewN _⟩
        have := HT.out
        rw [List.take_of_length_le (by omega), List.take_of_length_le (by have := HL.out; omega)] at this
        simp [this]
  · have hb : (l1.length != l2.length) = true := by simpa using hlen
    go_enter Tryz.func29, Tryz.ntmps29
    go_wp2
    go_ret
    refine ⟨ret_bool ?_, Ext.refl w⟩
    rw [eq_comm, decide_eq_false_iff_not]
    rintro rfl
    exact hlen rfl
theorem Tryz.infoInt : (Tryz.prog.info? 3).map (fun i => (i.zero, i.size, i.bytes)) = some (some (.int .i64 0), 1, 8) := by kernel_rfl
end Go.Proofs.YtlbppdgijjbjbaaGreat
