/- Walks below inhibit.Run: IndexFunc, ContainsFunc (with the check of a height), states. Conditions: the heights read as a slice of ints. -/
import Derived.Test.YtcmemdmfnflfiaaInhC
import Derived.Test.YtcmemdmfnflfiaaSpecR
import Derived.Test.YtcmemdmfnflfiaaGA
namespace Go.Proofs.Ytcmemdmfnflfiaa
set_option linter.unusedSimpArgs false
set_option linter.unusedVariables false
open Go.RowKit

theorem wrongC (z : Int) (W : World) : Calls Try.prog 40 #[.int .i64 z] W fun e w' => e = .returned (.bool (wrongB z)) ∧ Ext W w' := wrong30_any z W

set_option maxHeartbeats 1000000 in
theorem indexFunc30_any (v1 : Value) (l : List Int) (w : World) (h1 : RdI .i64 w v1 l) :
    Calls Try.prog 76 #[v1, fnV 40] w fun en w' => (∃ x : Int, en = .returned (.int .i64 x) ∧ decide (0 ≤ x) = l.any wrongB) ∧ Ext w w' := by
  obtain ⟨a1, c1, rfl, hc1, hm1, hr1⟩ := h1.get
  clear h1
  have H1 := Lib.hid hr1; clear hr1
  go_enter Try.func76, Try.ntmps76
  go_wp2
  go_loopw [8] (fun i wr => ∃ k : Nat, k ≤ l.length ∧ i = .int .i64 k ∧ (l.take k).any wrongB = false ∧ Ext w wr) (fun i _ => l.length - (intOf i).toNat)
  case atStart => exact ⟨0, Nat.zero_le _, rfl, rfl, Ext.refl w⟩
  case round =>
    obtain ⟨k, hk, rfl, hok, hext⟩ := hrel
    by_cases hlt : k < l.length
    · obtain ⟨b1, o1, rfl, hb1, hx1⟩ := H1.out k hlt
      have hx2 := (hext.cell (p := ⟨b1, o1 + k, none⟩) hb1).trans hx1
      clear hx1
      have hzr := hext.size
      have hbr : b1 < wr.heap.size := by omega
      have HE := Lib.hid hext; have HK := Lib.hid hok
      clear hext hok
      have q1 : (0 : Int) ≤ (k : Int) := by omega
      have q2 : (k : Int) < (l.length : Int) := by omega
      obtain ⟨zk, hzk⟩ : ∃ zk, zk = l[k] := ⟨_, rfl⟩
      have hx3 : wr.cell? ⟨b1, o1 + k, none⟩ = some (.int .i64 zk) := by rw [hx2, hzk]; simp [hlt]
      have HZ := Lib.hid hzk; clear hzk hx2
      rcases hw : wrongB zk with _ | _
      · have hcall := fun W => wrongC zk W
        rw [hw] at hcall
        have HC := Lib.hid hcall; clear hcall
        go_wp2_with fail
        refine (HC.out _).mono ?_
        rintro e w1 ⟨rfl, hx1⟩
        have hE := HE.out.trans hx1
        go_wp2
        go_roundw
        case rel => exact ⟨k + 1, by omega, by go_num, by rw [any_take hlt, HK.out, ← HZ.out, hw]; rfl, hE⟩
        case measure => simp [intOf]; omega
      · have hcall := fun W => wrongC zk W
        rw [hw] at hcall
        have HC := Lib.hid hcall; clear hcall
        go_wp2_with fail
        refine (HC.out _).mono ?_
        rintro e w1 ⟨rfl, hx1⟩
        have hE := HE.out.trans hx1
        go_wp2
        go_ret
        refine ⟨⟨_, rfl, ?_⟩, hE⟩
        rw [any_hit hlt (HZ.out ▸ hw)]
        simp
    · go_wp2
      go_ret
      rw [List.take_of_length_le (by omega)] at hok
      exact ⟨⟨_, rfl, by rw [hok]; rfl⟩, hext⟩

set_option maxHeartbeats 1000000 in
theorem containsFunc30_any (v1 : Value) (l : List Int) (w : World) (h1 : RdI .i64 w v1 l) :
    Calls Try.prog 42 #[v1, fnV 40] w fun en w' => en = .returned (.bool (l.any wrongB)) ∧ Ext w w' := by
  go_enter Try.func42, Try.ntmps42
  go_wp2_with (go_at_call 76; refine (indexFunc30_any v1 l w h1).mono ?_; rintro e w1 ⟨⟨x, rfl, hx⟩, hx1⟩; have HX := Lib.hid hx; clear hx)
  go_ret
  exact ⟨ret_bool HX.out, hx1⟩

set_option maxHeartbeats 1000000 in
theorem states_any (x1 x2 x3 x4 x5 x6 x7 : Value) (a : Option Addr) (n c : Nat) (w : World) :
    Calls Try.prog 43 #[.agg #[x1, x2, x3, x4, x5, x6, x7], .slice a n c] w fun en w' => en = .returned (.func (.func 77) #[] #[.pointer (some ⟨w.heap.size + 1, 0, none⟩), .pointer (some ⟨w.heap.size, 0, none⟩)]) ∧ w' = (w.alloc (.cells #[x1, x2, x3, x4, x5, x6, x7] 26)).alloc (.cells #[.slice a n c] 49) := by
  go_enter Try.func43, Try.ntmps43
  go_wp2
  go_ret
  exact ⟨rfl, rfl⟩

end Go.Proofs.Ytcmemdmfnflfiaa
