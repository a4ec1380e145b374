/- Walks of Check, update and Update of layer 30. Conditions: none. -/
import Derived.Test.YtcmemdmfnflfiaaInhA
import Derived.Test.YtcmemdmfnflfiaaGA
import Derived.Laws.EntriesVeiled
namespace Go.Proofs.Ytcmemdmfnflfiaa
set_option linter.unusedSimpArgs false
set_option linter.unusedVariables false
open Go.RowKit

abbrev fnV (n : Nat) : Value := .func (.func n) #[] #[]

set_option maxHeartbeats 400000 in
theorem parts_any (w : World) :
    Calls Try.prog 44 #[] w fun e w' => e = .returned (.agg #[fnV 78, fnV 79, fnV 80, fnV 81, fnV 82, fnV 83]) ∧ Ext w w' := by
  go_enter Try.func44, Try.ntmps44
  go_wp2
  refine bodyPost_ret ?_ rfl ⟨rfl, ?_⟩
  · (simp only [results, Try.results44]; go_simp)
  · (repeat (first | (with_reducible exact Ext.refl _) | (with_reducible assumption) | (with_reducible refine Ext.alloc ?_ _) | ((with_reducible refine Ext.setp ?_ ?_); focus (dsimp only; omega)) | (with_reducible refine Ext.drew ?_) | (with_reducible refine Ext.drewN ?_ _) | (with_reducible refine Ext.trans ?_ (by assumption))))

set_option maxHeartbeats 400000 in
theorem parts1_any (b : Nat) (w : World) : Calls Try.prog 78 #[.pointer (some ⟨b, 0, none⟩)] w fun e w' => e = .returned (.pointer (some ⟨b, 0, none⟩)) ∧ Ext w w' := by
  go_enter Try.func78, Try.ntmps78
  go_wp2
  go_ret
  exact ⟨rfl, Ext.refl _⟩

set_option maxHeartbeats 400000 in
theorem parts2_any (b : Nat) (w : World) : Calls Try.prog 79 #[.pointer (some ⟨b, 0, none⟩)] w fun e w' => e = .returned (.pointer (some ⟨b, 0, none⟩)) ∧ Ext w w' := by
  go_enter Try.func79, Try.ntmps79
  go_wp2
  go_ret
  exact ⟨rfl, Ext.refl _⟩

set_option maxHeartbeats 400000 in
theorem parts3_any (b : Nat) (w : World) : Calls Try.prog 80 #[.pointer (some ⟨b, 0, none⟩)] w fun e w' => e = .returned (.pointer (some ⟨b, 2, none⟩)) ∧ Ext w w' := by
  go_enter Try.func80, Try.ntmps80
  go_wp2
  go_ret
  exact ⟨rfl, Ext.refl _⟩

set_option maxHeartbeats 400000 in
theorem parts4_any (b : Nat) (w : World) : Calls Try.prog 81 #[.pointer (some ⟨b, 0, none⟩)] w fun e w' => e = .returned (.pointer (some ⟨b, 1, none⟩)) ∧ Ext w w' := by
  go_enter Try.func81, Try.ntmps81
  go_wp2
  go_ret
  exact ⟨rfl, Ext.refl _⟩

set_option maxHeartbeats 400000 in
theorem parts5_any (b : Nat) (w : World) : Calls Try.prog 82 #[.pointer (some ⟨b, 0, none⟩)] w fun e w' => e = .returned (.pointer (some ⟨b, 4, none⟩)) ∧ Ext w w' := by
  go_enter Try.func82, Try.ntmps82
  go_wp2
  go_ret
  exact ⟨rfl, Ext.refl _⟩

set_option maxHeartbeats 400000 in
theorem parts6_any (b : Nat) (w : World) : Calls Try.prog 83 #[.pointer (some ⟨b, 0, none⟩)] w fun e w' => e = .returned (.pointer (some ⟨b, 2, none⟩)) ∧ Ext w w' := by
  go_enter Try.func83, Try.ntmps83
  go_wp2
  go_ret
  exact ⟨rfl, Ext.refl _⟩

theorem part0 : ∀ w, (Instr.index 116 (.agg #[fnV 78, fnV 79, fnV 80, fnV 81, fnV 82, fnV 83]) (.int .i64 0)).run Try.prog w = .ok (.agg #[fnV 78, fnV 79]) w := fun _ => by kernel_rfl
theorem part1 : ∀ w, (Instr.index 116 (.agg #[fnV 78, fnV 79, fnV 80, fnV 81, fnV 82, fnV 83]) (.int .i64 1)).run Try.prog w = .ok (.agg #[fnV 80, fnV 81]) w := fun _ => by kernel_rfl
theorem part2 : ∀ w, (Instr.index 116 (.agg #[fnV 78, fnV 79, fnV 80, fnV 81, fnV 82, fnV 83]) (.int .i64 2)).run Try.prog w = .ok (.agg #[fnV 82, fnV 83]) w := fun _ => by kernel_rfl

end Go.Proofs.Ytcmemdmfnflfiaa
