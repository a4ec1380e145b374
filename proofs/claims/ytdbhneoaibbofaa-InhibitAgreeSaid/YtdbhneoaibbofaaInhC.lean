/- Walks of Check, update and Update of layer 30. Conditions: none. -/
import Derived.Test.YtdbhneoaibbofaaInhA
import Derived.Test.YtdbhneoaibbofaaReg
import Derived.Laws.EntriesVeiled
namespace Go.Proofs.Ytdbhneoaibbofaa
set_option linter.unusedSimpArgs false
set_option linter.unusedVariables false
open Go.RowKit

abbrev fnV (n : Nat) : Value := .func (.func n) #[] #[]

set_option maxHeartbeats 400000 in
theorem parts_any (w : World) :
    Calls Try.prog 39 #[] w fun e w' => e = .returned (.agg #[fnV 44, fnV 45, fnV 46, fnV 47, fnV 48, fnV 49]) ∧ Ext w w' := by
  go_enter Try.func39, Try.ntmps39
  go_wp2
  refine bodyPost_ret ?_ rfl ⟨rfl, ?_⟩
  · (simp only [results, Try.results39]; go_simp)
  · (repeat (first | (with_reducible exact Ext.refl _) | (with_reducible assumption) | (with_reducible refine Ext.alloc ?_ _) | ((with_reducible refine Ext.setp ?_ ?_); focus (dsimp only; omega)) | (with_reducible refine Ext.drew ?_) | (with_reducible refine Ext.drewN ?_ _) | (with_reducible refine Ext.trans ?_ (by assumption))))

set_option maxHeartbeats 400000 in
theorem parts1_any (b : Nat) (w : World) : Calls Try.prog 44 #[.pointer (some ⟨b, 0, none⟩)] w fun e w' => e = .returned (.pointer (some ⟨b, 0, none⟩)) ∧ Ext w w' := by
  go_enter Try.func44, Try.ntmps44
  go_wp2
  go_ret
  exact ⟨rfl, Ext.refl _⟩

set_option maxHeartbeats 400000 in
theorem parts2_any (b : Nat) (w : World) : Calls Try.prog 45 #[.pointer (some ⟨b, 0, none⟩)] w fun e w' => e = .returned (.pointer (some ⟨b, 0, none⟩)) ∧ Ext w w' := by
  go_enter Try.func45, Try.ntmps45
  go_wp2
  go_ret
  exact ⟨rfl, Ext.refl _⟩

set_option maxHeartbeats 400000 in
theorem parts3_any (b : Nat) (w : World) : Calls Try.prog 46 #[.pointer (some ⟨b, 0, none⟩)] w fun e w' => e = .returned (.pointer (some ⟨b, 2, none⟩)) ∧ Ext w w' := by
  go_enter Try.func46, Try.ntmps46
  go_wp2
  go_ret
  exact ⟨rfl, Ext.refl _⟩

set_option maxHeartbeats 400000 in
theorem parts4_any (b : Nat) (w : World) : Calls Try.prog 47 #[.pointer (some ⟨b, 0, none⟩)] w fun e w' => e = .returned (.pointer (some ⟨b, 1, none⟩)) ∧ Ext w w' := by
  go_enter Try.func47, Try.ntmps47
  go_wp2
  go_ret
  exact ⟨rfl, Ext.refl _⟩

set_option maxHeartbeats 400000 in
theorem parts5_any (b : Nat) (w : World) : Calls Try.prog 48 #[.pointer (some ⟨b, 0, none⟩)] w fun e w' => e = .returned (.pointer (some ⟨b, 4, none⟩)) ∧ Ext w w' := by
  go_enter Try.func48, Try.ntmps48
  go_wp2
  go_ret
  exact ⟨rfl, Ext.refl _⟩

set_option maxHeartbeats 400000 in
theorem parts6_any (b : Nat) (w : World) : Calls Try.prog 49 #[.pointer (some ⟨b, 0, none⟩)] w fun e w' => e = .returned (.pointer (some ⟨b, 2, none⟩)) ∧ Ext w w' := by
  go_enter Try.func49, Try.ntmps49
  go_wp2
  go_ret
  exact ⟨rfl, Ext.refl _⟩

theorem part0 : ∀ w, (Instr.index 83 (.agg #[fnV 44, fnV 45, fnV 46, fnV 47, fnV 48, fnV 49]) (.int .i64 0)).run Try.prog w = .ok (.agg #[fnV 44, fnV 45]) w := fun _ => by kernel_rfl
theorem part1 : ∀ w, (Instr.index 83 (.agg #[fnV 44, fnV 45, fnV 46, fnV 47, fnV 48, fnV 49]) (.int .i64 1)).run Try.prog w = .ok (.agg #[fnV 46, fnV 47]) w := fun _ => by kernel_rfl
theorem part2 : ∀ w, (Instr.index 83 (.agg #[fnV 44, fnV 45, fnV 46, fnV 47, fnV 48, fnV 49]) (.int .i64 2)).run Try.prog w = .ok (.agg #[fnV 48, fnV 49]) w := fun _ => by kernel_rfl

end Go.Proofs.Ytdbhneoaibbofaa
