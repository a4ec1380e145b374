/- Part of the proof of nodL_holds: what the row needs of InhC. Conditions: as each theorem states. -/
import Derived.Test.YtbnalhmcbolngaaSnInhA
import Derived.Test.YtbnalhmcbolngaaSnGA
import Derived.Laws.EntriesVeiled
namespace Go.Proofs.Ytbnalhmcbolngaa
set_option linter.unusedSimpArgs false
set_option linter.unusedVariables false
open Go.RowKit
abbrev fnV (n : Nat) : Value := .func (.func n) #[] #[]
set_option maxHeartbeats 400000 in
theorem parts_any (w : World) :
    Calls Try.prog 91 #[] w fun e w' => e = .returned (.agg #[fnV 114, fnV 115, fnV 116, fnV 117, fnV 118, fnV 119]) ∧ Ext w w' := by
  go_enter Try.func91, Try.ntmps91
  go_wp2
  refine bodyPost_ret ?_ rfl ⟨rfl, ?_⟩
  · (simp only [results, Try.results91]; go_simp)
  · (repeat (first | (with_reducible exact Ext.refl _) | (with_reducible assumption) | (with_reducible refine Ext.alloc ?_ _) | ((with_reducible refine Ext.setp ?_ ?_); focus (dsimp only; omega)) | (with_reducible refine Ext.drew ?_) | (with_reducible refine Ext.drewN ?_ _) | (with_reducible refine Ext.trans ?_ (by assumption))))
set_option maxHeartbeats 400000 in
theorem parts1_any (b : Nat) (w : World) : Calls Try.prog 114 #[.pointer (some ⟨b, 0, none⟩)] w fun e w' => e = .returned (.pointer (some ⟨b, 0, none⟩)) ∧ Ext w w' := by
  go_enter Try.func114, Try.ntmps114
  go_wp2
  go_ret
  exact ⟨rfl, Ext.refl _⟩
set_option maxHeartbeats 400000 in
theorem parts2_any (b : Nat) (w : World) : Calls Try.prog 115 #[.pointer (some ⟨b, 0, none⟩)] w fun e w' => e = .returned (.pointer (some ⟨b, 0, none⟩)) ∧ Ext w w' := by
  go_enter Try.func115, Try.ntmps115
  go_wp2
  go_ret
  exact ⟨rfl, Ext.refl _⟩
set_option maxHeartbeats 400000 in
theorem parts3_any (b : Nat) (w : World) : Calls Try.prog 116 #[.pointer (some ⟨b, 0, none⟩)] w fun e w' => e = .returned (.pointer (some ⟨b, 2, none⟩)) ∧ Ext w w' := by
  go_enter Try.func116, Try.ntmps116
  go_wp2
  go_ret
  exact ⟨rfl, Ext.refl _⟩
set_option maxHeartbeats 400000 in
theorem parts4_any (b : Nat) (w : World) : Calls Try.prog 117 #[.pointer (some ⟨b, 0, none⟩)] w fun e w' => e = .returned (.pointer (some ⟨b, 1, none⟩)) ∧ Ext w w' := by
  go_enter Try.func117, Try.ntmps117
  go_wp2
  go_ret
  exact ⟨rfl, Ext.refl _⟩
set_option maxHeartbeats 400000 in
theorem parts5_any (b : Nat) (w : World) : Calls Try.prog 118 #[.pointer (some ⟨b, 0, none⟩)] w fun e w' => e = .returned (.pointer (some ⟨b, 4, none⟩)) ∧ Ext w w' := by
  go_enter Try.func118, Try.ntmps118
  go_wp2
  go_ret
  exact ⟨rfl, Ext.refl _⟩
set_option maxHeartbeats 400000 in
theorem parts6_any (b : Nat) (w : World) : Calls Try.prog 119 #[.pointer (some ⟨b, 0, none⟩)] w fun e w' => e = .returned (.pointer (some ⟨b, 2, none⟩)) ∧ Ext w w' := by
  go_enter Try.func119, Try.ntmps119
  go_wp2
  go_ret
  exact ⟨rfl, Ext.refl _⟩
theorem part0 : ∀ w, (Instr.index 172 (.agg #[fnV 114, fnV 115, fnV 116, fnV 117, fnV 118, fnV 119]) (.int .i64 0)).run Try.prog w = .ok (.agg #[fnV 114, fnV 115]) w := fun _ => by kernel_rfl
theorem part1 : ∀ w, (Instr.index 172 (.agg #[fnV 114, fnV 115, fnV 116, fnV 117, fnV 118, fnV 119]) (.int .i64 1)).run Try.prog w = .ok (.agg #[fnV 116, fnV 117]) w := fun _ => by kernel_rfl
theorem part2 : ∀ w, (Instr.index 172 (.agg #[fnV 114, fnV 115, fnV 116, fnV 117, fnV 118, fnV 119]) (.int .i64 2)).run Try.prog w = .ok (.agg #[fnV 118, fnV 119]) w := fun _ => by kernel_rfl
end Go.Proofs.Ytbnalhmcbolngaa
