/- Part of the proof of mat6_holds: what the row needs of LawDots. Conditions: as each theorem states. -/
import Derived.Test.YtbnalhmcbolngaaGreatSmRatDt
import Derived.Test.YtbnalhmcbolngaaGreatSmRatSc
import Derived.Test.YtbnalhmcbolngaaGreatSmRatOv
import Derived.Test.YtbnalhmcbolngaaGreatSmGK
import Derived.Test.YtbnalhmcbolngaaGreatSmRatLs
namespace Go.Proofs.YtbnalhmcbolngaaGreat
set_option linter.unusedSimpArgs false
set_option linter.unusedVariables false
open Go.RowKit
theorem fitR_len (q : Rat) : (fitR q).1.num.length ≤ 128 ∧ (fitR q).1.den.length ≤ 128 := by
  unfold fitR
  by_cases h : small q
  · rw [if_pos h]; exact h
  · rw [if_neg h]; exact ⟨Nat.zero_le _, Nat.zero_le _⟩
end Go.Proofs.YtbnalhmcbolngaaGreat
