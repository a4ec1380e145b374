/- The plain law of first and Choose. No program in sight. -/
import Derived.Test.YtcmemdmfnflfiaaAdvP
import Derived.Test.YtcmemdmfnflfiaaBestF
namespace Go.Proofs.Ytcmemdmfnflfiaa
set_option linter.unusedSimpArgs false
set_option linter.unusedVariables false
open Go.RowKit

/-- The law of Choose's number. -/
theorem bestC_law {costs : List RR} {mask may : List Bool} (hok : okRs costs costs.length) {b : Nat} (h : bestC costs mask may = some b) :
    b < costs.length ∧ mask.getD b false = true ∧ ∀ i, i < costs.length → mask.getD i false = true → may.getD i false = true →
      may.getD b false = true ∧ ¬ (cmpR (costs.getD i zR) (costs.getD b zR)).1 < 0 ∧ ((cmpR (costs.getD i zR) (costs.getD b zR)).1 = 0 → b ≤ i) ∧ (cmpR (costs.getD i zR) (costs.getD b zR)).2 = 0 := by
  have h2 := bestF_pick hok (mskF [mask, may]) 2 costs.length (Nat.le_refl _)
  have h1 := bestF_pick hok (mskF [mask]) 1 costs.length (Nat.le_refl _)
  unfold bestC pickL at h
  rw [show [mask, may].length = 2 from rfl, show [mask].length = 1 from rfl] at h
  rcases hb : bestF costs (pick (mskF [mask, may]) 2 costs.length) with _ | j
  · rw [hb] at h h2
    rw [if_neg (by decide)] at h
    rw [h] at h1
    obtain ⟨a1, a2, _⟩ := h1
    rw [allow_one] at a2
    refine ⟨a1, a2, fun i hi e1 e2 => ?_⟩
    have := h2 i hi
    rw [allow_two, e1, e2] at this
    cases this
  · rw [hb] at h h2
    rw [if_pos (by rfl)] at h
    injection h with h
    subst h
    obtain ⟨a1, a2, a3⟩ := h2
    rw [allow_two, Bool.and_eq_true] at a2
    refine ⟨a1, a2.1, fun i hi e1 e2 => ?_⟩
    have h4 := a3 i hi (by rw [allow_two, e1, e2]; rfl)
    rw [cmpR_val (hok i hi) (hok j a1)]
    exact ⟨a2.2, fun h5 => absurd (cmpQ_lt0.1 h5) (Rat.not_lt.2 h4.1), fun h5 => h4.2 (cmpQ_at0 h5), rfl⟩
/-- The cases of Choose. -/
theorem chooseS_law {l : List Bnd} {now age rev : Int} {costs : List RR} {mask : List Bool} {lr lh : Int} :
    ((chooseS l now age rev costs mask lr lh).2.2 ≠ 0 ∧ ∃ x, chooseS l now age rev costs mask lr lh = ((0, 0, zR), (0, 0, 0), x)) ∨
    ((allowS l now age rev lr lh).2 = 0 ∧ costs.length = l.length ∧ mask.length = l.length ∧ chkRs costs = 0 ∧ ∃ b : Nat, bestC costs mask (allowS l now age rev lr lh).1 = some b ∧
      chooseS l now age rev costs mask lr lh = (((b : Int), chg l now.toNat b, costs.getD b zR), nextV (chg l now.toNat b) age rev (b : Nat), 0)) := by
  by_cases h1 : (allowS l now age rev lr lh).2 = 0
  · by_cases h2 : costs.length = l.length
    · by_cases h3 : mask.length = l.length
      · by_cases h4 : chkRs costs = 0
        · rcases h5 : bestC costs mask (allowS l now age rev lr lh).1 with _ | b
          · exact .inl ⟨by rw [chooseS_4 h1 h2 h3 h4 h5]; decide, _, chooseS_4 h1 h2 h3 h4 h5⟩
          · exact .inr ⟨h1, h2, h3, h4, b, rfl, chooseS_5 h1 h2 h3 h4 h5⟩
        · exact .inl ⟨by rw [chooseS_3 h1 h2 h3 h4]; exact h4, _, chooseS_3 h1 h2 h3 h4⟩
      · exact .inl ⟨by rw [chooseS_2 h1 (.inr h3)]; decide, _, chooseS_2 h1 (.inr h3)⟩
    · exact .inl ⟨by rw [chooseS_2 h1 (.inl h2)]; decide, _, chooseS_2 h1 (.inl h2)⟩
  · exact .inl ⟨by rw [chooseS_1 h1]; exact h1, _, chooseS_1 h1⟩

end Go.Proofs.Ytcmemdmfnflfiaa
