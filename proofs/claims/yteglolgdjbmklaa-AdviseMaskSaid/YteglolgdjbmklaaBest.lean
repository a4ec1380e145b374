/- The plain law of first and Choose. No program in sight. -/
import Derived.Test.YteglolgdjbmklaaAdvP
namespace Go.Proofs.Yteglolgdjbmklaa
set_option linter.unusedSimpArgs false
set_option linter.unusedVariables false
open Go.RowKit

theorem cmpR_val {a b : RR} (ha : chkR a = 0) (hb : chkR b = 0) : cmpR a b = (cmpQ (qv a) (qv b), 0) := if_pos (chkR2_ok ha hb)
theorem cmpQ_lt0 {x y : Rat} : cmpQ x y < 0 ↔ x < y := by
  unfold cmpQ
  by_cases h : x < y
  · rw [if_pos h]; exact ⟨fun _ => h, fun _ => by decide⟩
  · rw [if_neg h]
    by_cases h2 : x = y
    · rw [if_pos h2]; exact ⟨fun h => absurd h (by decide), fun h3 => absurd h3 h⟩
    · rw [if_neg h2]; exact ⟨fun h => absurd h (by decide), fun h3 => absurd h3 h⟩
theorem cmpQ_at0 {x y : Rat} (h : cmpQ x y = 0) : x = y := by
  unfold cmpQ at h
  by_cases h1 : x < y
  · rw [if_pos h1] at h; cases h
  · rw [if_neg h1] at h
    by_cases h2 : x = y
    · exact h2
    · rw [if_neg h2] at h; cases h
theorem ltR_ok {a b : RR} (ha : chkR a = 0) (hb : chkR b = 0) : ltR a b = decide (qv a < qv b) := by
  unfold ltR; rw [cmpR_val ha hb]; exact decide_eq_decide.2 cmpQ_lt0

/-- What first finds among the first n numbers. -/
def BestI (costs : List RR) (p : Nat → Bool) (n : Nat) : Option Nat → Prop
  | none => ∀ i, i < n → p i = false
  | some j => j < n ∧ p j = true ∧ ∀ i, i < n → p i = true → qv (costs.getD j zR) ≤ qv (costs.getD i zR) ∧ (qv (costs.getD i zR) = qv (costs.getD j zR) → j ≤ i)
theorem bestF_pick {costs : List RR} (hok : okRs costs costs.length) (ms : Nat → Nat → Bool) (M : Nat) : ∀ n, n ≤ costs.length → BestI costs (allow ms M) n (bestF costs (pick ms M n))
  | 0, _ => fun i hi => by cases hi
  | n + 1, hn => by
    have ih := bestF_pick hok ms M n (by omega)
    rcases hp : allow ms M n with _ | _
    · rw [pick_no hp]
      rcases hb : bestF costs (pick ms M n) with _ | j
      · rw [hb] at ih
        intro i hi
        by_cases e : i = n
        · rw [e]; exact hp
        · exact ih i (by omega)
      · rw [hb] at ih
        obtain ⟨h1, h2, h3⟩ := ih
        refine ⟨by omega, h2, fun i hi h => ?_⟩
        by_cases e : i = n
        · rw [e, hp] at h; cases h
        · exact h3 i (by omega) h
    · rw [pick_yes hp, bestF_snoc]
      rcases hb : bestF costs (pick ms M n) with _ | j
      · rw [hb] at ih
        refine ⟨by omega, hp, fun i hi h => ?_⟩
        by_cases e : i = n
        · rw [e]; exact ⟨Rat.le_refl, fun _ => Nat.le_refl _⟩
        · rw [ih i (by omega)] at h; cases h
      · rw [hb] at ih
        obtain ⟨h1, h2, h3⟩ := ih
        show BestI costs (allow ms M) (n + 1) (if ltR (costs.getD n zR) (costs.getD j zR) = true then some n else some j)
        rw [ltR_ok (hok n (by omega)) (hok j (by omega))]
        by_cases hl : qv (costs.getD n zR) < qv (costs.getD j zR)
        · rw [if_pos (decide_eq_true hl)]
          refine ⟨by omega, hp, fun i hi h => ?_⟩
          by_cases e : i = n
          · rw [e]; exact ⟨Rat.le_refl, fun _ => Nat.le_refl _⟩
          · have h4 := h3 i (by omega) h
            refine ⟨Rat.le_trans (Rat.le_of_lt hl) h4.1, fun h5 => ?_⟩
            rw [h5] at h4
            exact absurd hl (Rat.not_lt.2 h4.1)
        · rw [if_neg (by simpa using hl)]
          refine ⟨by omega, h2, fun i hi h => ?_⟩
          by_cases e : i = n
          · rw [e]; exact ⟨Rat.not_lt.1 hl, fun _ => by omega⟩
          · exact h3 i (by omega) h
theorem allow_one {m : List Bool} {i : Nat} : allow (mskF [m]) 1 i = m.getD i false := by
  show ((List.range 1).all fun j => mskF [m] j i) = _
  rw [List.range_succ, List.all_append]; simp [mskF]
theorem allow_two {m q : List Bool} {i : Nat} : allow (mskF [m, q]) 2 i = (m.getD i false && q.getD i false) := by
  show ((List.range 2).all fun j => mskF [m, q] j i) = _
  rw [List.range_succ, List.all_append, List.range_succ, List.all_append]; simp [mskF]
/-- The law of Choose's number. -/
theorem bestC_law {costs : List RR} {mask may : List Bool} (hok : okRs costs costs.length) {b : Nat} (h : bestC costs mask may = some b) :
    b < costs.length ∧ mask.getD b false = true ∧ ∀ i, i < costs.length → mask.getD i false = true → may.getD i false = true →
      may.getD b false = true ∧ ¬ (cmpR (costs.getD i zR) (costs.getD b zR)).1 < 0 ∧ ((cmpR (costs.getD i zR) (costs.getD b zR)).1 = 0 → b ≤ i) ∧ (cmpR (costs.getD i zR) (costs.getD b zR)).2 = 0 := by
  have h2 := bestF_pick hok (mskF [mask, may]) 2 costs.length (Nat.le_refl _)
  have h1 := bestF_pick hok (mskF [mask]) 1 costs.length (Nat.le_refl _)
  unfold bestC pickL at h
  rw [show [mask, may].length = 2 from rfl, show [mask].length = 1 from rfl] at h
  rcases hb : bestF costs (pick (mskF [mask, may]) 2 costs.length) with _ | j
  · rw [hb] at h h2
    rw [if_neg (by decide)] at h
    rw [h] at h1
    obtain ⟨a1, a2, _⟩ := h1
    rw [allow_one] at a2
    refine ⟨a1, a2, fun i hi e1 e2 => ?_⟩
    have := h2 i hi
    rw [allow_two, e1, e2] at this
    cases this
  · rw [hb] at h h2
    rw [if_pos (by rfl)] at h
    injection h with h
    subst h
    obtain ⟨a1, a2, a3⟩ := h2
    rw [allow_two, Bool.and_eq_true] at a2
    refine ⟨a1, a2.1, fun i hi e1 e2 => ?_⟩
    have h4 := a3 i hi (by rw [allow_two, e1, e2]; rfl)
    rw [cmpR_val (hok i hi) (hok j a1)]
    exact ⟨a2.2, fun h5 => absurd (cmpQ_lt0.1 h5) (Rat.not_lt.2 h4.1), fun h5 => h4.2 (cmpQ_at0 h5), rfl⟩
/-- The cases of Choose. -/
theorem chooseS_law {l : List Bnd} {now age rev : Int} {costs : List RR} {mask : List Bool} {lr lh : Int} :
    ((chooseS l now age rev costs mask lr lh).2.2 ≠ 0 ∧ ∃ x, chooseS l now age rev costs mask lr lh = ((0, 0, zR), (0, 0, 0), x)) ∨
    ((allowS l now age rev lr lh).2 = 0 ∧ costs.length = l.length ∧ mask.length = l.length ∧ chkRs costs = 0 ∧ ∃ b : Nat, bestC costs mask (allowS l now age rev lr lh).1 = some b ∧
      chooseS l now age rev costs mask lr lh = (((b : Int), chg l now.toNat b, costs.getD b zR), nextV (chg l now.toNat b) age rev (b : Nat), 0)) := by
  by_cases h1 : (allowS l now age rev lr lh).2 = 0
  · by_cases h2 : costs.length = l.length
    · by_cases h3 : mask.length = l.length
      · by_cases h4 : chkRs costs = 0
        · rcases h5 : bestC costs mask (allowS l now age rev lr lh).1 with _ | b
          · exact .inl ⟨by rw [chooseS_4 h1 h2 h3 h4 h5]; decide, _, chooseS_4 h1 h2 h3 h4 h5⟩
          · exact .inr ⟨h1, h2, h3, h4, b, rfl, chooseS_5 h1 h2 h3 h4 h5⟩
        · exact .inl ⟨by rw [chooseS_3 h1 h2 h3 h4]; exact h4, _, chooseS_3 h1 h2 h3 h4⟩
      · exact .inl ⟨by rw [chooseS_2 h1 (.inr h3)]; decide, _, chooseS_2 h1 (.inr h3)⟩
    · exact .inl ⟨by rw [chooseS_2 h1 (.inl h2)]; decide, _, chooseS_2 h1 (.inl h2)⟩
  · exact .inl ⟨by rw [chooseS_1 h1]; exact h1, _, chooseS_1 h1⟩

end Go.Proofs.Yteglolgdjbmklaa
