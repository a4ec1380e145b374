/- The plain law of first. No program in sight. -/
import Derived.Test.YtcmemdmfnflfiaaAdvM
namespace Go.Proofs.Ytcmemdmfnflfiaa
set_option linter.unusedSimpArgs false
set_option linter.unusedVariables false
open Go.RowKit

theorem bestF_ltF (costs : List RR) (ms : Nat → Nat → Bool) (M n : Nat) (j : Nat) (h : bestF costs (pick ms M n) = some j) : j < n := by
  have key : ∀ (xs : List Nat) (b : Option Nat), (∀ x ∈ xs, x < n) → (∀ i, b = some i → i < n) → ∀ i, xs.foldl (stepB costs) b = some i → i < n := by
    intro xs
    induction xs with
    | nil => intro b _ h2 i hi; exact h2 i hi
    | cons x xs ih =>
      intro b h1 h2 i hi
      refine ih (stepB costs b x) (fun y hy => h1 y (by simp [hy])) (fun k hk => ?_) i hi
      unfold stepB at hk
      cases b with
      | none => injection hk with hk; subst hk; exact h1 x (by simp)
      | some q =>
        dsimp only at hk
        split at hk
        · injection hk with hk; subst hk; exact h1 x (by simp)
        · injection hk with hk; subst hk; exact h2 q rfl
  exact key _ none (fun x hx => by unfold pick at hx; exact List.mem_range.1 (List.mem_filter.1 hx).1) (fun i hi => by cases hi) j h
theorem cmpR_val {a b : RR} (ha : chkR a = 0) (hb : chkR b = 0) : cmpR a b = (cmpQ (qv a) (qv b), 0) := if_pos (chkR2_ok ha hb)
theorem cmpQ_lt0 {x y : Rat} : cmpQ x y < 0 ↔ x < y := by
  unfold cmpQ
  by_cases h : x < y
  · rw [if_pos h]; exact ⟨fun _ => h, fun _ => by decide⟩
  · rw [if_neg h]
    by_cases h2 : x = y
    · rw [if_pos h2]; exact ⟨fun h => absurd h (by decide), fun h3 => absurd h3 h⟩
    · rw [if_neg h2]; exact ⟨fun h => absurd h (by decide), fun h3 => absurd h3 h⟩
theorem cmpQ_at0 {x y : Rat} (h : cmpQ x y = 0) : x = y := by
  unfold cmpQ at h
  by_cases h1 : x < y
  · rw [if_pos h1] at h; cases h
  · rw [if_neg h1] at h
    by_cases h2 : x = y
    · exact h2
    · rw [if_neg h2] at h; cases h
theorem ltR_ok {a b : RR} (ha : chkR a = 0) (hb : chkR b = 0) : ltR a b = decide (qv a < qv b) := by
  unfold ltR; rw [cmpR_val ha hb]; exact decide_eq_decide.2 cmpQ_lt0

/-- What first finds among the first n numbers. -/
def BestI (costs : List RR) (p : Nat → Bool) (n : Nat) : Option Nat → Prop
  | none => ∀ i, i < n → p i = false
  | some j => j < n ∧ p j = true ∧ ∀ i, i < n → p i = true → qv (costs.getD j zR) ≤ qv (costs.getD i zR) ∧ (qv (costs.getD i zR) = qv (costs.getD j zR) → j ≤ i)
theorem bestF_pick {costs : List RR} (hok : okRs costs costs.length) (ms : Nat → Nat → Bool) (M : Nat) : ∀ n, n ≤ costs.length → BestI costs (allow ms M) n (bestF costs (pick ms M n))
  | 0, _ => fun i hi => by cases hi
  | n + 1, hn => by
    have ih := bestF_pick hok ms M n (by omega)
    rcases hp : allow ms M n with _ | _
    · rw [pick_no hp]
      rcases hb : bestF costs (pick ms M n) with _ | j
      · rw [hb] at ih
        intro i hi
        by_cases e : i = n
        · rw [e]; exact hp
        · exact ih i (by omega)
      · rw [hb] at ih
        obtain ⟨h1, h2, h3⟩ := ih
        refine ⟨by omega, h2, fun i hi h => ?_⟩
        by_cases e : i = n
        · rw [e, hp] at h; cases h
        · exact h3 i (by omega) h
    · rw [pick_yes hp, bestF_snoc]
      rcases hb : bestF costs (pick ms M n) with _ | j
      · rw [hb] at ih
        refine ⟨by omega, hp, fun i hi h => ?_⟩
        by_cases e : i = n
        · rw [e]; exact ⟨Rat.le_refl, fun _ => Nat.le_refl _⟩
        · rw [ih i (by omega)] at h; cases h
      · rw [hb] at ih
        obtain ⟨h1, h2, h3⟩ := ih
        show BestI costs (allow ms M) (n + 1) (if ltR (costs.getD n zR) (costs.getD j zR) = true then some n else some j)
        rw [ltR_ok (hok n (by omega)) (hok j (by omega))]
        by_cases hl : qv (costs.getD n zR) < qv (costs.getD j zR)
        · rw [if_pos (decide_eq_true hl)]
          refine ⟨by omega, hp, fun i hi h => ?_⟩
          by_cases e : i = n
          · rw [e]; exact ⟨Rat.le_refl, fun _ => Nat.le_refl _⟩
          · have h4 := h3 i (by omega) h
            refine ⟨Rat.le_trans (Rat.le_of_lt hl) h4.1, fun h5 => ?_⟩
            rw [h5] at h4
            exact absurd hl (Rat.not_lt.2 h4.1)
        · rw [if_neg (by simpa using hl)]
          refine ⟨by omega, h2, fun i hi h => ?_⟩
          by_cases e : i = n
          · rw [e]; exact ⟨Rat.not_lt.1 hl, fun _ => by omega⟩
          · exact h3 i (by omega) h
theorem allow_one {m : List Bool} {i : Nat} : allow (mskF [m]) 1 i = m.getD i false := by
  show ((List.range 1).all fun j => mskF [m] j i) = _
  rw [List.range_succ, List.all_append]; simp [mskF]
theorem allow_two {m q : List Bool} {i : Nat} : allow (mskF [m, q]) 2 i = (m.getD i false && q.getD i false) := by
  show ((List.range 2).all fun j => mskF [m, q] j i) = _
  rw [List.range_succ, List.all_append, List.range_succ, List.all_append]; simp [mskF]

end Go.Proofs.Ytcmemdmfnflfiaa
