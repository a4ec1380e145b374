/- Plain laws of decimal texts: the value of the digits, and back. Conditions: none. -/
import Derived.Test.YtoicjiiifffciaaBigTx
namespace Go.Proofs.Ytoicjiiifffciaa
set_option linter.unusedSimpArgs false
set_option linter.unusedVariables false

/-- The value of digits, the last one first. -/
def horR : List Nat → Nat
  | [] => 0
  | d :: l => d + 10 * horR l

theorem horR_decR : ∀ n : Nat, horR (decR n) = n := by
  intro n
  induction n using Nat.strongRecOn with
  | ind n ih =>
    by_cases h : n = 0
    · subst h; rw [decR_zero]; rfl
    · rw [decR_pos h]
      show n % 10 + 10 * horR (decR (n / 10)) = n
      rw [ih (n / 10) (by omega)]
      omega

theorem decR_lt : ∀ (n : Nat), ∀ d ∈ decR n, d < 10 := by
  intro n
  induction n using Nat.strongRecOn with
  | ind n ih =>
    by_cases h : n = 0
    · subst h; rw [decR_zero]; intro d hd; cases hd
    · rw [decR_pos h]
      intro d hd
      rcases List.mem_cons.1 hd with rfl | hd
      · omega
      · exact ih (n / 10) (by omega) d hd

/-- Digits whose first one (the last of the list) is not 0 are those of their value. -/
theorem decR_horR : ∀ (l : List Nat), (∀ d ∈ l, d < 10) → l.getLast? ≠ some 0 → decR (horR l) = l := by
  intro l
  induction l with
  | nil => intro _ _; exact decR_zero
  | cons d l ih =>
    intro h1 h2
    have hd := h1 d (by simp)
    have hz : horR (d :: l) ≠ 0 := by
      show d + 10 * horR l ≠ 0
      cases l with
      | nil =>
        intro e
        apply h2
        have : d = 0 := by omega
        subst this; rfl
      | cons d2 l2 =>
        intro e
        have e2 : horR (d2 :: l2) = 0 := by omega
        have := ih (fun x hx => h1 x (List.mem_cons_of_mem _ hx)) (by simpa using h2)
        rw [e2, decR_zero] at this
        cases this
    rw [decR_pos hz, show horR (d :: l) % 10 = d by show (d + 10 * horR l) % 10 = d; omega, show horR (d :: l) / 10 = horR l by show (d + 10 * horR l) / 10 = horR l; omega]
    congr 1
    cases l with
    | nil => exact decR_zero
    | cons d2 l2 => exact ih (fun x hx => h1 x (List.mem_cons_of_mem _ hx)) (by simpa using h2)

/-- Horner's sum from the front. -/
theorem horR_foldl : ∀ (l : List Nat), l.reverse.foldl (fun n d => 10 * n + d) 0 = horR l := by
  intro l
  induction l with
  | nil => rfl
  | cons d l ih =>
    rw [List.reverse_cons, List.foldl_append, ih]
    show 10 * horR l + d = d + 10 * horR l
    omega

end Go.Proofs.Ytoicjiiifffciaa
