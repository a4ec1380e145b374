/- Plain laws: Cmp, Abs and Floor of rational numbers beside Lean's own order. Conditions: as each states. -/
import Derived.Test.YtebdmmlniohhgaaRatP
import Derived.Test.YtebdmmlniohhgaaRatCm
namespace Go.Proofs.Ytebdmmlniohhgaa
set_option linter.unusedSimpArgs false
set_option linter.unusedVariables false

theorem cmpQ_lt {x y : Rat} (h : x < y) : cmpQ x y = -1 := by unfold cmpQ; rw [if_pos h]
theorem cmpQ_eq (x : Rat) : cmpQ x x = 0 := by unfold cmpQ; rw [if_neg Rat.lt_irrefl, if_pos rfl]
theorem rat_asymm {x y : Rat} (h : x < y) : ¬ y < x := Rat.not_lt.2 (Rat.le_of_lt h)
theorem rat_ne {x y : Rat} (h : x < y) : x ≠ y := fun e => by rw [e] at h; exact Rat.lt_irrefl h
theorem cmpQ_gt {x y : Rat} (h : y < x) : cmpQ x y = 1 := by unfold cmpQ; rw [if_neg (rat_asymm h), if_neg (fun e => rat_ne h e.symm)]
theorem rat_tri (x y : Rat) : x < y ∨ x = y ∨ y < x := by
  by_cases h1 : x < y
  · exact .inl h1
  · by_cases h2 : y < x
    · exact .inr (.inr h2)
    · exact .inr (.inl (Rat.le_antisymm (Rat.not_lt.1 h2) (Rat.not_lt.1 h1)))
theorem rat_trans {x y z : Rat} (h1 : x < y) (h2 : y < z) : x < z := by
  rcases rat_tri x z with h | h | h
  · exact h
  · subst h; exact absurd h2 (rat_asymm h1)
  · have h3 : z ≤ y := Rat.le_trans (Rat.le_of_lt h) (Rat.le_of_lt h1)
    exact absurd h2 (Rat.not_lt.2 h3)
theorem cmpQ_cases (x y : Rat) : (x < y ∧ cmpQ x y = -1) ∨ (x = y ∧ cmpQ x y = 0) ∨ (y < x ∧ cmpQ x y = 1) := by
  rcases rat_tri x y with h | h | h
  · exact .inl ⟨h, cmpQ_lt h⟩
  · subst h; exact .inr (.inl ⟨rfl, cmpQ_eq x⟩)
  · exact .inr (.inr ⟨h, cmpQ_gt h⟩)
theorem cmpQ_bd (x y : Rat) : -1 ≤ cmpQ x y ∧ cmpQ x y ≤ 1 := by
  rcases cmpQ_cases x y with ⟨_, h⟩ | ⟨_, h⟩ | ⟨_, h⟩ <;> rw [h] <;> decide
theorem cmpQ_swap (x y : Rat) : cmpQ y x = - cmpQ x y := by
  rcases rat_tri x y with h | h | h
  · rw [cmpQ_lt h, cmpQ_gt h]; rfl
  · subst h; rw [cmpQ_eq]; rfl
  · rw [cmpQ_lt h, cmpQ_gt h]
theorem rep_inj {x y : Rat} (h : rep x = rep y) : x = y := by rw [← qv_rep x, h, qv_rep]
theorem cmpQ_zero (x y : Rat) : (cmpQ x y == 0) = decide (rep x = rep y) := by
  rcases rat_tri x y with h | h | h
  · rw [cmpQ_lt h, decide_eq_false (fun e => rat_ne h (rep_inj e))]; rfl
  · subst h; rw [cmpQ_eq, decide_eq_true rfl]; rfl
  · rw [cmpQ_gt h, decide_eq_false (fun e => rat_ne h (rep_inj e).symm)]; rfl
theorem cmpQ_trans {x y z : Rat} (h : cmpQ x y = cmpQ y z) : cmpQ x z = cmpQ x y := by
  rcases rat_tri x y with h1 | h1 | h1
  · rw [cmpQ_lt h1] at h ⊢
    rcases rat_tri y z with h2 | h2 | h2
    · exact cmpQ_lt (rat_trans h1 h2)
    · subst h2; rw [cmpQ_eq] at h; exact absurd h (by decide)
    · rw [cmpQ_gt h2] at h; exact absurd h (by decide)
  · subst h1; exact h.symm
  · rw [cmpQ_gt h1] at h ⊢
    rcases rat_tri y z with h2 | h2 | h2
    · rw [cmpQ_lt h2] at h; exact absurd h (by decide)
    · subst h2; rw [cmpQ_eq] at h; exact absurd h (by decide)
    · exact cmpQ_gt (rat_trans h2 h1)
theorem cmpQ_add (x y z : Rat) : cmpQ (x + z) (y + z) = cmpQ x y := by
  rcases rat_tri x y with h | h | h
  · rw [cmpQ_lt h, cmpQ_lt (Rat.add_lt_add_right.2 h)]
  · subst h; rw [cmpQ_eq, cmpQ_eq]
  · rw [cmpQ_gt h, cmpQ_gt (Rat.add_lt_add_right.2 h)]
theorem mul_neg_lt {x y z : Rat} (h : x < y) (hz : z < 0) : y * z < x * z := by
  have hz' : 0 < -z := by
    have := Rat.add_lt_add_right (a := z) (b := 0) (c := -z)
    rw [Rat.add_neg_cancel, Rat.zero_add] at this
    exact this.2 hz
  have h1 := Rat.mul_lt_mul_of_pos_right h hz'
  rw [Rat.mul_neg, Rat.mul_neg] at h1
  have h2 := (Rat.add_lt_add_right (a := -(x * z)) (b := -(y * z)) (c := x * z + y * z)).2 h1
  have e1 : -(x * z) + (x * z + y * z) = y * z := by rw [← Rat.add_assoc, Rat.neg_add_cancel, Rat.zero_add]
  have e2 : -(y * z) + (x * z + y * z) = x * z := by rw [Rat.add_comm (x * z), ← Rat.add_assoc, Rat.neg_add_cancel, Rat.zero_add]
  rwa [e1, e2] at h2
theorem cmpQ_mul (x y z : Rat) : cmpQ (x * z) (y * z) = cmpQ x y * cmpQ z 0 := by
  rcases rat_tri z 0 with hz | hz | hz
  · rw [cmpQ_lt hz]
    rcases rat_tri x y with h | h | h
    · rw [cmpQ_lt h, cmpQ_gt (mul_neg_lt h hz)]; rfl
    · subst h; rw [cmpQ_eq, cmpQ_eq]; rfl
    · rw [cmpQ_gt h, cmpQ_lt (mul_neg_lt h hz)]; rfl
  · subst hz
    rw [Rat.mul_zero, Rat.mul_zero, cmpQ_eq, Int.mul_zero]
  · rw [cmpQ_gt hz, Int.mul_one]
    rcases rat_tri x y with h | h | h
    · rw [cmpQ_lt h, cmpQ_lt (Rat.mul_lt_mul_of_pos_right h hz)]
    · subst h; rw [cmpQ_eq, cmpQ_eq]
    · rw [cmpQ_gt h, cmpQ_gt (Rat.mul_lt_mul_of_pos_right h hz)]

/-- The absolute value. -/
def absQ (x : Rat) : Rat := if x < 0 then -x else x
theorem neg_le0 {x : Rat} (h : x < 0) : 0 < -x := by
  have := Rat.add_lt_add_right (a := x) (b := 0) (c := -x)
  rw [Rat.add_neg_cancel, Rat.zero_add] at this
  exact this.2 h
theorem le_absQ (x : Rat) : x ≤ absQ x ∧ -x ≤ absQ x := by
  unfold absQ
  by_cases h : x < 0
  · rw [if_pos h]
    exact ⟨Rat.le_of_lt (rat_trans h (neg_le0 h)), Rat.le_refl⟩
  · rw [if_neg h]
    refine ⟨Rat.le_refl, ?_⟩
    have h0 : 0 ≤ x := Rat.not_lt.1 h
    refine Rat.not_lt.1 fun g => ?_
    have h1 := (Rat.add_lt_add_right (a := x) (b := -x) (c := x)).2 g
    rw [Rat.neg_add_cancel] at h1
    have h2 : (0 : Rat) ≤ x + x := by
      have := Rat.add_le_add_right (a := 0) (b := x) (c := x)
      rw [Rat.zero_add] at this
      exact Rat.le_trans h0 (this.2 h0)
    exact absurd h1 (Rat.not_lt.2 h2)
theorem add_le2 {a b c d : Rat} (h1 : a ≤ c) (h2 : b ≤ d) : a + b ≤ c + d :=
  Rat.le_trans (Rat.add_le_add_right.2 h1) (Rat.add_le_add_left.2 h2)
theorem tri_absQ (x y : Rat) : cmpQ (absQ (x + y)) (absQ x + absQ y) ≤ 0 := by
  have h : absQ (x + y) ≤ absQ x + absQ y := by
    obtain ⟨a1, a2⟩ := le_absQ x
    obtain ⟨b1, b2⟩ := le_absQ y
    have h1 := add_le2 a1 b1
    have h2 := add_le2 a2 b2
    rw [← Rat.neg_add] at h2
    show (if x + y < 0 then -(x + y) else x + y) ≤ _
    split
    · exact h2
    · exact h1
  rcases cmpQ_cases (absQ (x + y)) (absQ x + absQ y) with ⟨_, g⟩ | ⟨_, g⟩ | ⟨k, g⟩
  · rw [g]; decide
  · rw [g]; decide
  · exact absurd k (Rat.not_lt.2 h)
theorem rep_abs (x : Rat) : (⟨false, (rep x).num, (rep x).den⟩ : RR) = rep (absQ x) := by
  unfold absQ
  by_cases h : x < 0
  · rw [if_pos h]
    have hn : 0 ≤ (-x).num := Rat.num_nonneg.2 (Rat.le_of_lt (neg_le0 h))
    unfold rep
    rw [decide_eq_false (by omega : ¬ (-x).num < 0), Rat.neg_num, Rat.neg_den, Int.natAbs_neg]
  · rw [if_neg h]
    have hn : 0 ≤ x.num := Rat.num_nonneg.2 (Rat.not_lt.1 h)
    unfold rep
    rw [decide_eq_false (by omega : ¬ x.num < 0)]
theorem bd_abs {x : Rat} {k : Nat} (h : bd x k) : bd (absQ x) k := by
  unfold absQ
  split
  · exact bd_neg h
  · exact h
theorem cmp_rep {a b : Rat} (ha : small a) (hb : small b) : cmpR (rep a) (rep b) = (cmpQ a b, 0) := by
  unfold cmpR
  rw [if_pos (chkR2_ok (chk_rep ha) (chk_rep hb)), qv_rep, qv_rep]
theorem abs_rep {a : Rat} (ha : small a) : absR (rep a) = (rep (absQ a), 0) := by
  unfold absR
  rw [if_pos (chk_rep ha), rep_abs]
theorem small_int {n : Int} (h0 : -9223372036854775808 ≤ n) (h1 : n ≤ 9223372036854775807) : small (n : Rat) := by
  refine small_of_bd (k := 2) ⟨?_, ?_⟩ (by decide)
  · rw [Rat.num_intCast]; omega
  · rw [Rat.den_intCast]; decide
theorem floor_rep {a : Rat} (ha : small a) : floorR (rep a) = (0, 7) ∨ (floorR (rep a) = (a.floor, 0) ∧ -9223372036854775808 ≤ a.floor ∧ a.floor ≤ 9223372036854775807) := by
  unfold floorR
  rw [if_pos (chk_rep ha), qv_rep]
  by_cases h : -9223372036854775808 ≤ a.floor ∧ a.floor ≤ 9223372036854775807
  · right; rw [if_pos h]; exact ⟨rfl, h⟩
  · left; rw [if_neg h]
theorem cmp_floor (a : Rat) : cmpQ (a.floor : Rat) a ≤ 0 ∧ cmpQ a ((a.floor + 1 : Int) : Rat) = -1 := by
  refine ⟨?_, cmpQ_lt (Rat.lt_floor_add_one a)⟩
  rcases cmpQ_cases (a.floor : Rat) a with ⟨_, g⟩ | ⟨_, g⟩ | ⟨k, g⟩
  · rw [g]; decide
  · rw [g]; decide
  · exact absurd k (Rat.not_lt.2 (Rat.floor_le a))

end Go.Proofs.Ytebdmmlniohhgaa
