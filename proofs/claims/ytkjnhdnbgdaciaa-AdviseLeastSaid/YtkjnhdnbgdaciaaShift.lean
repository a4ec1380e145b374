/- The plain law of Least, and of costs to which a number is added. No program in sight. -/
import Derived.Test.YtkjnhdnbgdaciaaBestF
import Derived.Test.YtkjnhdnbgdaciaaRatSa
namespace Go.Proofs.Ytkjnhdnbgdaciaa
set_option linter.unusedSimpArgs false
set_option linter.unusedVariables false
open Go.RowKit

/-- The costs with a number added. -/
def moreR (costs : List RR) (q : Rat) : List RR := costs.map fun r => rep (qv r + q)
theorem more_len (costs : List RR) (q : Rat) : (moreR costs q).length = costs.length := by unfold moreR; simp
theorem more_get {costs : List RR} {q : Rat} {k : Nat} (hk : k < costs.length) : (moreR costs q).getD k zR = rep (qv (costs.getD k zR) + q) := by
  unfold moreR
  rw [List.getD_eq_getElem?_getD, List.getD_eq_getElem?_getD, List.getElem?_map, List.getElem?_eq_getElem hk]; rfl
theorem add_int {r : RR} (hl : LimR r) (hc : chkR r = 0) (h1 : r.num.length ≤ 20) (h2 : r.den.length ≤ 20) {n : Int} (h3 : -9223372036854775808 ≤ n) (h4 : n ≤ 9223372036854775807) :
    addR r (rep (n : Rat)) = (rep (qv r + (n : Rat)), 0) ∧ small (qv r + (n : Rat)) := by
  have e := (valid_rep hl hc).2.2
  have hb : bd (qv r) 20 := bd_of_lenR (by rw [e]; exact ⟨h1, h2⟩) (by decide)
  have hn : bd (n : Rat) 2 := ⟨by rw [Rat.num_intCast]; omega, by rw [Rat.den_intCast]; decide⟩
  have hs : small (qv r + (n : Rat)) := small_of_bd (bd_add hb hn) (by decide)
  refine ⟨?_, hs⟩
  conv => lhs; rw [← e]
  exact add_rep (small_of_bd hb (by decide)) (small_int h3 h4) hs
theorem best_shift {costs : List RR} (hok : okRs costs costs.length) (q : Rat) (hs : ∀ k, k < costs.length → small (qv (costs.getD k zR) + q)) (ms : Nat → Nat → Bool) (M : Nat) :
    ∀ n, n ≤ costs.length → bestF (moreR costs q) (pick ms M n) = bestF costs (pick ms M n)
  | 0, _ => rfl
  | n + 1, hn => by
    have ih := best_shift hok q hs ms M n (by omega)
    rcases hp : allow ms M n with _ | _
    · rw [pick_no hp]; exact ih
    · rw [pick_yes hp, bestF_snoc, bestF_snoc, ih]
      rcases hb : bestF costs (pick ms M n) with _ | j
      · rfl
      · have hj := bestF_ltF costs ms M n j hb
        show (if ltR ((moreR costs q).getD n zR) ((moreR costs q).getD j zR) = true then some n else some j) = (if ltR (costs.getD n zR) (costs.getD j zR) = true then some n else some j)
        rw [more_get (by omega), more_get (by omega), ltR_ok (chk_rep (hs n (by omega))) (chk_rep (hs j (by omega))), ltR_ok (hok n (by omega)) (hok j (by omega)), qv_rep, qv_rep]
        have e : decide (qv (costs.getD n zR) + q < qv (costs.getD j zR) + q) = decide (qv (costs.getD n zR) < qv (costs.getD j zR)) := decide_eq_decide.2 Rat.add_lt_add_right
        rw [e]
theorem more_ok {costs : List RR} (q : Rat) (hs : ∀ k, k < costs.length → small (qv (costs.getD k zR) + q)) : chkRs (moreR costs q) = 0 :=
  chkRs_ok fun j hj => by rw [more_len] at hj; rw [more_get hj]; exact chk_rep (hs j hj)
theorem more_lim {costs : List RR} (q : Rat) : LimRs (moreR costs q) := fun j hj => by
  rw [more_len] at hj; rw [more_get hj]; exact limR_rep _
theorem leastS_shift {costs : List RR} {all : List Bool} (q : Rat) (hs : ∀ k, k < costs.length → small (qv (costs.getD k zR) + q)) (hok : chkRs costs = 0) : leastS (moreR costs q) all = leastS costs all := by
  unfold leastS pickL
  rw [more_len, more_ok q hs, hok, best_shift (chkRs_0 hok) q hs _ _ _ (Nat.le_refl _)]
theorem leastS_law {costs : List RR} {all : List Bool} :
    ((leastS costs all).2 ≠ 0 ∧ (leastS costs all).1 = 0) ∨
    (costs.length = all.length ∧ chkRs costs = 0 ∧ ∃ j : Nat, leastS costs all = (((j : Nat) : Int), 0) ∧ j < costs.length ∧ all.getD j false = true ∧
      ∀ i, i < costs.length → (cmpR (costs.getD i zR) (costs.getD j zR)).2 = 0 ∧ (all.getD i false = true → ¬ (cmpR (costs.getD i zR) (costs.getD j zR)).1 < 0 ∧ ((cmpR (costs.getD i zR) (costs.getD j zR)).1 = 0 → j ≤ i))) := by
  by_cases h1 : costs.length = 0
  · refine .inl ?_; unfold leastS; rw [if_pos h1]; exact ⟨by decide, rfl⟩
  · by_cases h2 : costs.length = all.length
    · by_cases h3 : chkRs costs = 0
      · have hok := chkRs_0 h3
        have hb := bestF_pick hok (mskF [all]) 1 costs.length (Nat.le_refl _)
        rcases h4 : bestF costs (pick (mskF [all]) 1 costs.length) with _ | j
        · refine .inl ?_; unfold leastS pickL; rw [if_neg h1, if_neg (by simpa using h2), if_neg (by simpa using h3), show [all].length = 1 from rfl, h4]; exact ⟨by decide, rfl⟩
        · rw [h4] at hb
          obtain ⟨a1, a2, a3⟩ := hb
          rw [allow_one] at a2
          refine .inr ⟨h2, h3, j, ?_, a1, a2, fun i hi => ?_⟩
          · unfold leastS pickL; rw [if_neg h1, if_neg (by simpa using h2), if_neg (by simpa using h3), show [all].length = 1 from rfl, h4]
          · rw [cmpR_val (hok i hi) (hok j a1)]
            refine ⟨rfl, fun hai => ?_⟩
            have h5 := a3 i hi (by rw [allow_one]; exact hai)
            exact ⟨fun h6 => absurd (cmpQ_lt0.1 h6) (Rat.not_lt.2 h5.1), fun h6 => h5.2 (cmpQ_at0 h6)⟩
      · refine .inl ?_; unfold leastS; rw [if_neg h1, if_neg (by simpa using h2), if_pos h3]; exact ⟨h3, rfl⟩
    · refine .inl ?_; unfold leastS; rw [if_neg h1, if_pos h2]; exact ⟨by decide, rfl⟩

end Go.Proofs.Ytkjnhdnbgdaciaa
