/- The plain law of one cycle of AdviseRuns. No program in sight. -/
import Derived.Test.YtcmemdmfnflfiaaBest
namespace Go.Proofs.Ytcmemdmfnflfiaa
set_option linter.unusedSimpArgs false
set_option linter.unusedVariables false
open Go.RowKit

theorem chg_same (l : List Bnd) (a : Nat) : chg l a a = 1 := if_pos rfl
theorem allowL_get {l : List Bnd} {i b : Nat} {age rev lr lh : Int} (h : b < l.length) : (allowL l i age rev lr lh).getD b false = okK age rev lr lh (chg l i b) := by
  unfold allowL
  rw [List.getD_eq_getElem?_getD, List.getElem?_map, List.getElem?_range h]
  rfl
theorem allowS_ok {l : List Bnd} {now : Nat} {age rev lr lh : Int} (hac : achk l = 0) (hn : now < l.length) (h2 : memE age rev = 0) (h3 : limE lr lh = 0) : allowS l now age rev lr lh = (allowL l now age rev lr lh, 0) := by
  unfold allowS
  rw [cn1_ok hac (by omega), if_neg (by decide), if_neg (by simp [h2]), if_neg (by simp [h3]), Int.toNat_natCast]
theorem memE_0 {age rev : Int} (h : 0 ≤ age ∧ age ≤ 1000) (h2 : 0 ≤ rev ∧ rev ≤ 100) : memE age rev = 0 := if_neg (by omega)
theorem limE_0 {lr lh : Int} (h : 0 ≤ lr ∧ lr ≤ 100) (h2 : 0 ≤ lh ∧ lh ≤ 1000) : limE lr lh = 0 := if_neg (by omega)
/-- Where the mask allows some advisory, Choose chooses one that the mask allows. -/
theorem choose_some {l : List Bnd} {costs : List RR} {mask : List Bool} {now : Nat} {age rev lr lh : Int} (hac : achk l = 0) (hn : now < l.length) (h2 : memE age rev = 0) (h3 : limE lr lh = 0)
    (hc : costs.length = l.length) (hm : mask.length = l.length) (hck : chkRs costs = 0) {k : Nat} (hk : k < l.length) (hkm : mask.getD k false = true) :
    ∃ b : Nat, b < l.length ∧ mask.getD b false = true ∧ bestC costs mask (allowL l now age rev lr lh) = some b ∧
      chooseS l now age rev costs mask lr lh = (((b : Int), chg l now b, costs.getD b zR), nextV (chg l now b) age rev (b : Nat), 0) := by
  have hS := allowS_ok (lr := lr) (lh := lh) hac hn h2 h3
  have hok := chkRs_0 hck
  have h4 := bestF_pick hok (mskF [mask]) 1 costs.length (Nat.le_refl _)
  rcases hb : bestC costs mask (allowL l now age rev lr lh) with _ | b
  · exfalso
    unfold bestC pickL at hb
    split at hb
    · rename_i h5; rw [hb] at h5; cases h5
    · rw [show [mask].length = 1 from rfl] at hb
      rw [hb] at h4
      have := h4 k (by omega)
      rw [allow_one, hkm] at this
      cases this
  · have h5 := bestC_lt hb
    have h6 := bestC_law hok hb
    refine ⟨b, by omega, h6.2.1, rfl, ?_⟩
    rw [chooseS_5 (by rw [hS]) hc hm hck (by rw [hS]; exact hb), Int.toNat_natCast]
/-- With nothing masked, Choose keeps to the limits. -/
theorem runs_step {l : List Bnd} {costs : List RR} {mask : List Bool} {now : Nat} {age rev lr lh : Int} (hac : achk l = 0) (hn : now < l.length) (h2 : memE age rev = 0) (h3 : limE lr lh = 0)
    (hc : costs.length = l.length) (hm : mask.length = l.length) (hck : chkRs costs = 0) (hall : ∀ i, i < l.length → mask.getD i false = true) :
    ∃ b : Nat, b < l.length ∧ okK age rev lr lh (chg l now b) = true ∧
      chooseS l now age rev costs mask lr lh = (((b : Int), chg l now b, costs.getD b zR), nextV (chg l now b) age rev (b : Nat), 0) := by
  obtain ⟨b, hb, _, hbc, he⟩ := choose_some (lr := lr) (lh := lh) hac hn h2 h3 hc hm hck hn (hall now hn)
  refine ⟨b, hb, ?_, he⟩
  have hok := chkRs_0 hck
  have h4 := (bestC_law hok hbc).2.2 now (by omega) (hall now hn) (by rw [allowL_get hn, chg_same]; rfl)
  rw [← allowL_get hb]
  exact h4.1
/-- The kinds. -/
theorem chg_range (l : List Bnd) (a b : Nat) : 1 ≤ chg l a b ∧ chg l a b ≤ 7 := by
  unfold chg
  repeat' split
  all_goals omega
/-- The memory behind a change that the limits allow, as the law counts it. -/
theorem next_counts {K age rev lr lh b : Int} (h : okK age rev lr lh K = true) (ha : 0 ≤ age ∧ age < 1000) (hr : 0 ≤ rev ∧ rev ≤ lr) (hl : lr ≤ 3) (hK : 1 ≤ K ∧ K ≤ 7) :
    (K = 2 → ¬ age < lh) ∧ (K = 4 → rev + 1 ≤ lr) ∧ nextV K age rev b = (b, if K = 1 then age + 1 else 0, if K = 4 then rev + 1 else if K = 2 ∨ K = 3 then 0 else rev) := by
  unfold okK at h
  unfold nextV
  refine ⟨fun e => ?_, fun e => ?_, ?_⟩
  · subst e
    rw [if_neg (by decide), if_pos rfl] at h
    have := of_decide_eq_true h
    omega
  · subst e
    rw [if_pos rfl] at h
    have := of_decide_eq_true h
    omega
  · by_cases e1 : K = 1
    · subst e1; rw [if_pos rfl, if_pos (by omega)]; rfl
    · rw [if_neg e1, if_neg e1]
      by_cases e4 : K = 4
      · subst e4
        rw [if_pos rfl] at h
        have := of_decide_eq_true h
        rw [if_neg (by decide), if_pos rfl, if_pos (by omega), if_pos rfl]
      · rw [if_neg e4, if_neg e4]

end Go.Proofs.Ytcmemdmfnflfiaa
