/- Texts of this claim, laid together: SnBestF SnBest SnRunP. Conditions: as each states. -/
import Derived.Test.YtbnalhmcbolngaaSnAdvM
import Derived.Test.YtbnalhmcbolngaaSnAdvP
/- Part of the proof of nodL_holds: what the row needs of BestF. Conditions: as each theorem states. -/
namespace Go.Proofs.Ytbnalhmcbolngaa
set_option linter.unusedSimpArgs false
set_option linter.unusedVariables false
open Go.RowKit
theorem cmpR_val {a b : RR} (ha : chkR a = 0) (hb : chkR b = 0) : cmpR a b = (cmpQ (qv a) (qv b), 0) := if_pos (chkR2_ok ha hb)
theorem cmpQ_lt0 {x y : Rat} : cmpQ x y < 0 ↔ x < y := by
  unfold cmpQ
  by_cases h : x < y
  · rw [if_pos h]; exact ⟨fun _ => h, fun _ => by decide⟩
  · rw [if_neg h]
    by_cases h2 : x = y
    · rw [if_pos h2]; exact ⟨fun h => absurd h (by decide), fun h3 => absurd h3 h⟩
    · rw [if_neg h2]; exact ⟨fun h => absurd h (by decide), fun h3 => absurd h3 h⟩
theorem cmpQ_at0 {x y : Rat} (h : cmpQ x y = 0) : x = y := by
  unfold cmpQ at h
  by_cases h1 : x < y
  · rw [if_pos h1] at h; cases h
  · rw [if_neg h1] at h
    by_cases h2 : x = y
    · exact h2
    · rw [if_neg h2] at h; cases h
theorem ltR_ok {a b : RR} (ha : chkR a = 0) (hb : chkR b = 0) : ltR a b = decide (qv a < qv b) := by
  unfold ltR; rw [cmpR_val ha hb]; exact decide_eq_decide.2 cmpQ_lt0
def BestI (costs : List RR) (p : Nat → Bool) (n : Nat) : Option Nat → Prop
  | none => ∀ i, i < n → p i = false
  | some j => j < n ∧ p j = true ∧ ∀ i, i < n → p i = true → qv (costs.getD j zR) ≤ qv (costs.getD i zR) ∧ (qv (costs.getD i zR) = qv (costs.getD j zR) → j ≤ i)
theorem bestF_pick {costs : List RR} (hok : okRs costs costs.length) (ms : Nat → Nat → Bool) (M : Nat) : ∀ n, n ≤ costs.length → BestI costs (allow ms M) n (bestF costs (pick ms M n))
  | 0, _ => fun i hi => by cases hi
  | n + 1, hn => by
    have ih := bestF_pick hok ms M n (by omega)
    rcases hp : allow ms M n with _ | _
    · rw [pick_no hp]
      rcases hb : bestF costs (pick ms M n) with _ | j
      · rw [hb] at ih
        intro i hi
        by_cases e : i = n
        · rw [e]; exact hp
        · exact ih i (by omega)
      · rw [hb] at ih
        obtain ⟨h1, h2, h3⟩ := ih
        refine ⟨by omega, h2, fun i hi h => ?_⟩
        by_cases e : i = n
        · rw [e, hp] at h; cases h
        · exact h3 i (by omega) h
    · rw [pick_yes hp, bestF_snoc]
      rcases hb : bestF costs (pick ms M n) with _ | j
      · rw [hb] at ih
        refine ⟨by omega, hp, fun i hi h => ?_⟩
        by_cases e : i = n
        · rw [e]; exact ⟨Rat.le_refl, fun _ => Nat.le_refl _⟩
        · rw [ih i (by omega)] at h; cases h
      · rw [hb] at ih
        obtain ⟨h1, h2, h3⟩ := ih
        show BestI costs (allow ms M) (n + 1) (if ltR (costs.getD n zR) (costs.getD j zR) = true then some n else some j)
        rw [ltR_ok (hok n (by omega)) (hok j (by omega))]
        by_cases hl : qv (costs.getD n zR) < qv (costs.getD j zR)
        · rw [if_pos (decide_eq_true hl)]
          refine ⟨by omega, hp, fun i hi h => ?_⟩
          by_cases e : i = n
          · rw [e]; exact ⟨Rat.le_refl, fun _ => Nat.le_refl _⟩
          · have h4 := h3 i (by omega) h
            refine ⟨Rat.le_trans (Rat.le_of_lt hl) h4.1, fun h5 => ?_⟩
            rw [h5] at h4
            exact absurd hl (Rat.not_lt.2 h4.1)
        · rw [if_neg (by simpa using hl)]
          refine ⟨by omega, h2, fun i hi h => ?_⟩
          by_cases e : i = n
          · rw [e]; exact ⟨Rat.not_lt.1 hl, fun _ => by omega⟩
          · exact h3 i (by omega) h
theorem allow_one {m : List Bool} {i : Nat} : allow (mskF [m]) 1 i = m.getD i false := by
  show ((List.range 1).all fun j => mskF [m] j i) = _
  rw [List.range_succ, List.all_append]; simp [mskF]
theorem allow_two {m q : List Bool} {i : Nat} : allow (mskF [m, q]) 2 i = (m.getD i false && q.getD i false) := by
  show ((List.range 2).all fun j => mskF [m, q] j i) = _
  rw [List.range_succ, List.all_append, List.range_succ, List.all_append]; simp [mskF]
end Go.Proofs.Ytbnalhmcbolngaa

/- Part of the proof of nodL_holds: what the row needs of Best. Conditions: as each theorem states. -/
namespace Go.Proofs.Ytbnalhmcbolngaa
set_option linter.unusedSimpArgs false
set_option linter.unusedVariables false
open Go.RowKit
theorem bestC_law {costs : List RR} {mask may : List Bool} (hok : okRs costs costs.length) {b : Nat} (h : bestC costs mask may = some b) :
    b < costs.length ∧ mask.getD b false = true ∧ ∀ i, i < costs.length → mask.getD i false = true → may.getD i false = true →
      may.getD b false = true ∧ ¬ (cmpR (costs.getD i zR) (costs.getD b zR)).1 < 0 ∧ ((cmpR (costs.getD i zR) (costs.getD b zR)).1 = 0 → b ≤ i) ∧ (cmpR (costs.getD i zR) (costs.getD b zR)).2 = 0 := by
  have h2 := bestF_pick hok (mskF [mask, may]) 2 costs.length (Nat.le_refl _)
  have h1 := bestF_pick hok (mskF [mask]) 1 costs.length (Nat.le_refl _)
  unfold bestC pickL at h
  rw [show [mask, may].length = 2 from rfl, show [mask].length = 1 from rfl] at h
  rcases hb : bestF costs (pick (mskF [mask, may]) 2 costs.length) with _ | j
  · rw [hb] at h h2
    rw [if_neg (by decide)] at h
    rw [h] at h1
    obtain ⟨a1, a2, _⟩ := h1
    rw [allow_one] at a2
    refine ⟨a1, a2, fun i hi e1 e2 => ?_⟩
    have := h2 i hi
    rw [allow_two, e1, e2] at this
    cases this
  · rw [hb] at h h2
    rw [if_pos (by rfl)] at h
    injection h with h
    subst h
    obtain ⟨a1, a2, a3⟩ := h2
    rw [allow_two, Bool.and_eq_true] at a2
    refine ⟨a1, a2.1, fun i hi e1 e2 => ?_⟩
    have h4 := a3 i hi (by rw [allow_two, e1, e2]; rfl)
    rw [cmpR_val (hok i hi) (hok j a1)]
    exact ⟨a2.2, fun h5 => absurd (cmpQ_lt0.1 h5) (Rat.not_lt.2 h4.1), fun h5 => h4.2 (cmpQ_at0 h5), rfl⟩
end Go.Proofs.Ytbnalhmcbolngaa

/- Part of the proof of nodL_holds: what the row needs of RunP. Conditions: as each theorem states. -/
namespace Go.Proofs.Ytbnalhmcbolngaa
set_option linter.unusedSimpArgs false
set_option linter.unusedVariables false
open Go.RowKit
theorem allowS_ok {l : List Bnd} {now : Nat} {age rev lr lh : Int} (hac : achk l = 0) (hn : now < l.length) (h2 : memE age rev = 0) (h3 : limE lr lh = 0) : allowS l now age rev lr lh = (allowL l now age rev lr lh, 0) := by
  unfold allowS
  rw [cn1_ok hac (by omega), if_neg (by decide), if_neg (by simp [h2]), if_neg (by simp [h3]), Int.toNat_natCast]
theorem memE_0 {age rev : Int} (h : 0 ≤ age ∧ age ≤ 1000) (h2 : 0 ≤ rev ∧ rev ≤ 100) : memE age rev = 0 := if_neg (by omega)
theorem limE_0 {lr lh : Int} (h : 0 ≤ lr ∧ lr ≤ 100) (h2 : 0 ≤ lh ∧ lh ≤ 1000) : limE lr lh = 0 := if_neg (by omega)
theorem choose_some {l : List Bnd} {costs : List RR} {mask : List Bool} {now : Nat} {age rev lr lh : Int} (hac : achk l = 0) (hn : now < l.length) (h2 : memE age rev = 0) (h3 : limE lr lh = 0)
    (hc : costs.length = l.length) (hm : mask.length = l.length) (hck : chkRs costs = 0) {k : Nat} (hk : k < l.length) (hkm : mask.getD k false = true) :
    ∃ b : Nat, b < l.length ∧ mask.getD b false = true ∧ bestC costs mask (allowL l now age rev lr lh) = some b ∧
      chooseS l now age rev costs mask lr lh = (((b : Int), chg l now b, costs.getD b zR), nextV (chg l now b) age rev (b : Nat), 0) := by
  have hS := allowS_ok (lr := lr) (lh := lh) hac hn h2 h3
  have hok := chkRs_0 hck
  have h4 := bestF_pick hok (mskF [mask]) 1 costs.length (Nat.le_refl _)
  rcases hb : bestC costs mask (allowL l now age rev lr lh) with _ | b
  · exfalso
    unfold bestC pickL at hb
    split at hb
    · rename_i h5; rw [hb] at h5; cases h5
    · rw [show [mask].length = 1 from rfl] at hb
      rw [hb] at h4
      have := h4 k (by omega)
      rw [allow_one, hkm] at this
      cases this
  · have h5 := bestC_lt hb
    have h6 := bestC_law hok hb
    refine ⟨b, by omega, h6.2.1, rfl, ?_⟩
    rw [chooseS_5 (by rw [hS]) hc hm hck (by rw [hS]; exact hb), Int.toNat_natCast]
end Go.Proofs.Ytbnalhmcbolngaa

