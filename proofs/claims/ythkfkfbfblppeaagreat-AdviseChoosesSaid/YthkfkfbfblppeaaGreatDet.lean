/- A call ends in one way: two contracts that each name a value name the same. Conditions: none. -/
import Derived.Test.YthkfkfbfblppeaaGreatGB
namespace Go.Proofs.YthkfkfbfblppeaaGreat
set_option linter.unusedSimpArgs false
set_option linter.unusedVariables false
open Go.RowKit

/-- A caller that can do nothing. -/
def deadF : Frame := { (default : Frame) with todo := [.code (.exit 0)], mode := .run, roundOf := none }
theorem step_dead {P : Program} {w : World} : ∃ o, step P (lone deadF [] w) = .ended o w :=
  ⟨.stuck "exit, goto: no such block or label" (deadF.pos P), step_lone_ended (by simp [stepG, stepG.exec, deadF, exitTo])⟩

theorem runN_add {P : Program} : ∀ (a b : Nat) (m m1 : Machine), runN P a m = .next m1 → runN P (a + b) m = runN P b m1
  | 0, b, m, m1, h => by simp [runN] at h; simp [h]
  | a + 1, b, m, m1, h => by
    rw [Nat.succ_add]
    simp only [runN] at h ⊢
    cases hs : step P m with
    | next m2 => simp only [hs] at h ⊢; exact runN_add a b m2 m1 h
    | _ => simp [hs] at h

theorem calls_val {P : Program} {f : FuncId} {args : Array Value} {w : World} {v u : Value} {C D : World → Prop}
    (h1 : Calls P f args w fun e w' => e = .returned v ∧ C w') (h2 : Calls P f args w fun e w' => e = .returned u ∧ D w') : v = u := by
  obtain ⟨e1, w1, fr1, ⟨rfl, _⟩, ⟨n1, s1⟩, _, l1⟩ := h1 [deadF]
  obtain ⟨e2, w2, fr2, ⟨rfl, _⟩, ⟨n2, s2⟩, _, l2⟩ := h2 [deadF]
  have key : ∀ {n1 n2 : Nat} {fr1 fr2 : Frame} {w1 w2 : World} {v : Value}, runN P n1 (lone (Frame.enter P f args .normal) [deadF] w) = .next (lone fr1 [deadF] w1) → runN P n2 (lone (Frame.enter P f args .normal) [deadF] w) = .next (lone fr2 [deadF] w2) → fr1.leaving P w1 (.returned v) → n1 ≤ n2 → lone fr1 [deadF] w1 = lone fr2 [deadF] w2 := by
    intro n1 n2 fr1 fr2 w1 w2 v s1 s2 l1 hn
    obtain ⟨d, rfl⟩ := Nat.le.dest hn
    rw [runN_add _ _ _ _ s1] at s2
    cases d with
    | zero => simpa [runN] using s2
    | succ d =>
      simp only [runN, step_leave_returned l1] at s2
      have hc : deadF.finish v = deadF := rfl
      rw [hc] at s2
      cases d with
      | zero => simp [runN, lone] at s2
      | succ d =>
        obtain ⟨o, ho⟩ := step_dead (P := P) (w := w1)
        simp [runN, ho] at s2
  have hm : lone fr1 [deadF] w1 = lone fr2 [deadF] w2 := by
    rcases Nat.le_total n1 n2 with h | h
    · exact key s1 s2 l1 h
    · exact (key s2 s1 l2 h).symm
  have hf : w1 = w2 ∧ fr1 = fr2 := by simpa [lone] using hm
  obtain ⟨rfl, rfl⟩ := hf
  obtain ⟨_, _, _, g1, hg1, r1⟩ := l1
  obtain ⟨_, _, _, g2, hg2, r2⟩ := l2
  rw [hg1] at hg2
  cases hg2
  rw [r1] at r2
  cases r2
  rfl

theorem quietUpon_val {P : Program} {C D : World → Prop} {w : World} {v u : Value} {r : Result Next} (h1 : Oper.quietUpon P C w v r) (h2 : Oper.quietUpon P D w u r) : v = u := by
  cases r with
  | ok n w' =>
    cases n <;> simp only [Oper.quietUpon] at h1 h2
    case value x => exact h1.2.symm.trans h2.2
    case skip => exact h1.2.trans h2.2.symm
    case enter f args => exact calls_val h1.2 h2.2
  | halt x w' => exact h1.elim

end Go.Proofs.YthkfkfbfblppeaaGreat
