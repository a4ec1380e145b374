/- Part of the proof of nodL_holds: what the row needs of AdvB. Conditions: as each theorem states. -/
import Derived.Test.YtbnalhmcbolngaaSnGI
import Derived.Test.YtbnalhmcbolngaaSnReg5
namespace Go.Proofs.Ytbnalhmcbolngaa
set_option linter.unusedSimpArgs false
set_option linter.unusedVariables false
open Go.RowKit
def memE (age rev : Int) : Int := if (age < 0 ∨ 1000 < age) ∨ rev < 0 ∨ 100 < rev then 1 else 0
def nextV (k age rev b : Int) : Int × Int × Int := (b, if k = 1 then (if age + 1 ≤ 1000 then age + 1 else 1000) else 0, if k = 2 ∨ k = 3 then 0 else if k = 4 then (if rev + 1 ≤ 100 then rev + 1 else 100) else rev)
def nextS (l : List Bnd) (now age rev b : Int) : (Int × Int × Int) × Int :=
  if cn2 l now b ≠ 0 then ((0, 0, 0), cn2 l now b) else if memE age rev ≠ 0 then ((0, 0, 0), memE age rev)
  else (nextV (chg l now.toNat b.toNat) age rev b, 0)
theorem cn1_0 {l : List Bnd} {n : Int} (h : cn1 l n = 0) : achk l = 0 ∧ ∃ i : Nat, n = i ∧ i < l.length := by
  unfold cn1 at h
  split at h
  · exact absurd h ‹_›
  · rename_i h1
    split at h
    · rename_i h2; exact ⟨by simpa using h1, n.toNat, by omega, by omega⟩
    · cases h
theorem cn2_0 {l : List Bnd} {n m : Int} (h : cn2 l n m = 0) : achk l = 0 ∧ (∃ i : Nat, n = i ∧ i < l.length) ∧ ∃ j : Nat, m = j ∧ j < l.length := by
  unfold cn2 at h
  split at h
  · exact absurd h ‹_›
  · rename_i h1
    split at h
    · rename_i h2; exact ⟨by simpa using h1, ⟨n.toNat, by omega, by omega⟩, m.toNat, by omega, by omega⟩
    · cases h
theorem cn1_ok {l : List Bnd} {n : Int} (h : achk l = 0) (h2 : 0 ≤ n ∧ n < l.length) : cn1 l n = 0 := by unfold cn1; rw [if_neg (by simp [h]), if_pos h2]
theorem cn2_ok {l : List Bnd} {n m : Int} (h : achk l = 0) (h2 : (0 ≤ n ∧ n < l.length) ∧ 0 ≤ m ∧ m < l.length) : cn2 l n m = 0 := by unfold cn2; rw [if_neg (by simp [h]), if_pos h2]
end Go.Proofs.Ytbnalhmcbolngaa
