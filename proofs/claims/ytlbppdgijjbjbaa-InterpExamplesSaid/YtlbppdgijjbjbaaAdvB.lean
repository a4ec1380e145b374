/- Walks of Kind, Advice and Next of advise and of its reference (written by mkadvb.py). Conditions: the advisories read as a slice. -/
import Derived.Test.YtlbppdgijjbjbaaGI
import Derived.Test.YtlbppdgijjbjbaaReg5
namespace Go.Proofs.Ytlbppdgijjbjbaa
set_option linter.unusedSimpArgs false
set_option linter.unusedVariables false
open Go.RowKit

/-- What Kind returns. -/
def kindS (l : List Bnd) (a b : Int) : Int × Int := if cn2 l a b ≠ 0 then (0, cn2 l a b) else (chg l a.toNat b.toNat, 0)
/-- The advice of an advisory that is there. -/
def advV (i : Nat) (x : Bnd) : Int × Int × Bool := if i = 0 then (0, 0, false) else if x.1 = 2 then (2, -x.2.2, decide (-x.2.2 ≤ 0)) else (x.1, x.2.1, decide (x.2.1 ≤ 0))
/-- What Advice returns. -/
def advS (l : List Bnd) (b : Int) : (Int × Int × Bool) × Int := if cn1 l b ≠ 0 then ((0, 0, false), cn1 l b) else (advV b.toNat (bAt l b.toNat), 0)
/-- The error of a memory whose advisory is there. -/
def memE (age rev : Int) : Int := if (age < 0 ∨ 1000 < age) ∨ rev < 0 ∨ 100 < rev then 1 else 0
/-- The memory after a change of kind k. -/
def nextV (k age rev b : Int) : Int × Int × Int := (b, if k = 1 then (if age + 1 ≤ 1000 then age + 1 else 1000) else 0, if k = 2 ∨ k = 3 then 0 else if k = 4 then (if rev + 1 ≤ 100 then rev + 1 else 100) else rev)
/-- What Next returns. -/
def nextS (l : List Bnd) (now age rev b : Int) : (Int × Int × Int) × Int :=
  if cn2 l now b ≠ 0 then ((0, 0, 0), cn2 l now b) else if memE age rev ≠ 0 then ((0, 0, 0), memE age rev)
  else (nextV (chg l now.toNat b.toNat) age rev b, 0)

theorem cn1_0 {l : List Bnd} {n : Int} (h : cn1 l n = 0) : achk l = 0 ∧ ∃ i : Nat, n = i ∧ i < l.length := by
  unfold cn1 at h
  split at h
  · exact absurd h ‹_›
  · rename_i h1
    split at h
    · rename_i h2; exact ⟨by simpa using h1, n.toNat, by omega, by omega⟩
    · cases h
theorem cn2_0 {l : List Bnd} {n m : Int} (h : cn2 l n m = 0) : achk l = 0 ∧ (∃ i : Nat, n = i ∧ i < l.length) ∧ ∃ j : Nat, m = j ∧ j < l.length := by
  unfold cn2 at h
  split at h
  · exact absurd h ‹_›
  · rename_i h1
    split at h
    · rename_i h2; exact ⟨by simpa using h1, ⟨n.toNat, by omega, by omega⟩, m.toNat, by omega, by omega⟩
    · cases h
theorem cn1_a {l : List Bnd} {n : Int} (h : achk l ≠ 0) : cn1 l n = achk l := if_pos h
theorem cn1_8 {l : List Bnd} {n : Int} (h : achk l = 0) (h2 : ¬ (0 ≤ n ∧ n < l.length)) : cn1 l n = 8 := by unfold cn1; rw [if_neg (by simp [h]), if_neg h2]
theorem cn1_ok {l : List Bnd} {n : Int} (h : achk l = 0) (h2 : 0 ≤ n ∧ n < l.length) : cn1 l n = 0 := by unfold cn1; rw [if_neg (by simp [h]), if_pos h2]
theorem cn2_a {l : List Bnd} {n m : Int} (h : achk l ≠ 0) : cn2 l n m = achk l := if_pos h
theorem cn2_8 {l : List Bnd} {n m : Int} (h : achk l = 0) (h2 : ¬ ((0 ≤ n ∧ n < l.length) ∧ 0 ≤ m ∧ m < l.length)) : cn2 l n m = 8 := by unfold cn2; rw [if_neg (by simp [h]), if_neg h2]
theorem cn2_ok {l : List Bnd} {n m : Int} (h : achk l = 0) (h2 : (0 ≤ n ∧ n < l.length) ∧ 0 ≤ m ∧ m < l.length) : cn2 l n m = 0 := by unfold cn2; rw [if_neg (by simp [h]), if_pos h2]
theorem kindS_e {l : List Bnd} {n m : Int} (h : cn2 l n m ≠ 0) : kindS l n m = (0, cn2 l n m) := if_pos h
theorem kindS_0 {l : List Bnd} {i j : Nat} (h : achk l = 0) (hi : i < l.length) (hj : j < l.length) : kindS l i j = (chg l i j, 0) := by
  unfold kindS; rw [cn2_ok h (by omega), if_neg (by decide), Int.toNat_natCast, Int.toNat_natCast]
theorem kindS_8 {l : List Bnd} {n m : Int} (h : achk l = 0) (h2 : ¬ ((0 ≤ n ∧ n < l.length) ∧ 0 ≤ m ∧ m < l.length)) : kindS l n m = (0, 8) := by rw [kindS_e (by rw [cn2_8 h h2]; decide), cn2_8 h h2]
theorem kindS_a {l : List Bnd} {n m : Int} (h : achk l ≠ 0) : kindS l n m = (0, achk l) := by rw [kindS_e (by rw [cn2_a h]; exact h), cn2_a h]
theorem firstErr_all : ∀ {l : List Bnd}, firstErr l = 0 → ∀ x ∈ l, bnd1 x = 0
  | [], _, x, hx => by cases hx
  | y :: r, h, x, hx => by
    unfold firstErr at h
    split at h
    · exact absurd h ‹_›
    · rename_i h1
      rcases List.mem_cons.1 hx with rfl | hx
      · simpa using h1
      · exact firstErr_all h x hx
theorem achk_at {l : List Bnd} (h : achk l = 0) {i : Nat} (hi : i ≠ 0) (hl : i < l.length) : ((bAt l i).1 = 1 ∨ (bAt l i).1 = 2) ∧ (bAt l i).2.1 ≤ (bAt l i).2.2 ∧ -100 ≤ (bAt l i).2.1 ∧ (bAt l i).2.2 ≤ 100 := by
  unfold achk at h
  split at h
  · cases h
  · split at h
    · cases h
    · have hm : bAt l i ∈ l.drop 1 := by
        refine List.mem_of_getElem? (i := i - 1) ?_
        rw [List.getElem?_drop, show 1 + (i - 1) = i by omega]
        exact bAt_some hl
      have h1 := firstErr_all h _ hm
      unfold bnd1 at h1
      split at h1
      · cases h1
      · split at h1
        · cases h1
        · omega

theorem advS_e {l : List Bnd} {n : Int} (h : cn1 l n ≠ 0) : advS l n = ((0, 0, false), cn1 l n) := if_pos h
theorem advS_0 {l : List Bnd} {i : Nat} (h : achk l = 0) (hi : i < l.length) : advS l i = (advV i (bAt l i), 0) := by
  unfold advS; rw [cn1_ok h (by omega), if_neg (by decide), Int.toNat_natCast]
theorem advS_8 {l : List Bnd} {n : Int} (h : achk l = 0) (h2 : ¬ (0 ≤ n ∧ n < l.length)) : advS l n = ((0, 0, false), 8) := by rw [advS_e (by rw [cn1_8 h h2]; decide), cn1_8 h h2]
theorem advS_a {l : List Bnd} {n : Int} (h : achk l ≠ 0) : advS l n = ((0, 0, false), achk l) := by rw [advS_e (by rw [cn1_a h]; exact h), cn1_a h]

/-- The value of an advice. -/
def advW (x : Int × Int × Bool) : Value := .agg #[.int .u8 x.1, .int .i64 x.2.1, .bool x.2.2]

end Go.Proofs.Ytlbppdgijjbjbaa
