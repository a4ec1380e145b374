/- Walks of the small functions under Least and Choose of advise: smaller, checkCosts, candidates; of the reference: rats. Conditions: the lists read as slices. -/
import Derived.Test.YtlbppdgijjbjbaaRatLs
import Derived.Test.YtlbppdgijjbjbaaGK
import Derived.Test.YtlbppdgijjbjbaaRatRb
import Derived.Test.YtlbppdgijjbjbaaUp
namespace Go.Proofs.Ytlbppdgijjbjbaa
set_option linter.unusedSimpArgs false
set_option linter.unusedVariables false
open Go.RowKit Go.Shelf
attribute [local go_sem] Oper.semAt_some

/-- Is the first number less? -/
def ltR (a b : RR) : Bool := decide ((cmpR a b).1 < 0)

/-- The first error of a list of numbers. -/
def chkRs : List RR → Int
  | [] => 0
  | r :: l => if chkR r = 0 then chkRs l else chkR r
/-- All numbers up to k are valid. -/
def okRs (l : List RR) (k : Nat) : Prop := ∀ j, j < k → chkR (l.getD j zR) = 0
theorem chkRs_ok {l : List RR} (h : okRs l l.length) : chkRs l = 0 := by
  induction l with
  | nil => rfl
  | cons r l ih =>
    unfold chkRs
    have h0 := h 0 (by simp)
    rw [if_pos (by simpa using h0)]
    exact ih (fun j hj => by have := h (j + 1) (by simp; omega); simpa using this)
theorem chkRs_hit {l : List RR} {k : Nat} (hk : k < l.length) (h : okRs l k) (hc : chkR (l.getD k zR) ≠ 0) : chkRs l = chkR (l.getD k zR) := by
  induction l generalizing k with
  | nil => cases hk
  | cons r l ih =>
    unfold chkRs
    cases k with
    | zero => rw [if_neg (by simpa using hc)]; rfl
    | succ k =>
      have h0 := h 0 (by omega)
      rw [if_pos (by simpa using h0), ih (k := k) (by simpa using hk) (fun j hj => by have := h (j + 1) (by omega); simpa using this) (by simpa using hc)]
      rfl
theorem chkRs_0 {l : List RR} (h : chkRs l = 0) : okRs l l.length := by
  induction l with
  | nil => intro j hj; cases hj
  | cons r l ih =>
    unfold chkRs at h
    by_cases hc : chkR r = 0
    · rw [if_pos hc] at h
      intro j hj
      cases j with
      | zero => simpa using hc
      | succ j => have := ih h j (by simpa using hj); simpa using this
    · rw [if_neg hc] at h; exact absurd h hc
theorem okRs_succ {l : List RR} {k : Nat} (h : okRs l k) (hc : chkR (l.getD k zR) = 0) : okRs l (k + 1) := fun j hj => by
  by_cases e : j = k
  · subst e; exact hc
  · exact h j (by omega)
/-- All numbers of a list are made of limbs. -/
def LimRs (l : List RR) : Prop := ∀ i, i < l.length → LimR (l.getD i zR)



/-- The numbers that all masks allow. -/
def allow (ms : Nat → Nat → Bool) (M i : Nat) : Bool := (List.range M).all fun j => ms j i
theorem allow_succ (ms : Nat → Nat → Bool) (M i : Nat) : allow ms (M + 1) i = (allow ms M i && ms M i) := by unfold allow; rw [List.range_succ, List.all_append]; simp
def pick (ms : Nat → Nat → Bool) (M n : Nat) : List Nat := (List.range n).filter (allow ms M)
theorem pick_yes {ms : Nat → Nat → Bool} {M k : Nat} (h : allow ms M k = true) : pick ms M (k + 1) = pick ms M k ++ [k] := by unfold pick; rw [List.range_succ, List.filter_append]; simp [h]
theorem pick_no {ms : Nat → Nat → Bool} {M k : Nat} (h : allow ms M k = false) : pick ms M (k + 1) = pick ms M k := by unfold pick; rw [List.range_succ, List.filter_append]; simp [h]

/-- What the masks read. -/
def RdMs (B0 : Nat) (W : World) (ma : Option Addr) (M N : Nat) (ms : Nat → Nat → Bool) : Prop :=
  ∀ j, j < M → ∃ b off aj nj cj, ma = some ⟨b, off, none⟩ ∧ b < B0 ∧ W.cell? ⟨b, off + j, none⟩ = some (.slice aj nj cj) ∧ N ≤ nj ∧ nj ≤ 9223372036854775807 ∧ ∀ i, i < N → ∃ b2 o2, aj = some ⟨b2, o2, none⟩ ∧ b2 < B0 ∧ W.cell? ⟨b2, o2 + i, none⟩ = some (.bool (ms j i))

end Go.Proofs.Ytlbppdgijjbjbaa
