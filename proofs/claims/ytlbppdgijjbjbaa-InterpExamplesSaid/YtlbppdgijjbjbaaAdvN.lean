/- Walk of Allowed of advise. Conditions: the advisories read as a slice. -/
import Derived.Test.YtlbppdgijjbjbaaAdvC
import Derived.Test.YtlbppdgijjbjbaaBoolS
namespace Go.Proofs.Ytlbppdgijjbjbaa
set_option linter.unusedSimpArgs false
set_option linter.unusedVariables false
open Go.RowKit

/-- Is a change of kind k allowed? -/
def okK (age rev lr lh k : Int) : Bool := if k = 4 then decide (rev < lr) else if k = 2 then decide (lh ≤ age) else true
/-- What Allowed returns for valid arguments. -/
def allowL (l : List Bnd) (i : Nat) (age rev lr lh : Int) : List Bool := (List.range l.length).map fun b => okK age rev lr lh (chg l i b)
def limE (lr lh : Int) : Int := if (lr < 0 ∨ 100 < lr) ∨ lh < 0 ∨ 1000 < lh then 1 else 0
/-- What Allowed returns. -/
def allowS (l : List Bnd) (now age rev lr lh : Int) : List Bool × Int :=
  if cn1 l now ≠ 0 then ([], cn1 l now) else if memE age rev ≠ 0 then ([], memE age rev) else if limE lr lh ≠ 0 then ([], limE lr lh) else (allowL l now.toNat age rev lr lh, 0)

/-- The row of answers after k rounds. -/
def rowK (l : List Bnd) (i : Nat) (age rev lr lh : Int) (k : Nat) : Array Value := ((List.range l.length).map fun b => Value.bool (if b < k then okK age rev lr lh (chg l i b) else false)).toArray
theorem rowK_0 (l : List Bnd) (i : Nat) (age rev lr lh : Int) : (List.replicate l.length (Value.bool false)).toArray = rowK l i age rev lr lh 0 := by
  unfold rowK
  congr 1
  apply List.ext_getElem
  · simp
  · intro j h1 h2; simp
theorem rowK_get {l : List Bnd} {i : Nat} {age rev lr lh : Int} {k : Nat} (h : k < l.length) : (rowK l i age rev lr lh k)[k]? = some (.bool false) := by
  unfold rowK; simp [h]
theorem rowK_set {l : List Bnd} {i : Nat} {age rev lr lh : Int} {k : Nat} : (rowK l i age rev lr lh k).setIfInBounds k (.bool (okK age rev lr lh (chg l i k))) = rowK l i age rev lr lh (k + 1) := by
  unfold rowK
  apply Array.ext
  · simp
  · intro j h1 h2
    simp only [List.setIfInBounds_toArray, List.getElem_toArray, List.getElem_set, List.getElem_map, List.getElem_range]
    by_cases e : k = j
    · subst e; simp
    · rw [if_neg e]
      by_cases h : j < k
      · rw [if_pos h, if_pos (by omega)]
      · rw [if_neg h, if_neg (by omega)]
theorem rowK_full (l : List Bnd) (i : Nat) (age rev lr lh : Int) : rowK l i age rev lr lh l.length = ((allowL l i age rev lr lh).map Value.bool).toArray := by
  unfold rowK allowL
  rw [List.map_map]
  congr 1
  apply List.map_congr_left
  intro b hb
  have := List.mem_range.1 hb
  simp [this]
theorem rowK_own {l : List Bnd} {i : Nat} {age rev lr lh : Int} {w : World} {g B : Nat} (h : Blk w g (rowK l i age rev lr lh l.length) 4) (hB : B ≤ g) (hl : l.length ≤ 1000) : OwBo w B (.slice (some ⟨g, 0, none⟩) l.length l.length) (allowL l i age rev lr lh) := by
  rw [rowK_full] at h
  have e : (allowL l i age rev lr lh).length = l.length := by unfold allowL; simp
  refine ⟨by simp, .inr ⟨g, l.length, _, by rw [e], hB, h, by omega, by unfold maxLen; omega, by simp [e], ?_⟩⟩
  rw [e]
  simp
  rw [List.take_of_length_le (by simp [e])]

theorem achk_len {l : List Bnd} (h : achk l = 0) : l.length ≤ 6 ∧ l.length ≠ 0 := by
  unfold achk at h
  split at h
  · cases h
  · split at h
    · cases h
    · exact ⟨by omega, by assumption⟩


end Go.Proofs.Ytlbppdgijjbjbaa
