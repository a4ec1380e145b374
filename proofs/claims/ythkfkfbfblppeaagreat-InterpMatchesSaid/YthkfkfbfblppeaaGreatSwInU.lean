/- Part of the proof of imatL_holds: what the row needs of InU. Conditions: as each theorem states. -/
import Derived.Test.YthkfkfbfblppeaaGreatSwGM
import Derived.Test.YthkfkfbfblppeaaGreatSwGK
namespace Go.Proofs.YthkfkfbfblppeaaGreat
set_option linter.unusedSimpArgs false
set_option linter.unusedVariables false
open Go.RowKit
structure Wts (g : List (List Int)) (x : List Int) (L : List (Nat × Rat)) : Prop where
  ok : GridOk g
  is : weightsS g x = (repL L, 0)
  xl : x.length = g.length
  eq : L = wtsL g (xsOf g x) g.length
theorem Wts.inn {g : List (List Int)} {x : List Int} {L : List (Nat × Rat)} (h : Wts g x L) : In g (xsOf g x) := in_of h.ok x
theorem Wts.pow {g : List (List Int)} {x : List Int} {L : List (Nat × Rat)} (h : Wts g x L) : L.length ≤ 2 ^ g.length := by
  rw [h.eq]; exact wtsL_len h.inn _ (Nat.le_refl _)
theorem Wts.len {g : List (List Int)} {x : List Int} {L : List (Nat × Rat)} (h : Wts g x L) : L.length ≤ 16 :=
  Nat.le_trans h.pow (Nat.le_trans (Nat.pow_le_pow_right (by decide) h.ok.le) (by decide))
theorem Wts.pos {g : List (List Int)} {x : List Int} {L : List (Nat × Rat)} (h : Wts g x L) {y : Nat × Rat} (hy : y ∈ L) : 0 < y.2 := by
  rw [h.eq] at hy
  exact wtsL_pos (Nat.le_refl _) hy
theorem Wts.lt {g : List (List Int)} {x : List Int} {L : List (Nat × Rat)} (h : Wts g x L) {y : Nat × Rat} (hy : y ∈ L) : y.1 < gsize g := by
  rw [h.eq] at hy
  have := (wtsL_mem (Nat.le_refl _) hy).1
  rwa [List.take_length] at this
theorem Wts.at {g : List (List Int)} {x : List Int} {L : List (Nat × Rat)} (h : Wts g x L) {a : Nat} (ha : a < g.length) : avg L (fun v => ((cutAt g v a : Int) : Rat)) = ((xsOf g x a : Int) : Rat) := by
  have := wts_at h.inn (a := a) g.length (Nat.le_refl _) ha
  rw [List.take_length] at this
  rw [h.eq]
  exact this
end Go.Proofs.YthkfkfbfblppeaaGreat
