/- Walk of first over candidates of advise. Conditions: the costs and masks lie in old memory. -/
import Derived.Test.YtlbppdgijjbjbaaAdvL
import Derived.Test.YtlbppdgijjbjbaaGD
namespace Go.Proofs.Ytlbppdgijjbjbaa
set_option linter.unusedSimpArgs false
set_option linter.unusedVariables false
open Go.RowKit Go.Shelf
attribute [local go_sem] Oper.semAt_some

/-- The better of what was found and number i. -/
def stepB (costs : List RR) (b : Option Nat) (i : Nat) : Option Nat :=
  match b with
  | none => some i
  | some j => if ltR (costs.getD i zR) (costs.getD j zR) = true then some i else some j
/-- The first of the least. -/
def bestF (costs : List RR) (xs : List Nat) : Option Nat := xs.foldl (stepB costs) none
theorem bestF_snoc (costs : List RR) (xs : List Nat) (i : Nat) : bestF costs (xs ++ [i]) = stepB costs (bestF costs xs) i := by unfold bestF; rw [List.foldl_append]; rfl
/-- The cells of the best one. -/
def cellsB (costs : List RR) (f : Nat → (Option Addr × Nat) × (Option Addr × Nat)) (b : Option Nat) : Array Value :=
  match b with
  | none => #[.bool false, .slice none 0 0, .slice none 0 0]
  | some j => #[.bool (costs.getD j zR).neg, .slice (f j).1.1 (costs.getD j zR).num.length (f j).1.2, .slice (f j).2.1 (costs.getD j zR).den.length (f j).2.2]
def keyB (b : Option Nat) : Int := ((b.getD 0 : Nat) : Int)

theorem Fr.below {p : Nat → Prop} {A B : World} {B0 : Nat} (k : Fr p A B) (h : ∀ i, i < B0 → ¬ p i) (hA : B0 ≤ A.heap.size) : Below B0 A B :=
  ⟨k.zero.os, k.zero.tape, k.zero.output, k.zero.size, fun i hi => k.block i (Nat.lt_of_lt_of_le hi hA) (h i hi)⟩
theorem Fr.drew {p : Nat → Prop} {A B : World} (k : Fr p A B) : Fr p A B.drew := ⟨k.zero.drew, k.block⟩
theorem cellsB_three (costs : List RR) (f : Nat → (Option Addr × Nat) × (Option Addr × Nat)) (b : Option Nat) : ∃ x y z, cellsB costs f b = #[x, y, z] := by
  cases b with
  | none => exact ⟨_, _, _, rfl⟩
  | some j => exact ⟨_, _, _, rfl⟩

end Go.Proofs.Ytlbppdgijjbjbaa
