/- Part of the proof of imatL_holds: what the row needs of AdvF. Conditions: as each theorem states. -/
import Derived.Test.YthkfkfbfblppeaaGreatSwAdvL
import Derived.Test.YthkfkfbfblppeaaGreatSwGD
namespace Go.Proofs.YthkfkfbfblppeaaGreat
set_option linter.unusedSimpArgs false
set_option linter.unusedVariables false
open Go.RowKit Go.Shelf
attribute [local go_sem] Oper.semAt_some
def stepB (costs : List RR) (b : Option Nat) (i : Nat) : Option Nat :=
  match b with
  | none => some i
  | some j => if ltR (costs.getD i zR) (costs.getD j zR) = true then some i else some j
def bestF (costs : List RR) (xs : List Nat) : Option Nat := xs.foldl (stepB costs) none
def cellsB (costs : List RR) (f : Nat → (Option Addr × Nat) × (Option Addr × Nat)) (b : Option Nat) : Array Value :=
  match b with
  | none => #[.bool false, .slice none 0 0, .slice none 0 0]
  | some j => #[.bool (costs.getD j zR).neg, .slice (f j).1.1 (costs.getD j zR).num.length (f j).1.2, .slice (f j).2.1 (costs.getD j zR).den.length (f j).2.2]
def keyB (b : Option Nat) : Int := ((b.getD 0 : Nat) : Int)
def FirI (costs : List RR) (f : Nat → (Option Addr × Nat) × (Option Addr × Nat)) (w : World) (pre : List Nat) (W : World) : Prop :=
  Ext w W ∧ (∀ j, bestF costs pre = some j → j < costs.length) ∧ Blk W w.heap.size #[.func (.func 99) #[] #[]] 69 ∧ Blk W (w.heap.size + 1) #[.int .i64 (keyB (bestF costs pre))] 3 ∧
    Blk W (w.heap.size + 2) #[.bool (bestF costs pre).isSome] 4 ∧ Blk W (w.heap.size + 3) (cellsB costs f (bestF costs pre)) 62
theorem FirI.kz {costs : List RR} {f : Nat → (Option Addr × Nat) × (Option Addr × Nat)} {w : World} {pre : List Nat} {A B : World} {m : Nat} (h : FirI costs f w pre A) (k : Kz m A B) (hm : w.heap.size + 3 < m) : FirI costs f w pre B := by
  obtain ⟨h1, h2, h3, h4, h5, h6⟩ := h
  exact ⟨h1.kz k (by omega), h2, h3.kz k (by omega), h4.kz k (by omega), h5.kz k (by omega), h6.kz k (by omega)⟩
theorem FirI.ext {costs : List RR} {f : Nat → (Option Addr × Nat) × (Option Addr × Nat)} {w : World} {pre : List Nat} {A B : World} (h : FirI costs f w pre A) (k : Ext A B) : FirI costs f w pre B := by
  obtain ⟨h1, h2, h3, h4, h5, h6⟩ := h
  exact ⟨h1.trans k, h2, h3.ext k, h4.ext k, h5.ext k, h6.ext k⟩
theorem Fr.below {p : Nat → Prop} {A B : World} {B0 : Nat} (k : Fr p A B) (h : ∀ i, i < B0 → ¬ p i) (hA : B0 ≤ A.heap.size) : Below B0 A B :=
  ⟨k.zero.os, k.zero.tape, k.zero.output, k.zero.size, fun i hi => k.block i (Nat.lt_of_lt_of_le hi hA) (h i hi)⟩
theorem Fr.drew {p : Nat → Prop} {A B : World} (k : Fr p A B) : Fr p A B.drew := ⟨k.zero.drew, k.block⟩
end Go.Proofs.YthkfkfbfblppeaaGreat
