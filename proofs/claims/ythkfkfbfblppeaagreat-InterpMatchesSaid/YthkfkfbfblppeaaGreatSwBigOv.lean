/- Part of the proof of imatL_holds: what the row needs of BigOv. Conditions: as each theorem states. -/
import Derived.Test.YthkfkfbfblppeaaGreatSwBigRow
import Derived.Test.YthkfkfbfblppeaaGreatSwGF
namespace Go.Proofs.YthkfkfbfblppeaaGreat
set_option linter.unusedSimpArgs false
set_option linter.unusedVariables false
open Go.RowKit
def Kp (W : World) (A B : Nat) (v : Value) (l : List Int) : Prop := ∃ o, OwV W o v l ∧ ∀ g, o = some g → A ≤ g ∧ g < B
def GrI (A B : Nat) (W W' : World) : Prop := ∃ o, Gr o W W' ∧ ∀ g, o = some g → A ≤ g ∧ g < B
theorem Kp.new {w w' : World} {v : Value} {l : List Int} (h : NewV w w' v l) : Kp w' w.heap.size w'.heap.size v l := by
  obtain ⟨o, h1, h2⟩ := h
  exact ⟨o, h1, fun g hg => ⟨h2 g hg, h1.lt hg⟩⟩
theorem Kp.ext {w w' : World} {A B : Nat} {v : Value} {l : List Int} (h : Kp w A B v l) (x : Ext w w') : Kp w' A B v l := by
  obtain ⟨o, h1, h2⟩ := h
  exact ⟨o, h1.ext x, h2⟩
theorem Kp.rd {w : World} {A B : Nat} {v : Value} {l : List Int} (h : Kp w A B v l) : RdI .u32 w v l := by obtain ⟨o, h1, _⟩ := h; exact h1.rdI
theorem Kp.gr {w w' : World} {A B C D : Nat} {v : Value} {l : List Int} (h : Kp w A B v l) (k : GrI C D w w') (hd : D ≤ A ∨ B ≤ C) : Kp w' A B v l := by
  obtain ⟨o, h1, h2⟩ := h
  obtain ⟨o', k1, k2⟩ := k
  exact ⟨o, h1.gr k1 (fun g hg e => by have a := h2 g hg; have b := k2 g e.symm; omega), h2⟩
theorem GrI.ext {w W W' : World} {A B : Nat} (x : Ext w W) (k : GrI A B W W') (h : w.heap.size ≤ A) : Ext w W' := by
  obtain ⟨o, k1, k2⟩ := k
  exact ((Gr.of_ext (o := none) x).fresh k1 (fun g hg => .inr (Nat.le_trans h (k2 g hg).1))).ext
end Go.Proofs.YthkfkfbfblppeaaGreat
