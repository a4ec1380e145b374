/- Results that a law overwrites: what is kept. Conditions: rows of the call's own. -/
import Derived.Test.YthkfkfbfblppeaaGreatBigRow
import Derived.Test.YthkfkfbfblppeaaGreatGF
namespace Go.Proofs.YthkfkfbfblppeaaGreat
set_option linter.unusedSimpArgs false
set_option linter.unusedVariables false
open Go.RowKit

/-- v reads l in memory of the call's own, whose block lies in [A, B). -/
def Kp (W : World) (A B : Nat) (v : Value) (l : List Int) : Prop := ∃ o, OwV W o v l ∧ ∀ g, o = some g → A ≤ g ∧ g < B
/-- Nothing is changed but a block in [A, B). -/
def GrI (A B : Nat) (W W' : World) : Prop := ∃ o, Gr o W W' ∧ ∀ g, o = some g → A ≤ g ∧ g < B

theorem Kp.new {w w' : World} {v : Value} {l : List Int} (h : NewV w w' v l) : Kp w' w.heap.size w'.heap.size v l := by
  obtain ⟨o, h1, h2⟩ := h
  exact ⟨o, h1, fun g hg => ⟨h2 g hg, h1.lt hg⟩⟩
theorem Kp.ext {w w' : World} {A B : Nat} {v : Value} {l : List Int} (h : Kp w A B v l) (x : Ext w w') : Kp w' A B v l := by
  obtain ⟨o, h1, h2⟩ := h
  exact ⟨o, h1.ext x, h2⟩
theorem Kp.rd {w : World} {A B : Nat} {v : Value} {l : List Int} (h : Kp w A B v l) : RdI .u32 w v l := by obtain ⟨o, h1, _⟩ := h; exact h1.rdI
theorem Kp.gr {w w' : World} {A B C D : Nat} {v : Value} {l : List Int} (h : Kp w A B v l) (k : GrI C D w w') (hd : D ≤ A ∨ B ≤ C) : Kp w' A B v l := by
  obtain ⟨o, h1, h2⟩ := h
  obtain ⟨o', k1, k2⟩ := k
  exact ⟨o, h1.gr k1 (fun g hg e => by have a := h2 g hg; have b := k2 g e.symm; omega), h2⟩
theorem GrI.ext {w W W' : World} {A B : Nat} (x : Ext w W) (k : GrI A B W W') (h : w.heap.size ≤ A) : Ext w W' := by
  obtain ⟨o, k1, k2⟩ := k
  exact ((Gr.of_ext (o := none) x).fresh k1 (fun g hg => .inr (Nat.le_trans h (k2 g hg).1))).ext

theorem overKp_any (v : Value) (l : List Int) (A B : Nat) (w : World) (h : Kp w A B v l) :
    Calls Tryz.prog 102 #[v] w fun e w' => e = .returned (.tuple #[]) ∧ GrI A B w w' := by
  obtain ⟨o, h1, h2⟩ := h
  exact (overNat_any o v l w h1).mono fun e w' ⟨he, hg⟩ => ⟨he, o, hg, h2⟩

theorem equalSame_any (v1 v2 : Value) (l : List Int) (w : World) (h1 : RdI .u32 w v1 l) (h2 : RdI .u32 w v2 l) :
    Calls Tryz.prog 101 #[v1, v2] w fun e w' => e = .returned (.bool true) ∧ Ext w w' := by
  have := equalNat_any v1 v2 l l w h1 h2
  rwa [decide_eq_true rfl] at this

end Go.Proofs.YthkfkfbfblppeaaGreat
