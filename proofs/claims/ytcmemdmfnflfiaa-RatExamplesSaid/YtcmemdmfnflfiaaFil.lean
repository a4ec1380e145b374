/- Rows of limbs that a loop fills with the greatest limb, their zeros by name. Conditions: as each states. -/
import Derived.Test.YtcmemdmfnflfiaaGB
import Derived.Test.YtcmemdmfnflfiaaGC
namespace Go.Proofs.Ytcmemdmfnflfiaa
set_option linter.unusedSimpArgs false
set_option linter.unusedVariables false
open Go.RowKit

/-- A row of n limbs, of which the first k are the greatest limb. -/
def Fil (n : Nat) (l : List Int) (k : Nat) : Prop := l.length = n ∧ ∀ j, j < n → l.getD j 0 = if j < k then 4294967295 else 0
theorem Fil.set {n : Nat} {l : List Int} {k : Nat} (h : Fil n l k) (hk : k < n) : Fil n (l.set k 4294967295) (k + 1) := by
  refine ⟨(List.length_set).trans h.1, fun j hj => ?_⟩
  by_cases e : j = k
  · subst e
    rw [List.getD_eq_getElem?_getD, List.getElem?_set_self (by rw [h.1]; exact hk), if_pos (by omega)]; rfl
  · rw [List.getD_eq_getElem?_getD, List.getElem?_set_ne (fun h => e h.symm), ← List.getD_eq_getElem?_getD, h.2 j hj]
    by_cases h3 : j < k
    · rw [if_pos h3, if_pos (by omega)]
    · rw [if_neg h3, if_neg (by omega)]
theorem Fil.top {n : Nat} {l : List Int} (h : Fil n l n) : l = List.replicate n 4294967295 := by
  obtain ⟨h1, h2⟩ := h
  subst h1
  apply List.ext_getElem
  · rw [List.length_replicate]
  · intro i h1 h3
    have := h2 i h1
    rw [List.getD_eq_getElem?_getD, List.getElem?_eq_getElem h1, if_pos h1] at this
    rw [List.getElem_replicate]
    exact this
theorem Fil.zero (n : Nat) : Fil n (List.replicate n 0) 0 := ⟨List.length_replicate, fun j hj => by rw [List.getD_eq_getElem?_getD, List.getElem?_replicate, if_pos hj, if_neg (by omega)]; rfl⟩

/-- 'make(api.Nat, n)', its zeros by name. -/
theorem wpList_make_f {w : World} {ops : Array Oper} {rest : List Oper} {o : Oper} {a : Act} {Q : Exit → Act → World → Prop}
    (hg : o.guard = none) (l c : Operand) (hop : o.op = Op.makeSlice 68 l c) (L C : Int) (n : Nat) (hl : a.eval l = .int .i64 L) (hc : a.eval c = .int .i64 C) (hL : L = (n : Int)) (hC : C = (n : Int)) (hn : n ≤ 1000000000)
    (hK : ∀ w' zs, Fil n zs 0 → RowU w' w.heap.size n zs → Ext w w' → w'.heap.size = w.heap.size + 1 → wpList Try.prog ops Q rest (a.put o.dst (.slice (some ⟨w.heap.size, 0, none⟩) n n)) w') :
    wpList Try.prog ops Q (o :: rest) a w :=
  wpList_make_u hg l c hop L C n hl hc hL hC hn fun w' h1 h2 h3 => hK w' _ (Fil.zero n) h1 h2 h3
theorem Fil.zeros {n : Nat} {l : List Int} (h : Fil n l 0) : l = List.replicate n 0 := by
  obtain ⟨h1, h2⟩ := h
  subst h1
  apply List.ext_getElem
  · rw [List.length_replicate]
  · intro i h1 h3
    have := h2 i h1
    rw [List.getD_eq_getElem?_getD, List.getElem?_eq_getElem h1, if_neg (by omega)] at this
    rw [List.getElem_replicate]
    exact this

end Go.Proofs.Ytcmemdmfnflfiaa
