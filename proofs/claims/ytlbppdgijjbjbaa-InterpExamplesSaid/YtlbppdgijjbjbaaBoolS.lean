/- Slices of booleans: reading, comparing, copying. Conditions: the arguments read as slices. -/
import Derived.Test.YtlbppdgijjbjbaaGA
namespace Go.Proofs.Ytlbppdgijjbjbaa
set_option linter.unusedSimpArgs false
set_option linter.unusedVariables false
open Go.RowKit

theorem rdB_get {w : World} {v : Value} {l : List Bool} (h : Rd w v (l.map Value.bool)) : ∃ a cap, v = .slice a l.length cap ∧ l.length ≤ cap ∧ cap ≤ 9223372036854775807 ∧
    ∀ i, i < l.length → ∃ b off, a = some ⟨b, off, none⟩ ∧ b < w.heap.size ∧ w.cell? ⟨b, off + i, none⟩ = some (.bool (l.getD i false)) := by
  obtain ⟨a, cap, hv, hc, hm, hr⟩ := h
  simp only [List.length_map] at hv hc hr
  refine ⟨a, cap, hv, hc, hm, fun i hi => ?_⟩
  obtain ⟨b, off, ha, hb, hx⟩ := hr i hi
  exact ⟨b, off, ha, hb, by rw [hx]; simp [hi]⟩

theorem Try.infoBo : (Try.prog.info? 4).map (fun i => (i.zero, i.size, i.bytes)) = some (some (.bool false), 1, 1) := by kernel_rfl
/-- A row of booleans of the call's own. -/
abbrev OwBo (w : World) (B : Nat) (v : Value) (l : List Bool) : Prop := w.ownsRow B 4 1 v l.length (l.map Value.bool)
theorem OwBo.rd {w : World} {B : Nat} {v : Value} {l : List Bool} (h : OwBo w B v l) : Rd w v (l.map Value.bool) := own_rd (B := B) (e := 4) (by rw [List.length_map]; exact h)
theorem map_take_succB {α β : Type} (f : α → β) (l : List α) (k : Nat) (h : k < l.length) : (l.take (k + 1)).map f = (l.take k).map f ++ [f l[k]] := by
  rw [List.take_succ_eq_append_getElem h, List.map_append]; rfl

end Go.Proofs.Ytlbppdgijjbjbaa
