/- Part of the proof of imatL_holds: what the row needs of ArgR. Conditions: as each theorem states. -/
import Derived.Test.YthkfkfbfblppeaaGreatSwRatRow
import Derived.Test.YthkfkfbfblppeaaGreatSwRatLs
import Derived.Test.YthkfkfbfblppeaaGreatSwBoolS
import Derived.Test.YthkfkfbfblppeaaGreatSwGI
namespace Go.Proofs.YthkfkfbfblppeaaGreat
set_option linter.unusedSimpArgs false
set_option linter.unusedVariables false
open Go.RowKit Go.ChangeShapes Go.WideShapes Go.ChangeAt Go.Deep
section
variable {H : Type} {enc : TypeId × Value → H} {w : World} {base : Nat} {spare : Nat → Bool} {held : Bool}
set_option maxRecDepth 100000 in
/-- A slice, by its reading: m cells an element, each of which has a property. -/
theorem rdG_of_trod {n m : Nat} {t e : TypeId} {Pp : List Value → Prop} {cs : List Value} {x : DataW H × List MemPlace} (ht : Tryz.prog.underlying t = some (.slice e)) (hm : Tryz.prog.cellsOf e = m) (hm0 : 0 < m)
    (hel : ∀ n cs x, DataW.trod enc Tryz.prog w base spare held n e cs = some x → Pp cs ∧ cs.length = m) (h : DataW.trod enc Tryz.prog w base spare held n t cs = some x) :
    ∃ (a : Option Addr) (len cap : Nat), cs = [.slice a len cap] ∧ len ≤ cap ∧ cap ≤ 9223372036854775807 ∧ ∀ i, i < len → ∃ b off es, a = some ⟨b, off, none⟩ ∧ b < w.heap.size ∧ Pp es ∧ es.length = m ∧ ∀ j, j < m → w.cell? ⟨b, off + i * m + j, none⟩ = es[j]? := by
  rcases open_slice ht h with ⟨rfl, _⟩ | ⟨a, len, cap, k, n', D, Pl, rfl, hb, hlc, hcm, hk, _, hall⟩
  · exact ⟨none, 0, 0, rfl, by omega, by omega, fun i hi => by omega⟩
  · have hlk : len ≤ k := by rw [hk]; split <;> omega
    have hex : ∀ i, i < len → ∃ es, w.cells? base (a.add (i * m)) m = some es ∧ Pp es ∧ es.length = m := by
      intro i hi
      obtain ⟨cs', h1, h2⟩ := hall i (by omega)
      obtain ⟨h3, h4⟩ := hel _ _ _ h2
      exact ⟨cs', by rw [hm] at h1; exact h1, h3, h4⟩
    refine ⟨some a, len, cap, rfl, hlc, by unfold maxLen at hcm; omega, fun i hi => ?_⟩
    obtain ⟨es, h1, h2, h3⟩ := hex i hi
    obtain ⟨es0, g1, g2, g3⟩ := hex 0 (by omega)
    obtain ⟨_, _, hcell⟩ := World.cells?_some h1
    have hblk := World.cells?_block h1 hm0
    obtain ⟨b, off, spot⟩ := a
    obtain ⟨_, _, hc0⟩ := World.cells?_some g1
    have hsome : w.cell? (((Addr.mk b off spot).add (0 * m)).add 0) = some (es0[0]'(by rw [g3]; exact hm0)) := by rw [hc0 0 hm0, List.getElem?_eq_getElem]
    have hspot : spot = none := by simpa [Addr.add] using World.cell?_spot hsome
    subst hspot
    rw [Go.WideShapes.add_plain] at hblk
    refine ⟨b, off, es, rfl, hblk, h2, h3, fun j hj => ?_⟩
    have h5 := hcell j hj
    rw [Go.WideShapes.add_plain, Go.WideShapes.add_plain] at h5
    exact h5
set_option maxRecDepth 100000 in
theorem okSlice {r : Reach} {b0 : Nat} {t e : TypeId} {v v' : Value} (ht : Tryz.prog.underlying t = some (.slice e)) (hv : Value.okWide Tryz.prog w r b0 t v) (h : v.cells.toList = [v']) : v' = v := by
  obtain ⟨a, len, cap, rfl⟩ := okWide_slice ht hv
  simpa [Value.cells] using h.symm
instance : Inhabited Bnd := ⟨(0, 0, 0)⟩
def i64B (x : Int) : Prop := -9223372036854775808 ≤ x ∧ x ≤ 9223372036854775807
theorem i64B_of {x : Int} (h : (Lit.int .i64 x).wf = true) : i64B x := by simp [Lit.wf, IntKind.min, IntKind.max, IntKind.signed, IntKind.bits] at h; unfold i64B; omega
end
end Go.Proofs.YthkfkfbfblppeaaGreat
