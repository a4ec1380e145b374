/- Part of the proof of ivalL_holds: what the row needs of ArgR. Conditions: as each theorem states. -/
import Derived.Test.YtlbppdgijjbjbaaGreatSvRatRow
import Derived.Test.YtlbppdgijjbjbaaGreatSvRatLs
import Derived.Test.YtlbppdgijjbjbaaGreatSvBoolS
import Derived.Test.YtlbppdgijjbjbaaGreatSvGI
namespace Go.Proofs.YtlbppdgijjbjbaaGreat
set_option linter.unusedSimpArgs false
set_option linter.unusedVariables false
open Go.RowKit Go.ChangeShapes Go.WideShapes Go.ChangeAt Go.Deep
section
variable {H : Type} {enc : TypeId × Value → H} {w : World} {base : Nat} {spare : Nat → Bool} {held : Bool}
set_option maxRecDepth 100000 in
/-- A slice, by its reading: m cells an element, each of which has a property. -/
theorem rdG_of_trod {n m : Nat} {t e : TypeId} {Pp : List Value → Prop} {cs : List Value} {x : DataW H × List MemPlace} (ht : Tryz.prog.underlying t = some (.slice e)) (hm : Tryz.prog.cellsOf e = m) (hm0 : 0 < m)
    (hel : ∀ n cs x, DataW.trod enc Tryz.prog w base spare held n e cs = some x → Pp cs ∧ cs.length = m) (h : DataW.trod enc Tryz.prog w base spare held n t cs = some x) :
    ∃ (a : Option Addr) (len cap : Nat), cs = [.slice a len cap] ∧ len ≤ cap ∧ cap ≤ 9223372036854775807 ∧ ∀ i, i < len → ∃ b off es, a = some ⟨b, off, none⟩ ∧ b < w.heap.size ∧ Pp es ∧ es.length = m ∧ ∀ j, j < m → w.cell? ⟨b, off + i * m + j, none⟩ = es[j]? := by
  rcases open_slice ht h with ⟨rfl, _⟩ | ⟨a, len, cap, k, n', D, Pl, rfl, hb, hlc, hcm, hk, _, hall⟩
  · exact ⟨none, 0, 0, rfl, by omega, by omega, fun i hi => by omega⟩
  · have hlk : len ≤ k := by rw [hk]; split <;> omega
    have hex : ∀ i, i < len → ∃ es, w.cells? base (a.add (i * m)) m = some es ∧ Pp es ∧ es.length = m := by
      intro i hi
      obtain ⟨cs', h1, h2⟩ := hall i (by omega)
      obtain ⟨h3, h4⟩ := hel _ _ _ h2
      exact ⟨cs', by rw [hm] at h1; exact h1, h3, h4⟩
    refine ⟨some a, len, cap, rfl, hlc, by unfold maxLen at hcm; omega, fun i hi => ?_⟩
    obtain ⟨es, h1, h2, h3⟩ := hex i hi
    obtain ⟨es0, g1, g2, g3⟩ := hex 0 (by omega)
    obtain ⟨_, _, hcell⟩ := World.cells?_some h1
    have hblk := World.cells?_block h1 hm0
    obtain ⟨b, off, spot⟩ := a
    obtain ⟨_, _, hc0⟩ := World.cells?_some g1
    have hsome : w.cell? (((Addr.mk b off spot).add (0 * m)).add 0) = some (es0[0]'(by rw [g3]; exact hm0)) := by rw [hc0 0 hm0, List.getElem?_eq_getElem]
    have hspot : spot = none := by simpa [Addr.add] using World.cell?_spot hsome
    subst hspot
    rw [Go.WideShapes.add_plain] at hblk
    refine ⟨b, off, es, rfl, hblk, h2, h3, fun j hj => ?_⟩
    have h5 := hcell j hj
    rw [Go.WideShapes.add_plain, Go.WideShapes.add_plain] at h5
    exact h5
set_option maxRecDepth 100000 in
/-- A slice of api.Rats, by its reading. -/
theorem rdRs_of_trod {n : Nat} {cs : List Value} {x : DataW H × List MemPlace} (h : DataW.trod enc Tryz.prog w base spare held n 24 cs = some x) :
    ∃ (v : Value) (l : List RR), cs = [v] ∧ RdRs w v l ∧ ∀ i, i < l.length → LimR (l.getD i zR) := by
  obtain ⟨a, len, cap, rfl, h1, h2, h3⟩ := rdG_of_trod (m := 3) (Pp := fun cs => ∃ (b : Bool) (v u : Value) (l m : List Int), cs = [.bool b, v, u] ∧ RdI .u32 w v l ∧ Lim l ∧ RdI .u32 w u m ∧ Lim m) Tryz.underlying24 Tryz.cellsR (by omega)
    (fun n cs x hx => by
      refine ⟨trod_rat hx, ?_⟩
      obtain ⟨b, v, u, l, m, e, _⟩ := trod_rat hx
      rw [e]; rfl) h
  have hex : ∀ i, ∃ r : RR, i < len → ∃ b off a1 c1 a2 c2, a = some ⟨b, off, none⟩ ∧ b < w.heap.size ∧
      w.cell? ⟨b, off + i * 3, none⟩ = some (.bool r.neg) ∧ w.cell? ⟨b, off + i * 3 + 1, none⟩ = some (.slice a1 r.num.length c1) ∧ w.cell? ⟨b, off + i * 3 + 2, none⟩ = some (.slice a2 r.den.length c2) ∧
      RdI .u32 w (.slice a1 r.num.length c1) r.num ∧ RdI .u32 w (.slice a2 r.den.length c2) r.den ∧ LimR r := by
    intro i
    by_cases hi : i < len
    · obtain ⟨b, off, es, e1, e2, ⟨bb, v, u, l, m, e3, e4, e5, e6, e7⟩, e8, e9⟩ := h3 i hi
      obtain ⟨a1, c1, rfl⟩ := rdU_shape e4
      obtain ⟨a2, c2, rfl⟩ := rdU_shape e6
      subst e3
      exact ⟨⟨bb, l, m⟩, fun _ => ⟨b, off, a1, c1, a2, c2, e1, e2, e9 0 (by omega), e9 1 (by omega), e9 2 (by omega), e4, e6, e5, e7⟩⟩
    · exact ⟨zR, fun h => absurd h hi⟩
  refine ⟨_, (List.range len).map fun i => Classical.choose (hex i), rfl, ⟨a, cap, by simp, by simpa using h1, h2, fun i hi => ?_⟩, fun i hi => ?_⟩
  · have hi' : i < len := by simpa using hi
    have e : ((List.range len).map fun i => Classical.choose (hex i)).getD i zR = Classical.choose (hex i) := by simp [hi']
    rw [e]
    obtain ⟨b, off, a1, c1, a2, c2, e1, e2, e3, e4, e5, e6, e7, _⟩ := Classical.choose_spec (hex i) hi'
    exact ⟨b, off, a1, c1, a2, c2, e1, e2, e3, e4, e5, e6, e7⟩
  · have hi' : i < len := by simpa using hi
    have e : ((List.range len).map fun i => Classical.choose (hex i)).getD i zR = Classical.choose (hex i) := by simp [hi']
    rw [e]
    obtain ⟨b, off, a1, c1, a2, c2, e1, e2, e3, e4, e5, e6, e7, e8⟩ := Classical.choose_spec (hex i) hi'
    exact e8
set_option maxRecDepth 100000 in
theorem okSlice {r : Reach} {b0 : Nat} {t e : TypeId} {v v' : Value} (ht : Tryz.prog.underlying t = some (.slice e)) (hv : Value.okWide Tryz.prog w r b0 t v) (h : v.cells.toList = [v']) : v' = v := by
  obtain ⟨a, len, cap, rfl⟩ := okWide_slice ht hv
  simpa [Value.cells] using h.symm
set_option maxRecDepth 100000 in
theorem open_rats {r : Reach} {b0 : Nat} {v : Value} {d : DataW H} {p : List MemPlace} (hv : Value.okWide Tryz.prog w r b0 24 v) (h : DataW.Trod enc Tryz.prog w base spare held 24 v d p) :
    ∃ l : List RR, RdRs w v l ∧ ∀ i, i < l.length → LimR (l.getD i zR) := by
  obtain ⟨n, hf⟩ := h
  obtain ⟨v', l, e, h1, h2⟩ := rdRs_of_trod hf
  rw [okSlice Tryz.underlying24 hv e] at h1
  exact ⟨l, h1, h2⟩
instance : Inhabited Bnd := ⟨(0, 0, 0)⟩
end
end Go.Proofs.YtlbppdgijjbjbaaGreat
