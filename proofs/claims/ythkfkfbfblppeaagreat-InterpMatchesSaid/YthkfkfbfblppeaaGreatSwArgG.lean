/- Part of the proof of imatL_holds: what the row needs of ArgG. Conditions: as each theorem states. -/
import Derived.Test.YthkfkfbfblppeaaGreatSwArgR
import Derived.Test.YthkfkfbfblppeaaGreatSwGL
namespace Go.Proofs.YthkfkfbfblppeaaGreat
set_option linter.unusedSimpArgs false
set_option linter.unusedVariables false
open Go.ChangeShapes Go.WideShapes Go.ChangeAt Go.RowKit
section
variable {H : Type} {enc : TypeId × Value → H} {w : World} {base : Nat} {spare : Nat → Bool} {held : Bool}
theorem Tryz.cellsGI : Tryz.prog.cellsOf 3 = 1 := by kernel_rfl
theorem Tryz.cellsGS : Tryz.prog.cellsOf 24 = 1 := by kernel_rfl
theorem intsG_of_trod {n : Nat} {cs : List Value} {x : DataW H × List MemPlace} (h : DataW.trod enc Tryz.prog w base spare held n 24 cs = some x) : ∃ v l, cs = [v] ∧ RdI .i64 w v l ∧ ∀ y ∈ l, -9223372036854775808 ≤ y ∧ y ≤ 9223372036854775807 := by
  have inst : Inhabited { x : Int // (Lit.int .i64 x).wf = true } := ⟨⟨0, by decide⟩⟩
  obtain ⟨v', l, hcs, hr⟩ := rdN_of_trod (m := 1) (f := fun x : { x : Int // (Lit.int .i64 x).wf = true } => [Value.int .i64 x.1]) Tryz.underlying24 Tryz.cellsGI (by omega) (fun _ => rfl)
    (fun n cs x hx => by obtain ⟨a, e0, _, wa⟩ := DataW.trod_int Tryz.underlying3 hx; exact ⟨⟨a, wa⟩, e0⟩) h
  refine ⟨v', l.map (·.1), hcs, ?_, fun y hy => by
    obtain ⟨z, _, rfl⟩ := List.mem_map.1 hy
    have := z.2
    simp [Lit.wf, IntKind.min, IntKind.max, IntKind.signed, IntKind.bits] at this
    omega⟩
  have := rd_of_rdN1 (f := fun x : { x : Int // (Lit.int .i64 x).wf = true } => Value.int .i64 x.1) hr
  unfold RdI
  rw [List.map_map]
  exact this
set_option maxRecDepth 100000 in
theorem gridG_of_trod {n : Nat} {cs : List Value} {x : DataW H × List MemPlace} (h : DataW.trod enc Tryz.prog w base spare held n 23 cs = some x) : ∃ v g, cs = [v] ∧ RdG w v g := by
  obtain ⟨a, len, cap, rfl, h1, h2, h3⟩ := rdG_of_trod (m := 1) (Pp := fun cs => ∃ (v : Value) (l : List Int), cs = [v] ∧ RdI .i64 w v l) Tryz.underlying23 Tryz.cellsGS (by omega)
    (fun n cs x hx => by
      obtain ⟨v, l, e, hr, _⟩ := intsG_of_trod hx
      exact ⟨⟨v, l, e, hr⟩, by rw [e]; rfl⟩) h
  have hex : ∀ i, ∃ c : List Int, i < len → ∃ b off ai ci, a = some ⟨b, off, none⟩ ∧ b < w.heap.size ∧ w.cell? ⟨b, off + i, none⟩ = some (.slice ai c.length ci) ∧ RdI .i64 w (.slice ai c.length ci) c := by
    intro i
    by_cases hi : i < len
    · obtain ⟨b, off, es, e1, e2, ⟨v, l, e3, e4⟩, _, e6⟩ := h3 i hi
      obtain ⟨ai, ci, rfl, _⟩ := e4.get
      subst e3
      exact ⟨l, fun _ => ⟨b, off, ai, ci, e1, e2, by have := e6 0 (by omega); simpa using this, e4⟩⟩
    · exact ⟨[], fun h => absurd h hi⟩
  refine ⟨_, (List.range len).map fun i => Classical.choose (hex i), rfl, ⟨a, cap, by simp, by simpa using h1, h2, fun i hi => ?_⟩⟩
  have hi' : i < len := by simpa using hi
  have e : ((List.range len).map fun i => Classical.choose (hex i)).getD i [] = Classical.choose (hex i) := by simp [hi']
  rw [e]
  exact Classical.choose_spec (hex i) hi'
set_option maxRecDepth 100000 in
theorem open_grid {r : Reach} {b0 : Nat} {v : Value} {d : DataW H} {p : List MemPlace} (hv : Value.okWide Tryz.prog w r b0 23 v) (h : DataW.Trod enc Tryz.prog w base spare held 23 v d p) : ∃ g, RdG w v g := by
  obtain ⟨n, hf⟩ := h
  obtain ⟨v', g, e, h1⟩ := gridG_of_trod hf
  rw [okSlice Tryz.underlying23 hv e] at h1
  exact ⟨g, h1⟩
set_option maxRecDepth 100000 in
theorem openB_ints {r : Reach} {b0 : Nat} {v : Value} {d : DataW H} {p : List MemPlace} (hv : Value.okWide Tryz.prog w r b0 24 v) (h : DataW.Trod enc Tryz.prog w base spare held 24 v d p) : ∃ l : List Int, RdI .i64 w v l ∧ ∀ i, i < l.length → -9223372036854775808 ≤ l.getD i 0 ∧ l.getD i 0 ≤ 9223372036854775807 := by
  obtain ⟨n, hf⟩ := h
  obtain ⟨v', l, e, h1, h2⟩ := intsG_of_trod hf
  rw [okSlice Tryz.underlying24 hv e] at h1
  refine ⟨l, h1, fun i hi => ?_⟩
  rw [List.getD_eq_getElem?_getD, List.getElem?_eq_getElem hi]
  exact h2 _ (List.getElem_mem hi)
end
end Go.Proofs.YthkfkfbfblppeaaGreat
