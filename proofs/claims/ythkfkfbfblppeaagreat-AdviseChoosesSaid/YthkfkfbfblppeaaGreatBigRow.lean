/- The rows' frame for laws of layer 5: two facts on the program, and numbers by their readings. Conditions: none. -/
import Derived.Test.YthkfkfbfblppeaaGreatRows
import Derived.Test.YthkfkfbfblppeaaGreatBigLo
import Derived.ProofKit
import Derived.Deep.Slices
import Derived.OpenShut
import Derived.ShutString
import Derived.ChangeOld
import Derived.Below
namespace Go.Proofs.YthkfkfbfblppeaaGreat
set_option linter.unusedSimpArgs false
set_option linter.unusedVariables false
open Go.RowKit Go.ChangeShapes Go.WideShapes Go.ChangeAt Go.Deep

theorem rowOwn : ownKnob Tryz.prog.godebug = none := by kernel_rfl
theorem rowLaid : laidOutB Tryz.prog = true := by kernel_rfl

section
variable {H : Type} {enc : TypeId × Value → H} {w : World} {base : Nat} {spare : Nat → Bool} {held : Bool}

/-- A slice, by its reading: n cells an element, each element of a known form. -/
theorem rdN_of_trod {n m : Nat} {t e : TypeId} {α : Type} {f : α → List Value} {cs : List Value} {x : DataW H × List MemPlace} (ht : Tryz.prog.underlying t = some (.slice e)) (hm : Tryz.prog.cellsOf e = m) (hm0 : 0 < m) (hfl : ∀ y, (f y).length = m)
    (hel : ∀ n cs x, DataW.trod enc Tryz.prog w base spare held n e cs = some x → ∃ y : α, cs = f y) [Inhabited α] (h : DataW.trod enc Tryz.prog w base spare held n t cs = some x) :
    ∃ (v : Value) (l : List α), cs = [v] ∧ RdN m w v (l.map f) := by
  rcases open_slice ht h with ⟨rfl, _⟩ | ⟨a, len, cap, k, n', D, Pl, rfl, hb, hlc, hcm, hk, _, hall⟩
  · exact ⟨_, [], rfl, none, 0, rfl, by simp, by simp, fun i hi => by simp at hi⟩
  · have hlk : len ≤ k := by rw [hk]; split <;> omega
    have hex : ∀ i, i < len → ∃ y : α, w.cells? base (a.add (i * m)) m = some (f y) := by
      intro i hi
      obtain ⟨cs', h1, h2⟩ := hall i (by omega)
      obtain ⟨y, rfl⟩ := hel _ _ _ h2
      exact ⟨y, by rw [hm] at h1; exact h1⟩
    have hg : ∃ g : Nat → α, ∀ i, i < len → w.cells? base (a.add (i * m)) m = some (f (g i)) := by
      classical
      exact ⟨fun i => if h : i < len then Classical.choose (hex i h) else default, fun i hi => by simp only [hi, dif_pos]; exact Classical.choose_spec (hex i hi)⟩
    obtain ⟨g, hg⟩ := hg
    refine ⟨_, (List.range len).map g, rfl, some a, cap, by simp, by simpa using hlc, by unfold maxLen at hcm; omega, fun i hi => ?_⟩
    simp at hi
    obtain ⟨_, _, hcell⟩ := World.cells?_some (hg i hi)
    have hblk := World.cells?_block (hg i hi) hm0
    obtain ⟨b, off, spot⟩ := a
    obtain ⟨_, _, hc0⟩ := World.cells?_some (hg 0 (by omega))
    have hsome : w.cell? (((Addr.mk b off spot).add (0 * m)).add 0) = some ((f (g 0))[0]'(by rw [hfl]; exact hm0)) := by rw [hc0 0 hm0, List.getElem?_eq_getElem]
    have hspot : spot = none := by simpa [Addr.add] using World.cell?_spot hsome
    subst hspot
    rw [Go.WideShapes.add_plain] at hblk
    refine ⟨b, off, rfl, hblk, fun j hj => ?_⟩
    have h1 := hcell j hj
    rw [Go.WideShapes.add_plain, Go.WideShapes.add_plain] at h1
    rw [h1]
    simp [hi]


theorem rd_of_rdN1 {w : World} {v : Value} {α : Type} {l : List α} {f : α → Value} (h : RdN 1 w v (l.map fun x => [f x])) : Rd w v (l.map f) := by
  obtain ⟨a, cap, hv, hc, hm, hr⟩ := h
  simp only [List.length_map] at hv hc hr
  refine ⟨a, cap, by simpa using hv, by simpa using hc, hm, fun i hi => ?_⟩
  simp only [List.length_map] at hi
  obtain ⟨b, off, ha, hb, hx⟩ := hr i hi
  have h0 := hx 0 (by omega)
  exact ⟨b, off, ha, hb, by simpa [hi] using h0⟩

set_option maxRecDepth 100000 in
theorem open_ints64 {r : Reach} {b0 : Nat} {t e : TypeId} {k : IntKind} {v : Value} {d : DataW H} {p : List MemPlace} (ht : Tryz.prog.underlying t = some (.slice e)) (he : Tryz.prog.underlying e = some (.int k)) (hc : Tryz.prog.cellsOf e = 1)
    (hv : Value.okWide Tryz.prog w r b0 t v) (h : DataW.Trod enc Tryz.prog w base spare held t v d p) : ∃ l : List Int, RdI k w v l := by
  obtain ⟨a, len, cap, rfl⟩ := okWide_slice ht hv
  obtain ⟨n, hf⟩ := h
  obtain ⟨v', l, hcs, hr⟩ := rdN_of_trod (m := 1) (f := fun x : Int => [Value.int k x]) ht hc (by omega) (fun _ => rfl)
    (fun n cs x hx => by obtain ⟨a, e0, _⟩ := DataW.trod_int he hx; exact ⟨a, e0⟩) hf
  have e : v' = .slice a len cap := by simpa [Value.cells] using hcs.symm
  rw [e] at hr
  exact ⟨l, rd_of_rdN1 hr⟩

set_option maxRecDepth 100000 in
theorem open_intsW {r : Reach} {b0 : Nat} {t e : TypeId} {k : IntKind} {v : Value} {d : DataW H} {p : List MemPlace} (ht : Tryz.prog.underlying t = some (.slice e)) (he : Tryz.prog.underlying e = some (.int k)) (hc : Tryz.prog.cellsOf e = 1)
    (hv : Value.okWide Tryz.prog w r b0 t v) (h : DataW.Trod enc Tryz.prog w base spare held t v d p) (h0 : (Lit.int k 0).wf = true) : ∃ l : List Int, RdI k w v l ∧ ∀ y ∈ l, (Lit.int k y).wf = true := by
  obtain ⟨a, len, cap, rfl⟩ := okWide_slice ht hv
  obtain ⟨n, hf⟩ := h
  have inst : Inhabited { x : Int // (Lit.int k x).wf = true } := ⟨⟨0, h0⟩⟩
  obtain ⟨v', l, hcs, hr⟩ := rdN_of_trod (m := 1) (f := fun x : { x : Int // (Lit.int k x).wf = true } => [Value.int k x.1]) ht hc (by omega) (fun _ => rfl)
    (fun n cs x hx => by obtain ⟨a, e0, _, wa⟩ := DataW.trod_int he hx; exact ⟨⟨a, wa⟩, e0⟩) hf
  have e : v' = .slice a len cap := by simpa [Value.cells] using hcs.symm
  rw [e] at hr
  refine ⟨l.map (·.1), ?_, fun y hy => by obtain ⟨z, _, rfl⟩ := List.mem_map.1 hy; exact z.2⟩
  have := rd_of_rdN1 (f := fun x : { x : Int // (Lit.int k x).wf = true } => Value.int k x.1) hr
  unfold RdI
  rw [List.map_map]
  exact this

theorem Tryz.cells50 : Tryz.prog.cellsOf 206 = 1 := by kernel_rfl
set_option maxRecDepth 100000 in
/-- A number of the arguments. -/
theorem open_limbs {r : Reach} {b0 : Nat} {v : Value} {d : DataW H} {p : List MemPlace} (hv : Value.okWide Tryz.prog w r b0 60 v) (h : DataW.Trod enc Tryz.prog w base spare held 60 v d p) :
    ∃ l : List Int, RdI .u32 w v l ∧ Lim l := by
  obtain ⟨l, h1, h2⟩ := open_intsW Tryz.underlying60 Tryz.underlying206 Tryz.cells50 hv h (by decide)
  exact ⟨l, h1, fun y hy => by have := h2 y hy; simp [Lit.wf, IntKind.min, IntKind.max, IntKind.signed, IntKind.bits] at this; omega⟩
end

end Go.Proofs.YthkfkfbfblppeaaGreat
