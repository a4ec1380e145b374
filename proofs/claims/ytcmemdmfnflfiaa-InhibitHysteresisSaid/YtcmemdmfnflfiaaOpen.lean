/- What the arguments of the laws of layer 30 look like: structs and slices of structs, by their readings. Conditions: none. -/
import Derived.Test.YtcmemdmfnflfiaaAwake
import Derived.ProofKit
import Derived.Deep.Slices
import Derived.OpenShut
namespace Go.Proofs.Ytcmemdmfnflfiaa
set_option linter.unusedSimpArgs false
set_option linter.unusedVariables false
open Go.RowKit Go.ChangeShapes Go.WideShapes Go.Deep

section
variable {H : Type} {enc : TypeId × Value → H} {w : World} {base : Nat} {spare : Nat → Bool} {held : Bool}

theorem Try.cells3 : Try.prog.cellsOf 3 = 1 := by kernel_rfl
theorem Try.cells4 : Try.prog.cellsOf 4 = 1 := by kernel_rfl
theorem Try.cells5 : Try.prog.cellsOf 5 = 1 := by kernel_rfl
theorem Try.cells23 : Try.prog.cellsOf 24 = 2 := by kernel_rfl
theorem Try.cells25 : Try.prog.cellsOf 26 = 7 := by kernel_rfl
theorem Try.cells27 : Try.prog.cellsOf 31 = 3 := by kernel_rfl

theorem list1 {α : Type} {l : List α} (h : l.length = 1) : ∃ a, l = [a] := by match l, h with | [a], _ => exact ⟨a, rfl⟩
theorem list2 {α : Type} {l : List α} (h : l.length = 2) : ∃ a b, l = [a, b] := by match l, h with | [a, b], _ => exact ⟨a, b, rfl⟩
theorem list3 {α : Type} {l : List α} (h : l.length = 3) : ∃ a b c, l = [a, b, c] := by match l, h with | [a, b, c], _ => exact ⟨a, b, c, rfl⟩
theorem list4 {α : Type} {l : List α} (h : l.length = 4) : ∃ a b c d, l = [a, b, c, d] := by match l, h with | [a, b, c, d], _ => exact ⟨a, b, c, d, rfl⟩
theorem list7 {α : Type} {l : List α} (h : l.length = 7) : ∃ a b c d e f g, l = [a, b, c, d, e, f, g] := by match l, h with | [a, b, c, d, e, f, g], _ => exact ⟨a, b, c, d, e, f, g, rfl⟩

theorem trod_gap {n : Nat} {cs : List Value} {x : DataW H × List MemPlace} (h : DataW.trod enc Try.prog w base spare held n 24 cs = some x) : ∃ a b, cs = [.int .i64 a, .int .i64 b] := by
  obtain ⟨xs, m, _, _, hl, hx, hf⟩ := DataW.trod_struct Try.underlying24 h
  obtain ⟨c0, c1, rfl⟩ := list2 (hl.trans Try.cells23)
  obtain ⟨y0, y1, rfl⟩ := list2 hx
  have h0 := hf 0 _ rfl; have h1 := hf 1 _ rfl
  simp [Try.cells3] at h0 h1
  obtain ⟨a, e0, _⟩ := DataW.trod_int Try.underlying3 h0
  obtain ⟨b, e1, _⟩ := DataW.trod_int Try.underlying3 h1
  simp at e0 e1
  exact ⟨a, b, by rw [e0, e1]⟩

theorem trod_blocked {n : Nat} {cs : List Value} {x : DataW H × List MemPlace} (h : DataW.trod enc Try.prog w base spare held n 31 cs = some x) : ∃ a b c, cs = [.bool a, .bool b, .bool c] := by
  obtain ⟨xs, m, _, _, hl, hx, hf⟩ := DataW.trod_struct Try.underlying31 h
  obtain ⟨c0, c1, c2, rfl⟩ := list3 (hl.trans Try.cells27)
  obtain ⟨y0, y1, y2, rfl⟩ := list3 hx
  have h0 := hf 0 _ rfl; have h1 := hf 1 _ rfl; have h2 := hf 2 _ rfl
  simp [Try.cells4] at h0 h1 h2
  obtain ⟨a, e0, _⟩ := DataW.trod_bool Try.underlying4 h0
  obtain ⟨b, e1, _⟩ := DataW.trod_bool Try.underlying4 h1
  obtain ⟨c, e2, _⟩ := DataW.trod_bool Try.underlying4 h2
  simp at e0 e1 e2
  exact ⟨a, b, c, by rw [e0, e1, e2]⟩

theorem trod_heights {n : Nat} {cs : List Value} {x : DataW H × List MemPlace} (h : DataW.trod enc Try.prog w base spare held n 26 cs = some x) : ∃ a b c d e f g, cs = [.int .i64 a, .int .i64 b, .int .i64 c, .int .i64 d, .int .i64 e, .int .i64 f, .int .i64 g] := by
  obtain ⟨xs, m, _, _, hl, hx, hf⟩ := DataW.trod_struct Try.underlying26 h
  obtain ⟨c0, c1, c2, c3, c4, c5, c6, rfl⟩ := list7 (hl.trans Try.cells25)
  obtain ⟨y0, y1, y2, y3, rfl⟩ := list4 hx
  have h0 := hf 0 _ rfl; have h1 := hf 1 _ rfl; have h2 := hf 2 _ rfl; have h3 := hf 3 _ rfl
  simp [Try.cells3, Try.cells23] at h0 h1 h2 h3
  obtain ⟨a, b, e0⟩ := trod_gap h0
  obtain ⟨c, d, e1⟩ := trod_gap h1
  obtain ⟨e, f, e2⟩ := trod_gap h2
  obtain ⟨g, e3, _⟩ := DataW.trod_int Try.underlying3 h3
  simp at e0 e1 e2 e3
  exact ⟨a, b, c, d, e, f, g, by rw [e0.1, e0.2, e1.1, e1.2, e2.1, e2.2, e3]⟩

set_option maxRecDepth 100000 in
theorem open_heights {r : Reach} {b0 : Nat} {v : Value} {d : DataW H} {p : List MemPlace} (hv : Value.okWide Try.prog w r b0 26 v) (h : DataW.Trod enc Try.prog w base spare held 26 v d p) :
    ∃ a b c d e f g, v = .agg #[.int .i64 a, .int .i64 b, .int .i64 c, .int .i64 d, .int .i64 e, .int .i64 f, .int .i64 g] := by
  obtain ⟨cs, rfl, _⟩ := okWide_struct Try.underlying26 hv
  obtain ⟨n, hf⟩ := h
  obtain ⟨a, b, c, d, e, f, g, hcs⟩ := trod_heights hf
  exact ⟨a, b, c, d, e, f, g, by rw [← Array.toArray_toList (xs := cs)]; exact congrArg _ (congrArg _ hcs)⟩
set_option maxRecDepth 100000 in
theorem open_blocked {r : Reach} {b0 : Nat} {v : Value} {d : DataW H} {p : List MemPlace} (hv : Value.okWide Try.prog w r b0 31 v) (h : DataW.Trod enc Try.prog w base spare held 31 v d p) :
    ∃ a b c, v = .agg #[.bool a, .bool b, .bool c] := by
  obtain ⟨cs, rfl, _⟩ := okWide_struct Try.underlying31 hv
  obtain ⟨n, hf⟩ := h
  obtain ⟨a, b, c, hcs⟩ := trod_blocked hf
  exact ⟨a, b, c, by rw [← Array.toArray_toList (xs := cs)]; exact congrArg _ (congrArg _ hcs)⟩

/-- A slice, by its reading: n cells an element, each element of a known form. -/
theorem rdN_of_trod {n m : Nat} {t e : TypeId} {α : Type} {f : α → List Value} {cs : List Value} {x : DataW H × List MemPlace} (ht : Try.prog.underlying t = some (.slice e)) (hm : Try.prog.cellsOf e = m) (hm0 : 0 < m) (hfl : ∀ y, (f y).length = m)
    (hel : ∀ n cs x, DataW.trod enc Try.prog w base spare held n e cs = some x → ∃ y : α, cs = f y) [Inhabited α] (h : DataW.trod enc Try.prog w base spare held n t cs = some x) :
    ∃ (v : Value) (l : List α), cs = [v] ∧ RdN m w v (l.map f) := by
  rcases open_slice ht h with ⟨rfl, _⟩ | ⟨a, len, cap, k, n', D, Pl, rfl, hb, hlc, hcm, hk, _, hall⟩
  · exact ⟨_, [], rfl, none, 0, rfl, by simp, by simp, fun i hi => by simp at hi⟩
  · have hlk : len ≤ k := by rw [hk]; split <;> omega
    have hex : ∀ i, i < len → ∃ y : α, w.cells? base (a.add (i * m)) m = some (f y) := by
      intro i hi
      obtain ⟨cs', h1, h2⟩ := hall i (by omega)
      obtain ⟨y, rfl⟩ := hel _ _ _ h2
      exact ⟨y, by rw [hm] at h1; exact h1⟩
    have hg : ∃ g : Nat → α, ∀ i, i < len → w.cells? base (a.add (i * m)) m = some (f (g i)) := by
      classical
      exact ⟨fun i => if h : i < len then Classical.choose (hex i h) else default, fun i hi => by simp only [hi, dif_pos]; exact Classical.choose_spec (hex i hi)⟩
    obtain ⟨g, hg⟩ := hg
    refine ⟨_, (List.range len).map g, rfl, some a, cap, by simp, by simpa using hlc, by unfold maxLen at hcm; omega, fun i hi => ?_⟩
    simp at hi
    obtain ⟨_, _, hcell⟩ := World.cells?_some (hg i hi)
    have hblk := World.cells?_block (hg i hi) hm0
    obtain ⟨b, off, spot⟩ := a
    obtain ⟨_, _, hc0⟩ := World.cells?_some (hg 0 (by omega))
    have hsome : w.cell? (((Addr.mk b off spot).add (0 * m)).add 0) = some ((f (g 0))[0]'(by rw [hfl]; exact hm0)) := by rw [hc0 0 hm0, List.getElem?_eq_getElem]
    have hspot : spot = none := by simpa [Addr.add] using World.cell?_spot hsome
    subst hspot
    rw [Go.WideShapes.add_plain] at hblk
    refine ⟨b, off, rfl, hblk, fun j hj => ?_⟩
    have h1 := hcell j hj
    rw [Go.WideShapes.add_plain, Go.WideShapes.add_plain] at h1
    rw [h1]
    simp [hi]

theorem Try.cells30 : Try.prog.cellsOf 44 = 3 := by kernel_rfl
theorem Try.cells62 : Try.prog.cellsOf 41 = 3 := by kernel_rfl
theorem Try.cells28 : Try.prog.cellsOf 42 = 1 := by kernel_rfl

theorem trod_bounds (n : Nat) (cs : List Value) (x : DataW H × List MemPlace) (h : DataW.trod enc Try.prog w base spare held n 41 cs = some x) : ∃ y : Bnd, cs = [.int .u8 y.1, .int .i64 y.2.1, .int .i64 y.2.2] := by
  obtain ⟨xs, m, _, _, hl, hx, hf⟩ := DataW.trod_struct Try.underlying41 h
  obtain ⟨c0, c1, c2, rfl⟩ := list3 (hl.trans Try.cells62)
  obtain ⟨y0, y1, y2, rfl⟩ := list3 hx
  have h0 := hf 0 _ rfl; have h1 := hf 1 _ rfl; have h2 := hf 2 _ rfl
  simp [Try.cells3, Try.cells5] at h0 h1 h2
  obtain ⟨a, e0, _⟩ := DataW.trod_int Try.underlying5 h0
  obtain ⟨b, e1, _⟩ := DataW.trod_int Try.underlying3 h1
  obtain ⟨c, e2, _⟩ := DataW.trod_int Try.underlying3 h2
  simp at e0 e1 e2
  exact ⟨(a, b, c), by rw [e0, e1, e2]⟩

theorem trod_advice {n : Nat} {cs : List Value} {x : DataW H × List MemPlace} (h : DataW.trod enc Try.prog w base spare held n 44 cs = some x) : ∃ (s rt : Int) (kp : Bool), cs = [.int .u8 s, .int .i64 rt, .bool kp] ∧ 0 ≤ s := by
  obtain ⟨xs, m, _, _, hl, hx, hf⟩ := DataW.trod_struct Try.underlying44 h
  obtain ⟨c0, c1, c2, rfl⟩ := list3 (hl.trans Try.cells30)
  obtain ⟨y0, y1, y2, rfl⟩ := list3 hx
  have h0 := hf 0 _ rfl; have h1 := hf 1 _ rfl; have h2 := hf 2 _ rfl
  simp [Try.cells3, Try.cells4, Try.cells5] at h0 h1 h2
  obtain ⟨a, e0, _, wa⟩ := DataW.trod_int Try.underlying5 h0
  obtain ⟨b, e1, _⟩ := DataW.trod_int Try.underlying3 h1
  obtain ⟨c, e2, _⟩ := DataW.trod_bool Try.underlying4 h2
  simp at e0 e1 e2
  exact ⟨a, b, c, by rw [e0, e1, e2], (bounds_u8 wa).1⟩

instance : Inhabited Bnd := ⟨(0, 0, 0)⟩
theorem rdb_of_trod {n : Nat} {cs : List Value} {x : DataW H × List MemPlace} (h : DataW.trod enc Try.prog w base spare held n 42 cs = some x) : ∃ v l, cs = [v] ∧ RdBnd w v l :=
  rdN_of_trod (m := 3) Try.underlying42 Try.cells62 (by omega) (fun _ => rfl) trod_bounds h
end

end Go.Proofs.Ytcmemdmfnflfiaa
