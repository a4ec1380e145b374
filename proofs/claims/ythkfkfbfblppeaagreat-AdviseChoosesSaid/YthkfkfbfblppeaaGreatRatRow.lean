/- What an api.Rat of the arguments looks like. Conditions: none. -/
import Derived.Test.YthkfkfbfblppeaaGreatBigRow
import Derived.Test.YthkfkfbfblppeaaGreatGG
namespace Go.Proofs.YthkfkfbfblppeaaGreat
set_option linter.unusedSimpArgs false
set_option linter.unusedVariables false
open Go.RowKit Go.ChangeShapes Go.WideShapes Go.ChangeAt Go.Deep

section
variable {H : Type} {enc : TypeId × Value → H} {w : World} {base : Nat} {spare : Nat → Bool} {held : Bool}

theorem Tryz.cellsB : Tryz.prog.cellsOf 4 = 1 := by kernel_rfl
theorem Tryz.cellsN : Tryz.prog.cellsOf 60 = 1 := by kernel_rfl
theorem Tryz.cellsR : Tryz.prog.cellsOf 62 = 3 := by kernel_rfl

theorem lst3 {α : Type} {l : List α} (h : l.length = 3) : ∃ a b c, l = [a, b, c] := by match l, h with | [a, b, c], _ => exact ⟨a, b, c, rfl⟩

set_option maxRecDepth 100000 in
theorem trod_limbs {n : Nat} {cs : List Value} {x : DataW H × List MemPlace} (h : DataW.trod enc Tryz.prog w base spare held n 60 cs = some x) : ∃ (v : Value) (l : List Int), cs = [v] ∧ RdI .u32 w v l ∧ Lim l := by
  have inst : Inhabited { x : Int // (Lit.int .u32 x).wf = true } := ⟨⟨0, by decide⟩⟩
  obtain ⟨v', l, hcs, hr⟩ := rdN_of_trod (m := 1) (f := fun x : { x : Int // (Lit.int .u32 x).wf = true } => [Value.int .u32 x.1]) Tryz.underlying60 Tryz.cells50 (by omega) (fun _ => rfl)
    (fun n cs x hx => by obtain ⟨a, e0, _, wa⟩ := DataW.trod_int Tryz.underlying206 hx; exact ⟨⟨a, wa⟩, e0⟩) h
  refine ⟨v', l.map (·.1), hcs, ?_, fun y hy => ?_⟩
  · have := rd_of_rdN1 (f := fun x : { x : Int // (Lit.int .u32 x).wf = true } => Value.int .u32 x.1) hr
    unfold RdI
    rw [List.map_map]
    exact this
  · obtain ⟨z, _, rfl⟩ := List.mem_map.1 hy
    have := z.2
    simp [Lit.wf, IntKind.min, IntKind.max, IntKind.signed, IntKind.bits] at this
    omega

set_option maxRecDepth 100000 in
theorem trod_rat {n : Nat} {cs : List Value} {x : DataW H × List MemPlace} (h : DataW.trod enc Tryz.prog w base spare held n 62 cs = some x) :
    ∃ (b : Bool) (v u : Value) (l m : List Int), cs = [.bool b, v, u] ∧ RdI .u32 w v l ∧ Lim l ∧ RdI .u32 w u m ∧ Lim m := by
  obtain ⟨xs, m, _, _, hl, hx, hf⟩ := DataW.trod_struct Tryz.underlying62 h
  obtain ⟨c0, c1, c2, rfl⟩ := lst3 (hl.trans Tryz.cellsR)
  obtain ⟨y0, y1, y2, rfl⟩ := lst3 hx
  have h0 := hf 0 _ rfl; have h1 := hf 1 _ rfl; have h2 := hf 2 _ rfl
  simp [Tryz.cellsB, Tryz.cellsN] at h0 h1 h2
  obtain ⟨a, e0, _⟩ := DataW.trod_bool Tryz.underlying4 h0
  obtain ⟨v, l, e1, k1, k2⟩ := trod_limbs h1
  obtain ⟨u, m, e2, k3, k4⟩ := trod_limbs h2
  simp at e0 e1 e2
  exact ⟨a, v, u, l, m, by rw [e0, e1, e2], k1, k2, k3, k4⟩

set_option maxRecDepth 100000 in
/-- An api.Rat of the arguments. -/
theorem open_rat {r : Reach} {b0 : Nat} {v : Value} {d : DataW H} {p : List MemPlace} (hv : Value.okWide Tryz.prog w r b0 62 v) (h : DataW.Trod enc Tryz.prog w base spare held 62 v d p) :
    ∃ r : RR, RdR w v r ∧ LimR r := by
  obtain ⟨cs, rfl, _⟩ := okWide_struct Tryz.underlying62 hv
  obtain ⟨n, hf⟩ := h
  obtain ⟨b, v, u, l, m, hcs, k1, k2, k3, k4⟩ := trod_rat hf
  refine ⟨⟨b, l, m⟩, ⟨v, u, ?_, k1, k3⟩, k2, k4⟩
  rw [← Array.toArray_toList (xs := cs)]
  exact congrArg _ (congrArg _ hcs)
end

end Go.Proofs.YthkfkfbfblppeaaGreat
