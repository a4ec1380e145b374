/- What two bytes and a row of bytes read as. Conditions: none. -/
import Derived.Test.YtcmemdmfnflfiaaBigRow
import Derived.Test.YtcmemdmfnflfiaaArgR
namespace Go.Proofs.Ytcmemdmfnflfiaa
set_option linter.unusedSimpArgs false
set_option linter.unusedVariables false
open Go.ChangeShapes Go.WideShapes Go.ChangeAt Go.RowKit
section
variable {H : Type} {enc : TypeId × Value → H} {w : World} {base : Nat} {spare : Nat → Bool} {held : Bool}

theorem Try.cellsA2 : Try.prog.cellsOf 83 = 2 := by kernel_rfl
theorem lstU2 {α : Type} {l : List α} (h : l.length = 2) : ∃ a b, l = [a, b] := by match l, h with | [a, b], _ => exact ⟨a, b, rfl⟩
set_option maxRecDepth 100000 in
theorem open_two8 {r : Reach} {b0 : Nat} {v : Value} {d : DataW H} {p : List MemPlace} (hv : Value.okWide Try.prog w r b0 83 v) (h : DataW.Trod enc Try.prog w base spare held 83 v d p) :
    ∃ a b : Int, v = .agg #[.int .u8 a, .int .u8 b] ∧ (0 ≤ a ∧ a ≤ 255) ∧ 0 ≤ b ∧ b ≤ 255 := by
  simp only [Value.okWide, Try.underlying83] at hv
  obtain ⟨cs, rfl, _, _⟩ := hv
  obtain ⟨n, hf⟩ := h
  obtain ⟨xs, m, _, _, hl, hx, hf⟩ := DataW.trod_array Try.underlying83 hf
  obtain ⟨c0, c1, hcs⟩ := lstU2 (hl.trans Try.cellsA2)
  obtain ⟨y0, y1, rfl⟩ := lstU2 hx
  have h0 := hf 0 (by omega); have h1 := hf 1 (by omega)
  have hcs' : cs.toList = [c0, c1] := hcs
  simp [Value.cells, hcs', Try.cellsU8] at h0 h1
  obtain ⟨a, e0, _, w0⟩ := DataW.trod_int Try.underlying5 h0
  obtain ⟨b, e1, _, w1⟩ := DataW.trod_int Try.underlying5 h1
  simp at e0 e1
  refine ⟨a, b, ?_, ?_, ?_⟩
  · rw [← Array.toArray_toList (xs := cs), hcs', e0, e1]
  · simp [Lit.wf, IntKind.min, IntKind.max, IntKind.signed, IntKind.bits] at w0; omega
  · simp [Lit.wf, IntKind.min, IntKind.max, IntKind.signed, IntKind.bits] at w1; omega
theorem rd_of_rdN1U {w : World} {v : Value} {α : Type} {l : List α} {f : α → Value} (h : RdN 1 w v (l.map fun x => [f x])) : Rd w v (l.map f) := by
  obtain ⟨a, cap, hv, hc, hm, hr⟩ := h
  simp only [List.length_map] at hv hc hr
  refine ⟨a, cap, by simpa using hv, by simpa using hc, hm, fun i hi => ?_⟩
  simp only [List.length_map] at hi
  obtain ⟨b, off, ha, hb, hx⟩ := hr i hi
  have h0 := hx 0 (by omega)
  exact ⟨b, off, ha, hb, by simpa [hi] using h0⟩
set_option maxRecDepth 100000 in
theorem open_bytesU {r : Reach} {b0 : Nat} {v : Value} {d : DataW H} {p : List MemPlace} (hv : Value.okWide Try.prog w r b0 84 v) (h : DataW.Trod enc Try.prog w base spare held 84 v d p) :
    ∃ l : List Int, RdI .u8 w v l ∧ ∀ y ∈ l, 0 ≤ y ∧ y ≤ 255 := by
  obtain ⟨a, len, cap, rfl⟩ := okWide_slice Try.underlying84 hv
  obtain ⟨n, hf⟩ := h
  have inst : Inhabited { x : Int // (Lit.int .u8 x).wf = true } := ⟨⟨0, by decide⟩⟩
  obtain ⟨v', l, hcs, hr⟩ := rdN_of_trod (m := 1) (f := fun x : { x : Int // (Lit.int .u8 x).wf = true } => [Value.int .u8 x.1]) Try.underlying84 Try.cellsU8 (by omega) (fun _ => rfl)
    (fun n cs x hx => by obtain ⟨a, e0, _, wa⟩ := DataW.trod_int Try.underlying5 hx; exact ⟨⟨a, wa⟩, e0⟩) hf
  have e : v' = .slice a len cap := by simpa [Value.cells] using hcs.symm
  rw [e] at hr
  refine ⟨l.map (·.1), ?_, fun y hy => by
    obtain ⟨z, _, rfl⟩ := List.mem_map.1 hy
    have := z.2
    simp [Lit.wf, IntKind.min, IntKind.max, IntKind.signed, IntKind.bits] at this
    omega⟩
  have := rd_of_rdN1U (f := fun x : { x : Int // (Lit.int .u8 x).wf = true } => Value.int .u8 x.1) hr
  unfold RdI
  rw [List.map_map]
  exact this
end

end Go.Proofs.Ytcmemdmfnflfiaa
