/- Part of the proof of nodL_holds: what the row needs of ArgN. Conditions: as each theorem states. -/
import Derived.Test.YtbnalhmcbolngaaSnArgU
namespace Go.Proofs.Ytbnalhmcbolngaa
set_option linter.unusedSimpArgs false
set_option linter.unusedVariables false
open Go.ChangeShapes Go.WideShapes Go.ChangeAt Go.RowKit
section
variable {H : Type} {enc : TypeId × Value → H} {w : World} {base : Nat} {spare : Nat → Bool} {held : Bool}
theorem Try.cellsI64 : Try.prog.cellsOf 3 = 1 := by kernel_rfl
theorem Try.cellsGap : Try.prog.cellsOf 59 = 2 := by kernel_rfl
theorem Try.cellsHts : Try.prog.cellsOf 61 = 7 := by kernel_rfl
theorem Try.cellsPlan : Try.prog.cellsOf 65 = 3 := by kernel_rfl
theorem Try.cellsBnS : Try.prog.cellsOf 62 = 1 := by kernel_rfl
theorem Try.cellsU8S : Try.prog.cellsOf 63 = 1 := by kernel_rfl
theorem lsN2 {α : Type} {l : List α} (h : l.length = 2) : ∃ a b, l = [a, b] := by match l, h with | [a, b], _ => exact ⟨a, b, rfl⟩
theorem lsN3 {α : Type} {l : List α} (h : l.length = 3) : ∃ a b c, l = [a, b, c] := by match l, h with | [a, b, c], _ => exact ⟨a, b, c, rfl⟩
theorem lsN4 {α : Type} {l : List α} (h : l.length = 4) : ∃ a b c d, l = [a, b, c, d] := by match l, h with | [a, b, c, d], _ => exact ⟨a, b, c, d, rfl⟩
theorem lsN7 {α : Type} {l : List α} (h : l.length = 7) : ∃ a b c d e f g, l = [a, b, c, d, e, f, g] := by match l, h with | [a, b, c, d, e, f, g], _ => exact ⟨a, b, c, d, e, f, g, rfl⟩
theorem trodN_gap {n : Nat} {cs : List Value} {x : DataW H × List MemPlace} (h : DataW.trod enc Try.prog w base spare held n 59 cs = some x) : ∃ a b, cs = [.int .i64 a, .int .i64 b] := by
  obtain ⟨xs, m, _, _, hl, hx, hf⟩ := DataW.trod_struct Try.underlying59 h
  obtain ⟨c0, c1, rfl⟩ := lsN2 (hl.trans Try.cellsGap)
  obtain ⟨y0, y1, rfl⟩ := lsN2 hx
  have h0 := hf 0 _ rfl; have h1 := hf 1 _ rfl
  simp [Try.cellsI64] at h0 h1
  obtain ⟨a, e0, _⟩ := DataW.trod_int Try.underlying3 h0
  obtain ⟨b, e1, _⟩ := DataW.trod_int Try.underlying3 h1
  simp at e0 e1
  exact ⟨a, b, by rw [e0, e1]⟩
theorem trodN_heights {n : Nat} {cs : List Value} {x : DataW H × List MemPlace} (h : DataW.trod enc Try.prog w base spare held n 61 cs = some x) : ∃ a b c d e f g, cs = [.int .i64 a, .int .i64 b, .int .i64 c, .int .i64 d, .int .i64 e, .int .i64 f, .int .i64 g] := by
  obtain ⟨xs, m, _, _, hl, hx, hf⟩ := DataW.trod_struct Try.underlying61 h
  obtain ⟨c0, c1, c2, c3, c4, c5, c6, rfl⟩ := lsN7 (hl.trans Try.cellsHts)
  obtain ⟨y0, y1, y2, y3, rfl⟩ := lsN4 hx
  have h0 := hf 0 _ rfl; have h1 := hf 1 _ rfl; have h2 := hf 2 _ rfl; have h3 := hf 3 _ rfl
  simp [Try.cellsI64, Try.cellsGap] at h0 h1 h2 h3
  obtain ⟨a, b, e0⟩ := trodN_gap h0
  obtain ⟨c, d, e1⟩ := trodN_gap h1
  obtain ⟨e, f, e2⟩ := trodN_gap h2
  obtain ⟨g, e3, _⟩ := DataW.trod_int Try.underlying3 h3
  simp at e0 e1 e2 e3
  exact ⟨a, b, c, d, e, f, g, by rw [e0.1, e0.2, e1.1, e1.2, e2.1, e2.2, e3]⟩
set_option maxRecDepth 100000 in
theorem openN_heights {r : Reach} {b0 : Nat} {v : Value} {d : DataW H} {p : List MemPlace} (hv : Value.okWide Try.prog w r b0 61 v) (h : DataW.Trod enc Try.prog w base spare held 61 v d p) :
    ∃ a b c d e f g, v = .agg #[.int .i64 a, .int .i64 b, .int .i64 c, .int .i64 d, .int .i64 e, .int .i64 f, .int .i64 g] := by
  obtain ⟨cs, rfl, _⟩ := okWide_struct Try.underlying61 hv
  obtain ⟨n, hf⟩ := h
  obtain ⟨a, b, c, d, e, f, g, hcs⟩ := trodN_heights hf
  exact ⟨a, b, c, d, e, f, g, by rw [← Array.toArray_toList (xs := cs)]; exact congrArg _ (congrArg _ hcs)⟩
set_option maxRecDepth 100000 in
theorem openN_ints {r : Reach} {b0 : Nat} {v : Value} {d : DataW H} {p : List MemPlace} (hv : Value.okWide Try.prog w r b0 24 v) (h : DataW.Trod enc Try.prog w base spare held 24 v d p) : ∃ l : List Int, RdI .i64 w v l :=
  open_ints64 Try.underlying24 Try.underlying3 Try.cellsI64 hv h
theorem bytes_of_trod {n : Nat} {cs : List Value} {x : DataW H × List MemPlace} (h : DataW.trod enc Try.prog w base spare held n 63 cs = some x) : ∃ v l, cs = [v] ∧ RdI .u8 w v l ∧ ∀ y ∈ l, 0 ≤ y ∧ y ≤ 255 := by
  have inst : Inhabited { x : Int // (Lit.int .u8 x).wf = true } := ⟨⟨0, by decide⟩⟩
  obtain ⟨v', l, hcs, hr⟩ := rdN_of_trod (m := 1) (f := fun x : { x : Int // (Lit.int .u8 x).wf = true } => [Value.int .u8 x.1]) Try.underlying63 Try.cellsU8 (by omega) (fun _ => rfl)
    (fun n cs x hx => by obtain ⟨a, e0, _, wa⟩ := DataW.trod_int Try.underlying5 hx; exact ⟨⟨a, wa⟩, e0⟩) h
  refine ⟨v', l.map (·.1), hcs, ?_, fun y hy => by
    obtain ⟨z, _, rfl⟩ := List.mem_map.1 hy
    have := z.2
    simp [Lit.wf, IntKind.min, IntKind.max, IntKind.signed, IntKind.bits] at this
    omega⟩
  have := rd_of_rdN1U (f := fun x : { x : Int // (Lit.int .u8 x).wf = true } => Value.int .u8 x.1) hr
  unfold RdI
  rw [List.map_map]
  exact this
set_option maxRecDepth 100000 in
theorem open_plan {r : Reach} {b0 : Nat} {v : Value} {d : DataW H} {p : List MemPlace} (hv : Value.okWide Try.prog w r b0 65 v) (h : DataW.Trod enc Try.prog w base spare held 65 v d p) :
    ∃ (vl vc : Value) (l : List Bnd) (nw : Int) (cs : List Int), v = .agg #[vl, .int .u8 nw, vc] ∧ RdBnd w vl l ∧ RdI .u8 w vc cs ∧ (0 ≤ nw ∧ nw ≤ 255) ∧ ∀ y ∈ cs, 0 ≤ y ∧ y ≤ 255 := by
  obtain ⟨cs, rfl, _⟩ := okWide_struct Try.underlying65 hv
  obtain ⟨n, hf⟩ := h
  obtain ⟨xs, m, _, _, hl, hx, hf⟩ := DataW.trod_struct Try.underlying65 hf
  obtain ⟨c0, c1, c2, hcs⟩ := lsN3 (hl.trans Try.cellsPlan)
  obtain ⟨y0, y1, y2, rfl⟩ := lsN3 hx
  have h0 := hf 0 _ rfl; have h1 := hf 1 _ rfl; have h2 := hf 2 _ rfl
  have hcs' : cs.toList = [c0, c1, c2] := hcs
  simp [Value.cells, hcs', Try.cellsBnS, Try.cellsU8, Try.cellsU8S] at h0 h1 h2
  obtain ⟨vl, l, e0, hr0⟩ := rdBnd_of_trod h0
  obtain ⟨nw, e1, _, w1⟩ := DataW.trod_int Try.underlying5 h1
  obtain ⟨vc, ks, e2, hr2, hb⟩ := bytes_of_trod h2
  simp at e0 e1 e2
  refine ⟨vl, vc, l, nw, ks, ?_, hr0, hr2, ?_, hb⟩
  · rw [← Array.toArray_toList (xs := cs), hcs', e0, e1, e2]
  · simp [Lit.wf, IntKind.min, IntKind.max, IntKind.signed, IntKind.bits] at w1; omega
end
end Go.Proofs.Ytbnalhmcbolngaa
