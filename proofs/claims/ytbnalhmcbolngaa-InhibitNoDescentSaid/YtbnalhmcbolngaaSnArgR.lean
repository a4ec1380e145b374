/- Part of the proof of nodL_holds: what the row needs of ArgR. Conditions: as each theorem states. -/
import Derived.Test.YtbnalhmcbolngaaSnRatRow
import Derived.Test.YtbnalhmcbolngaaSnRatLs
import Derived.Test.YtbnalhmcbolngaaSnBoolS
import Derived.Test.YtbnalhmcbolngaaSnGI
namespace Go.Proofs.Ytbnalhmcbolngaa
set_option linter.unusedSimpArgs false
set_option linter.unusedVariables false
open Go.RowKit Go.ChangeShapes Go.WideShapes Go.ChangeAt Go.Deep
section
variable {H : Type} {enc : TypeId × Value → H} {w : World} {base : Nat} {spare : Nat → Bool} {held : Bool}
theorem Try.cellsU8 : Try.prog.cellsOf 5 = 1 := by kernel_rfl
theorem Try.cellsI : Try.prog.cellsOf 3 = 1 := by kernel_rfl
theorem Try.cellsBd : Try.prog.cellsOf 86 = 3 := by kernel_rfl
set_option maxRecDepth 100000 in
theorem trod_bnd (n : Nat) (cs : List Value) (x : DataW H × List MemPlace) (h : DataW.trod enc Try.prog w base spare held n 86 cs = some x) : ∃ y : Bnd, cs = [.int .u8 y.1, .int .i64 y.2.1, .int .i64 y.2.2] := by
  obtain ⟨xs, m, _, _, hl, hx, hf⟩ := DataW.trod_struct Try.underlying86 h
  obtain ⟨c0, c1, c2, rfl⟩ := lst3 (hl.trans Try.cellsBd)
  obtain ⟨y0, y1, y2, rfl⟩ := lst3 hx
  have h0 := hf 0 _ rfl; have h1 := hf 1 _ rfl; have h2 := hf 2 _ rfl
  simp [Try.cellsU8, Try.cellsI] at h0 h1 h2
  obtain ⟨a, e0, _⟩ := DataW.trod_int Try.underlying5 h0
  obtain ⟨b, e1, _⟩ := DataW.trod_int Try.underlying3 h1
  obtain ⟨c, e2, _⟩ := DataW.trod_int Try.underlying3 h2
  simp at e0 e1 e2
  exact ⟨(a, b, c), by rw [e0, e1, e2]⟩
instance : Inhabited Bnd := ⟨(0, 0, 0)⟩
set_option maxRecDepth 100000 in
theorem rdBnd_of_trod {n : Nat} {cs : List Value} {x : DataW H × List MemPlace} (h : DataW.trod enc Try.prog w base spare held n 62 cs = some x) :
    ∃ (v : Value) (l : List Bnd), cs = [v] ∧ RdN 3 w v (l.map fun x : Bnd => [.int .u8 x.1, .int .i64 x.2.1, .int .i64 x.2.2]) :=
  rdN_of_trod (m := 3) Try.underlying62 Try.cellsBd (by omega) (fun _ => rfl) trod_bnd h
end
end Go.Proofs.Ytbnalhmcbolngaa
