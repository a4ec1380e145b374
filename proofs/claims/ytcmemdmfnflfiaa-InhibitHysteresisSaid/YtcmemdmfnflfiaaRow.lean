/- The rows' frame for laws of layer 30: two facts on the program, and slices of ints by their readings. Conditions: none. -/
import Derived.Test.YtcmemdmfnflfiaaRows
import Derived.Test.YtcmemdmfnflfiaaOpen
import Derived.ShutString
import Derived.ChangeOld
import Derived.Below
namespace Go.Proofs.Ytcmemdmfnflfiaa
set_option linter.unusedSimpArgs false
set_option linter.unusedVariables false
open Go.ChangeShapes Go.WideShapes Go.ChangeAt Go.RowKit

theorem rowOwn : ownKnob Try.prog.godebug = none := by kernel_rfl
theorem rowLaid : laidOutB Try.prog = true := by kernel_rfl

section
variable {H : Type} {enc : TypeId × Value → H} {w : World} {base : Nat} {spare : Nat → Bool} {held : Bool}

theorem rd_of_rdN1 {w : World} {v : Value} {α : Type} {l : List α} {f : α → Value} (h : RdN 1 w v (l.map fun x => [f x])) : Rd w v (l.map f) := by
  obtain ⟨a, cap, hv, hc, hm, hr⟩ := h
  simp only [List.length_map] at hv hc hr
  refine ⟨a, cap, by simpa using hv, by simpa using hc, hm, fun i hi => ?_⟩
  simp only [List.length_map] at hi
  obtain ⟨b, off, ha, hb, hx⟩ := hr i hi
  have h0 := hx 0 (by omega)
  exact ⟨b, off, ha, hb, by simpa [hi] using h0⟩

set_option maxRecDepth 100000 in
theorem open_ints64 {r : Reach} {b0 : Nat} {t e : TypeId} {k : IntKind} {v : Value} {d : DataW H} {p : List MemPlace} (ht : Try.prog.underlying t = some (.slice e)) (he : Try.prog.underlying e = some (.int k)) (hc : Try.prog.cellsOf e = 1)
    (hv : Value.okWide Try.prog w r b0 t v) (h : DataW.Trod enc Try.prog w base spare held t v d p) : ∃ l : List Int, RdI k w v l := by
  obtain ⟨a, len, cap, rfl⟩ := okWide_slice ht hv
  obtain ⟨n, hf⟩ := h
  obtain ⟨v', l, hcs, hr⟩ := rdN_of_trod (m := 1) (f := fun x : Int => [Value.int k x]) ht hc (by omega) (fun _ => rfl)
    (fun n cs x hx => by obtain ⟨a, e0, _⟩ := DataW.trod_int he hx; exact ⟨a, e0⟩) hf
  have e : v' = .slice a len cap := by simpa [Value.cells] using hcs.symm
  rw [e] at hr
  exact ⟨l, rd_of_rdN1 hr⟩

set_option maxRecDepth 100000 in
theorem open_intsW {r : Reach} {b0 : Nat} {t e : TypeId} {k : IntKind} {v : Value} {d : DataW H} {p : List MemPlace} (ht : Try.prog.underlying t = some (.slice e)) (he : Try.prog.underlying e = some (.int k)) (hc : Try.prog.cellsOf e = 1)
    (hv : Value.okWide Try.prog w r b0 t v) (h : DataW.Trod enc Try.prog w base spare held t v d p) (h0 : (Lit.int k 0).wf = true) : ∃ l : List Int, RdI k w v l ∧ ∀ y ∈ l, (Lit.int k y).wf = true := by
  obtain ⟨a, len, cap, rfl⟩ := okWide_slice ht hv
  obtain ⟨n, hf⟩ := h
  have inst : Inhabited { x : Int // (Lit.int k x).wf = true } := ⟨⟨0, h0⟩⟩
  obtain ⟨v', l, hcs, hr⟩ := rdN_of_trod (m := 1) (f := fun x : { x : Int // (Lit.int k x).wf = true } => [Value.int k x.1]) ht hc (by omega) (fun _ => rfl)
    (fun n cs x hx => by obtain ⟨a, e0, _, wa⟩ := DataW.trod_int he hx; exact ⟨⟨a, wa⟩, e0⟩) hf
  have e : v' = .slice a len cap := by simpa [Value.cells] using hcs.symm
  rw [e] at hr
  refine ⟨l.map (·.1), ?_, fun y hy => by obtain ⟨z, _, rfl⟩ := List.mem_map.1 hy; exact z.2⟩
  have := rd_of_rdN1 (f := fun x : { x : Int // (Lit.int k x).wf = true } => Value.int k x.1) hr
  unfold RdI
  rw [List.map_map]
  exact this
end

end Go.Proofs.Ytcmemdmfnflfiaa
