/- Part of the proof of imatL_holds: what the row needs of GE. Conditions: as each theorem states. -/
import Derived.Test.YthkfkfbfblppeaaGreatSwGD
import Derived.Shelf.RegionOpenPlain
import Derived.Sort.WalkB12
import Derived.Lib.SlicesMore
import Derived.Lib.OwnBridge
import Derived.Laws.BytesArg
namespace Go.Proofs.YthkfkfbfblppeaaGreat
set_option linter.unusedSimpArgs false
set_option linter.unusedVariables false
open Go.RowKit Go.Shelf Go.Sort
abbrev OwY (w : World) (B : Nat) (v : Value) (l : List Int) : Prop := w.ownsRow B 5 1 v l.length (l.map (Value.int .u8))
end Go.Proofs.YthkfkfbfblppeaaGreat
namespace Go.Proofs.YthkfkfbfblppeaaGreat
set_option linter.unusedSimpArgs false
set_option linter.unusedVariables false
open Go.RowKit Go.Shelf
attribute [local go_sem] Oper.semAt_some
theorem Marks.bytes {H B : Nat} {ds : List Deferred} {W W' : World} {v : Value} {l : List Int} (h : Marks H ds W) (hv : OwY W B v l) (e : Gr v.ownBlock W W') : Marks H ds W' := by
  obtain ⟨rs, h1, h2, h3⟩ := h
  refine ⟨rs, h1, h2, fun r hr => ⟨(h3 r hr).1, ?_⟩⟩
  rw [← (h3 r hr).2]
  refine e.block r (Array.getElem?_eq_some_iff.1 (h3 r hr).2).1 (fun e2 => ?_)
  rcases hv.2 with ⟨rfl, _⟩ | ⟨g, cap, cur, rfl, hb, hg, _⟩
  · simp [Value.ownBlock] at e2
  · have e3 : r = g := by simpa [Value.ownBlock] using e2
    have := (h3 r hr).2
    rw [e3, hg] at this
    cases this
theorem OwY.fr {W W' : World} {B : Nat} {v : Value} {l : List Int} (h : OwY W B v l) (e : ∀ i, B ≤ i → i < W.heap.size → W'.heap[i]? = W.heap[i]?) : OwY W' B v l := by
  rcases h.2 with h1 | ⟨g, cap, cur, h0, hb, hg, hr⟩
  · exact ⟨h.1, .inl h1⟩
  · exact ⟨h.1, .inr ⟨g, cap, cur, h0, hb, (e g hb (Array.getElem?_eq_some_iff.1 hg).1).trans hg, hr⟩⟩
def TxtI (w0 : World) (lk : List Int) (g cap Rb k : Nat) (W : World) : Prop :=
  ∃ lj : List Int, lj.length = lk.length ∧ Lim lj ∧ lj.take k = lk.take k ∧ nv (lj.drop k) = nv (lk.drop k) / 10 ∧ RowU W g cap lj ∧ Blk W Rb #[.int .u64 ((nv (lk.drop k) % 10 : Nat) : Int)] 211 ∧
    Fr (fun i => i = g ∨ i = Rb) w0 W
theorem TxtI.kz {w0 : World} {lk : List Int} {g cap Rb k : Nat} {A B : World} (h : TxtI w0 lk g cap Rb k A) (z : Kz w0.heap.size A B) (hg : g < w0.heap.size) (hb : Rb < w0.heap.size) : TxtI w0 lk g cap Rb k B := by
  obtain ⟨lj, h1, h2, h3, h4, h5, h6, h7⟩ := h
  exact ⟨lj, h1, h2, h3, h4, h5.kz z (.inl hg), h6.kz z (.inl hb), h7.kz z (Nat.le_refl _)⟩
end Go.Proofs.YthkfkfbfblppeaaGreat
