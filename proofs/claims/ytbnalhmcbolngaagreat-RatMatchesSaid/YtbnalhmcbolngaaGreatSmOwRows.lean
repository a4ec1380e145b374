/- Part of the proof of mat6_holds: what the row needs of OwRows. Conditions: as each theorem states. -/
import Derived.Test.YtbnalhmcbolngaaGreatSmGA
import Derived.Test.YtbnalhmcbolngaaGreatSmGB
namespace Go.Proofs.YtbnalhmcbolngaaGreat
set_option linter.unusedSimpArgs false
set_option linter.unusedVariables false
open Go.RowKit
structure Keeps (B : Nat) (t : TypeId) (w w' : World) : Prop where
  zero : Below 0 w w'
  block : ∀ i, i < w.heap.size → (i < B ∨ ∃ cur u, Blk w i cur u ∧ u ≠ t) → w'.heap[i]? = w.heap[i]?
theorem Keeps.size {B : Nat} {t : TypeId} {w w' : World} (h : Keeps B t w w') : w.heap.size ≤ w'.heap.size := h.zero.size
theorem Keeps.ext {B : Nat} {t : TypeId} {w w' : World} (h : Ext w w') : Keeps B t w w' := ⟨h.mono (Nat.zero_le _), fun i hi _ => h.block i hi⟩
theorem Keeps.trans {B : Nat} {t : TypeId} {a b c : World} (h : Keeps B t a b) (k : Keeps B t b c) : Keeps B t a c :=
  ⟨h.zero.trans k.zero, fun i hi ho => (k.block i (Nat.lt_of_lt_of_le hi h.size) (by
    rcases ho with ho | ⟨cur, u, h1, h2⟩
    · exact .inl ho
    · exact .inr ⟨cur, u, (h.block i hi (.inr ⟨cur, u, h1, h2⟩)).trans h1, h2⟩)).trans (h.block i hi ho)⟩
theorem Keeps.below {B : Nat} {t : TypeId} {w w' : World} (h : Keeps B t w w') (hB : B ≤ w.heap.size) : Below B w w' :=
  ⟨h.zero.os, h.zero.tape, h.zero.output, h.zero.size, fun i hi => h.block i (Nat.lt_of_lt_of_le hi hB) (.inl hi)⟩
theorem Keeps.mono {B C : Nat} {t : TypeId} {w w' : World} (h : Keeps B t w w') (hB : C ≤ B) : Keeps C t w w' :=
  ⟨h.zero, fun i hi ho => h.block i hi (ho.imp (fun h => Nat.lt_of_lt_of_le h hB) id)⟩
def SfU (B : Nat) (w : World) (v : Value) (l : List Int) : Prop :=
  ∃ a cap, v = .slice a l.length cap ∧ l.length ≤ cap ∧ cap ≤ 9223372036854775807 ∧
    ∀ i, i < l.length → ∃ b off, a = some ⟨b, off, none⟩ ∧ b < w.heap.size ∧ w.cell? ⟨b, off + i, none⟩ = some (.int .u32 (l.getD i 0)) ∧ (b < B ∨ ∃ cur, Blk w b cur 134)
theorem SfU.rd {B : Nat} {w : World} {v : Value} {l : List Int} (h : SfU B w v l) : RdI .u32 w v l := by
  obtain ⟨a, cap, rfl, h1, h2, h3⟩ := h
  exact RdA.to (p := fun _ => True) ⟨a, cap, rfl, h1, h2, fun i hi => by obtain ⟨b, off, e1, e2, e3, _⟩ := h3 i hi; exact ⟨b, off, e1, trivial, e2, e3⟩⟩
theorem SfU.old {B : Nat} {w : World} {v : Value} {l : List Int} (h : RdI .u32 w v l) (hB : w.heap.size ≤ B) : SfU B w v l := by
  obtain ⟨a, cap, rfl, h1, h2, h3⟩ := rdU h
  refine ⟨a, cap, rfl, h1, h2, fun i hi => ?_⟩
  obtain ⟨b, off, e1, e2, e3⟩ := h3 i hi
  exact ⟨b, off, e1, e2, e3, .inl (Nat.lt_of_lt_of_le e2 hB)⟩
theorem SfU.ext {B : Nat} {w w' : World} {v : Value} {l : List Int} (h : SfU B w v l) (k : Ext w w') : SfU B w' v l := by
  obtain ⟨a, cap, rfl, h1, h2, h3⟩ := h
  refine ⟨a, cap, rfl, h1, h2, fun i hi => ?_⟩
  obtain ⟨b, off, e1, e2, e3, e4⟩ := h3 i hi
  have hb : w'.heap[b]? = w.heap[b]? := k.block b e2
  exact ⟨b, off, e1, Nat.lt_of_lt_of_le e2 k.size, (World.cell?_of_block hb).trans e3, e4.imp id fun ⟨cur, hc⟩ => ⟨cur, hb.trans hc⟩⟩
theorem SfU.mono {B C : Nat} {w : World} {v : Value} {l : List Int} (h : SfU B w v l) (hB : B ≤ C) : SfU C w v l := by
  obtain ⟨a, cap, rfl, h1, h2, h3⟩ := h
  refine ⟨a, cap, rfl, h1, h2, fun i hi => ?_⟩
  obtain ⟨b, off, e1, e2, e3, e4⟩ := h3 i hi
  exact ⟨b, off, e1, e2, e3, e4.imp (fun h => Nat.lt_of_lt_of_le h hB) id⟩
theorem SfU.new {B : Nat} {w0 w : World} {v : Value} {l : List Int} (h : NewV w0 w v l) : SfU B w v l := by
  obtain ⟨o, h1, h2⟩ := h
  rcases h1 with ⟨_, rfl, a, ha, rfl⟩ | ⟨g, cap, ho, rfl, hr⟩
  · exact ⟨a, 0, rfl, Nat.le_refl _, by omega, fun i hi => by cases hi⟩
  · refine ⟨_, cap, rfl, hr.le, hr.most, fun i hi => ⟨g, 0, rfl, hr.lt, by rw [Nat.zero_add]; exact hr.cell hi, .inr ?_⟩⟩
    obtain ⟨cur, hb, _⟩ := hr.blk
    exact ⟨cur, hb⟩
def OwRow {α : Type} (e : TypeId) (size : Nat) (El : World → List Value → α → Prop) (B : Nat) (w : World) (v : Value) (l : List α) : Prop :=
  ∃ hs : List (List Value), w.ownsRow B e size v l.length hs.flatten ∧ hs.length = l.length ∧ (∀ h ∈ hs, h.length = size) ∧ ∀ (i : Nat) x, l[i]? = some x → ∃ h, hs[i]? = some h ∧ El w h x
theorem OwRow.nil {α : Type} (e : TypeId) (size : Nat) (El : World → List Value → α → Prop) (B : Nat) (w : World) : OwRow e size El B w (.slice none 0 0) [] :=
  ⟨[], World.ownsRow_nil _ _ _ _, rfl, (fun h hh => by cases hh), fun i x h => by simp at h⟩
theorem OwRow.ext {α : Type} {e : TypeId} {size : Nat} {El : World → List Value → α → Prop} {B : Nat} {w w' : World} {v : Value} {l : List α} (h : OwRow e size El B w v l) (x : Ext w w')
    (hEl : ∀ h y, El w h y → El w' h y) : OwRow e size El B w' v l := by
  obtain ⟨hs, h1, h2, h3, h4⟩ := h
  exact ⟨hs, own_ext h1 x, h2, h3, fun i y hi => by obtain ⟨h, e1, e2⟩ := h4 i y hi; exact ⟨h, e1, hEl _ _ e2⟩⟩
theorem OwRow.rdN {α : Type} {e : TypeId} {size : Nat} {El : World → List Value → α → Prop} {B : Nat} {w : World} {v : Value} {l : List α} (h : OwRow e size El B w v l) :
    ∃ a cap, v = .slice a l.length cap ∧ l.length ≤ cap ∧ cap ≤ 9223372036854775807 ∧ ∀ (i : Nat) x, l[i]? = some x → ∃ b h, a = some ⟨b, 0, none⟩ ∧ B ≤ b ∧ b < w.heap.size ∧ h.length = size ∧ (∀ j, j < size → w.cell? ⟨b, i * size + j, none⟩ = h[j]?) ∧ El w h x := by
  obtain ⟨hs, h1, h2, h3, h4⟩ := h
  rw [← h2] at h1
  have hr := own_rdN h1 h3
  rcases h1.2 with ⟨rfl, h0⟩ | ⟨g, cap, cur, rfl, hb, hg, hn, hm, hs', ht⟩
  · refine ⟨none, 0, by rw [← h2, h0], by omega, by omega, fun i x hi => ?_⟩
    have := (List.getElem?_eq_some_iff.1 hi).1
    omega
  · obtain ⟨a, cap', hv, hc, hm2, hr⟩ := hr
    injection hv with e1 e2 e3
    subst e1; subst e3
    refine ⟨_, cap, by rw [h2], by omega, hm2, fun i x hi => ?_⟩
    have hil := (List.getElem?_eq_some_iff.1 hi).1
    obtain ⟨h, e4, e5⟩ := h4 i x hi
    obtain ⟨b, off, e6, e7, e8⟩ := hr i (by omega)
    injection e6 with e6
    injection e6 with e6 e9
    subst e6; subst e9
    refine ⟨g, h, rfl, hb, e7, h3 h (List.mem_of_getElem? e4), fun j hj => ?_, e5⟩
    have := e8 j hj
    rw [Nat.zero_add] at this
    rw [this, List.getD_eq_getElem?_getD, e4]; rfl
end Go.Proofs.YtbnalhmcbolngaaGreat
