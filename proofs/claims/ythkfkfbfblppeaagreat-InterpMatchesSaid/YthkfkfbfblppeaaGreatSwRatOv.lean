/- Part of the proof of imatL_holds: what the row needs of RatOv. Conditions: as each theorem states. -/
import Derived.Test.YthkfkfbfblppeaaGreatSwGJ
import Derived.Test.YthkfkfbfblppeaaGreatSwBigOv
namespace Go.Proofs.YthkfkfbfblppeaaGreat
set_option linter.unusedSimpArgs false
set_option linter.unusedVariables false
open Go.RowKit
def Rowy (w : World) (g n : Nat) : Prop := ∃ cur, Blk w g cur 206 ∧ n ≤ cur.size
def Wry (w : World) (A B : Nat) (v : Value) (n : Nat) : Prop := (n = 0 ∧ ∃ a c, v = .slice a 0 c) ∨ ∃ g c, v = .slice (some ⟨g, 0, none⟩) n c ∧ Rowy w g n ∧ A ≤ g ∧ g < B
structure GrX (A B : Nat) (W W' : World) : Prop where
  os : W'.os = W.os
  tape : W'.tape = W.tape
  output : W'.output = W.output
  size : W.heap.size ≤ W'.heap.size
  block : ∀ i, i < W.heap.size → (i < A ∨ B ≤ i) → W'.heap[i]? = W.heap[i]?
  rows : ∀ g n, Rowy W g n → Rowy W' g n
theorem Rowy.ext {w w' : World} {g n : Nat} (h : Rowy w g n) (x : Ext w w') : Rowy w' g n := by
  obtain ⟨c, h1, h2⟩ := h; exact ⟨c, h1.ext x, h2⟩
theorem GrX.of_ext {A B : Nat} {W W' : World} (x : Ext W W') : GrX A B W W' := ⟨x.os, x.tape, x.output, x.size, fun i hi _ => x.block i hi, fun _ _ h => h.ext x⟩
theorem GrX.trans {A B : Nat} {a b c : World} (h : GrX A B a b) (k : GrX A B b c) : GrX A B a c :=
  ⟨k.os.trans h.os, k.tape.trans h.tape, k.output.trans h.output, Nat.le_trans h.size k.size, fun i hi hh => (k.block i (Nat.lt_of_lt_of_le hi h.size) hh).trans (h.block i hi hh), fun g n r => k.rows g n (h.rows g n r)⟩
theorem GrX.ext {A B : Nat} {w W W' : World} (x : Ext w W) (k : GrX A B W W') (h : w.heap.size ≤ A) : Ext w W' :=
  ⟨k.os.trans x.os, k.tape.trans x.tape, k.output.trans x.output, Nat.le_trans x.size k.size, fun i hi => (k.block i (Nat.lt_of_lt_of_le hi x.size) (.inl (by omega))).trans (x.block i hi)⟩
theorem Wry.gr {A B C D : Nat} {W W' : World} {v : Value} {n : Nat} (h : Wry W A B v n) (k : GrX C D W W') : Wry W' A B v n := by
  rcases h with h | ⟨g, c, h1, h2, h3⟩
  · exact .inl h
  · exact .inr ⟨g, c, h1, k.rows g n h2, h3⟩
theorem Wry.ext {A B : Nat} {W W' : World} {v : Value} {n : Nat} (h : Wry W A B v n) (k : Ext W W') : Wry W' A B v n := h.gr (GrX.of_ext (A := A) (B := B) k)
theorem Wry.new {w w' : World} {v : Value} {l : List Int} (h : NewV w w' v l) : Wry w' w.heap.size w'.heap.size v l.length := by
  obtain ⟨o, h1, h2⟩ := h
  rcases h1 with ⟨_, rfl, a, ha, rfl⟩ | ⟨g, cap, ho, rfl, hr⟩
  · exact .inl ⟨rfl, _, _, rfl⟩
  · obtain ⟨cur, hb, hs, ht⟩ := hr.blk
    exact .inr ⟨g, cap, rfl, ⟨cur, hb, by rw [hs]; exact hr.le⟩, h2 g ho, hr.lt⟩
def KpR (W : World) (A B : Nat) (v : Value) (r : RR) : Prop := ∃ vn vd, v = .agg #[.bool r.neg, vn, vd] ∧ (RdI .u32 W vn r.num ∧ Wry W A B vn r.num.length) ∧ (RdI .u32 W vd r.den ∧ Wry W A B vd r.den.length)
theorem KpR.new {w w' : World} {v : Value} {r : RR} (h : NewR w w' v r) : KpR w' w.heap.size w'.heap.size v r := by
  obtain ⟨vn, vd, rfl, h1, h2⟩ := h
  exact ⟨vn, vd, rfl, ⟨h1.rd, Wry.new h1⟩, h2.rd, Wry.new h2⟩
theorem KpR.ext {W W' : World} {A B : Nat} {v : Value} {r : RR} (h : KpR W A B v r) (x : Ext W W') : KpR W' A B v r := by
  obtain ⟨vn, vd, rfl, ⟨h1, h2⟩, h3, h4⟩ := h
  exact ⟨vn, vd, rfl, ⟨h1.ext x, h2.ext x⟩, h3.ext x, h4.ext x⟩
theorem KpR.rd {W : World} {A B : Nat} {v : Value} {r : RR} (h : KpR W A B v r) : RdR W v r := by
  obtain ⟨vn, vd, rfl, ⟨h1, _⟩, h3, _⟩ := h
  exact ⟨vn, vd, rfl, h1, h3⟩
theorem rdI_gr {A B : Nat} {W W' : World} {v : Value} {l : List Int} (h : RdI .u32 W v l) (k : GrX A B W W') (hk : ∀ a n c, v = .slice (some a) n c → 0 < n → a.block < A ∨ B ≤ a.block) : RdI .u32 W' v l := by
  obtain ⟨a, cap, rfl, h1, h2, h3⟩ := rdU h
  refine RdA.to (p := fun _ => True) ⟨a, cap, rfl, h1, h2, fun i hi => ?_⟩
  obtain ⟨b, off, e1, e2, e3⟩ := h3 i hi
  subst e1
  refine ⟨b, off, rfl, trivial, Nat.lt_of_lt_of_le e2 k.size, ?_⟩
  rw [← e3]
  exact World.cell?_of_block (k.block b e2 (hk ⟨b, off, none⟩ _ _ rfl (by omega)))
theorem Wry.at {W : World} {A B : Nat} {v : Value} {n : Nat} (h : Wry W A B v n) : ∀ a m c, v = .slice (some a) m c → 0 < m → A ≤ a.block ∧ a.block < B := by
  intro a m c e hm
  rcases h with ⟨_, a', c', e'⟩ | ⟨g, c', e', _, h3⟩
  · rw [e'] at e; injection e with _ e2 _; omega
  · rw [e'] at e; injection e with e1 _ _; injection e1 with e1; subst e1; exact h3
theorem KpR.gr {W W' : World} {A B C D : Nat} {v : Value} {r : RR} (h : KpR W A B v r) (k : GrX C D W W') (hd : D ≤ A ∨ B ≤ C) : KpR W' A B v r := by
  obtain ⟨vn, vd, rfl, ⟨h1, h2⟩, h3, h4⟩ := h
  exact ⟨vn, vd, rfl, ⟨rdI_gr h1 k (fun a n c e hn => by have := h2.at a n c e hn; omega), h2.gr k⟩, rdI_gr h3 k (fun a n c e hn => by have := h4.at a n c e hn; omega), h4.gr k⟩
end Go.Proofs.YthkfkfbfblppeaaGreat
