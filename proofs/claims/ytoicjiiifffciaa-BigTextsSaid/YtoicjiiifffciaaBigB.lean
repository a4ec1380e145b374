/- Words on memory for numbers in limbs: rows of 32-bit limbs that the call owns, slices that it reads. Conditions: none. -/
import Derived.Test.YtoicjiiifffciaaBase
import Derived.Test.YtoicjiiifffciaaBase2
import Derived.Test.YtoicjiiifffciaaBigN
namespace Go.Proofs.Ytoicjiiifffciaa
set_option linter.unusedSimpArgs false
set_option linter.unusedVariables false
open Go.RowKit

/-- Frame: w' is w but for block o and new blocks. -/
abbrev Gr (o : Option Nat) (w w' : World) : Prop := w.grownBy w' o

theorem Gr.refl (o : Option Nat) (w : World) : Gr o w w := ⟨rfl, rfl, rfl, Nat.le_refl _, fun _ _ _ => rfl⟩
theorem Gr.trans {o : Option Nat} {a b c : World} (h : Gr o a b) (k : Gr o b c) : Gr o a c :=
  ⟨k.os.trans h.os, k.tape.trans h.tape, k.output.trans h.output, Nat.le_trans h.size k.size, fun i hi hn => (k.block i (Nat.lt_of_lt_of_le hi h.size) hn).trans (h.block i hi hn)⟩
theorem Gr.of_ext {o : Option Nat} {a b : World} (h : Ext a b) : Gr o a b := ⟨h.os, h.tape, h.output, h.size, fun i hi _ => h.block i hi⟩
theorem Gr.ext {a b : World} (h : Gr none a b) : Ext a b := ⟨h.os, h.tape, h.output, h.size, fun i hi => h.block i hi (by simp)⟩
theorem Gr.below {o : Option Nat} {B : Nat} {a b : World} (h : Gr o a b) (hB : B ≤ a.heap.size) (ho : ∀ g, o = some g → B ≤ g) : Below B a b :=
  ⟨h.os, h.tape, h.output, h.size, fun i hi => h.block i (by omega) (fun e => by have := ho i e.symm; omega)⟩
/-- .. a change of a block that is new counts for nothing. -/
theorem Gr.fresh {o o' : Option Nat} {a b c : World} (h : Gr o a b) (k : Gr o' b c) (hn : ∀ g, o' = some g → o = some g ∨ a.heap.size ≤ g) : Gr o a c :=
  ⟨k.os.trans h.os, k.tape.trans h.tape, k.output.trans h.output, Nat.le_trans h.size k.size, fun i hi hne =>
    (k.block i (Nat.lt_of_lt_of_le hi h.size) (fun e => (hn i e.symm).elim (fun h1 => hne h1.symm) (fun h1 => by omega))).trans (h.block i hi hne)⟩
theorem Gr.of_below {o : Option Nat} {a b : World} (h : Below a.heap.size a b) : Gr o a b := Gr.of_ext h
theorem Gr.alloc {o : Option Nat} {a b : World} (h : Gr o a b) (x : Obj) : Gr o a (b.alloc x) := h.trans (Gr.of_ext ((Ext.refl b).alloc x))
theorem Gr.drew {o : Option Nat} {a b : World} (h : Gr o a b) : Gr o a b.drew := h.trans (Gr.of_ext (Ext.refl b).drew)
theorem Gr.drewN {o : Option Nat} {a b : World} (h : Gr o a b) (n : Nat) : Gr o a (b.drewN n) := h.trans (Gr.of_ext ((Ext.refl b).drewN n))
theorem Gr.set {g : Nat} {a b : World} (h : Gr (some g) a b) (i : Nat) (v : Value) : Gr (some g) a (b.setCell ⟨g, i, none⟩ v) :=
  h.trans ⟨rfl, rfl, rfl, by simp [World.setCell], fun k hk hn => Below.heap_setCell _ _ _ _ (by intro e; exact hn (by rw [e]))⟩
/-- .. a write into a new block. -/
theorem Gr.setNew {o : Option Nat} {a b : World} (h : Gr o a b) {p : Addr} (hp : a.heap.size ≤ p.block) (v : Value) : Gr o a (b.setCell p v) :=
  ⟨h.os, h.tape, h.output, by simpa [World.setCell] using h.size, fun k hk hn => (Below.heap_setCell _ _ _ _ (by omega)).trans (h.block k hk hn)⟩
theorem Gr.cell {o : Option Nat} {a b : World} (h : Gr o a b) {p : Addr} (hp : p.block < a.heap.size) (hn : some p.block ≠ o) : b.cell? p = a.cell? p := World.cell?_of_block (h.block _ hp hn)
theorem Gr.frozen {o : Option Nat} {a b : World} (h : Gr o a b) {p : Addr} (hp : p.block < a.heap.size) (hn : some p.block ≠ o) : b.frozen? p = a.frozen? p := World.frozen?_of_block (h.block _ hp hn)
theorem Blk.gr {o : Option Nat} {w w' : World} {b : Nat} {c : Array Value} {t : TypeId} (h : Blk w b c t) (e : Gr o w w') (hn : some b ≠ o) : Blk w' b c t := (e.block b h.lt hn).trans h

/-- v is a slice that reads the limbs l, its block meets p. -/
def RdA (p : Nat → Prop) (w : World) (v : Value) (l : List Int) : Prop :=
  ∃ a cap, v = .slice a l.length cap ∧ l.length ≤ cap ∧ cap ≤ 9223372036854775807 ∧
    ∀ i, i < l.length → ∃ b off, a = some ⟨b, off, none⟩ ∧ p b ∧ b < w.heap.size ∧ w.cell? ⟨b, off + i, none⟩ = some (.int .u32 (l.getD i 0))

theorem RdA.of {w : World} {v : Value} {l : List Int} (h : RdI .u32 w v l) : RdA (fun b => b < w.heap.size) w v l := by
  obtain ⟨a, cap, hv, h1, h2, h3⟩ := h.get
  exact ⟨a, cap, hv, h1, h2, fun i hi => by obtain ⟨b, off, e1, e2, e3⟩ := h3 i hi; exact ⟨b, off, e1, e2, e2, e3⟩⟩
theorem RdA.to {p : Nat → Prop} {w : World} {v : Value} {l : List Int} (h : RdA p w v l) : RdI .u32 w v l := by
  obtain ⟨a, cap, hv, h1, h2, h3⟩ := h
  refine ⟨a, cap, by simpa using hv, by simpa using h1, h2, fun i hi => ?_⟩
  rw [List.length_map] at hi
  obtain ⟨b, off, e1, _, e2, e3⟩ := h3 i hi
  exact ⟨b, off, e1, e2, by rw [e3]; simp [hi]⟩
theorem RdA.gr {p : Nat → Prop} {o : Option Nat} {w w' : World} {v : Value} {l : List Int} (h : RdA p w v l) (e : Gr o w w') (hn : ∀ b, p b → some b ≠ o) : RdA p w' v l := by
  obtain ⟨a, cap, hv, hc, hm, hr⟩ := h
  refine ⟨a, cap, hv, hc, hm, fun i hi => ?_⟩
  obtain ⟨b, off, ha, hp, hb, hx⟩ := hr i hi
  exact ⟨b, off, ha, hp, Nat.lt_of_lt_of_le hb e.size, (e.cell (p := ⟨b, off + i, none⟩) hb (hn b hp)).trans hx⟩
theorem RdA.ext {p : Nat → Prop} {w w' : World} {v : Value} {l : List Int} (h : RdA p w v l) (e : Ext w w') : RdA p w' v l := h.gr (Gr.of_ext (o := none) e) (fun _ _ => by simp)
theorem RdA.mono {p q : Nat → Prop} {w : World} {v : Value} {l : List Int} (h : RdA p w v l) (hpq : ∀ b, p b → q b) : RdA q w v l := by
  obtain ⟨a, cap, hv, hc, hm, hr⟩ := h
  exact ⟨a, cap, hv, hc, hm, fun i hi => by obtain ⟨b, off, e1, e2, e3⟩ := hr i hi; exact ⟨b, off, e1, hpq b e2, e3⟩⟩

/-- Block g is a row of cap limbs, of which the first read l. -/
structure RowU (w : World) (g cap : Nat) (l : List Int) : Prop where
  blk : ∃ cur, Blk w g cur 50 ∧ cur.size = cap ∧ cur.toList.take l.length = l.map (Value.int .u32)
  le : l.length ≤ cap
  most : cap ≤ 9223372036854775807

theorem RowU.lt {w : World} {g cap : Nat} {l : List Int} (h : RowU w g cap l) : g < w.heap.size := by obtain ⟨cur, hb, _⟩ := h.blk; exact hb.lt
theorem RowU.free {w : World} {g cap : Nat} {l : List Int} (h : RowU w g cap l) (o : Nat) : w.frozen? ⟨g, o, none⟩ = false := by obtain ⟨cur, hb, _⟩ := h.blk; exact hb.free o
theorem RowU.cell {w : World} {g cap : Nat} {l : List Int} (h : RowU w g cap l) {i : Nat} (hi : i < l.length) : w.cell? ⟨g, i, none⟩ = some (.int .u32 (l.getD i 0)) := by
  obtain ⟨cur, hb, hs, ht⟩ := h.blk
  rw [hb.cell]
  have e1 : (cur.toList.take l.length)[i]? = (l.map (Value.int .u32))[i]? := by rw [ht]
  rw [List.getElem?_take_of_lt hi, Array.getElem?_toList] at e1
  rw [e1]; simp [hi]
theorem RowU.gr {o : Option Nat} {w w' : World} {g cap : Nat} {l : List Int} (h : RowU w g cap l) (e : Gr o w w') (hn : some g ≠ o) : RowU w' g cap l := by
  obtain ⟨cur, hb, hs, ht⟩ := h.blk
  exact ⟨⟨cur, hb.gr e hn, hs, ht⟩, h.le, h.most⟩
theorem RowU.ext {w w' : World} {g cap : Nat} {l : List Int} (h : RowU w g cap l) (e : Ext w w') : RowU w' g cap l := h.gr (Gr.of_ext (o := none) e) (by simp)
theorem RowU.take {w : World} {g cap : Nat} {l : List Int} (h : RowU w g cap l) (k : Nat) : RowU w g cap (l.take k) := by
  obtain ⟨cur, hb, hs, ht⟩ := h.blk
  have hle := h.le
  refine ⟨⟨cur, hb, hs, ?_⟩, by rw [List.length_take]; omega, h.most⟩
  rw [List.map_take, ← ht, List.take_take, List.length_take]
theorem RowU.set {w : World} {g cap : Nat} {l : List Int} (h : RowU w g cap l) (i : Nat) (x : Int) (hi : i < l.length) : RowU (w.setCell ⟨g, i, none⟩ (.int .u32 x)) g cap (l.set i x) := by
  obtain ⟨cur, hb, hs, ht⟩ := h.blk
  refine ⟨⟨_, hb.set i (.int .u32 x), by simpa using hs, ?_⟩, by simpa using h.le, h.most⟩
  rw [List.length_set, Array.toList_setIfInBounds, List.take_set, ht, List.map_set]
theorem RowU.new (w : World) (l : List Int) (hm : l.length ≤ 9223372036854775807) : RowU (w.alloc (.cells (l.map (Value.int .u32)).toArray 50)) w.heap.size l.length l :=
  ⟨⟨_, Blk.new w _ _, by simp, List.take_of_length_le (by simp)⟩, Nat.le_refl _, hm⟩
theorem RowU.rd {p : Nat → Prop} {w : World} {g cap : Nat} {l : List Int} (h : RowU w g cap l) (hp : p g) : RdA p w (.slice (some ⟨g, 0, none⟩) l.length cap) l :=
  ⟨_, cap, rfl, h.le, h.most, fun i hi => ⟨g, 0, rfl, hp, h.lt, by rw [Nat.zero_add]; exact h.cell hi⟩⟩

/-- v is a slice of the call's own that reads l: it lies in block o (none: it has no room). -/
def OwV (w : World) (o : Option Nat) (v : Value) (l : List Int) : Prop :=
  (o = none ∧ l = [] ∧ ∃ a, a = none ∧ v = .slice a 0 0) ∨ ∃ g cap, o = some g ∧ v = .slice (some ⟨g, 0, none⟩) l.length cap ∧ RowU w g cap l

theorem OwV.nil (w : World) : OwV w none (.slice none 0 0) [] := .inl ⟨rfl, rfl, none, rfl, rfl⟩
theorem OwV.row {w : World} {g cap : Nat} {l : List Int} (h : RowU w g cap l) : OwV w (some g) (.slice (some ⟨g, 0, none⟩) l.length cap) l := .inr ⟨g, cap, rfl, rfl, h⟩
theorem OwV.gr {o o' : Option Nat} {w w' : World} {v : Value} {l : List Int} (h : OwV w o v l) (e : Gr o' w w') (hn : ∀ g, o = some g → some g ≠ o') : OwV w' o v l := by
  rcases h with h | ⟨g, cap, ho, hv, hr⟩
  · exact .inl h
  · exact .inr ⟨g, cap, ho, hv, hr.gr e (hn g ho)⟩
theorem OwV.ext {o : Option Nat} {w w' : World} {v : Value} {l : List Int} (h : OwV w o v l) (e : Ext w w') : OwV w' o v l := h.gr (Gr.of_ext (o := none) e) (fun _ _ => by simp)
theorem OwV.lt {o : Option Nat} {w : World} {v : Value} {l : List Int} (h : OwV w o v l) {g : Nat} (ho : o = some g) : g < w.heap.size := by
  rcases h with ⟨h, _⟩ | ⟨g', cap, h, hv, hr⟩
  · rw [ho] at h; cases h
  · rw [ho] at h; cases h; exact hr.lt
theorem OwV.rd {p : Nat → Prop} {o : Option Nat} {w : World} {v : Value} {l : List Int} (h : OwV w o v l) (hp : ∀ g, o = some g → p g) : RdA p w v l := by
  rcases h with ⟨_, rfl, a, ha, rfl⟩ | ⟨g, cap, ho, rfl, hr⟩
  · exact ⟨a, 0, rfl, by simp, by omega, fun i hi => by simp at hi⟩
  · exact hr.rd (hp g ho)
theorem OwV.rdI {o : Option Nat} {w : World} {v : Value} {l : List Int} (h : OwV w o v l) : RdI .u32 w v l := (h.rd (p := fun _ => True) (fun _ _ => trivial)).to
/-- An owned row, whatever the form. -/
theorem OwV.toOwn {w : World} {o : Option Nat} {B : Nat} {v : Value} {l : List Int} (h : OwV w o v l) (hB : ∀ g, o = some g → B ≤ g) : w.ownsRow B 50 1 v l.length (l.map (Value.int .u32)) := by
  rcases h with ⟨_, rfl, a, rfl, rfl⟩ | ⟨g, cap, ho, rfl, hr⟩
  · exact World.ownsRow_nil _ _ _ _
  · obtain ⟨cur, hb, hs, ht⟩ := hr.blk
    exact ⟨by simp, .inr ⟨g, cap, cur, rfl, hB g ho, hb, hr.le, by have := hr.most; unfold maxLen; omega, by omega, by rw [Nat.mul_one]; exact ht⟩⟩
/-- A row that append built. -/
theorem OwV.own {w : World} {B : Nat} {v : Value} {l : List Int} (h : w.ownsRow B 50 1 v l.length (l.map (Value.int .u32))) : ∃ o, OwV w o v l ∧ ∀ g, o = some g → B ≤ g := by
  rcases h.2 with ⟨rfl, h0⟩ | ⟨g, cap, cur, rfl, hb, hg, hn, hm, hs, ht⟩
  · exact ⟨none, .inl ⟨rfl, List.length_eq_zero_iff.1 h0, none, rfl, rfl⟩, fun g h => by cases h⟩
  · refine ⟨some g, .inr ⟨g, cap, rfl, rfl, ⟨cur, hg, by omega, ?_⟩, hn, by unfold maxLen at hm; omega⟩, fun g' h => by cases h; exact hb⟩
    rw [Nat.mul_one] at ht; exact ht
/-- .. and back. -/
theorem RowU.own {w : World} {B g cap : Nat} {l : List Int} (h : RowU w g cap l) (hB : B ≤ g) : w.ownsRow B 50 1 (.slice (some ⟨g, 0, none⟩) l.length cap) l.length (l.map (Value.int .u32)) := by
  obtain ⟨cur, hb, hs, ht⟩ := h.blk
  exact ⟨by simp, .inr ⟨g, cap, cur, rfl, hB, hb, h.le, by have := h.most; unfold maxLen; omega, by omega, by rw [Nat.mul_one]; exact ht⟩⟩

theorem Try.infoU : (Try.prog.info? 50).map (fun i => (i.zero, i.size, i.bytes)) = some (some (.int .u32 0), 1, 4) := by kernel_rfl

end Go.Proofs.Ytoicjiiifffciaa
