/- Words and small lemmas that all walks of this seat use: reading of slices, extension of worlds. Conditions: none. -/
import Derived.Test.YtoicjiiifffciaaProg
import Derived.WalkKit
import Derived.WalkSpells
import Derived.WalkLawsBesides
import Derived.Deep.QuietTactic
import Derived.BigQuiet
import Derived.Lib.Hide
import Derived.Deep.RegionHeld3
import Derived.Deep.RegionWith
import Derived.Deep.DeepFit
import Derived.Deep.DeepCutAuto
import Derived.StillTailTactics
namespace Go.Proofs.Ytoicjiiifffciaa
set_option linter.unusedSimpArgs false
set_option linter.unusedVariables false
open Go.RowKit

/-- w' is w with more blocks. -/
abbrev Ext (w w' : World) : Prop := Below w.heap.size w w'

theorem Ext.refl (w : World) : Ext w w := Below.refl _ _
theorem Ext.trans {a b c : World} (h : Ext a b) (k : Ext b c) : Ext a c := Below.trans h (k.mono h.size)
theorem Ext.alloc {a w : World} (h : Ext a w) (o : Obj) : Ext a (w.alloc o) := Below.alloc h h.size o
theorem Ext.drew {a w : World} (h : Ext a w) : Ext a w.drew := Below.drew h
theorem Ext.drewN {a w : World} (h : Ext a w) (n : Nat) : Ext a (w.drewN n) := below_drewN h n
theorem Ext.set {a w : World} (h : Ext a w) {p : Addr} (hp : a.heap.size ≤ p.block) (v : Value) : Ext a (w.setCell p v) := Below.setCell h hp v
theorem Ext.setp {a w : World} {p : Addr} {v : Value} (hp : a.heap.size ≤ p.block) (h : Ext a w) : Ext a (w.setCell p v) := Below.setCell h hp v
theorem Ext.to {B : Nat} {a b c : World} (h : Below B a b) (k : Ext b c) (hB : B ≤ b.heap.size) : Below B a c := Below.trans h (k.mono hB)

@[simp] theorem size_drewN (w : World) (n : Nat) : (w.drewN n).heap.size = w.heap.size := rfl

/-- What a walk wants of a later world: cells and marks below B as they were. -/
theorem Ext.old {w w1 : World} (h : Ext w w1) {B : Nat} (hB : B ≤ w.heap.size) : (∀ b o, b < B → w1.cell? ⟨b, o, none⟩ = w.cell? ⟨b, o, none⟩) ∧ (∀ b o, b < B → w1.frozen? ⟨b, o, none⟩ = w.frozen? ⟨b, o, none⟩) :=
  ⟨fun _ _ hb => h.cell (Nat.lt_of_lt_of_le hb hB), fun _ _ hb => h.frozen (Nat.lt_of_lt_of_le hb hB)⟩

/-- .. and of one block. -/
theorem Ext.block_at {w w1 : World} (h : Ext w w1) {b : Nat} (hb : b < w.heap.size) : (∀ o, w1.cell? ⟨b, o, none⟩ = w.cell? ⟨b, o, none⟩) ∧ (∀ o, w1.frozen? ⟨b, o, none⟩ = w.frozen? ⟨b, o, none⟩) :=
  ⟨fun _ => h.cell hb, fun _ => h.frozen hb⟩

/-- Block b is a row of cells c, none of them frozen. -/
def Blk (w : World) (b : Nat) (c : Array Value) (t : TypeId) : Prop := w.heap[b]? = some (.cells c t (0, 0))

theorem Blk.lt {w : World} {b : Nat} {c : Array Value} {t : TypeId} (h : Blk w b c t) : b < w.heap.size := (Array.getElem?_eq_some_iff.1 h).1
theorem Blk.cell {w : World} {b : Nat} {c : Array Value} {t : TypeId} (h : Blk w b c t) (o : Nat) : w.cell? ⟨b, o, none⟩ = c[o]? := by
  unfold Blk at h
  simp [World.cell?, h]
theorem Blk.free {w : World} {b : Nat} {c : Array Value} {t : TypeId} (h : Blk w b c t) (o : Nat) : w.frozen? ⟨b, o, none⟩ = false := by
  unfold Blk at h
  simp [World.frozen?, h]
theorem Blk.ext {w w' : World} {b : Nat} {c : Array Value} {t : TypeId} (h : Blk w b c t) (e : Ext w w') : Blk w' b c t := (e.block b h.lt).trans h
theorem Blk.below {B : Nat} {w w' : World} {b : Nat} {c : Array Value} {t : TypeId} (h : Blk w b c t) (e : Below B w w') (hb : b < B) : Blk w' b c t := (e.block b hb).trans h
theorem Blk.alloc {w : World} {b : Nat} {c : Array Value} {t : TypeId} (h : Blk w b c t) (o : Obj) : Blk (w.alloc o) b c t := h.ext ((Ext.refl w).alloc o)
theorem Blk.drew {w : World} {b : Nat} {c : Array Value} {t : TypeId} (h : Blk w b c t) : Blk w.drew b c t := h
theorem Blk.new (w : World) (c : Array Value) (t : TypeId) : Blk (w.alloc (.cells c t)) w.heap.size c t := by
  show (w.heap.push _)[w.heap.size]? = _
  simp
theorem Blk.setOther {w : World} {b : Nat} {c : Array Value} {t : TypeId} (h : Blk w b c t) {a : Addr} (ha : b ≠ a.block) (v : Value) : Blk (w.setCell a v) b c t := (Below.heap_setCell w a v b ha).trans h
theorem Blk.set {w : World} {b : Nat} {c : Array Value} {t : TypeId} (h : Blk w b c t) (o : Nat) (v : Value) : Blk (w.setCell ⟨b, o, none⟩ v) b (c.setIfInBounds o v) t := by
  unfold Blk at *
  simp [World.setCell, Array.getElem?_modify, h]

/-- v is a slice whose elements, one cell each, read l in w. -/
def Rd (w : World) (v : Value) (l : List Value) : Prop :=
  ∃ a cap, v = .slice a l.length cap ∧ l.length ≤ cap ∧ cap ≤ 9223372036854775807 ∧
    ∀ i, i < l.length → ∃ b off, a = some ⟨b, off, none⟩ ∧ b < w.heap.size ∧ w.cell? ⟨b, off + i, none⟩ = l[i]?

theorem Rd.ext {w w' : World} {v : Value} {l : List Value} (h : Rd w v l) (e : Ext w w') : Rd w' v l := by
  obtain ⟨a, cap, hv, hc, hm, hr⟩ := h
  refine ⟨a, cap, hv, hc, hm, fun i hi => ?_⟩
  obtain ⟨b, off, ha, hb, hx⟩ := hr i hi
  exact ⟨b, off, ha, Nat.lt_of_lt_of_le hb e.size, (e.cell (p := ⟨b, off + i, none⟩) hb).trans hx⟩

/-- .. of integers of one kind. -/
abbrev RdI (k : IntKind) (w : World) (v : Value) (l : List Int) : Prop := Rd w v (l.map (Value.int k))

theorem RdI.get {k : IntKind} {w : World} {v : Value} {l : List Int} (h : RdI k w v l) : ∃ a cap, v = .slice a l.length cap ∧ l.length ≤ cap ∧ cap ≤ 9223372036854775807 ∧
    ∀ i, i < l.length → ∃ b off, a = some ⟨b, off, none⟩ ∧ b < w.heap.size ∧ w.cell? ⟨b, off + i, none⟩ = some (.int k (l.getD i 0)) := by
  obtain ⟨a, cap, hv, hc, hm, hr⟩ := h
  simp only [List.length_map] at hv hc hr
  refine ⟨a, cap, hv, hc, hm, fun i hi => ?_⟩
  obtain ⟨b, off, ha, hb, hx⟩ := hr i hi
  exact ⟨b, off, ha, hb, by rw [hx]; simp [hi]⟩

/-- v is a slice whose elements, n cells each, read l in w. -/
def RdN (n : Nat) (w : World) (v : Value) (l : List (List Value)) : Prop :=
  ∃ a cap, v = .slice a l.length cap ∧ l.length ≤ cap ∧ cap ≤ 9223372036854775807 ∧
    ∀ i, i < l.length → ∃ b off, a = some ⟨b, off, none⟩ ∧ b < w.heap.size ∧ ∀ j, j < n → w.cell? ⟨b, off + i * n + j, none⟩ = (l.getD i [])[j]?

theorem RdN.ext {n : Nat} {w w' : World} {v : Value} {l : List (List Value)} (h : RdN n w v l) (e : Ext w w') : RdN n w' v l := by
  obtain ⟨a, cap, hv, hc, hm, hr⟩ := h
  refine ⟨a, cap, hv, hc, hm, fun i hi => ?_⟩
  obtain ⟨b, off, ha, hb, hx⟩ := hr i hi
  exact ⟨b, off, ha, Nat.lt_of_lt_of_le hb e.size, fun j hj => (e.cell (p := ⟨b, off + i * n + j, none⟩) hb).trans (hx j hj)⟩

theorem take_succ_eq {α : Type} {l1 l2 : List α} {k : Nat} (h : l1.take k = l2.take k) (h1 : k < l1.length) (h2 : k < l2.length) (e : l1[k] = l2[k]) : l1.take (k + 1) = l2.take (k + 1) := by
  rw [List.take_succ_eq_append_getElem h1, List.take_succ_eq_append_getElem h2, h, e]

theorem ret_bool {a b : Bool} (h : a = b) : Ending.returned (.bool a) = .returned (.bool b) := by rw [h]
theorem ret_int {k : IntKind} {a b : Int} (h : a = b) : Ending.returned (.int k a) = .returned (.int k b) := by rw [h]

/-- 'append(s, x)' of one element (size cells), s the call's own: x lies in the newest block. -/
theorem wpList_append_new {P : Program} (W : World) {ops : Array Oper} {rest : List Oper} {o : Oper} {a : Act} {Q : Exit → Act → World → Prop} (hgd : o.guard = none) (s x : Operand) (t : TypeId)
    (ho : o.op = .call { callee := .builtin .append, args := #[s, x], argTypes := #[t, t] })
    (B : Nat) (e : TypeId) (z : Value) (size bytes : Nat) (ht : P.underlying t = some (.slice e)) (hinfo : (P.info? e).map (fun i => (i.zero, i.size, i.bytes)) = some (some z, size, bytes))
    (hzs : z.cells.size = size) (hsz : 0 < size) (v : Value) (n : Nat) (xs : List Value) (hown : W.ownsRow B e size v n xs) (hs : a.eval s = v)
    (cs : List Value) (hcs : cs.length = size) (h1c : ∀ u ∈ cs, u.oneCell' = true) (hx : a.eval x = .slice (some ⟨W.heap.size, 0, none⟩) 1 1)
    (h63 : n + 1 ≤ 9223372036854775807) (hbytes : (n + 1) * bytes ≤ 140737488355328) (hB : B ≤ W.heap.size)
    (h : ∀ g cap w', w'.ownsRow B e size (.slice (some ⟨g, 0, none⟩) (n + 1) cap) (n + 1) (xs ++ cs) → Below B W w' → wpList P ops Q rest (a.put o.dst (.slice (some ⟨g, 0, none⟩) (n + 1) cap)) w') :
    wpList P ops Q (o :: rest) a (W.alloc (.cells cs.toArray e)) := by
  obtain ⟨i0, hi, hz0, hz1, hz2⟩ := info_parts hinfo
  refine wpList_append_own _ hgd s x t ho B e i0 z size bytes ht hi hz0 hz1 hz2 hzs hsz v n xs hs (hown.alloc _) ⟨W.heap.size, 0, none⟩ 1 1 cs hx (by simp [hcs]) ?_ h1c (by unfold maxLen; omega) hbytes (by simp; omega) ?_
  · intro j u hj
    have hlt : j < cs.length := (List.getElem?_eq_some_iff.1 hj).1
    have hadd : (⟨W.heap.size, 0, none⟩ : Addr).add j = ⟨W.heap.size, j, none⟩ := by unfold Addr.add; split <;> simp_all
    rw [hadd, World.cell?_alloc_at _ _ _ _ rfl]
    simpa using hj
  · intro v' w' hown' hgrow _
    have hb : Below B W w' := ((Below.refl B W).alloc hB _).grown hgrow (by simp; omega) (fun k hk => (hown.lt k hk).1)
    have h2 := hown'.2
    rcases h2 with ⟨_, h0⟩ | ⟨g, cap, cur, rfl, _⟩
    · omega
    · exact h g cap w' hown' hb

/-- The room for it. -/
theorem room {n k : Nat} (h : n ≤ 1000000000) (hk : k ≤ 1000) : (n + 1) * k ≤ 140737488355328 := by
  have : (n + 1) * k ≤ (n + 1) * 1000 := Nat.mul_le_mul_left _ hk
  omega

end Go.Proofs.Ytoicjiiifffciaa
