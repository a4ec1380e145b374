/- Rows of structs that append builds, whose elements refer to other memory. Conditions: none. -/
import Derived.Test.YthkfkfbfblppeaaGreatGA
import Derived.Test.YthkfkfbfblppeaaGreatGB
namespace Go.Proofs.YthkfkfbfblppeaaGreat
set_option linter.unusedSimpArgs false
set_option linter.unusedVariables false
open Go.RowKit

/-- Blocks below B, and rows of other types than t, are as they were. -/
structure Keeps (B : Nat) (t : TypeId) (w w' : World) : Prop where
  zero : Below 0 w w'
  block : ∀ i, i < w.heap.size → (i < B ∨ ∃ cur u, Blk w i cur u ∧ u ≠ t) → w'.heap[i]? = w.heap[i]?
theorem Keeps.size {B : Nat} {t : TypeId} {w w' : World} (h : Keeps B t w w') : w.heap.size ≤ w'.heap.size := h.zero.size
theorem Keeps.ext {B : Nat} {t : TypeId} {w w' : World} (h : Ext w w') : Keeps B t w w' := ⟨h.mono (Nat.zero_le _), fun i hi _ => h.block i hi⟩
theorem Keeps.trans {B : Nat} {t : TypeId} {a b c : World} (h : Keeps B t a b) (k : Keeps B t b c) : Keeps B t a c :=
  ⟨h.zero.trans k.zero, fun i hi ho => (k.block i (Nat.lt_of_lt_of_le hi h.size) (by
    rcases ho with ho | ⟨cur, u, h1, h2⟩
    · exact .inl ho
    · exact .inr ⟨cur, u, (h.block i hi (.inr ⟨cur, u, h1, h2⟩)).trans h1, h2⟩)).trans (h.block i hi ho)⟩
theorem Keeps.below {B : Nat} {t : TypeId} {w w' : World} (h : Keeps B t w w') (hB : B ≤ w.heap.size) : Below B w w' :=
  ⟨h.zero.os, h.zero.tape, h.zero.output, h.zero.size, fun i hi => h.block i (Nat.lt_of_lt_of_le hi hB) (.inl hi)⟩
theorem Keeps.mono {B C : Nat} {t : TypeId} {w w' : World} (h : Keeps B t w w') (hB : C ≤ B) : Keeps C t w w' :=
  ⟨h.zero, fun i hi ho => h.block i hi (ho.imp (fun h => Nat.lt_of_lt_of_le h hB) id)⟩
theorem Blk.keeps {B b : Nat} {t u : TypeId} {c : Array Value} {w w' : World} (h : Blk w b c u) (k : Keeps B t w w') (hu : u ≠ t) : Blk w' b c u := (k.block b h.lt (.inr ⟨c, u, h, hu⟩)).trans h

/-- A slice of limbs in old memory or in rows of limbs. -/
def SfU (B : Nat) (w : World) (v : Value) (l : List Int) : Prop :=
  ∃ a cap, v = .slice a l.length cap ∧ l.length ≤ cap ∧ cap ≤ 9223372036854775807 ∧
    ∀ i, i < l.length → ∃ b off, a = some ⟨b, off, none⟩ ∧ b < w.heap.size ∧ w.cell? ⟨b, off + i, none⟩ = some (.int .u32 (l.getD i 0)) ∧ (b < B ∨ ∃ cur, Blk w b cur 206)
theorem SfU.rd {B : Nat} {w : World} {v : Value} {l : List Int} (h : SfU B w v l) : RdI .u32 w v l := by
  obtain ⟨a, cap, rfl, h1, h2, h3⟩ := h
  exact RdA.to (p := fun _ => True) ⟨a, cap, rfl, h1, h2, fun i hi => by obtain ⟨b, off, e1, e2, e3, _⟩ := h3 i hi; exact ⟨b, off, e1, trivial, e2, e3⟩⟩
theorem SfU.keeps {B : Nat} {t : TypeId} {w w' : World} {v : Value} {l : List Int} (h : SfU B w v l) (k : Keeps B t w w') (ht : 206 ≠ t) : SfU B w' v l := by
  obtain ⟨a, cap, rfl, h1, h2, h3⟩ := h
  refine ⟨a, cap, rfl, h1, h2, fun i hi => ?_⟩
  obtain ⟨b, off, e1, e2, e3, e4⟩ := h3 i hi
  have hb : w'.heap[b]? = w.heap[b]? := k.block b e2 (e4.imp id fun ⟨cur, hc⟩ => ⟨cur, _, hc, ht⟩)
  exact ⟨b, off, e1, Nat.lt_of_lt_of_le e2 k.size, (World.cell?_of_block hb).trans e3, e4.imp id fun ⟨cur, hc⟩ => ⟨cur, hb.trans hc⟩⟩
theorem SfU.old {B : Nat} {w : World} {v : Value} {l : List Int} (h : RdI .u32 w v l) (hB : w.heap.size ≤ B) : SfU B w v l := by
  obtain ⟨a, cap, rfl, h1, h2, h3⟩ := rdU h
  refine ⟨a, cap, rfl, h1, h2, fun i hi => ?_⟩
  obtain ⟨b, off, e1, e2, e3⟩ := h3 i hi
  exact ⟨b, off, e1, e2, e3, .inl (Nat.lt_of_lt_of_le e2 hB)⟩
theorem SfU.ext {B : Nat} {w w' : World} {v : Value} {l : List Int} (h : SfU B w v l) (k : Ext w w') : SfU B w' v l := by
  obtain ⟨a, cap, rfl, h1, h2, h3⟩ := h
  refine ⟨a, cap, rfl, h1, h2, fun i hi => ?_⟩
  obtain ⟨b, off, e1, e2, e3, e4⟩ := h3 i hi
  have hb : w'.heap[b]? = w.heap[b]? := k.block b e2
  exact ⟨b, off, e1, Nat.lt_of_lt_of_le e2 k.size, (World.cell?_of_block hb).trans e3, e4.imp id fun ⟨cur, hc⟩ => ⟨cur, hb.trans hc⟩⟩
theorem SfU.mono {B C : Nat} {w : World} {v : Value} {l : List Int} (h : SfU B w v l) (hB : B ≤ C) : SfU C w v l := by
  obtain ⟨a, cap, rfl, h1, h2, h3⟩ := h
  refine ⟨a, cap, rfl, h1, h2, fun i hi => ?_⟩
  obtain ⟨b, off, e1, e2, e3, e4⟩ := h3 i hi
  exact ⟨b, off, e1, e2, e3, e4.imp (fun h => Nat.lt_of_lt_of_le h hB) id⟩
theorem SfU.new {B : Nat} {w0 w : World} {v : Value} {l : List Int} (h : NewV w0 w v l) : SfU B w v l := by
  obtain ⟨o, h1, h2⟩ := h
  rcases h1 with ⟨_, rfl, a, ha, rfl⟩ | ⟨g, cap, ho, rfl, hr⟩
  · exact ⟨a, 0, rfl, Nat.le_refl _, by omega, fun i hi => by cases hi⟩
  · refine ⟨_, cap, rfl, hr.le, hr.most, fun i hi => ⟨g, 0, rfl, hr.lt, by rw [Nat.zero_add]; exact hr.cell hi, .inr ?_⟩⟩
    obtain ⟨cur, hb, _⟩ := hr.blk
    exact ⟨cur, hb⟩

/-- A slice of limbs in a row of limbs that lies behind B. -/
def SfW (B : Nat) (w : World) (v : Value) (l : List Int) : Prop :=
  SfU 0 w v l ∧ ((l.length = 0 ∧ ∃ a c, v = .slice a 0 c) ∨ ∃ g c cur, v = .slice (some ⟨g, 0, none⟩) l.length c ∧ Blk w g cur 206 ∧ l.length ≤ cur.size ∧ B ≤ g)
theorem SfW.rd {B : Nat} {w : World} {v : Value} {l : List Int} (h : SfW B w v l) : RdI .u32 w v l := h.1.rd
theorem SfW.keeps {B C : Nat} {t : TypeId} {w w' : World} {v : Value} {l : List Int} (h : SfW B w v l) (k : Keeps C t w w') (ht : 206 ≠ t) : SfW B w' v l :=
  ⟨h.1.keeps (k.mono (Nat.zero_le _)) ht, h.2.imp id fun ⟨g, c, cur, e, hb, hs, hB⟩ => ⟨g, c, cur, e, hb.keeps k ht, hs, hB⟩⟩
theorem SfW.ext {B : Nat} {w w' : World} {v : Value} {l : List Int} (h : SfW B w v l) (k : Ext w w') : SfW B w' v l :=
  ⟨h.1.ext k, h.2.imp id fun ⟨g, c, cur, e, hb, hs, hB⟩ => ⟨g, c, cur, e, hb.ext k, hs, hB⟩⟩
theorem SfW.mono {B C : Nat} {w : World} {v : Value} {l : List Int} (h : SfW B w v l) (hB : C ≤ B) : SfW C w v l :=
  ⟨h.1, h.2.imp id fun ⟨g, c, cur, e, hb, hs, hB'⟩ => ⟨g, c, cur, e, hb, hs, Nat.le_trans hB hB'⟩⟩
theorem SfW.new {B : Nat} {w0 w : World} {v : Value} {l : List Int} (h : NewV w0 w v l) (hB : B ≤ w0.heap.size) : SfW B w v l := by
  refine ⟨SfU.new h, ?_⟩
  obtain ⟨o, h1, h2⟩ := h
  rcases h1 with ⟨_, rfl, a, ha, rfl⟩ | ⟨g, cap, ho, rfl, hr⟩
  · exact .inl ⟨rfl, _, _, rfl⟩
  · obtain ⟨cur, hb, hs, ht⟩ := hr.blk
    exact .inr ⟨g, cap, cur, rfl, hb, by rw [hs]; exact hr.le, Nat.le_trans hB (h2 g ho)⟩

/-- A row that append built: its cells are those of l, read by El. -/
def OwRow {α : Type} (e : TypeId) (size : Nat) (El : World → List Value → α → Prop) (B : Nat) (w : World) (v : Value) (l : List α) : Prop :=
  ∃ hs : List (List Value), w.ownsRow B e size v l.length hs.flatten ∧ hs.length = l.length ∧ (∀ h ∈ hs, h.length = size) ∧ ∀ (i : Nat) x, l[i]? = some x → ∃ h, hs[i]? = some h ∧ El w h x
theorem OwRow.nil {α : Type} (e : TypeId) (size : Nat) (El : World → List Value → α → Prop) (B : Nat) (w : World) : OwRow e size El B w (.slice none 0 0) [] :=
  ⟨[], World.ownsRow_nil _ _ _ _, rfl, (fun h hh => by cases hh), fun i x h => by simp at h⟩
theorem OwRow.ext {α : Type} {e : TypeId} {size : Nat} {El : World → List Value → α → Prop} {B : Nat} {w w' : World} {v : Value} {l : List α} (h : OwRow e size El B w v l) (x : Ext w w')
    (hEl : ∀ h y, El w h y → El w' h y) : OwRow e size El B w' v l := by
  obtain ⟨hs, h1, h2, h3, h4⟩ := h
  exact ⟨hs, own_ext h1 x, h2, h3, fun i y hi => by obtain ⟨h, e1, e2⟩ := h4 i y hi; exact ⟨h, e1, hEl _ _ e2⟩⟩
theorem OwRow.rdN {α : Type} {e : TypeId} {size : Nat} {El : World → List Value → α → Prop} {B : Nat} {w : World} {v : Value} {l : List α} (h : OwRow e size El B w v l) :
    ∃ a cap, v = .slice a l.length cap ∧ l.length ≤ cap ∧ cap ≤ 9223372036854775807 ∧ ∀ (i : Nat) x, l[i]? = some x → ∃ b h, a = some ⟨b, 0, none⟩ ∧ B ≤ b ∧ b < w.heap.size ∧ h.length = size ∧ (∀ j, j < size → w.cell? ⟨b, i * size + j, none⟩ = h[j]?) ∧ El w h x := by
  obtain ⟨hs, h1, h2, h3, h4⟩ := h
  rw [← h2] at h1
  have hr := own_rdN h1 h3
  rcases h1.2 with ⟨rfl, h0⟩ | ⟨g, cap, cur, rfl, hb, hg, hn, hm, hs', ht⟩
  · refine ⟨none, 0, by rw [← h2, h0], by omega, by omega, fun i x hi => ?_⟩
    have := (List.getElem?_eq_some_iff.1 hi).1
    omega
  · obtain ⟨a, cap', hv, hc, hm2, hr⟩ := hr
    injection hv with e1 e2 e3
    subst e1; subst e3
    refine ⟨_, cap, by rw [h2], by omega, hm2, fun i x hi => ?_⟩
    have hil := (List.getElem?_eq_some_iff.1 hi).1
    obtain ⟨h, e4, e5⟩ := h4 i x hi
    obtain ⟨b, off, e6, e7, e8⟩ := hr i (by omega)
    injection e6 with e6
    injection e6 with e6 e9
    subst e6; subst e9
    refine ⟨g, h, rfl, hb, e7, h3 h (List.mem_of_getElem? e4), fun j hj => ?_, e5⟩
    have := e8 j hj
    rw [Nat.zero_add] at this
    rw [this, List.getD_eq_getElem?_getD, e4]; rfl

theorem flatten_len {α : Type} {size : Nat} (hs : List (List α)) (h : ∀ x ∈ hs, x.length = size) : hs.flatten.length = hs.length * size := by
  induction hs with
  | nil => simp
  | cons x r ih => rw [List.flatten_cons, List.length_append, ih (fun y hy => h y (by simp [hy])), h x (by simp), List.length_cons, Nat.add_mul]; omega

/-- 'append(s, x)' of one element; x lies in the newest block. -/
theorem wpList_append_row {P : Program} (W : World) {ops : Array Oper} {rest : List Oper} {o : Oper} {a : Act} {Q : Exit → Act → World → Prop} (hgd : o.guard = none) (s x : Operand) (t : TypeId)
    (ho : o.op = .call { callee := .builtin .append, args := #[s, x], argTypes := #[t, t] })
    (B : Nat) (e : TypeId) (z : Value) (size bytes : Nat) (ht : P.underlying t = some (.slice e)) (hinfo : (P.info? e).map (fun i => (i.zero, i.size, i.bytes)) = some (some z, size, bytes))
    (hzs : z.cells.size = size) (hsz : 0 < size) {α : Type} {El : World → List Value → α → Prop} (hEl : ∀ w w' h y, El w h y → Keeps B e w w' → El w' h y) (v : Value) (l : List α) (hown : OwRow e size El B W v l) (hs : a.eval s = v)
    (cs : List Value) (hcs : cs.length = size) (h1c : ∀ u ∈ cs, u.oneCell' = true) (y : α) (hy : El W cs y) (hx : a.eval x = .slice (some ⟨W.heap.size, 0, none⟩) 1 1)
    (h63 : l.length + 1 ≤ 9223372036854775807) (hbytes : (l.length + 1) * bytes ≤ 140737488355328) (hB : B ≤ W.heap.size)
    (h : ∀ g cap w', OwRow e size El B w' (.slice (some ⟨g, 0, none⟩) (l.length + 1) cap) (l ++ [y]) → Keeps B e W w' → wpList P ops Q rest (a.put o.dst (.slice (some ⟨g, 0, none⟩) (l.length + 1) cap)) w') :
    wpList P ops Q (o :: rest) a (W.alloc (.cells cs.toArray e)) := by
  obtain ⟨i0, hi, hz0, hz1, hz2⟩ := info_parts hinfo
  obtain ⟨hs0, h1, h2, h3, h4⟩ := hown
  refine wpList_append_own _ hgd s x t ho B e i0 z size bytes ht hi hz0 hz1 hz2 hzs hsz v l.length hs0.flatten hs (h1.alloc _) ⟨W.heap.size, 0, none⟩ 1 1 cs hx (by simp [hcs]) ?_ h1c (by unfold maxLen; omega) hbytes (by simp; omega) ?_
  · intro j u hj
    have hlt : j < cs.length := (List.getElem?_eq_some_iff.1 hj).1
    have hadd : (⟨W.heap.size, 0, none⟩ : Addr).add j = ⟨W.heap.size, j, none⟩ := by unfold Addr.add; split <;> simp_all
    rw [hadd, World.cell?_alloc_at _ _ _ _ rfl]
    simpa using hj
  · intro v' w' hown' hgrow _
    have hk0 : Keeps B e (W.alloc (.cells cs.toArray e)) w' := by
      refine ⟨⟨hgrow.os, hgrow.tape, hgrow.output, hgrow.size, fun i hi => by omega⟩, fun i hi ho => hgrow.block i hi ?_⟩
      intro heq
      rcases h1.2 with ⟨rfl, _⟩ | ⟨g, cap, cur, rfl, hb, hg, _⟩
      · simp [Value.ownBlock] at heq
      · simp [Value.ownBlock] at heq
        subst heq
        have hg2 : Blk (W.alloc (.cells cs.toArray e)) i cur e := Blk.alloc (show Blk W i cur e from hg) _
        rcases ho with ho | ⟨c2, u, h5, h6⟩
        · omega
        · unfold Blk at hg2 h5
          rw [hg2] at h5
          injection h5 with h5
          injection h5 with _ h7
          exact h6 h7.symm
    have hk : Keeps B e W w' := (Keeps.ext ((Ext.refl W).alloc _)).trans hk0
    have hrow : OwRow e size El B w' v' (l ++ [y]) := by
      refine ⟨hs0 ++ [cs], ?_, by simp [h2], ?_, ?_⟩
      · rw [List.flatten_append, List.length_append]; simpa using hown'
      · intro q hq
        rcases List.mem_append.1 hq with hq | hq
        · exact h3 q hq
        · rw [List.mem_singleton.1 hq]; exact hcs
      · intro i x0 hi0
        by_cases hlt : i < l.length
        · rw [List.getElem?_append_left hlt] at hi0
          obtain ⟨q, e1, e2⟩ := h4 i x0 hi0
          exact ⟨q, by rw [List.getElem?_append_left (by omega)]; exact e1, hEl _ _ _ _ e2 hk⟩
        · have hil : i = l.length := by
            have := (List.getElem?_eq_some_iff.1 hi0).1
            simp at this; omega
          subst hil
          rw [List.getElem?_append_right (Nat.le_refl _)] at hi0
          simp at hi0
          subst hi0
          exact ⟨cs, by rw [List.getElem?_append_right (by omega), h2]; simp, hEl _ _ _ _ hy hk⟩
    have h5 := hown'.2
    rcases h5 with ⟨_, h0⟩ | ⟨g, cap, cur, rfl, _⟩
    · omega
    · exact h g cap w' hrow hk

end Go.Proofs.YthkfkfbfblppeaaGreat
