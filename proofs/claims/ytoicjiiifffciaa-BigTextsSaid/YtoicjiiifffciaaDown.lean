/- 'for i, x := range seq' where the iterator counts down: a law of this seat. The value of each round is what memory holds when it comes up; a round may leave early. Conditions: none. -/
import Derived.RangeFuncNested
import Derived.RangeFuncBound
import Derived.RangeFuncCalls
import Derived.RangeFuncLeaves
import Derived.Shelf.Abstract
import Derived.Shelf.RegionOpen
import Derived.WalkKit
import Derived.OwnWalkIn
import Derived.TacticsInMore
import Derived.LoopNIn
import Derived.LoopIn
import Derived.Test.YtoicjiiifffciaaBigE
namespace Go.Proofs.Ytoicjiiifffciaa
set_option linter.unusedSimpArgs false
set_option linter.unusedVariables false
open Go.RowKit

/-- What the law's own book-keeping may do: blocks m and m+1 turn, new blocks come. -/
structure Kz (m : Nat) (A B : World) : Prop where
  zero : Below 0 A B
  block : ∀ i, i < A.heap.size → (i < m ∨ m + 1 < i) → B.heap[i]? = A.heap[i]?
/-- What a round keeps. -/
def Kd (m : Nat) (A B : World) : Prop := A.heap.size ≤ B.heap.size ∧ B.heap[m]? = A.heap[m]? ∧ B.heap[m + 1]? = A.heap[m + 1]?

theorem Kz.size {m : Nat} {A B : World} (h : Kz m A B) : A.heap.size ≤ B.heap.size := h.zero.size
theorem Kz.ext {m : Nat} {A B : World} (h : Ext A B) : Kz m A B := ⟨h.mono (Nat.zero_le _), fun i hi _ => h.block i hi⟩
theorem Kz.trans {m : Nat} {A B C : World} (h : Kz m A B) (k : Kz m B C) : Kz m A C := ⟨h.zero.trans k.zero, fun i hi ho => (k.block i (Nat.lt_of_lt_of_le hi h.size) ho).trans (h.block i hi ho)⟩
theorem Kz.put0 {m : Nat} (A : World) (o : Obj) : Kz m A (A.putObj m o) := ⟨⟨rfl, rfl, rfl, by simp, fun i hi => by omega⟩, fun i _ ho => World.putObj_heap_other (by omega)⟩
theorem Kz.put1 {m : Nat} (A : World) (o : Obj) : Kz m A (A.putObj (m + 1) o) := ⟨⟨rfl, rfl, rfl, by simp, fun i hi => by omega⟩, fun i _ ho => World.putObj_heap_other (by omega)⟩
theorem Blk.kz {m : Nat} {A B : World} {b : Nat} {c : Array Value} {t : TypeId} (h : Blk A b c t) (k : Kz m A B) (hb : b < m ∨ m + 1 < b) : Blk B b c t := (k.block b h.lt hb).trans h
theorem RowU.kz {m : Nat} {A B : World} {g cap : Nat} {l : List Int} (h : RowU A g cap l) (k : Kz m A B) (hb : g < m ∨ m + 1 < g) : RowU B g cap l := by
  obtain ⟨cur, hb', hs, ht⟩ := h.blk
  exact ⟨⟨cur, hb'.kz k hb, hs, ht⟩, h.le, h.most⟩
theorem Kz.cell {m : Nat} {A B : World} (k : Kz m A B) {p : Addr} (hp : p.block < A.heap.size) (hb : p.block < m ∨ m + 1 < p.block) : B.cell? p = A.cell? p := World.cell?_of_block (k.block _ hp hb)
theorem Gr.kz {m : Nat} {o : Option Nat} {a A B : World} (h : Gr o a A) (k : Kz m A B) (hm : a.heap.size ≤ m) : Gr o a B :=
  ⟨k.zero.os.trans h.os, k.zero.tape.trans h.tape, k.zero.output.trans h.output, Nat.le_trans h.size k.size, fun i hi hn => (k.block i (Nat.lt_of_lt_of_le hi h.size) (.inl (by omega))).trans (h.block i hi hn)⟩
theorem Kd.of_fr {m : Nat} {p : Nat → Prop} {A B : World} (h : Fr p A B) (hm : m + 1 < A.heap.size) (h0 : ¬ p m) (h1 : ¬ p (m + 1)) : Kd m A B :=
  ⟨h.zero.size, h.block m (by omega) h0, h.block (m + 1) hm h1⟩
theorem Kd.of_ext {m : Nat} {A B : World} (h : Ext A B) (hm : m + 1 < A.heap.size) : Kd m A B := ⟨h.size, h.block m (by omega), h.block (m + 1) hm⟩

/-- How a round may end. -/
def dnPost (m : Nat) (I : Nat → World → Prop) (Ix : Code → Nat → World → Prop) (k : Nat) (W : World) : Exit → Act → World → Prop
  | .normal, _, W' => Kd m W W' ∧ I k W'
  | .ret, _, W' => Kd m W W' ∧ Ix .ret k W'
  | .exit id, _, W' => Kd m W W' ∧ Ix (.exit id) k W'
  | _, _, _ => False

/-- The iterator's contract: it counts down from N; Rd says what it reads. -/
def DownSeq {α : Type} (F : Fence) (n : Nat) (P : Program) (gf : Nat) (lb : Array Value) (N : Nat) (encs : Nat → α → Array Value) (Rd : Nat → World → α → Prop) (l : Nat) (W1 : World) : Prop :=
  ∀ (J Jx : Nat → World → Prop), (∀ k A B, J k A → Ext A B → J k B) → (∀ k W, k < N → J (k + 1) W → ∃ y, Rd k W y) →
    (∀ k W y, k < N → J (k + 1) W → Rd k W y → YieldAt F (n - 1) P l (encs k y) W fun e W' => (e = .returned (.bool true) ∧ J k W') ∨ (e = .returned (.bool false) ∧ Jx k W')) →
    J N W1 → CallsIn F n P gf (#[.func (.yield l) #[] #[]] ++ lb) W1 fun e W' => (∃ v, e = .returned v) ∧ (J 0 W' ∨ ∃ k, k < N ∧ Jx k W')

variable {F : Fence} {n : Nat} {P : Program}

theorem wpIn_range_down {α : Type} {g : Operand} {ps : Array Tmp} {assign body : Code} {Q : Exit → Act → World → Prop} {a : Act} {w : World}
    (hro : F.round = none) (h1 : 1 ≤ n) {gf : Nat} {lb : Array Value} (hg : a.eval g = .func (.func gf) #[] lb) (hFg : F.fn gf) (eg : ∀ args w, (callFunc gf args).run P w = .ok (.enter gf args) w)
    (N : Nat) {encs : Nat → α → Array Value} {Rd : Nat → World → α → Prop}
    (hseq : ∀ W1, Ext w W1 → DownSeq F (n - 1) P gf lb N encs Rd (w.heap.size + 1) W1) (hps : ∀ k y, (encs k y).size = ps.size)
    (I : Nat → World → Prop) (Ix : Code → Nat → World → Prop) (hI : ∀ k A B, I k A → Kz w.heap.size A B → I k B) (hIx : ∀ c k A B, Ix c k A → Kz w.heap.size A B → Ix c k B)
    (hIr : ∀ k W, k < N → I (k + 1) W → ∃ y, Rd k W y) (h0 : I N w)
    (Ax : Nat → α → Act → World → Prop) (hAx : ∀ k y a1 A B, Ax k y a1 A → Kz w.heap.size A B → Ax k y a1 B)
    (hassign : ∀ (l k : Nat) (y : α) (W : World) (K : Act → World → Prop), k < N → I (k + 1) W → Rd k W y → w.heap.size + 1 < W.heap.size → (∀ a1 W1, Ext W W1 → Ax k y a1 W1 → K a1 W1) →
      assign.wpIn (F.inRound l) (n - 1 - 1) P (Exit.then K (fun _ _ _ => False)) { tmps := (ps.zip (encs k y)).foldl (fun t (p, v) => t.setIfInBounds p v) a.tmps, defers := [] } W)
    (hbody : ∀ (l k : Nat) (y : α) (a1 : Act) (W : World), k < N → Ax k y a1 W → w.heap.size + 1 < W.heap.size → body.wpIn (F.inRound l) (n - 1 - 1) P (dnPost w.heap.size I Ix k W) a1 W)
    (hdone : ∀ (W : World), I 0 W → W.heap[w.heap.size]? = some (.deferred (some [])) → Q .normal { a with defers := { target := .collected w.heap.size, args := #[] } :: a.defers } W)
    (hstop : ∀ (c : Code) (k : Nat) (W : World), k < N → Ix c k W → W.heap[w.heap.size]? = some (.deferred (some [])) → c.wpIn F n P Q { a with defers := { target := .collected w.heap.size, args := #[] } :: a.defers } W) :
    (Code.rangeFunc g ps assign body).wpIn F n P Q a w := by
  refine wpIn_rangeFunc ?_
  intro fn hfn
  rw [hro]
  obtain ⟨rec, hrec⟩ : ∃ rec : LoopState → Option Code → Loop, rec = fun st pe => { state := st, pending := pe, fn, tmps := a.tmps, params := ps, assign, body, defers := w.heap.size } := ⟨_, rfl⟩
  obtain ⟨W1, hW1⟩ : ∃ W1, (w.alloc (.deferred (some []))).alloc (.loop (rec .ready none)) = W1 := ⟨_, rfl⟩
  have hL1 : W1.heap[w.heap.size + 1]? = some (.loop (rec .ready none)) := by
    rw [← hW1]; have := World.alloc_heap_new (w.alloc (.deferred (some []))) (.loop (rec .ready none)); rwa [World.size_alloc] at this
  have hK1 : W1.heap[w.heap.size]? = some (.deferred (some [])) := by
    rw [← hW1]; exact (Below.heap_alloc _ _ _ (by simp)).trans (World.alloc_heap_new w _)
  have hx1 : Ext w W1 := by rw [← hW1]; exact ((Ext.refl w).alloc _).alloc _
  have hI1 : I N W1 := hI _ _ _ h0 (.ext hx1)
  refine ⟨w.heap.size + 1, [{ target := .collected w.heap.size, args := #[] }], W1, { target := .fn (.func gf) lb, args := #[.func (.yield (w.heap.size + 1)) #[] #[]] }, W1, gf,
    #[.func (.yield (w.heap.size + 1)) #[] #[]] ++ lb, W1, ?_, ?_, ?_, ?_, fun _ => h1, ?_⟩
  · rw [← hW1, hrec]; exact run_enterLoop_outer _ _ _ _ _
  · simp only [resolve, hg]
    simp [go_sem]
  · intro f' hf'; simp [Target.leads] at hf'; subst hf'; exact hFg
  · simp [invoke, go_sem, eg]
  · refine (hseq W1 hx1
      (fun k W => I k W ∧ W.heap[w.heap.size + 1]? = some (.loop (rec .ready none)) ∧ W.heap[w.heap.size]? = some (.deferred (some [])))
      (fun k W => ∃ c, Ix c k W ∧ W.heap[w.heap.size + 1]? = some (.loop (rec .done (some c))) ∧ W.heap[w.heap.size]? = some (.deferred (some [])))
      (fun k A B hs x => ⟨hI _ _ _ hs.1 (.ext x), (x.block _ (Array.getElem?_eq_some_iff.1 hs.2.1).1).trans hs.2.1, (x.block _ (Array.getElem?_eq_some_iff.1 hs.2.2).1).trans hs.2.2⟩)
      (fun k W hk hs => hIr k W hk hs.1)
      ?_ ⟨hI1, hL1, hK1⟩).mono ?_
    · rintro k W y hkN ⟨hi, hl, hk⟩ hrd
      have hlt : w.heap.size + 1 < W.heap.size := (Array.getElem?_eq_some_iff.1 hl).1
      have hy := run_yield (P := P) (args := encs k y) hl (by rw [hrec]; exact hps k y)
      rw [hrec] at hy
      refine ⟨fn, _, assign, body, hy, roundIn_of_wpIn hfn (hassign _ k y W _ hkN hi hrd hlt ?_)⟩
      intro a1 V hxV hax
      have hlV := (hxV.block _ (Array.getElem?_eq_some_iff.1 hl).1).trans hl
      have hkV := (hxV.block _ (Array.getElem?_eq_some_iff.1 hk).1).trans hk
      refine ⟨_, run_beginRound hlV (by rw [hrec]), ?_⟩
      have hltV : w.heap.size + 1 < V.heap.size := (Array.getElem?_eq_some_iff.1 hlV).1
      have hl2 : (V.putObj (w.heap.size + 1) (.loop { rec .ready none with state := .busy })).heap[w.heap.size + 1]? = some (.loop { rec .ready none with state := .busy }) := World.putObj_heap_same hltV
      have hk2 : (V.putObj (w.heap.size + 1) (.loop { rec .ready none with state := .busy })).heap[w.heap.size]? = some (.deferred (some [])) := (World.putObj_heap_other (by omega)).trans hkV
      have fin : ∀ (jump : Option Code) (W3 : World), Kd w.heap.size (V.putObj (w.heap.size + 1) (.loop { rec .ready none with state := .busy })) W3 →
          (Instr.endRound (w.heap.size + 1) jump).run P W3 = .ok (.bool jump.isNone) (W3.putObj (w.heap.size + 1) (.loop (rec (if jump.isNone then .ready else .done) jump))) ∧
          (W3.putObj (w.heap.size + 1) (.loop (rec (if jump.isNone then .ready else .done) jump))).heap[w.heap.size + 1]? = some (.loop (rec (if jump.isNone then .ready else .done) jump)) ∧
          (W3.putObj (w.heap.size + 1) (.loop (rec (if jump.isNone then .ready else .done) jump))).heap[w.heap.size]? = some (.deferred (some [])) := fun jump W3 hk3 => by
        have hl3 := hk3.2.2.trans hl2
        have := run_endRound (P := P) jump hl3
        rw [hrec] at this ⊢
        exact ⟨this, World.putObj_heap_same (Array.getElem?_eq_some_iff.1 hl3).1, (World.putObj_heap_other (by omega)).trans (hk3.2.1.trans hk2)⟩
      refine wpIn_mono (hbody _ k y a1 _ hkN (hAx _ _ _ _ _ hax (Kz.put1 V _)) (by simpa using hltV)) ?_
      rintro e a3 W3 hp
      cases e with
      | normal =>
        obtain ⟨hk3, hi3⟩ := hp
        obtain ⟨hr, hl4, hk4⟩ := fin none W3 hk3
        exact ⟨_, _, hr, .inl ⟨rfl, hI _ _ _ hi3 (Kz.put1 W3 _), hl4, hk4⟩⟩
      | ret =>
        obtain ⟨hk3, hi3⟩ := hp
        obtain ⟨hr, hl4, hk4⟩ := fin (some .ret) W3 hk3
        exact ⟨_, _, hr, .inr ⟨rfl, .ret, hIx _ _ _ _ hi3 (Kz.put1 W3 _), hl4, hk4⟩⟩
      | exit id =>
        obtain ⟨hk3, hi3⟩ := hp
        obtain ⟨hr, hl4, hk4⟩ := fin (some (.exit id)) W3 hk3
        exact ⟨_, _, hr, .inr ⟨rfl, .exit id, hIx _ _ _ _ hi3 (Kz.put1 W3 _), hl4, hk4⟩⟩
      | goto t => exact hp.elim
      | panic ch => exact hp.elim
      | outgrown => exact hp.elim
    · rintro e W2 ⟨⟨v, rfl⟩, (⟨hi, hl, hk⟩ | ⟨k, hkN, c, hi, hl, hk⟩)⟩
      · exact ⟨none, _, by have := run_endLoop (P := P) hl (by rw [hrec]; simp); rw [hrec] at this; exact this, hdone _ (hI _ _ _ hi (Kz.put1 W2 _)) ((World.putObj_heap_other (by omega)).trans hk)⟩
      · exact ⟨some c, _, by have := run_endLoop (P := P) hl (by rw [hrec]; simp); rw [hrec] at this; exact this, hstop c k _ hkN (hIx _ _ _ _ hi (Kz.put1 W2 _)) ((World.putObj_heap_other (by omega)).trans hk)⟩

end Go.Proofs.Ytoicjiiifffciaa
