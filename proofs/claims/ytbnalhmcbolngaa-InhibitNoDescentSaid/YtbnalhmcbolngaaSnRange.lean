/- Part of the proof of nodL_holds: what the row needs of Range. Conditions: as each theorem states. -/
import Derived.RangeFuncNested
import Derived.RangeFuncBound
import Derived.RangeFuncCalls
import Derived.RangeFuncLeaves
import Derived.Shelf.Abstract
import Derived.Shelf.RegionOpen
import Derived.WalkKit
import Derived.OwnWalkIn
import Derived.TacticsInMore
import Derived.LoopNIn
import Derived.LoopIn
import Derived.Test.YtbnalhmcbolngaaSnGA
namespace Go.Proofs.Ytbnalhmcbolngaa
set_option linter.unusedSimpArgs false
set_option linter.unusedVariables false
open Go.RowKit
structure Kx (m : Nat) (A B : World) : Prop where
  zero : Below 0 A B
  block : ∀ i, i < A.heap.size → (i < m ∨ m + 2 < i) → B.heap[i]? = A.heap[i]?
structure Kj (m : Nat) (A B : World) : Prop where
  zero : Below 0 A B
  block : ∀ i, i < A.heap.size → i ≠ m + 2 → B.heap[i]? = A.heap[i]?
structure Kb (O m : Nat) (A B : World) : Prop where
  size : A.heap.size ≤ B.heap.size
  block : ∀ i, i ≤ m + 2 → i ≠ O → B.heap[i]? = A.heap[i]?
def Kr (O m : Nat) (A B : World) : Prop := A.heap.size ≤ B.heap.size ∧ ∀ i, (i < m ∨ i = m + 2) → i ≠ O → B.heap[i]? = A.heap[i]?
theorem Kx.size {m : Nat} {A B : World} (h : Kx m A B) : A.heap.size ≤ B.heap.size := h.zero.size
theorem Kj.size {m : Nat} {A B : World} (h : Kj m A B) : A.heap.size ≤ B.heap.size := h.zero.size
theorem Kj.kx {m : Nat} {A B : World} (h : Kj m A B) : Kx m A B := ⟨h.zero, fun i hi ho => h.block i hi (by omega)⟩
theorem Kx.ext {m : Nat} {A B : World} (h : Ext A B) : Kx m A B := ⟨h.mono (Nat.zero_le _), fun i hi _ => h.block i hi⟩
theorem Kj.ext {m : Nat} {A B : World} (h : Ext A B) : Kj m A B := ⟨h.mono (Nat.zero_le _), fun i hi _ => h.block i hi⟩
theorem Kj.set {m : Nat} {A B : World} (h : Kj m A B) (o : Nat) (v : Value) : Kj m A (B.setCell ⟨m + 2, o, none⟩ v) :=
  ⟨h.zero.setCell (Nat.zero_le _) v, fun i hi hn => (Below.heap_setCell B ⟨m + 2, o, none⟩ v i hn).trans (h.block i hi hn)⟩
theorem Kj.trans {m : Nat} {A B C : World} (h : Kj m A B) (k : Kj m B C) : Kj m A C := ⟨h.zero.trans k.zero, fun i hi hn => (k.block i (Nat.lt_of_lt_of_le hi h.size) hn).trans (h.block i hi hn)⟩
theorem Kx.putObj {m : Nat} (A : World) (o : Obj) : Kx m A (A.putObj (m + 1) o) :=
  ⟨⟨rfl, rfl, rfl, by simp, fun i hi => by omega⟩, fun i _ ho => World.putObj_heap_other (by omega)⟩
def StSeq {α : Type} (F : Fence) (n : Nat) (P : Program) (gf : Nat) (lb : Array Value) (encs : α → Array Value) (O m N : Nat) (S : List α → Prop) (W1 : World) : Prop :=
  ∀ (J : List α → World → Prop), (∀ pre A B, J pre A → Kj m A B → J pre B) →
    (∀ pre x A, J pre A → m + 2 < A.heap.size → pre.length < N → YieldAt F (n - 1) P (m + 1) (encs x) A fun e A' => e = .returned (.bool true) ∧ J (pre ++ [x]) A' ∧ Kr O m A A') →
    J [] W1 → CallsIn F n P gf (#[.func (.yield (m + 1)) #[] #[]] ++ lb) W1 fun e W' => (∃ v, e = .returned v) ∧ ∃ xs, S xs ∧ J xs W'
variable {F : Fence} {n : Nat} {P : Program}
theorem wpIn_range_st {α : Type} {g : Operand} {ps : Array Tmp} {assign body : Code} {Q : Exit → Act → World → Prop} {a : Act} {w : World}
    (hro : F.round = none) (h1 : 1 ≤ n) {gf : Nat} {lb : Array Value} (hg : a.eval g = .func (.func gf) #[] lb) (hFg : F.fn gf) (eg : ∀ args w, (callFunc gf args).run P w = .ok (.enter gf args) w)
    {encs : α → Array Value} (O N : Nat) {S : List α → Prop} (hO : O < w.heap.size)
    (hseq : ∀ W1, Ext w W1 → W1.heap.size = w.heap.size + 2 → StSeq F (n - 1) P gf lb encs O w.heap.size N S W1) (hps : ∀ x, (encs x).size = ps.size)
    (I : List α → World → Prop) (hI : ∀ pre A B, I pre A → Kx w.heap.size A B → I pre B) (h0 : I [] w)
    (Ax : List α → α → Act → World → Prop) (hAx : ∀ pre x a1 A B, Ax pre x a1 A → Kx w.heap.size A B → Ax pre x a1 B)
    (hassign : ∀ (l : Nat) (pre : List α) (x : α) (W : World) (K : Act → World → Prop), I pre W → w.heap.size + 2 < W.heap.size → pre.length < N → (∀ a1 W1, Ext W W1 → Ax pre x a1 W1 → K a1 W1) →
      assign.wpIn (F.inRound l) (n - 1 - 1) P (Exit.then K (fun _ _ _ => False)) { tmps := (ps.zip (encs x)).foldl (fun t (p, v) => t.setIfInBounds p v) a.tmps, defers := [] } W)
    (hbody : ∀ (l : Nat) (pre : List α) (x : α) (a1 : Act) (W : World), Ax pre x a1 W → w.heap.size + 2 < W.heap.size →
      body.wpIn (F.inRound l) (n - 1 - 1) P (fun e _ W' => e = .normal ∧ Kb O w.heap.size W W' ∧ I (pre ++ [x]) W') a1 W)
    (hdone : ∀ (xs : List α) (W : World), S xs → I xs W → W.heap[w.heap.size]? = some (.deferred (some [])) → Q .normal { a with defers := { target := .collected w.heap.size, args := #[] } :: a.defers } W) :
    (Code.rangeFunc g ps assign body).wpIn F n P Q a w := by
  refine wpIn_rangeFunc ?_
  intro fn hfn
  rw [hro]
  obtain ⟨rec, hrec⟩ : ∃ rec : LoopState → Option Code → Loop, rec = fun st pe => { state := st, pending := pe, fn, tmps := a.tmps, params := ps, assign, body, defers := w.heap.size } := ⟨_, rfl⟩
  obtain ⟨W1, hW1⟩ : ∃ W1, (w.alloc (.deferred (some []))).alloc (.loop (rec .ready none)) = W1 := ⟨_, rfl⟩
  have hL1 : W1.heap[w.heap.size + 1]? = some (.loop (rec .ready none)) := by
    rw [← hW1]; have := World.alloc_heap_new (w.alloc (.deferred (some []))) (.loop (rec .ready none)); rwa [World.size_alloc] at this
  have hK1 : W1.heap[w.heap.size]? = some (.deferred (some [])) := by
    rw [← hW1]; exact (Below.heap_alloc _ _ _ (by simp)).trans (World.alloc_heap_new w _)
  have hx1 : Ext w W1 := by rw [← hW1]; exact ((Ext.refl w).alloc _).alloc _
  have hs1 : W1.heap.size = w.heap.size + 2 := by rw [← hW1]; simp
  have hI1 : I [] W1 := hI _ _ _ h0 (.ext hx1)
  refine ⟨w.heap.size + 1, [{ target := .collected w.heap.size, args := #[] }], W1, { target := .fn (.func gf) lb, args := #[.func (.yield (w.heap.size + 1)) #[] #[]] }, W1, gf,
    #[.func (.yield (w.heap.size + 1)) #[] #[]] ++ lb, W1, ?_, ?_, ?_, ?_, fun _ => h1, ?_⟩
  · rw [← hW1, hrec]; exact run_enterLoop_outer _ _ _ _ _
  · simp only [resolve, hg]
    simp [go_sem]
  · intro f' hf'; simp [Target.leads] at hf'; subst hf'; exact hFg
  · simp [invoke, go_sem, eg]
  · refine (hseq W1 hx1 hs1
      (fun pre W => I pre W ∧ W.heap[w.heap.size + 1]? = some (.loop (rec .ready none)) ∧ W.heap[w.heap.size]? = some (.deferred (some [])))
      (fun pre A B hs k => ⟨hI _ _ _ hs.1 k.kx, (k.block _ (Array.getElem?_eq_some_iff.1 hs.2.1).1 (by omega)).trans hs.2.1, (k.block _ (Array.getElem?_eq_some_iff.1 hs.2.2).1 (by omega)).trans hs.2.2⟩)
      ?_ ⟨hI1, hL1, hK1⟩).mono ?_
    · rintro pre x W ⟨hi, hl, hk⟩ hlen hN
      have hlt : w.heap.size + 1 < W.heap.size := (Array.getElem?_eq_some_iff.1 hl).1
      have hy := run_yield (P := P) (args := encs x) hl (by rw [hrec]; exact hps x)
      rw [hrec] at hy
      refine ⟨fn, _, assign, body, hy, roundIn_of_wpIn hfn (hassign _ pre x W _ hi hlen hN ?_)⟩
      intro a1 V hxV hax
      have hlV := (hxV.block _ (Array.getElem?_eq_some_iff.1 hl).1).trans hl
      have hkV := (hxV.block _ (Array.getElem?_eq_some_iff.1 hk).1).trans hk
      refine ⟨_, run_beginRound hlV (by rw [hrec]), ?_⟩
      have hltV : w.heap.size + 1 < V.heap.size := (Array.getElem?_eq_some_iff.1 hlV).1
      have hl2 : (V.putObj (w.heap.size + 1) (.loop { rec .ready none with state := .busy })).heap[w.heap.size + 1]? = some (.loop { rec .ready none with state := .busy }) := World.putObj_heap_same hltV
      have hk2 : (V.putObj (w.heap.size + 1) (.loop { rec .ready none with state := .busy })).heap[w.heap.size]? = some (.deferred (some [])) := (World.putObj_heap_other (by omega)).trans hkV
      refine wpIn_mono (hbody _ pre x a1 _ (hAx _ _ _ _ _ hax (Kx.putObj V _)) (by have := hxV.size; simp; omega)) ?_
      rintro e a3 W3 ⟨rfl, hb3, hi3⟩
      have hl3 := (hb3.block _ (show w.heap.size + 1 ≤ w.heap.size + 2 by omega) (by omega)).trans hl2
      have hk3 := (hb3.block _ (show w.heap.size ≤ w.heap.size + 2 by omega) (by omega)).trans hk2
      have hr := run_endRound (P := P) none hl3
      rw [hrec] at hr
      have hfin : (W3.putObj (w.heap.size + 1) (.loop (rec .ready none))).heap[w.heap.size + 1]? = some (.loop (rec .ready none)) := World.putObj_heap_same (Array.getElem?_eq_some_iff.1 hl3).1
      rw [hrec] at hfin
      refine ⟨_, _, hr, rfl, ⟨hI _ _ _ hi3 (Kx.putObj W3 _), ?_, (World.putObj_heap_other (by omega)).trans hk3⟩, ?_, ?_⟩
      · rw [hrec]; exact hfin
      · have := hb3.size; have := hxV.size; simp at this ⊢; simp at *; omega
      · intro i hi ho
        refine (World.putObj_heap_other (by omega)).trans ((hb3.block i (by omega) ho).trans ((World.putObj_heap_other (by omega)).trans (hxV.block i (by omega))))
    · rintro e W2 ⟨⟨v, rfl⟩, xs, hS, hi, hl, hk⟩
      exact ⟨none, _, by have := run_endLoop (P := P) hl (by rw [hrec]; simp); rw [hrec] at this; exact this, hdone xs _ hS (hI _ _ _ hi (Kx.putObj W2 _)) ((World.putObj_heap_other (by omega)).trans hk)⟩
end Go.Proofs.Ytbnalhmcbolngaa
