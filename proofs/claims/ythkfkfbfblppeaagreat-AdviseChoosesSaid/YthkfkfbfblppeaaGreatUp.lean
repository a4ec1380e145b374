/- 'for k, v := range seq': a law of this seat for iterators whose values come up as the rounds go; a round may leave early. Conditions: the rounds leave the blocks below B0 alone. -/
import Derived.RangeFuncNested
import Derived.RangeFuncBound
import Derived.RangeFuncCalls
import Derived.RangeFuncLeaves
import Derived.Shelf.Abstract
import Derived.Shelf.RegionOpen
import Derived.WalkKit
import Derived.OwnWalkIn
import Derived.TacticsInMore
import Derived.LoopNIn
import Derived.LoopIn
import Derived.Test.YthkfkfbfblppeaaGreatGB
namespace Go.Proofs.YthkfkfbfblppeaaGreat
set_option linter.unusedSimpArgs false
set_option linter.unusedVariables false
open Go.RowKit

theorem Kz.below {m B0 : Nat} {A B : World} (k : Kz m A B) (h : B0 ≤ m) (hA : B0 ≤ A.heap.size) : Below B0 A B :=
  ⟨k.zero.os, k.zero.tape, k.zero.output, k.zero.size, fun i hi => k.block i (by omega) (.inl (by omega))⟩

/-- How a round may end. -/
def upPost {α : Type} (B0 m : Nat) (I : List α → World → Prop) (Ix : Code → List α → World → Prop) (xs : List α) (W : World) : Exit → Act → World → Prop
  | .normal, _, W' => Kd m W W' ∧ Below B0 W W' ∧ I xs W'
  | .ret, _, W' => Kd m W W' ∧ Below B0 W W' ∧ Ix .ret xs W'
  | .exit id, _, W' => Kd m W W' ∧ Below B0 W W' ∧ Ix (.exit id) xs W'
  | _, _, _ => False

/-- The iterator's contract: Nx says which value comes next, Fin which lists are whole. -/
def UpSeq {α : Type} (F : Fence) (n : Nat) (P : Program) (gf : Nat) (lb : Array Value) (B0 : Nat) (encs : α → Array Value) (Nx : List α → α → World → Prop) (Fin : List α → Prop) (l : Nat) (W1 : World) : Prop :=
  ∀ (J Jx : List α → World → Prop), (∀ pre A B, J pre A → Ext A B → J pre B) →
    (∀ pre x W, J pre W → Nx pre x W → YieldAt F (n - 1) P l (encs x) W fun e W' => Below B0 W W' ∧ ((e = .returned (.bool true) ∧ J (pre ++ [x]) W') ∨ (e = .returned (.bool false) ∧ Jx (pre ++ [x]) W'))) →
    J [] W1 → CallsIn F n P gf (#[.func (.yield l) #[] #[]] ++ lb) W1 fun e W' => (∃ v, e = .returned v) ∧ ((∃ xs, Fin xs ∧ J xs W') ∨ ∃ xs, Jx xs W')

variable {F : Fence} {n : Nat} {P : Program}

theorem wpIn_range_up {α : Type} {g : Operand} {ps : Array Tmp} {assign body : Code} {Q : Exit → Act → World → Prop} {a : Act} {w : World}
    (hro : F.round = none) (h1 : 1 ≤ n) {gf : Nat} {lb : Array Value} (hg : a.eval g = .func (.func gf) #[] lb) (hFg : F.fn gf) (eg : ∀ args w, (callFunc gf args).run P w = .ok (.enter gf args) w)
    (B0 : Nat) (hB0 : B0 ≤ w.heap.size) {encs : α → Array Value} {Nx : List α → α → World → Prop} {Fin : List α → Prop}
    (hseq : ∀ W1, Ext w W1 → UpSeq F (n - 1) P gf lb B0 encs Nx Fin (w.heap.size + 1) W1) (hps : ∀ x, (encs x).size = ps.size)
    (I : List α → World → Prop) (Ix : Code → List α → World → Prop) (hI : ∀ pre A B, I pre A → Kz w.heap.size A B → I pre B) (hIx : ∀ c pre A B, Ix c pre A → Kz w.heap.size A B → Ix c pre B)
    (h0 : I [] w)
    (Ax : List α → α → Act → World → Prop) (hAx : ∀ pre x a1 A B, Ax pre x a1 A → Kz w.heap.size A B → Ax pre x a1 B)
    (hassign : ∀ (l : Nat) (pre : List α) (x : α) (W : World) (K : Act → World → Prop), I pre W → Nx pre x W → w.heap.size + 1 < W.heap.size → (∀ a1 W1, Ext W W1 → Ax pre x a1 W1 → K a1 W1) →
      assign.wpIn (F.inRound l) (n - 1 - 1) P (Exit.then K (fun _ _ _ => False)) { tmps := (ps.zip (encs x)).foldl (fun t (p, v) => t.setIfInBounds p v) a.tmps, defers := [] } W)
    (hbody : ∀ (l : Nat) (pre : List α) (x : α) (a1 : Act) (W : World), Ax pre x a1 W → w.heap.size + 1 < W.heap.size → body.wpIn (F.inRound l) (n - 1 - 1) P (upPost B0 w.heap.size I Ix (pre ++ [x]) W) a1 W)
    (hdone : ∀ (xs : List α) (W : World), Fin xs → I xs W → W.heap[w.heap.size]? = some (.deferred (some [])) → Q .normal { a with defers := { target := .collected w.heap.size, args := #[] } :: a.defers } W)
    (hstop : ∀ (c : Code) (xs : List α) (W : World), Ix c xs W → W.heap[w.heap.size]? = some (.deferred (some [])) → c.wpIn F n P Q { a with defers := { target := .collected w.heap.size, args := #[] } :: a.defers } W) :
    (Code.rangeFunc g ps assign body).wpIn F n P Q a w := by
  refine wpIn_rangeFunc ?_
  intro fn hfn
  rw [hro]
  obtain ⟨rec, hrec⟩ : ∃ rec : LoopState → Option Code → Loop, rec = fun st pe => { state := st, pending := pe, fn, tmps := a.tmps, params := ps, assign, body, defers := w.heap.size } := ⟨_, rfl⟩
  obtain ⟨W1, hW1⟩ : ∃ W1, (w.alloc (.deferred (some []))).alloc (.loop (rec .ready none)) = W1 := ⟨_, rfl⟩
  have hL1 : W1.heap[w.heap.size + 1]? = some (.loop (rec .ready none)) := by
    rw [← hW1]; have := World.alloc_heap_new (w.alloc (.deferred (some []))) (.loop (rec .ready none)); rwa [World.size_alloc] at this
  have hK1 : W1.heap[w.heap.size]? = some (.deferred (some [])) := by
    rw [← hW1]; exact (Below.heap_alloc _ _ _ (by simp)).trans (World.alloc_heap_new w _)
  have hx1 : Ext w W1 := by rw [← hW1]; exact ((Ext.refl w).alloc _).alloc _
  have hI1 : I [] W1 := hI _ _ _ h0 (.ext hx1)
  refine ⟨w.heap.size + 1, [{ target := .collected w.heap.size, args := #[] }], W1, { target := .fn (.func gf) lb, args := #[.func (.yield (w.heap.size + 1)) #[] #[]] }, W1, gf,
    #[.func (.yield (w.heap.size + 1)) #[] #[]] ++ lb, W1, ?_, ?_, ?_, ?_, fun _ => h1, ?_⟩
  · rw [← hW1, hrec]; exact run_enterLoop_outer _ _ _ _ _
  · simp only [resolve, hg]
    simp [go_sem]
  · intro f' hf'; simp [Target.leads] at hf'; subst hf'; exact hFg
  · simp [invoke, go_sem, eg]
  · refine (hseq W1 hx1
      (fun pre W => I pre W ∧ W.heap[w.heap.size + 1]? = some (.loop (rec .ready none)) ∧ W.heap[w.heap.size]? = some (.deferred (some [])))
      (fun pre W => ∃ c, Ix c pre W ∧ W.heap[w.heap.size + 1]? = some (.loop (rec .done (some c))) ∧ W.heap[w.heap.size]? = some (.deferred (some [])))
      (fun pre A B hs x => ⟨hI _ _ _ hs.1 (.ext x), (x.block _ (Array.getElem?_eq_some_iff.1 hs.2.1).1).trans hs.2.1, (x.block _ (Array.getElem?_eq_some_iff.1 hs.2.2).1).trans hs.2.2⟩)
      ?_ ⟨hI1, hL1, hK1⟩).mono ?_
    · rintro pre x W ⟨hi, hl, hk⟩ hnx
      have hlt : w.heap.size + 1 < W.heap.size := (Array.getElem?_eq_some_iff.1 hl).1
      have hy := run_yield (P := P) (args := encs x) hl (by rw [hrec]; exact hps x)
      rw [hrec] at hy
      refine ⟨fn, _, assign, body, hy, roundIn_of_wpIn hfn (hassign _ pre x W _ hi hnx hlt ?_)⟩
      intro a1 V hxV hax
      have hlV := (hxV.block _ (Array.getElem?_eq_some_iff.1 hl).1).trans hl
      have hkV := (hxV.block _ (Array.getElem?_eq_some_iff.1 hk).1).trans hk
      refine ⟨_, run_beginRound hlV (by rw [hrec]), ?_⟩
      have hltV : w.heap.size + 1 < V.heap.size := (Array.getElem?_eq_some_iff.1 hlV).1
      have hl2 : (V.putObj (w.heap.size + 1) (.loop { rec .ready none with state := .busy })).heap[w.heap.size + 1]? = some (.loop { rec .ready none with state := .busy }) := World.putObj_heap_same hltV
      have hk2 : (V.putObj (w.heap.size + 1) (.loop { rec .ready none with state := .busy })).heap[w.heap.size]? = some (.deferred (some [])) := (World.putObj_heap_other (by omega)).trans hkV
      have hV1 : Below B0 W (V.putObj (w.heap.size + 1) (.loop { rec .ready none with state := .busy })) := Below.trans (hxV.mono (by omega)) (Kz.below (Kz.put1 V _) hB0 (by omega))
      have fin : ∀ (jump : Option Code) (W3 : World), Kd w.heap.size (V.putObj (w.heap.size + 1) (.loop { rec .ready none with state := .busy })) W3 → Below B0 (V.putObj (w.heap.size + 1) (.loop { rec .ready none with state := .busy })) W3 →
          (Instr.endRound (w.heap.size + 1) jump).run P W3 = .ok (.bool jump.isNone) (W3.putObj (w.heap.size + 1) (.loop (rec (if jump.isNone then .ready else .done) jump))) ∧
          (W3.putObj (w.heap.size + 1) (.loop (rec (if jump.isNone then .ready else .done) jump))).heap[w.heap.size + 1]? = some (.loop (rec (if jump.isNone then .ready else .done) jump)) ∧
          (W3.putObj (w.heap.size + 1) (.loop (rec (if jump.isNone then .ready else .done) jump))).heap[w.heap.size]? = some (.deferred (some [])) ∧
          Below B0 W (W3.putObj (w.heap.size + 1) (.loop (rec (if jump.isNone then .ready else .done) jump))) := fun jump W3 hk3 hb3 => by
        have hl3 := hk3.2.2.trans hl2
        have hlt3 : w.heap.size + 1 < W3.heap.size := (Array.getElem?_eq_some_iff.1 hl3).1
        have := run_endRound (P := P) jump hl3
        rw [hrec] at this ⊢
        exact ⟨this, World.putObj_heap_same hlt3, (World.putObj_heap_other (by omega)).trans (hk3.2.1.trans hk2), (hV1.trans hb3).trans (Kz.below (Kz.put1 W3 _) hB0 (by omega))⟩
      refine wpIn_mono (hbody _ pre x a1 _ (hAx _ _ _ _ _ hax (Kz.put1 V _)) (by simpa using hltV)) ?_
      rintro e a3 W3 hp
      cases e with
      | normal =>
        obtain ⟨hk3, hb3, hi3⟩ := hp
        obtain ⟨hr, hl4, hk4, hb4⟩ := fin none W3 hk3 hb3
        exact ⟨_, _, hr, hb4, .inl ⟨rfl, hI _ _ _ hi3 (Kz.put1 W3 _), hl4, hk4⟩⟩
      | ret =>
        obtain ⟨hk3, hb3, hi3⟩ := hp
        obtain ⟨hr, hl4, hk4, hb4⟩ := fin (some .ret) W3 hk3 hb3
        exact ⟨_, _, hr, hb4, .inr ⟨rfl, .ret, hIx _ _ _ _ hi3 (Kz.put1 W3 _), hl4, hk4⟩⟩
      | exit id =>
        obtain ⟨hk3, hb3, hi3⟩ := hp
        obtain ⟨hr, hl4, hk4, hb4⟩ := fin (some (.exit id)) W3 hk3 hb3
        exact ⟨_, _, hr, hb4, .inr ⟨rfl, .exit id, hIx _ _ _ _ hi3 (Kz.put1 W3 _), hl4, hk4⟩⟩
      | goto t => exact hp.elim
      | panic ch => exact hp.elim
      | outgrown => exact hp.elim
    · rintro e W2 ⟨⟨v, rfl⟩, (⟨xs, hF, hi, hl, hk⟩ | ⟨xs, c, hi, hl, hk⟩)⟩
      · exact ⟨none, _, by have := run_endLoop (P := P) hl (by rw [hrec]; simp); rw [hrec] at this; exact this, hdone xs _ hF (hI _ _ _ hi (Kz.put1 W2 _)) ((World.putObj_heap_other (by omega)).trans hk)⟩
      · exact ⟨some c, _, by have := run_endLoop (P := P) hl (by rw [hrec]; simp); rw [hrec] at this; exact this, hstop c xs _ (hIx _ _ _ _ hi (Kz.put1 W2 _)) ((World.putObj_heap_other (by omega)).trans hk)⟩

end Go.Proofs.YthkfkfbfblppeaaGreat
