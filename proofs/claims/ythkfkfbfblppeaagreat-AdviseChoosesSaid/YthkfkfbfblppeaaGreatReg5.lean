/- Regions that draw their order: a quiet head, one operation of any kind that all else waits for, then operations that touch no memory, then a tail. Conditions: none. -/
import Derived.Test.YthkfkfbfblppeaaGreatReg4
namespace Go.Proofs.YthkfkfbfblppeaaGreat
set_option linter.unusedSimpArgs false
set_option linter.unusedVariables false
open Go.RowKit

section
variable {P : Program} {ops : Array Oper} {md : Region.Mode} {C : World → Prop}

theorem anyHead_lexX {n : Nat} {X : Array Bool → Bool} {Lq : Act → Prop} (hsel : Region.noSelect ops = true) (hh : headB3 md ops 0 n = true) :
    ∀ (l : List Oper) (k : Nat) (listed : Array Bool) (a : Act), (∀ j, j < l.length → l[j]? = ops[k + j]?) → k + l.length = n → upto listed k → HeadInv md ops n listed →
    lexH md ops X l.length k listed = true → wpQuiet P ops C Lq l a →
    anyHead P md ops C n (fun listed' a' => (upto listed' n ∧ X listed' = true) ∧ Lq a') l.length listed a := by
  intro l
  induction l with
  | nil =>
    intro k listed a _ hk hu _ hB h
    obtain rfl : k = n := by simpa using hk
    exact ⟨⟨hu, hB⟩, h⟩
  | cons o l ih =>
    intro k listed a hl hk hu inv hB h
    have h0 : ops[k]? = some o := by simpa using (hl 0 (by simp)).symm
    rw [List.length_cons] at hB
    simp only [lexH, Bool.and_eq_true] at hB
    simp only [List.length_cons] at hk
    obtain ⟨hr, hf, hB'⟩ := hB
    have hr' : k ∈ Region.ready md ops listed := by simpa using hr
    have hkn : k < n := by omega
    obtain ⟨v, hy, hK⟩ := yieldsIn_of_qOp (C := C) (P := P) (K := wpQuiet P ops C Lq l) (a := a) h0 (by unfold qOp; simp only [h0]; exact h)
    exact anyHead_first3 h0 (Region.noSelect_spec hsel) hh hkn (fun _ _ hL => hL.1.1) l.length listed a inv (fun j hj => by omega) (Region.free_spec h0 hf) hr' hy
      (ih (k + 1) _ _ (fun j hj => by have := hl (j + 1) (by simp; omega); simpa [Nat.add_assoc, Nat.add_comm 1 j] using this) (by omega) (upto_set hu) (inv.set hr' hkn) hB' hK)

theorem upon_other {o : Oper} {a : Act} {K : Act → World → Prop} {Q Q' : Exit → Act → World → Prop} (hp : ∀ c, Q' (.panic c) = Q (.panic c)) (ho : Q' .outgrown = Q .outgrown) {r : Result Next} (h : o.upon P a K Q' r) : o.upon P a K Q r := by
  have hl : LetsOut Q' = LetsOut Q := by unfold LetsOut; rw [ho]
  cases r with
  | ok n w' =>
    cases n <;> simp only [Oper.upon] at h ⊢ <;> try exact h
    refine h.mono ?_
    intro e w2 h2
    cases e <;> simp only at h2 ⊢
    · exact h2
    · rw [← hp]; exact h2
    · rw [← hl]; exact h2
  | halt x w' =>
    cases x <;> simp only [Oper.upon] at h ⊢ <;> try exact h
    rw [← hp]; exact h

/-- What is asked behind: what comes for a normal end, Q for all other ends. -/
def Ends (Q : Exit → Act → World → Prop) (K : Act → World → Prop) : Exit → Act → World → Prop
  | .normal, a, w => K a w
  | e, a, w => Q e a w

/-- **The law.** -/
theorem wp_region_qfp {id : Nat} {Q : Exit → Act → World → Prop} {a : Act} {w : World} {l : List Oper} (n m : Nat) (hm : P.follows .mixedOrders = true)
    (hB : (Region.noSelect l.toArray && (headB3 .any l.toArray 0 n && (decide (n < l.length ∧ n + 1 + m ≤ l.length) && (lexH .any l.toArray (fun ls => decide (Region.ready .any l.toArray ls = [n]) && lexP .any l.toArray (l.length - (n + 1 + m)) (n + 1 + m) m (n + 1) (ls.setIfInBounds n true)) n 0 (Array.replicate l.length false) &&
      (((l.drop (n + 1)).take m).all fun o => pureOp o.op))))) = true)
    (hQ : ∀ c (a : Act) d v w, Q (.panic c) (a.put d v) w → Q (.panic c) a w)
    (h : ∀ Q', (∀ a1 w1, wpQuiet P l.toArray (fun _ => True) (fun a'' => wpList P l.toArray Q (l.drop (n + 1 + m)) a'' w1) ((l.drop (n + 1)).take m) a1 → Q' Exit.normal a1 w1) →
      wpQuiet P l.toArray (fun w' => ∃ y : Later w, w' = y.at') (fun a' => ∀ w', (∃ y : Later w, w' = y.at') → wpList P l.toArray Q' ((l.drop n).take 1) a' w') (l.take n) a) :
    (Code.region id l.toArray true).wp P Q a w := by
  simp only [Bool.and_eq_true, decide_eq_true_eq] at hB
  obtain ⟨hsel, hh, ⟨hnl, hnm⟩, hlex, hpure⟩ := hB
  have htl : (l.take n).length = n := by simp; omega
  have hml : ((l.drop (n + 1)).take m).length = m := by simp; omega
  have inv0 : HeadInv .any l.toArray n (Array.replicate l.length false) :=
    ⟨by simp, fun j oj _ hl => absurd hl (by rw [getD_replicate_false]; simp), fun t _ ht => getD_in (by simpa using ht) (getD_replicate_false _ _)⟩
  have h0 := h (Ends Q fun a1 w1 => wpQuiet P l.toArray (fun _ => True) (fun a'' => wpList P l.toArray Q (l.drop (n + 1 + m)) a'' w1) ((l.drop (n + 1)).take m) a1) (fun a1 w1 h => h)
  have H := anyHead_lexX (C := fun w' => ∃ y : Later w, w' = y.at') (P := P) (md := .any) (n := n) hsel hh (l.take n) 0 _ a
    (fun j hj => by rw [htl] at hj; simp [List.getElem?_take_of_lt hj]) (by simpa using htl) (fun j hj => by omega) inv0 (by rw [htl]; exact hlex) h0
  have R := anyHead_sound (Q := Q) (g := m + (l.length - (n + 1 + m)) + 1) (fun listed a' w' hw' hL => by
    obtain ⟨⟨_, hX⟩, hq⟩ := hL
    simp only [Bool.and_eq_true, decide_eq_true_eq] at hX
    have h1 := hq w' hw'
    have hln : (l.drop n).take 1 = [l[n]] := by rw [List.drop_eq_getElem_cons hnl]; rfl
    rw [hln] at h1
    refine ⟨fun h2 => (by rw [hX.1] at h2; cases h2), fun i hi => ?_⟩
    rw [hX.1] at hi
    obtain rfl : i = n := by simpa using hi
    have hK : ∀ a1 w1, wpQuiet P l.toArray (fun _ => True) (fun a'' => wpList P l.toArray Q (l.drop (i + 1 + m)) a'' w1) ((l.drop (i + 1)).take m) a1 → wpAny P .any l.toArray Q (m + (l.length - (i + 1 + m))) (listed.setIfInBounds i true) a1 w1 := fun a1 w1 h3 => by
      have := wpAny_pure2 (P := P) (md := .any) (Q := Q) (g := l.length - (i + 1 + m)) (kt := i + 1 + m) (lt := l.drop (i + 1 + m)) hsel hQ w1 (fun j => by simp [List.getElem?_drop]) (by simp) ((l.drop (i + 1)).take m) (i + 1) (listed.setIfInBounds i true) a1
        (fun j hj => by rw [hml] at hj; simp [List.getElem?_take_of_lt hj, List.getElem?_drop]) hpure (by rw [hml]; exact hX.2) h3
      rwa [hml] at this
    unfold wpOp
    have hi' : l.toArray[i]? = some l[i] := by simp [hnl]
    simp only [hi']
    unfold wpList at h1
    split
    · rename_i hw1
      simp only [hw1, if_true] at h1
      rcases h1 with h1 | h1
      · refine .inl (Oper.wp_mono (fun a1 w1 h3 => hK a1 w1 h3) ?_)
        unfold Oper.wp at h1 ⊢
        exact upon_other (fun _ => rfl) rfl h1
      · refine .inr ⟨h1.1, ?_⟩
        have := h1.2
        unfold LetsOut at this ⊢
        exact this
    · rename_i hw1
      simp only [hw1, Bool.false_eq_true, if_false] at h1
      exact hK _ _ h1) _ _ _ _ ⟨⟨w.drew, (Ext.refl w).drew⟩, rfl⟩ H
  rw [htl, show n + (m + (l.length - (n + 1 + m)) + 1) = l.toArray.size by simp; omega] at R
  exact wp_region_any hm (by simpa using R)

end

end Go.Proofs.YthkfkfbfblppeaaGreat
