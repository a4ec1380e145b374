/- Regions that draw their order, the general law: a head that is quiet at a class of worlds, then operations that touch no memory, then a tail in forced order. Conditions: none. -/
import Derived.Test.YtoicjiiifffciaaReg
namespace Go.Proofs.Ytoicjiiifffciaa
set_option linter.unusedSimpArgs false
set_option linter.unusedVariables false
open Go.RowKit

section
variable {P : Program} {ops : Array Oper} {md : Region.Mode} {C : World → Prop}

/-- Operation t waits, by a way of at most f edges, for operation i. -/
def needs (md : Region.Mode) (ops : Array Oper) : Nat → Nat → Nat → Bool
  | 0, _, _ => false
  | f + 1, t, i => match ops[t]? with
    | some o => o.after.any fun e => Region.binds md e && (e.on == i || needs md ops f e.on i)
    | none => false

/-- Whatever comes at n or later waits for all that comes before n. -/
def headB (md : Region.Mode) (ops : Array Oper) (n : Nat) : Bool :=
  (List.range ops.size).all fun t => decide (t < n) || (List.range n).all fun i => needs md ops ops.size t i

theorem needs_listed {n : Nat} {listed : Array Bool} (inv : HeadInv md ops n listed) : ∀ (f t i : Nat), listed.getD t false = true → needs md ops f t i = true → listed.getD i false = true := by
  intro f
  induction f with
  | zero => intro t i _ h; cases h
  | succ f ih =>
    intro t i ht h
    unfold needs at h
    cases ho : ops[t]? with
    | none => simp [ho] at h
    | some o =>
      simp only [ho] at h
      obtain ⟨e, he, h2⟩ := Array.any_eq_true'.1 h
      simp only [Bool.and_eq_true, Bool.or_eq_true, beq_iff_eq] at h2
      have hl := inv.closed t o ho ht e he h2.1
      rcases h2.2 with h3 | h3
      · exact h3 ▸ hl
      · exact ih e.on i hl h3

theorem head_waits {n : Nat} {listed : Array Bool} (hh : headB md ops n = true) (inv : HeadInv md ops n listed) {i : Nat} (hi : i < n) (hun : listed.getD i true = false) : ∀ t, n ≤ t → t ∉ Region.ready md ops listed := by
  intro t ht hr
  obtain ⟨_, ot, hot, hall⟩ := mem_ready.1 hr
  have htlt : t < ops.size := (Array.getElem?_eq_some_iff.1 hot).1
  have h1 := List.all_eq_true.1 hh t (List.mem_range.2 htlt)
  simp only [Bool.or_eq_true, decide_eq_true_eq] at h1
  rcases h1 with h1 | h1
  · omega
  have h2 := List.all_eq_true.1 h1 i (List.mem_range.2 hi)
  have hpos : ops.size = (ops.size - 1) + 1 := by omega
  rw [hpos] at h2
  unfold needs at h2
  simp only [hot] at h2
  obtain ⟨e, he, h3⟩ := Array.any_eq_true'.1 h2
  simp only [Bool.and_eq_true, Bool.or_eq_true, beq_iff_eq] at h3
  have hl := hall e he h3.1
  have : listed.getD i false = true := by
    rcases h3.2 with h4 | h4
    · exact h4 ▸ hl
    · exact needs_listed inv _ _ _ hl h4
  rw [getD_both hun] at this
  cases this

theorem anyHead_first2 {n i : Nat} {oi : Oper} {v : Value} {L : Array Bool → Act → Prop} (hi : ops[i]? = some oi) (hsel : ∀ (j : Nat) (o : Oper) cs b, ops[j]? = some o → o.op ≠ .select cs b)
    (hh : headB md ops n = true) (hin : i < n)
    (hdone : ∀ listed a, L listed a → ∀ j, j < n → listed.getD j true = true) :
    ∀ (f : Nat) (listed : Array Bool) (a : Act), HeadInv md ops n listed →
      (∀ j oj, ops[j]? = some oj → j ≠ i → listed.getD j true = false → (∀ e ∈ oj.after, Region.binds md e = true → e.on ≠ i) → oi.apart ops oj = true) →
      i ∈ Region.ready md ops listed → YieldsIn P ops C oi v a →
      anyHead P md ops C n L f (listed.setIfInBounds i true) (a.put oi.dst v) → anyHead P md ops C n L (f + 1) listed a := by
  intro f
  induction f with
  | zero =>
    intro listed a inv _ hr hy H
    refine ⟨List.ne_nil_of_mem hr, fun j hj => ?_⟩
    have hjn : j < n := Nat.lt_of_not_le fun hge => head_waits hh inv hin (mem_ready.1 hr).1 j hge hj
    by_cases hji : j = i
    · subst hji; exact ⟨hjn, hy.qOp hi H⟩
    · have h1 := hdone _ _ H j hjn
      rw [getD_set_ne true (Ne.symm hji), (mem_ready.1 hj).1] at h1
      cases h1
  | succ f ih =>
    intro listed a inv hfree hr hy H
    refine ⟨List.ne_nil_of_mem hr, fun j hj => ?_⟩
    have hjn : j < n := Nat.lt_of_not_le fun hge => head_waits hh inv hin (mem_ready.1 hr).1 j hge hj
    by_cases hji : j = i
    · subst hji; exact ⟨hjn, hy.qOp hi H⟩
    refine ⟨hjn, ?_⟩
    obtain ⟨hjun, oj, hoj, hall⟩ := mem_ready.1 hj
    have hnot : ∀ e ∈ oj.after, Region.binds md e = true → e.on ≠ i := fun e he hb heq => by
      have h1 := hall e he hb
      rw [heq, getD_both (mem_ready.1 hr).1] at h1
      exact Bool.false_ne_true h1
    have h2 := qOp_put hoj (hfree j oj hoj hji hjun hnot) (fun cs b => hsel i oi cs b hi) (fun cs b => hsel j oj cs b hoj) hy (H.2 j (ready_mono hj hji)).2
    refine qOp_mono (fun a' h3 => ih _ a' (inv.set hj hjn) (fun k ok hk hki hun hno => ?_) (ready_mono hr (Ne.symm hji)) h3.1 (by rw [Array.setIfInBounds_comm _ _ hji]; exact h3.2)) h2
    refine hfree k ok hk hki ?_ hno
    by_cases hjk : j = k
    · exact hjk ▸ hjun
    · rwa [getD_set_ne true hjk] at hun

/-- All before k are listed. -/
def upto (listed : Array Bool) (k : Nat) : Prop := ∀ j, j < k → listed.getD j true = true
theorem upto_set {listed : Array Bool} {k : Nat} (h : upto listed k) : upto (listed.setIfInBounds k true) (k + 1) := by
  intro j hj
  by_cases hjk : k = j
  · subst hjk
    rcases Nat.lt_or_ge k listed.size with h' | h'
    · simp [h']
    · simp [Array.getElem?_eq_none h']
  · rw [getD_set_ne true hjk]; exact h j (by omega)

theorem anyHead_lex2 {n g m : Nat} {Lq : Act → Prop} (hsel : Region.noSelect ops = true) (hh : headB md ops n = true) :
    ∀ (l : List Oper) (k : Nat) (listed : Array Bool) (a : Act), (∀ j, j < l.length → l[j]? = ops[k + j]?) → k + l.length = n → upto listed k → HeadInv md ops n listed →
    Region.lexHead md ops g (l.length + m) k listed = true → wpQuiet P ops C Lq l a →
    anyHead P md ops C n (fun listed' a' => (upto listed' n ∧ Region.lexHead md ops g m n listed' = true) ∧ Lq a') l.length listed a := by
  intro l
  induction l with
  | nil =>
    intro k listed a _ hk hu _ hB h
    obtain rfl : k = n := by simpa using hk
    exact ⟨⟨hu, by simpa using hB⟩, h⟩
  | cons o l ih =>
    intro k listed a hl hk hu inv hB h
    have h0 : ops[k]? = some o := by simpa using (hl 0 (by simp)).symm
    rw [List.length_cons, Nat.add_right_comm] at hB
    simp only [Region.lexHead, Bool.and_eq_true] at hB
    simp only [List.length_cons] at hk
    obtain ⟨⟨hr, hf⟩, hB'⟩ := hB
    have hr' : k ∈ Region.ready md ops listed := by simpa using hr
    have hkn : k < n := by omega
    obtain ⟨v, hy, hK⟩ := yieldsIn_of_qOp (C := C) (P := P) (K := wpQuiet P ops C Lq l) (a := a) h0 (by unfold qOp; simp only [h0]; exact h)
    exact anyHead_first2 h0 (Region.noSelect_spec hsel) hh hkn (fun _ _ hL => hL.1.1) l.length listed a inv (Region.free_spec h0 hf) hr' hy
      (ih (k + 1) _ _ (fun j hj => by have := hl (j + 1) (by simp; omega); simpa [Nat.add_assoc, Nat.add_comm 1 j] using this) (by omega) (upto_set hu) (inv.set hr' hkn) hB' hK)

/-- Operations that touch no memory and hand back one value. -/
def pureOp : Op → Bool
  | .move _ | .assign _ | .extract .. | .field .. | .build .. | .binOp .. | .unOp .. | .pick .. | .convert .. => true
  | _ => false

theorem run_value {s : Sem Value} {w w' : World} {n : Next} (h : (do pure (Next.value (← s)) : Sem Next).run P w = .ok n w') : ∃ v, n = .value v := by
  rw [Sem.run_bind] at h
  cases hs : s.run P w with
  | ok a w1 => rw [hs] at h; simp [Result.andThen, pure, Sem.run] at h; exact ⟨_, h.1.symm⟩
  | halt x w1 => rw [hs] at h; simp [Result.andThen] at h

theorem pure_value {o : Oper} {ρ : Operand → Value} {w w' : World} {n : Next} (hp : pureOp o.op = true) (h : (execOp ρ o).run P w = .ok n w') : ∃ v, n = .value v := by
  obtain ⟨dst, op, type, pos, after, guard⟩ := o
  cases op <;> simp only [pureOp, Bool.false_eq_true] at hp <;> simp only [execOp] at h
  case move x => simp [pure, Sem.run] at h; exact ⟨_, h.1.symm⟩
  case assign x => simp [pure, Sem.run] at h; exact ⟨_, h.1.symm⟩
  case pick c a b =>
    rw [Sem.run_bind] at h
    cases hs : (asBool (ρ c)).run P w with
    | ok x w1 => rw [hs] at h; simp [Result.andThen, pure, Sem.run] at h; exact ⟨_, h.1.symm⟩
    | halt x w1 => rw [hs] at h; simp [Result.andThen] at h
  all_goals exact run_value h

theorem yields_of_pure {o : Oper} {v : Value} {a : Act} (hp : pureOp o.op = true) (h : YieldsIn P ops (fun _ => True) o v a) : Yields P ops o v a := by
  rcases h with ⟨hw, h⟩ | h
  · refine .inl ⟨hw, fun w => ?_⟩
    have h1 := h w trivial
    unfold Oper.quietAt at h1
    cases hr : (execOp a.eval o).run P w with
    | ok n w' =>
      obtain ⟨u, rfl⟩ := pure_value hp hr
      rw [hr] at h1
      obtain ⟨rfl, rfl⟩ := h1
      rfl
    | halt x w' => rw [hr] at h1; exact h1.elim
  · exact .inr h

theorem wpAny_pure {Q : Exit → Act → World → Prop} {g : Nat} {lt : List Oper} (hsel : Region.noSelect ops = true) (hQ : ∀ c (a : Act) d v w, Q (.panic c) (a.put d v) w → Q (.panic c) a w) (w : World) :
    ∀ (l : List Oper) (k : Nat) (listed : Array Bool) (a : Act), (∀ j, j < l.length → l[j]? = ops[k + j]?) → (∀ j, lt[j]? = ops[k + l.length + j]?) → lt.length = g → (l.all fun o => pureOp o.op) = true →
    Region.lexHead md ops g l.length k listed = true → wpQuiet P ops (fun _ => True) (fun a' => wpList P ops Q lt a' w) l a → wpAny P md ops Q (l.length + g) listed a w := by
  intro l
  induction l with
  | nil =>
    intro k listed a _ hl2 hg _ hB h
    subst hg
    simp only [List.length_nil, Nat.zero_add]
    exact wpAny_of_seq lt k listed a w (fun j => by have := hl2 j; simpa using this) (by simpa [Region.lexHead] using hB) h
  | cons o l ih =>
    intro k listed a hl hl2 hg hp hB h
    have h0 : ops[k]? = some o := by simpa using (hl 0 (by simp)).symm
    simp only [List.length_cons, Region.lexHead, Bool.and_eq_true] at hB
    simp only [List.all_cons, Bool.and_eq_true] at hp
    obtain ⟨⟨hr, hf⟩, hB'⟩ := hB
    obtain ⟨v, hy, hK⟩ := yieldsIn_of_qOp (C := fun _ => True) (P := P) (K := wpQuiet P ops (fun _ => True) (fun a' => wpList P ops Q lt a' w) l) (a := a) h0 (by unfold qOp; simp only [h0]; exact h)
    rw [List.length_cons, Nat.add_right_comm]
    refine wpAny_take h0 hsel hf hr (fun c a w' => hQ c a _ _ w') (yields_of_pure hp.1 hy) ?_
    exact ih (k + 1) _ _ (fun j hj => by have := hl (j + 1) (by simp; omega); simpa [Nat.add_assoc, Nat.add_comm 1 j] using this)
      (fun j => by have := hl2 j; rw [List.length_cons] at this; rw [this]; congr 1; omega) hg hp.2 hB' hK

/-- **The general law.** -/
theorem wp_region_qpt {id : Nat} {Q : Exit → Act → World → Prop} {a : Act} {w : World} {l : List Oper} (n m : Nat) (hm : P.follows .mixedOrders = true)
    (hB : (Region.noSelect l.toArray && (headB .any l.toArray n && (decide (n + m ≤ l.length) && (Region.lexHead .any l.toArray (l.length - (n + m)) (n + m) 0 (Array.replicate l.length false) && ((l.drop n).take m).all fun o => pureOp o.op)))) = true)
    (hC : C w.drew) (hQ : ∀ c (a : Act) d v w, Q (.panic c) (a.put d v) w → Q (.panic c) a w)
    (h : wpQuiet P l.toArray C (fun a' => ∀ w', C w' → wpQuiet P l.toArray (fun _ => True) (fun a'' => wpList P l.toArray Q (l.drop (n + m)) a'' w') ((l.drop n).take m) a') (l.take n) a) :
    (Code.region id l.toArray true).wp P Q a w := by
  simp only [Bool.and_eq_true, decide_eq_true_eq] at hB
  obtain ⟨hsel, hh, hn, hlex, hpure⟩ := hB
  have htl : (l.take n).length = n := by simp; omega
  have hml : ((l.drop n).take m).length = m := by simp; omega
  have inv0 : HeadInv .any l.toArray n (Array.replicate l.length false) :=
    ⟨by simp, fun j oj _ hl => absurd hl (by rw [getD_replicate_false]; simp), fun t _ ht => getD_in (by simpa using ht) (getD_replicate_false _ _)⟩
  have H := anyHead_lex2 (C := C) (P := P) (md := .any) (n := n) (g := l.length - (n + m)) (m := m) hsel hh (l.take n) 0 _ a
    (fun j hj => by rw [htl] at hj; simp [hj]) (by simpa using htl) (fun j hj => by omega) inv0 (by rw [htl]; exact hlex) h
  have R := anyHead_sound (Q := Q) (g := m + (l.length - (n + m))) (fun listed a' w' hw' hL => by
    have := wpAny_pure (md := .any) (g := l.length - (n + m)) (lt := l.drop (n + m)) hsel hQ w' ((l.drop n).take m) n listed a'
      (fun j hj => by rw [hml] at hj; simp [List.getElem?_take_of_lt hj, List.getElem?_drop])
      (fun j => by rw [hml]; simp [List.getElem?_drop]) (by simp) hpure (by rw [hml]; exact hL.1.2) (hL.2 w' hw')
    rwa [hml] at this) _ _ _ _ hC H
  rw [htl, show n + (m + (l.length - (n + m))) = l.toArray.size by simp; omega] at R
  exact wp_region_any hm (by simpa using R)

theorem wp_region_qptE {id : Nat} {Q : Exit → Act → World → Prop} {a : Act} {w : World} {l : List Oper} (n m : Nat) (hm : P.follows .mixedOrders = true)
    (hB : (Region.noSelect l.toArray && (headB .any l.toArray n && (decide (n + m ≤ l.length) && (Region.lexHead .any l.toArray (l.length - (n + m)) (n + m) 0 (Array.replicate l.length false) && ((l.drop n).take m).all fun o => pureOp o.op)))) = true)
    (hQ : ∀ c (a : Act) d v w, Q (.panic c) (a.put d v) w → Q (.panic c) a w)
    (h : wpQuiet P l.toArray (fun w' => ∃ y : Later w, w' = y.at') (fun a' => ∀ w', (∃ y : Later w, w' = y.at') → wpQuiet P l.toArray (fun _ => True) (fun a'' => wpList P l.toArray Q (l.drop (n + m)) a'' w') ((l.drop n).take m) a') (l.take n) a) :
    (Code.region id l.toArray true).wp P Q a w :=
  wp_region_qpt (C := fun w' => ∃ y : Later w, w' = y.at') n m hm hB ⟨⟨w.drew, (Ext.refl w).drew⟩, rfl⟩ hQ h

end

end Go.Proofs.Ytoicjiiifffciaa
