/- Regions that draw their order: operations ahead that touch no memory (they may float), a head that is quiet at a class of worlds, a tail in forced order. Conditions: none. -/
import Derived.Test.YtoicjiiifffciaaReg2
namespace Go.Proofs.Ytoicjiiifffciaa
set_option linter.unusedSimpArgs false
set_option linter.unusedVariables false
open Go.RowKit

section
variable {P : Program} {ops : Array Oper} {md : Region.Mode} {C : World → Prop}

/-- Operation j waits for operation i. -/
def edgeB (md : Region.Mode) (ops : Array Oper) (j i : Nat) : Bool := match ops[j]? with
  | some o => o.after.any fun e => Region.binds md e && e.on == i
  | none => false
/-- Each operation from p on before n is waited for by a later one up to n; each one behind n waits for one at n or behind. -/
def headB3 (md : Region.Mode) (ops : Array Oper) (p n : Nat) : Bool :=
  ((List.range n).all fun i => decide (i < p) || (List.range ops.size).any fun j => decide (i < j) && (decide (j ≤ n) && edgeB md ops j i)) &&
  (List.range ops.size).all fun t => decide (t ≤ n) || match ops[t]? with
    | some o => o.after.any fun e => Region.binds md e && decide (n ≤ e.on ∧ e.on < ops.size)
    | none => false

theorem head_waits3 {p n : Nat} {listed : Array Bool} (hh : headB3 md ops p n = true) (inv : HeadInv md ops n listed) {i : Nat} (hp : p ≤ i) (hi : i < n) (hun : listed.getD i true = false) : ∀ t, n ≤ t → t ∉ Region.ready md ops listed := by
  intro t ht hr
  simp only [headB3, Bool.and_eq_true] at hh
  obtain ⟨hh1, hh2⟩ := hh
  obtain ⟨_, ot, hot, hall⟩ := mem_ready.1 hr
  have htlt : t < ops.size := (Array.getElem?_eq_some_iff.1 hot).1
  have htn : t = n := by
    have h1 := List.all_eq_true.1 hh2 t (List.mem_range.2 htlt)
    simp only [Bool.or_eq_true, decide_eq_true_eq, hot] at h1
    rcases h1 with h1 | h1
    · omega
    · obtain ⟨e, he, h2⟩ := Array.any_eq_true'.1 h1
      simp only [Bool.and_eq_true, decide_eq_true_eq] at h2
      have h3 := hall e he h2.1
      have h4 := getD_both (inv.tail e.on h2.2.1 h2.2.2)
      rw [h3] at h4
      cases h4
  subst htn
  have key : ∀ d i, p ≤ i → i < t → t - i ≤ d → listed.getD i false = true := by
    intro d
    induction d with
    | zero => intro i _ h1 h2; omega
    | succ d ih =>
      intro i hp hi hd
      have h1 := List.all_eq_true.1 hh1 i (List.mem_range.2 hi)
      simp only [Bool.or_eq_true, decide_eq_true_eq] at h1
      rcases h1 with h1 | h1
      · omega
      obtain ⟨j, _, h2⟩ := List.any_eq_true.1 h1
      simp only [Bool.and_eq_true, decide_eq_true_eq] at h2
      obtain ⟨hij, hjt, he⟩ := h2
      unfold edgeB at he
      cases ho : ops[j]? with
      | none => simp [ho] at he
      | some o =>
        simp only [ho] at he
        obtain ⟨e, hem, h3⟩ := Array.any_eq_true'.1 he
        simp only [Bool.and_eq_true, beq_iff_eq] at h3
        rcases Nat.lt_or_ge j t with hjl | hjl
        · have := inv.closed j o ho (ih j (by omega) hjl (by omega)) e hem h3.1
          rwa [h3.2] at this
        · obtain rfl : j = t := by omega
          rw [hot] at ho
          cases ho
          have := hall e hem h3.1
          rwa [h3.2] at this
  have := key _ i hp hi (Nat.le_refl _)
  rw [getD_both hun] at this
  cases this

theorem upto_ge {listed : Array Bool} {p i : Nat} (h : upto listed p) (hun : listed.getD i true = false) : p ≤ i :=
  Nat.le_of_not_lt fun hlt => by rw [h i hlt] at hun; cases hun
theorem upto_keep {listed : Array Bool} {p j : Nat} (h : upto listed p) : upto (listed.setIfInBounds j true) p := by
  intro i hi
  by_cases hij : j = i
  · subst hij
    rcases Nat.lt_or_ge j listed.size with h' | h'
    · simp [h']
    · simp [Array.getElem?_eq_none h']
  · rw [getD_set_ne true hij]; exact h i hi

theorem anyHead_first3 {p n i : Nat} {oi : Oper} {v : Value} {L : Array Bool → Act → Prop} (hi : ops[i]? = some oi) (hsel : ∀ (j : Nat) (o : Oper) cs b, ops[j]? = some o → o.op ≠ .select cs b)
    (hh : headB3 md ops p n = true) (hin : i < n)
    (hdone : ∀ listed a, L listed a → ∀ j, j < n → listed.getD j true = true) :
    ∀ (f : Nat) (listed : Array Bool) (a : Act), HeadInv md ops n listed → upto listed p →
      (∀ j oj, ops[j]? = some oj → j ≠ i → listed.getD j true = false → (∀ e ∈ oj.after, Region.binds md e = true → e.on ≠ i) → oi.apart ops oj = true) →
      i ∈ Region.ready md ops listed → YieldsIn P ops C oi v a →
      anyHead P md ops C n L f (listed.setIfInBounds i true) (a.put oi.dst v) → anyHead P md ops C n L (f + 1) listed a := by
  intro f
  induction f with
  | zero =>
    intro listed a inv hup _ hr hy H
    refine ⟨List.ne_nil_of_mem hr, fun j hj => ?_⟩
    have hjn : j < n := Nat.lt_of_not_le fun hge => head_waits3 hh inv (upto_ge hup (mem_ready.1 hr).1) hin (mem_ready.1 hr).1 j hge hj
    by_cases hji : j = i
    · subst hji; exact ⟨hjn, hy.qOp hi H⟩
    · have h1 := hdone _ _ H j hjn
      rw [getD_set_ne true (Ne.symm hji), (mem_ready.1 hj).1] at h1
      cases h1
  | succ f ih =>
    intro listed a inv hup hfree hr hy H
    refine ⟨List.ne_nil_of_mem hr, fun j hj => ?_⟩
    have hjn : j < n := Nat.lt_of_not_le fun hge => head_waits3 hh inv (upto_ge hup (mem_ready.1 hr).1) hin (mem_ready.1 hr).1 j hge hj
    by_cases hji : j = i
    · subst hji; exact ⟨hjn, hy.qOp hi H⟩
    refine ⟨hjn, ?_⟩
    obtain ⟨hjun, oj, hoj, hall⟩ := mem_ready.1 hj
    have hnot : ∀ e ∈ oj.after, Region.binds md e = true → e.on ≠ i := fun e he hb heq => by
      have h1 := hall e he hb
      rw [heq, getD_both (mem_ready.1 hr).1] at h1
      exact Bool.false_ne_true h1
    have h2 := qOp_put hoj (hfree j oj hoj hji hjun hnot) (fun cs b => hsel i oi cs b hi) (fun cs b => hsel j oj cs b hoj) hy (H.2 j (ready_mono hj hji)).2
    refine qOp_mono (fun a' h3 => ih _ a' (inv.set hj hjn) (upto_keep hup) (fun k ok hk hki hun hno => ?_) (ready_mono hr (Ne.symm hji)) h3.1 (by rw [Array.setIfInBounds_comm _ _ hji]; exact h3.2)) h2
    refine hfree k ok hk hki ?_ hno
    by_cases hjk : j = k
    · exact hjk ▸ hjun
    · rwa [getD_set_ne true hjk] at hun

theorem anyHead_lex3 {p n g : Nat} {Lq : Act → Prop} (hsel : Region.noSelect ops = true) (hh : headB3 md ops p n = true) :
    ∀ (l : List Oper) (k : Nat) (listed : Array Bool) (a : Act), (∀ j, j < l.length → l[j]? = ops[k + j]?) → k + l.length = n → p ≤ k → upto listed k → HeadInv md ops n listed →
    Region.lexHead md ops g l.length k listed = true → wpQuiet P ops C Lq l a →
    anyHead P md ops C n (fun listed' a' => (upto listed' n ∧ Region.lexHead md ops g 0 n listed' = true) ∧ Lq a') l.length listed a := by
  intro l
  induction l with
  | nil =>
    intro k listed a _ hk _ hu _ hB h
    obtain rfl : k = n := by simpa using hk
    exact ⟨⟨hu, by simpa using hB⟩, h⟩
  | cons o l ih =>
    intro k listed a hl hk hpk hu inv hB h
    have h0 : ops[k]? = some o := by simpa using (hl 0 (by simp)).symm
    rw [List.length_cons] at hB
    simp only [Region.lexHead, Bool.and_eq_true] at hB
    simp only [List.length_cons] at hk
    obtain ⟨⟨hr, hf⟩, hB'⟩ := hB
    have hr' : k ∈ Region.ready md ops listed := by simpa using hr
    have hkn : k < n := by omega
    obtain ⟨v, hy, hK⟩ := yieldsIn_of_qOp (C := C) (P := P) (K := wpQuiet P ops C Lq l) (a := a) h0 (by unfold qOp; simp only [h0]; exact h)
    exact anyHead_first3 h0 (Region.noSelect_spec hsel) hh hkn (fun _ _ hL => hL.1.1) l.length listed a inv (fun j hj => hu j (by omega)) (Region.free_spec h0 hf) hr' hy
      (ih (k + 1) _ _ (fun j hj => by have := hl (j + 1) (by simp; omega); simpa [Nat.add_assoc, Nat.add_comm 1 j] using this) (by omega) (by omega) (upto_set hu) (inv.set hr' hkn) hB' hK)

theorem wpAny_pre {Q : Exit → Act → World → Prop} {n g G M : Nat} (hsel : Region.noSelect ops = true) (hQ : ∀ c (a : Act) d v w, Q (.panic c) (a.put d v) w → Q (.panic c) a w) (w : World) (Kq : Act → Prop) (e : Nat)
    (hK : ∀ a' listed', Kq a' → HeadInv md ops n listed' → upto listed' e → Region.lexHead md ops G M e listed' = true → wpAny P md ops Q g listed' a' w) :
    ∀ (l : List Oper) (k : Nat) (listed : Array Bool) (a : Act), (∀ j, j < l.length → l[j]? = ops[k + j]?) → (l.all fun o => pureOp o.op) = true → k + l.length = e → e ≤ n → upto listed k → HeadInv md ops n listed →
    Region.lexHead md ops G (l.length + M) k listed = true →
    wpQuiet P ops (fun _ => True) Kq l a →
    wpAny P md ops Q (l.length + g) listed a w := by
  intro l
  induction l with
  | nil =>
    intro k listed a _ _ hk _ hu inv hB h
    simp only [List.length_nil, Nat.zero_add, Nat.add_zero] at *
    subst hk
    exact hK _ listed h inv hu hB
  | cons o l ih =>
    intro k listed a hl hp hk hkn hu inv hB h
    have h0 : ops[k]? = some o := by simpa using (hl 0 (by simp)).symm
    rw [List.length_cons, Nat.add_right_comm] at hB
    simp only [Region.lexHead, Bool.and_eq_true] at hB
    simp only [List.all_cons, Bool.and_eq_true] at hp
    simp only [List.length_cons] at hk
    obtain ⟨⟨hr, hf⟩, hB'⟩ := hB
    have hr' : k ∈ Region.ready md ops listed := by simpa using hr
    obtain ⟨v, hy, hK'⟩ := yieldsIn_of_qOp (C := fun _ => True) (P := P) (K := wpQuiet P ops (fun _ => True) Kq l) (a := a) h0 (by unfold qOp; simp only [h0]; exact h)
    rw [List.length_cons, Nat.add_right_comm]
    refine wpAny_take h0 hsel hf hr (fun c a w' => hQ c a _ _ w') (yields_of_pure hp.1 hy) ?_
    exact ih (k + 1) _ _ (fun j hj => by have := hl (j + 1) (by simp; omega); simpa [Nat.add_assoc, Nat.add_comm 1 j] using this) hp.2 (by omega) hkn (upto_set hu) (inv.set hr' (by omega)) hB' hK'

/-- **The law.** -/
theorem wp_region_pqt {id : Nat} {Q : Exit → Act → World → Prop} {a : Act} {w : World} {l : List Oper} (p n : Nat) (hm : P.follows .mixedOrders = true)
    (hB : (Region.noSelect l.toArray && (headB3 .any l.toArray p n && (decide (p ≤ n) && (decide (n ≤ l.length) && (Region.lexHead .any l.toArray (l.length - n) n 0 (Array.replicate l.length false) && (l.take p).all fun o => pureOp o.op))))) = true)
    (hC : C w.drew) (hQ : ∀ c (a : Act) d v w, Q (.panic c) (a.put d v) w → Q (.panic c) a w)
    (h : wpQuiet P l.toArray (fun _ => True) (fun a0 => wpQuiet P l.toArray C (fun a' => ∀ w', C w' → wpList P l.toArray Q (l.drop n) a' w') ((l.drop p).take (n - p)) a0) (l.take p) a) :
    (Code.region id l.toArray true).wp P Q a w := by
  simp only [Bool.and_eq_true, decide_eq_true_eq] at hB
  obtain ⟨hsel, hh, hpn, hn, hlex, hpure⟩ := hB
  have hpl : (l.take p).length = p := by simp; omega
  have hml : ((l.drop p).take (n - p)).length = n - p := by simp; omega
  have inv0 : HeadInv .any l.toArray n (Array.replicate l.length false) :=
    ⟨by simp, fun j oj _ hl => absurd hl (by rw [getD_replicate_false]; simp), fun t _ ht => getD_in (by simpa using ht) (getD_replicate_false _ _)⟩
  have R := wpAny_pre (P := P) (md := .any) (ops := l.toArray) (Q := Q) (n := n) (g := (n - p) + (l.length - n)) (G := l.length - n) (M := n - p) hsel hQ w.drew
    (fun a0 => wpQuiet P l.toArray C (fun a' => ∀ w', C w' → wpList P l.toArray Q (l.drop n) a' w') ((l.drop p).take (n - p)) a0) p
    (fun a0 listed' h0 inv hu hlx => by
      have H := anyHead_lex3 (C := C) (P := P) (md := .any) (p := p) (n := n) (g := l.length - n) hsel hh ((l.drop p).take (n - p)) p listed' a0
        (fun j hj => by rw [hml] at hj; simp [List.getElem?_take_of_lt hj, List.getElem?_drop]) (by rw [hml]; omega) (Nat.le_refl _) hu inv (by rw [hml]; exact hlx) h0
      have R := anyHead_sound (Q := Q) (g := l.length - n) (fun listed a' w' hw' hL => by
        have := wpAny_of_seq (md := .any) (Q' := Q) (P := P) (ops := l.toArray) (l.drop n) n listed a' w' (fun j => by simp [List.getElem?_drop]) (by rw [List.length_drop]; simpa [Region.lexHead] using hL.1.2) (hL.2 w' hw')
        rwa [List.length_drop] at this) _ _ _ _ hC H
      rwa [hml] at R)
    (l.take p) 0 _ a (fun j hj => by rw [hpl] at hj; simp [List.getElem?_take_of_lt hj]) hpure (by rw [hpl]; omega) hpn (fun j hj => by omega) inv0 (by rw [hpl, show p + (n - p) = n by omega]; exact hlex) h
  rw [hpl, show p + ((n - p) + (l.length - n)) = l.toArray.size by simp; omega] at R
  exact wp_region_any hm (by simpa using R)

theorem wp_region_pqtE {id : Nat} {Q : Exit → Act → World → Prop} {a : Act} {w : World} {l : List Oper} (p n : Nat) (hm : P.follows .mixedOrders = true)
    (hB : (Region.noSelect l.toArray && (headB3 .any l.toArray p n && (decide (p ≤ n) && (decide (n ≤ l.length) && (Region.lexHead .any l.toArray (l.length - n) n 0 (Array.replicate l.length false) && (l.take p).all fun o => pureOp o.op))))) = true)
    (hQ : ∀ c (a : Act) d v w, Q (.panic c) (a.put d v) w → Q (.panic c) a w)
    (h : wpQuiet P l.toArray (fun _ => True) (fun a0 => wpQuiet P l.toArray (fun w' => ∃ y : Later w, w' = y.at') (fun a' => ∀ w', (∃ y : Later w, w' = y.at') → wpList P l.toArray Q (l.drop n) a' w') ((l.drop p).take (n - p)) a0) (l.take p) a) :
    (Code.region id l.toArray true).wp P Q a w :=
  wp_region_pqt (C := fun w' => ∃ y : Later w, w' = y.at') p n hm hB ⟨⟨w.drew, (Ext.refl w).drew⟩, rfl⟩ hQ h

end

end Go.Proofs.Ytoicjiiifffciaa
