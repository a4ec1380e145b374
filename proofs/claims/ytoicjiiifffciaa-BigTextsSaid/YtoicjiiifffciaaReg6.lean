/- Regions that draw their order: quiet operations, m pure ones that may float past the first store, k more quiet ones, and a tail in forced order. Conditions: none. -/
import Derived.Test.YtoicjiiifffciaaReg3
namespace Go.Proofs.Ytoicjiiifffciaa
set_option linter.unusedSimpArgs false
set_option linter.unusedVariables false
open Go.RowKit

section
variable {P : Program} {ops : Array Oper} {md : Region.Mode} {C : World → Prop}

/-- Operation i does not float: it is not among the m ones from n on. -/
def fixedB (n m i : Nat) : Bool := !(decide (n ≤ i) && decide (i < n + m))

/-- Each fixed operation before N is waited for by a later fixed one up to N; each one behind N waits for one at N or behind. -/
def headX (md : Region.Mode) (ops : Array Oper) (n m N : Nat) : Bool :=
  ((List.range N).all fun i => !fixedB n m i || (List.range ops.size).any fun j => decide (i < j) && (decide (j ≤ N) && (fixedB n m j && edgeB md ops j i))) &&
  (List.range ops.size).all fun t => decide (t ≤ N) || match ops[t]? with
    | some o => o.after.any fun e => Region.binds md e && decide (N ≤ e.on ∧ e.on < ops.size)
    | none => false

theorem head_waitsX {n m N : Nat} {listed : Array Bool} (hh : headX md ops n m N = true) (inv : HeadInv md ops N listed) {i : Nat} (hf : fixedB n m i = true) (hi : i < N) (hun : listed.getD i true = false) : ∀ t, N ≤ t → t ∉ Region.ready md ops listed := by
  intro t ht hr
  simp only [headX, Bool.and_eq_true] at hh
  obtain ⟨hh1, hh2⟩ := hh
  obtain ⟨_, ot, hot, hall⟩ := mem_ready.1 hr
  have htlt : t < ops.size := (Array.getElem?_eq_some_iff.1 hot).1
  have htn : t = N := by
    have h1 := List.all_eq_true.1 hh2 t (List.mem_range.2 htlt)
    simp only [Bool.or_eq_true, decide_eq_true_eq, hot] at h1
    rcases h1 with h1 | h1
    · omega
    · obtain ⟨e, he, h2⟩ := Array.any_eq_true'.1 h1
      simp only [Bool.and_eq_true, decide_eq_true_eq] at h2
      have h3 := hall e he h2.1
      have h4 := getD_both (inv.tail e.on h2.2.1 h2.2.2)
      rw [h3] at h4
      cases h4
  subst htn
  have key : ∀ d i, fixedB n m i = true → i < t → t - i ≤ d → listed.getD i false = true := by
    intro d
    induction d with
    | zero => intro i _ h1 h2; omega
    | succ d ih =>
      intro i hp hi hd
      have h1 := List.all_eq_true.1 hh1 i (List.mem_range.2 hi)
      simp only [Bool.or_eq_true, hp, Bool.not_true, Bool.false_eq_true, false_or] at h1
      obtain ⟨j, _, h2⟩ := List.any_eq_true.1 h1
      simp only [Bool.and_eq_true, decide_eq_true_eq] at h2
      obtain ⟨hij, hjt, hfj, he⟩ := h2
      unfold edgeB at he
      cases ho : ops[j]? with
      | none => simp [ho] at he
      | some o =>
        simp only [ho] at he
        obtain ⟨e, hem, h3⟩ := Array.any_eq_true'.1 he
        simp only [Bool.and_eq_true, beq_iff_eq] at h3
        rcases Nat.lt_or_ge j t with hjl | hjl
        · have := inv.closed j o ho (ih j hfj hjl (by omega)) e hem h3.1
          rwa [h3.2] at this
        · obtain rfl : j = t := by omega
          rw [hot] at ho
          cases ho
          have := hall e hem h3.1
          rwa [h3.2] at this
  have := key _ i hf hi (Nat.le_refl _)
  rw [getD_both hun] at this
  cases this

/-- All fixed operations of the head are listed. -/
def doneX (n m N : Nat) (listed : Array Bool) : Prop := ∀ i, i < N → fixedB n m i = true → listed.getD i true = true

/-- f operations of the head are still to come; the tail has g. -/
def anyF (P : Program) (md : Region.Mode) (ops : Array Oper) (C : World → Prop) (A : Nat → Array Bool → Act → World → Prop) (n m N g : Nat) : Nat → Array Bool → Act → Prop
  | 0, listed, a => upto listed N ∧ ∀ w, C w → A g listed a w
  | f + 1, listed, a => (doneX n m N listed → ∀ w, C w → A (f + 1 + g) listed a w) ∧ (¬ doneX n m N listed → Region.ready md ops listed ≠ [] ∧ ∀ i ∈ Region.ready md ops listed, i < N) ∧
      ∀ i ∈ Region.ready md ops listed, i < N → qOp P ops C i (anyF P md ops C A n m N g f (listed.setIfInBounds i true)) a

/-- What the law asks of 'whatever order is picked from here on'. -/
structure Anys (P : Program) (md : Region.Mode) (ops : Array Oper) (C : World → Prop) (A : Nat → Array Bool → Act → World → Prop) : Prop where
  all : ∀ (f : Nat) (listed : Array Bool) (a : Act) (w : World), C w → Region.ready md ops listed ≠ [] → (∀ i ∈ Region.ready md ops listed, qOp P ops C i (fun a' => ∀ w', C w' → A f (listed.setIfInBounds i true) a' w') a) → A (f + 1) listed a w
  first : ∀ (i : Nat) (oi : Oper) (v : Value) (f : Nat) (listed : Array Bool) (a : Act) (w : World), ops[i]? = some oi →
      (∀ j oj, ops[j]? = some oj → j ≠ i → listed.getD j true = false → (∀ e ∈ oj.after, Region.binds md e = true → e.on ≠ i) → oi.apart ops oj = true) →
      i ∈ Region.ready md ops listed → pureOp oi.op = true → Yields P ops oi v a → A f (listed.setIfInBounds i true) (a.put oi.dst v) w → A (f + 1) listed a w

theorem anyF_sound {A : Nat → Array Bool → Act → World → Prop} (hA : Anys P md ops C A) {n m N g : Nat} : ∀ (f : Nat) (listed : Array Bool) (a : Act) (w : World), C w → anyF P md ops C A n m N g f listed a → A (f + g) listed a w := by
  intro f
  induction f with
  | zero => intro listed a w hw h; rw [Nat.zero_add]; exact h.2 w hw
  | succ f ih =>
    intro listed a w hw h
    by_cases hd : doneX n m N listed
    · exact h.1 hd w hw
    · rw [Nat.succ_add]
      obtain ⟨h1, h2⟩ := h.2.1 hd
      exact hA.all _ _ _ _ hw h1 fun i hi => qOp_mono (fun a' ha' w' hw' => ih _ a' w' hw' ha') (h.2.2 i hi (h2 i hi))

theorem doneX_set {n m N : Nat} {listed : Array Bool} (h : doneX n m N listed) (i : Nat) : doneX n m N (listed.setIfInBounds i true) := by
  intro j hj hf
  by_cases hij : i = j
  · subst hij
    rcases Nat.lt_or_ge i listed.size with h' | h'
    · simp [h']
    · simp [Array.getElem?_eq_none h']
  · rw [getD_set_ne true hij]; exact h j hj hf

theorem anyF_first {A : Nat → Array Bool → Act → World → Prop} (hA : Anys P md ops C A) {n m N g i : Nat} {oi : Oper} {v : Value} (hi : ops[i]? = some oi) (hsel : Region.noSelect ops = true)
    (hh : headX md ops n m N = true) (hin : i < N) :
    ∀ (f : Nat) (listed : Array Bool) (a : Act), HeadInv md ops N listed →
      (∀ j oj, ops[j]? = some oj → j ≠ i → listed.getD j true = false → (∀ e ∈ oj.after, Region.binds md e = true → e.on ≠ i) → oi.apart ops oj = true) →
      i ∈ Region.ready md ops listed → YieldsIn P ops C oi v a → (fixedB n m i = true ∨ (pureOp oi.op = true ∧ Yields P ops oi v a)) →
      anyF P md ops C A n m N g f (listed.setIfInBounds i true) (a.put oi.dst v) → anyF P md ops C A n m N g (f + 1) listed a := by
  have hs' := Region.noSelect_spec hsel
  -- what the case 'all fixed ones have come' asks
  have hD : ∀ (f : Nat) (listed : Array Bool) (a : Act), 
      (∀ j oj, ops[j]? = some oj → j ≠ i → listed.getD j true = false → (∀ e ∈ oj.after, Region.binds md e = true → e.on ≠ i) → oi.apart ops oj = true) →
      i ∈ Region.ready md ops listed → (fixedB n m i = true ∨ (pureOp oi.op = true ∧ Yields P ops oi v a)) →
      anyF P md ops C A n m N g f (listed.setIfInBounds i true) (a.put oi.dst v) → doneX n m N listed → ∀ w, C w → A (f + 1 + g) listed a w := by
    intro f listed a hfree hr hfl H hd w hw
    rcases hfl with hfx | hfl
    · have := hd i hin hfx
      rw [(mem_ready.1 hr).1] at this
      cases this
    · have h1 := anyF_sound hA f _ _ w hw H
      rw [Nat.add_right_comm]
      exact hA.first i oi v (f + g) listed a w hi hfree hr hfl.1 hfl.2 h1
  have hN : ∀ (listed : Array Bool), HeadInv md ops N listed → i ∈ Region.ready md ops listed → ¬ doneX n m N listed → Region.ready md ops listed ≠ [] ∧ ∀ j ∈ Region.ready md ops listed, j < N := by
    intro listed inv hr hnd
    refine ⟨List.ne_nil_of_mem hr, fun j hj => Nat.lt_of_not_le fun hge => ?_⟩
    apply hnd
    intro k hk hfk
    by_cases hun : listed.getD k true = true
    · exact hun
    · exact absurd hj (head_waitsX hh inv hfk hk (by simpa using hun) j hge)
  intro f
  induction f with
  | zero =>
    intro listed a inv hfree hr hy hfl H
    refine ⟨hD 0 listed a hfree hr hfl H, hN listed inv hr, fun j hj hjn => ?_⟩
    by_cases hji : j = i
    · subst hji; exact hy.qOp hi H
    · have h1 := H.1 j hjn
      rw [getD_set_ne true (Ne.symm hji), (mem_ready.1 hj).1] at h1
      cases h1
  | succ f ih =>
    intro listed a inv hfree hr hy hfl H
    refine ⟨hD (f + 1) listed a hfree hr hfl H, hN listed inv hr, fun j hj hjn => ?_⟩
    by_cases hji : j = i
    · subst hji; exact hy.qOp hi H
    obtain ⟨hjun, oj, hoj, hall⟩ := mem_ready.1 hj
    have hnot : ∀ e ∈ oj.after, Region.binds md e = true → e.on ≠ i := fun e he hb heq => by
      have h1 := hall e he hb
      rw [heq, getD_both (mem_ready.1 hr).1] at h1
      exact Bool.false_ne_true h1
    have hap := hfree j oj hoj hji hjun hnot
    have h2 := qOp_put hoj hap (fun cs b => hs' i oi cs b hi) (fun cs b => hs' j oj cs b hoj) hy (H.2.2 j (ready_mono hj hji) hjn)
    obtain ⟨u, hyj, h3, h4⟩ := yieldsIn_of_qOp hoj h2
    refine hyj.qOp hoj ?_
    obtain ⟨g1, g2, g3⟩ := Oper.apart_spec hap
    refine ih _ _ (inv.set hj hjn) (fun k ok hk hki hun hno => ?_) (ready_mono hr (Ne.symm hji)) h3 (hfl.imp id fun hfl => ?_) (by rw [Array.setIfInBounds_comm _ _ hji]; exact h4)
    · refine hfree k ok hk hki ?_ hno
      by_cases hjk : j = k
      · exact hjk ▸ hjun
      · rwa [getD_set_ne true hjk] at hun
    · exact ⟨hfl.1, hfl.2.of_same (execOp_put oi (fun cs b => hs' i oi cs b hi) a oj.dst u g3) (wanted_put oi a oj.dst u g3)⟩

/-- A run of fixed operations. -/
theorem anyF_segC {A : Nat → Array Bool → Act → World → Prop} (hA : Anys P md ops C A) {n m N g G M F e : Nat} (hsel : Region.noSelect ops = true) (hh : headX md ops n m N = true) (Kq : Act → Prop) (heN : e ≤ N)
    (hK : ∀ a' listed', Kq a' → HeadInv md ops N listed' → upto listed' e → Region.lexHead md ops G M e listed' = true → anyF P md ops C A n m N g F listed' a') :
    ∀ (l : List Oper) (k : Nat) (listed : Array Bool) (a : Act), (∀ j, j < l.length → l[j]? = ops[k + j]?) → (∀ j, k ≤ j → j < e → fixedB n m j = true) → k + l.length = e → upto listed k → HeadInv md ops N listed →
    Region.lexHead md ops G (l.length + M) k listed = true → wpQuiet P ops C Kq l a → anyF P md ops C A n m N g (l.length + F) listed a := by
  intro l
  induction l with
  | nil =>
    intro k listed a _ _ hk hu inv hB h
    simp only [List.length_nil, Nat.zero_add, Nat.add_zero] at *
    subst hk
    exact hK _ listed h inv hu hB
  | cons o l ih =>
    intro k listed a hl hfx hk hu inv hB h
    have h0 : ops[k]? = some o := by simpa using (hl 0 (by simp)).symm
    rw [List.length_cons, Nat.add_right_comm] at hB
    simp only [Region.lexHead, Bool.and_eq_true] at hB
    simp only [List.length_cons] at hk
    obtain ⟨⟨hr, hf⟩, hB'⟩ := hB
    have hr' : k ∈ Region.ready md ops listed := by simpa using hr
    obtain ⟨v, hy, hK'⟩ := yieldsIn_of_qOp (C := C) (P := P) (K := wpQuiet P ops C Kq l) (a := a) h0 (by unfold qOp; simp only [h0]; exact h)
    rw [List.length_cons, Nat.add_right_comm]
    exact anyF_first hA h0 hsel hh (by omega) (l.length + F) listed a inv (Region.free_spec h0 hf) hr' hy (.inl (hfx k (Nat.le_refl _) (by omega)))
      (ih (k + 1) _ _ (fun j hj => by have := hl (j + 1) (by simp; omega); simpa [Nat.add_assoc, Nat.add_comm 1 j] using this) (fun j h1 h2 => hfx j (by omega) h2) (by omega) (upto_set hu) (inv.set hr' (by omega)) hB' hK')

/-- A run of pure ones. -/
theorem anyF_segP {A : Nat → Array Bool → Act → World → Prop} (hA : Anys P md ops C A) {n m N g G M F e : Nat} (hsel : Region.noSelect ops = true) (hh : headX md ops n m N = true) (Kq : Act → Prop) (heN : e ≤ N)
    (hK : ∀ a' listed', Kq a' → HeadInv md ops N listed' → upto listed' e → Region.lexHead md ops G M e listed' = true → anyF P md ops C A n m N g F listed' a') (hC0 : ∃ w, C w) :
    ∀ (l : List Oper) (k : Nat) (listed : Array Bool) (a : Act), (∀ j, j < l.length → l[j]? = ops[k + j]?) → (l.all fun o => pureOp o.op) = true → k + l.length = e → upto listed k → HeadInv md ops N listed →
    Region.lexHead md ops G (l.length + M) k listed = true → wpQuiet P ops (fun _ => True) Kq l a → anyF P md ops C A n m N g (l.length + F) listed a := by
  intro l
  induction l with
  | nil =>
    intro k listed a _ _ hk hu inv hB h
    simp only [List.length_nil, Nat.zero_add, Nat.add_zero] at *
    subst hk
    exact hK _ listed h inv hu hB
  | cons o l ih =>
    intro k listed a hl hp hk hu inv hB h
    have h0 : ops[k]? = some o := by simpa using (hl 0 (by simp)).symm
    rw [List.length_cons, Nat.add_right_comm] at hB
    simp only [Region.lexHead, Bool.and_eq_true] at hB
    simp only [List.all_cons, Bool.and_eq_true] at hp
    simp only [List.length_cons] at hk
    obtain ⟨⟨hr, hf⟩, hB'⟩ := hB
    have hr' : k ∈ Region.ready md ops listed := by simpa using hr
    obtain ⟨v, hy, hK'⟩ := yieldsIn_of_qOp (C := fun _ => True) (P := P) (K := wpQuiet P ops (fun _ => True) Kq l) (a := a) h0 (by unfold qOp; simp only [h0]; exact h)
    have hy2 := yields_of_pure hp.1 hy
    have hy3 : YieldsIn P ops C o v a := by
      rcases hy2 with ⟨hw, h1⟩ | h1
      · exact .inl ⟨hw, fun w _ => by unfold Oper.quietAt; rw [h1 w]; exact ⟨rfl, rfl⟩⟩
      · exact .inr h1
    rw [List.length_cons, Nat.add_right_comm]
    exact anyF_first hA h0 hsel hh (by omega) (l.length + F) listed a inv (Region.free_spec h0 hf) hr' hy3 (.inr ⟨hp.1, hy2⟩)
      (ih (k + 1) _ _ (fun j hj => by have := hl (j + 1) (by simp; omega); simpa [Nat.add_assoc, Nat.add_comm 1 j] using this) hp.2 (by omega) (upto_set hu) (inv.set hr' (by omega)) hB' hK')

theorem anys_plain {Q : Exit → Act → World → Prop} (hsel : Region.noSelect ops = true) (hQ : ∀ c (a : Act) d v w, Q (.panic c) (a.put d v) w → Q (.panic c) a w) : Anys P md ops C (wpAny P md ops Q) where
  all := fun f listed a w hw hne h => ⟨fun h0 => absurd h0 hne, fun i hi => wpOp_of_qOp hw (fun a' w' hw' h' => h' w' hw') (h i hi)⟩
  first := fun i oi v f listed a w hi hfree hr _ hy h => wpAny_first hi (Region.noSelect_spec hsel) (fun c a w' => hQ c a _ _ w') f listed a w hfree hr hy h

/-- **The law**, of whatever 'from here on'. -/
theorem any_qxt {A : Nat → Array Bool → Act → World → Prop} {T : Act → World → Prop} {a : Act} {w : World} {l : List Oper} (n m k : Nat) (hA : Anys P .any l.toArray C A)
    (hB : (Region.noSelect l.toArray && (headX .any l.toArray n m (n + m + k) && (decide (n + m + k ≤ l.length) && (Region.lexHead .any l.toArray (l.length - (n + m + k)) (n + m + k) 0 (Array.replicate l.length false) && ((l.drop n).take m).all fun o => pureOp o.op)))) = true)
    (hC : C w) (hT : ∀ listed a w, Region.seqB .any l.toArray (l.length - (n + m + k)) (n + m + k) listed = true → T a w → A (l.length - (n + m + k)) listed a w)
    (h : wpQuiet P l.toArray C (fun a0 => wpQuiet P l.toArray (fun _ => True) (fun a1 => wpQuiet P l.toArray C (fun a' => ∀ w', C w' → T a' w') ((l.drop (n + m)).take k) a1) ((l.drop n).take m) a0) (l.take n) a) :
    A l.length (Array.replicate l.length false) a w := by
  simp only [Bool.and_eq_true, decide_eq_true_eq] at hB
  obtain ⟨hsel, hh, hn, hlex, hpure⟩ := hB
  have l1 : (l.take n).length = n := by simp; omega
  have l2 : ((l.drop n).take m).length = m := by simp; omega
  have l3 : ((l.drop (n + m)).take k).length = k := by simp; omega
  have inv0 : HeadInv .any l.toArray (n + m + k) (Array.replicate l.length false) :=
    ⟨by simp, fun j oj _ hl => absurd hl (by rw [getD_replicate_false]; simp), fun t _ ht => getD_in (by simpa using ht) (getD_replicate_false _ _)⟩
  have H := anyF_segC (P := P) (md := .any) (ops := l.toArray) (C := C) hA (n := n) (m := m) (N := n + m + k) (g := l.length - (n + m + k)) (G := l.length - (n + m + k)) (M := m + k) (F := m + k) (e := n) hsel hh _ (by omega)
    (fun a0 listed0 h0 inv hu hlx => by
      have := anyF_segP (P := P) (md := .any) (ops := l.toArray) (C := C) hA (n := n) (m := m) (N := n + m + k) (g := l.length - (n + m + k)) (G := l.length - (n + m + k)) (M := k) (F := k) (e := n + m) hsel hh _ (by omega)
        (fun a1 listed1 h1 inv hu hlx => by
          have := anyF_segC (P := P) (md := .any) (ops := l.toArray) (C := C) hA (n := n) (m := m) (N := n + m + k) (g := l.length - (n + m + k)) (G := l.length - (n + m + k)) (M := 0) (F := 0) (e := n + m + k) hsel hh _ (by omega)
            (fun a' listed' h' inv hu hlx => ⟨hu, fun w' hw' => hT listed' a' w' (by simpa [Region.lexHead] using hlx) (h' w' hw')⟩)
            ((l.drop (n + m)).take k) (n + m) listed1 a1 (fun j hj => by rw [l3] at hj; simp [List.getElem?_take_of_lt hj, List.getElem?_drop]) (fun j hj _ => by simp [fixedB]; omega) (by rw [l3]) hu inv (by rw [l3]; exact hlx) h1
          rwa [l3] at this)
        ⟨_, hC⟩ ((l.drop n).take m) n listed0 a0 (fun j hj => by rw [l2] at hj; simp [List.getElem?_take_of_lt hj, List.getElem?_drop]) hpure (by rw [l2]) hu inv (by rw [l2]; exact hlx) h0
      rwa [l2] at this)
    (l.take n) 0 _ a (fun j hj => by rw [l1] at hj; simp [List.getElem?_take_of_lt hj]) (fun j _ hj => by simp [fixedB]; omega) (by rw [l1]; omega) (fun j hj => by omega) inv0 (by rw [l1, show n + (m + k) = n + m + k by omega]; exact hlex) h
  have R := anyF_sound hA _ _ _ w hC H
  rwa [l1, show n + (m + k) + (l.length - (n + m + k)) = l.length by omega] at R

theorem noSel_of {l : List Oper} {b : Bool} (hB : (Region.noSelect l.toArray && b) = true) : Region.noSelect l.toArray = true := by
  simp only [Bool.and_eq_true] at hB; exact hB.1

theorem wp_region_qxtE {id : Nat} {Q : Exit → Act → World → Prop} {a : Act} {w : World} {l : List Oper} (n m k : Nat) (hm : P.follows .mixedOrders = true)
    (hB : (Region.noSelect l.toArray && (headX .any l.toArray n m (n + m + k) && (decide (n + m + k ≤ l.length) && (Region.lexHead .any l.toArray (l.length - (n + m + k)) (n + m + k) 0 (Array.replicate l.length false) && ((l.drop n).take m).all fun o => pureOp o.op)))) = true)
    (hQ : ∀ c (a : Act) d v w, Q (.panic c) (a.put d v) w → Q (.panic c) a w)
    (h : wpQuiet P l.toArray (fun w' => ∃ y : Later w, w' = y.at') (fun a0 => wpQuiet P l.toArray (fun _ => True) (fun a1 => wpQuiet P l.toArray (fun w' => ∃ y : Later w, w' = y.at') (fun a' => ∀ w', (∃ y : Later w, w' = y.at') → wpList P l.toArray Q (l.drop (n + m + k)) a' w') ((l.drop (n + m)).take k) a1) ((l.drop n).take m) a0) (l.take n) a) :
    (Code.region id l.toArray true).wp P Q a w := by
  have R := any_qxt (C := fun w' => ∃ y : Later w, w' = y.at') (w := w.drew) (T := fun a' w' => wpList P l.toArray Q (l.drop (n + m + k)) a' w') n m k (anys_plain (noSel_of hB) hQ) hB ⟨⟨w.drew, (Ext.refl w).drew⟩, rfl⟩
    (fun listed a w hs h => by
      have := wpAny_of_seq (md := .any) (Q' := Q) (P := P) (ops := l.toArray) (l.drop (n + m + k)) (n + m + k) listed a w (fun j => by simp [List.getElem?_drop]) (by rw [List.length_drop]; exact hs) h
      rwa [List.length_drop] at this) h
  exact wp_region_any hm (by simpa using R)

end

end Go.Proofs.Ytoicjiiifffciaa
