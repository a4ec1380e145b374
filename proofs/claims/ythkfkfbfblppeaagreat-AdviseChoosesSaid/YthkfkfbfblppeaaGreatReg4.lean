/- Regions that draw their order and lay one block at a moment of their own choice ('x, e := f()' where x is laid in memory): the law. Conditions: none. -/
import Derived.Test.YthkfkfbfblppeaaGreatDet
namespace Go.Proofs.YthkfkfbfblppeaaGreat
set_option linter.unusedSimpArgs false
set_option linter.unusedVariables false
open Go.RowKit

/-- The worlds later than S. -/
abbrev CL (S : World) : World → Prop := fun w' => ∃ y : Later S, w' = y.at'
theorem cl_of {S w : World} (h : Ext S w) : CL S w := ⟨⟨w, h⟩, rfl⟩
theorem cl_ext {S w : World} (h : CL S w) : Ext S w := by obtain ⟨y, rfl⟩ := h; exact y.ext

section
variable {P : Program} {ops : Array Oper} {md : Region.Mode} {C : World → Prop}

def anyHF (P : Program) (md : Region.Mode) (ops : Array Oper) (C : World → Prop) (n f : Nat) (L : Array Bool → Act → Prop) : Nat → Array Bool → Act → Prop
  | 0, listed, a => L listed a
  | c + 1, listed, a => (∃ i ∈ Region.ready md ops listed, i < n) ∧ ∀ i ∈ Region.ready md ops listed, i ≠ f → i < n ∧ qOp P ops C i (anyHF P md ops C n f L c (listed.setIfInBounds i true)) a

def noEdgeB (md : Region.Mode) (ops : Array Oper) (t f : Nat) : Bool := match ops[t]? with
  | some o => o.after.all fun e => !Region.binds md e || decide (e.on ≠ f)
  | none => true
def backB (md : Region.Mode) (ops : Array Oper) (n f t : Nat) : Bool := match ops[t]? with
  | some o => o.after.any fun e => Region.binds md e && decide (n ≤ e.on ∧ e.on < ops.size ∧ e.on ≠ f)
  | none => false
def headF (md : Region.Mode) (ops : Array Oper) (n f : Nat) : Bool :=
  ((List.range n).all fun i => (List.range ops.size).any fun j => decide (i < j) && (decide (j ≤ n) && edgeB md ops j i)) &&
  (((List.range ops.size).all fun t => decide (t ≤ n) || (decide (t = f) || backB md ops n f t)) &&
  (((List.range (n + 1)).all fun t => noEdgeB md ops t f) && decide (n < f ∧ f < ops.size)))

theorem noEdge_spec {t f : Nat} {o : Oper} (h : noEdgeB md ops t f = true) (ho : ops[t]? = some o) : ∀ e ∈ o.after, Region.binds md e = true → e.on ≠ f := by
  intro e he hb
  unfold noEdgeB at h
  simp only [ho] at h
  have := Array.all_eq_true'.1 h e he
  simpa [hb] using this

theorem head_waitsF {n f : Nat} {listed lf : Array Bool} (hh : headF md ops n f = true) (inv : HeadInv md ops n listed) (hlf : ∀ e b, e ≠ f → lf.getD e b = listed.getD e b)
    {i : Nat} (hi : i < n) (hun : listed.getD i true = false) : ∀ t, n ≤ t → t ≠ f → t ∉ Region.ready md ops lf := by
  intro t ht htf hr
  simp only [headF, Bool.and_eq_true, decide_eq_true_eq] at hh
  obtain ⟨hh1, hh2, _, hnf, _⟩ := hh
  obtain ⟨_, ot, hot, hall⟩ := mem_ready.1 hr
  have htlt : t < ops.size := (Array.getElem?_eq_some_iff.1 hot).1
  have htn : t = n := by
    have h1 := List.all_eq_true.1 hh2 t (List.mem_range.2 htlt)
    simp only [Bool.or_eq_true, decide_eq_true_eq] at h1
    rcases h1 with h1 | h1 | h1
    · omega
    · exact absurd h1 htf
    · unfold backB at h1
      simp only [hot] at h1
      obtain ⟨e, he, h2⟩ := Array.any_eq_true'.1 h1
      simp only [Bool.and_eq_true, decide_eq_true_eq] at h2
      have h3 := hall e he h2.1
      rw [hlf _ _ h2.2.2.2] at h3
      have h4 := getD_both (inv.tail e.on h2.2.1 h2.2.2.1)
      rw [h3] at h4
      cases h4
  subst htn
  have key : ∀ d i, i < t → t - i ≤ d → listed.getD i false = true := by
    intro d
    induction d with
    | zero => intro i h1 h2; omega
    | succ d ih =>
      intro i hi hd
      have h1 := List.all_eq_true.1 hh1 i (List.mem_range.2 hi)
      obtain ⟨j, _, h2⟩ := List.any_eq_true.1 h1
      simp only [Bool.and_eq_true, decide_eq_true_eq] at h2
      obtain ⟨hij, hjt, he⟩ := h2
      unfold edgeB at he
      cases ho : ops[j]? with
      | none => simp [ho] at he
      | some o =>
        simp only [ho] at he
        obtain ⟨e, hem, h3⟩ := Array.any_eq_true'.1 he
        simp only [Bool.and_eq_true, beq_iff_eq] at h3
        rcases Nat.lt_or_ge j t with hjl | hjl
        · have := inv.closed j o ho (ih j hjl (by omega)) e hem h3.1
          rwa [h3.2] at this
        · obtain rfl : j = t := by omega
          rw [hot] at ho
          cases ho
          have := hall e hem h3.1
          rw [h3.2, hlf _ _ (by omega)] at this
          exact this
  have := key _ i hi (Nat.le_refl _)
  rw [getD_both hun] at this
  cases this

theorem anyHF_first {n f i : Nat} {oi : Oper} {v : Value} {L : Array Bool → Act → Prop} (hi : ops[i]? = some oi) (hsel : ∀ (j : Nat) (o : Oper) cs b, ops[j]? = some o → o.op ≠ .select cs b)
    (hh : headF md ops n f = true) (hin : i < n)
    (hdone : ∀ listed a, L listed a → ∀ j, j < n → listed.getD j true = true) :
    ∀ (c : Nat) (listed : Array Bool) (a : Act), HeadInv md ops n listed →
      (∀ j oj, ops[j]? = some oj → j ≠ i → listed.getD j true = false → (∀ e ∈ oj.after, Region.binds md e = true → e.on ≠ i) → oi.apart ops oj = true) →
      i ∈ Region.ready md ops listed → YieldsIn P ops C oi v a →
      anyHF P md ops C n f L c (listed.setIfInBounds i true) (a.put oi.dst v) → anyHF P md ops C n f L (c + 1) listed a := by
  intro c
  induction c with
  | zero =>
    intro listed a inv _ hr hy H
    refine ⟨⟨i, hr, hin⟩, fun j hj hjf => ?_⟩
    have hjn : j < n := Nat.lt_of_not_le fun hge => head_waitsF hh inv (fun _ _ _ => rfl) hin (mem_ready.1 hr).1 j hge hjf hj
    by_cases hji : j = i
    · subst hji; exact ⟨hjn, hy.qOp hi H⟩
    · have h1 := hdone _ _ H j hjn
      rw [getD_set_ne true (Ne.symm hji), (mem_ready.1 hj).1] at h1
      cases h1
  | succ c ih =>
    intro listed a inv hfree hr hy H
    refine ⟨⟨i, hr, hin⟩, fun j hj hjf => ?_⟩
    have hjn : j < n := Nat.lt_of_not_le fun hge => head_waitsF hh inv (fun _ _ _ => rfl) hin (mem_ready.1 hr).1 j hge hjf hj
    by_cases hji : j = i
    · subst hji; exact ⟨hjn, hy.qOp hi H⟩
    refine ⟨hjn, ?_⟩
    obtain ⟨hjun, oj, hoj, hall⟩ := mem_ready.1 hj
    have hnot : ∀ e ∈ oj.after, Region.binds md e = true → e.on ≠ i := fun e he hb heq => by
      have h1 := hall e he hb
      rw [heq, getD_both (mem_ready.1 hr).1] at h1
      exact Bool.false_ne_true h1
    have h2 := qOp_put hoj (hfree j oj hoj hji hjun hnot) (fun cs b => hsel i oi cs b hi) (fun cs b => hsel j oj cs b hoj) hy (H.2 j (ready_mono hj hji) hjf).2
    refine qOp_mono (fun a' h3 => ih _ a' (inv.set hj hjn) (fun k ok hk hki hun hno => ?_) (ready_mono hr (Ne.symm hji)) h3.1 (by rw [Array.setIfInBounds_comm _ _ hji]; exact h3.2)) h2
    refine hfree k ok hk hki ?_ hno
    by_cases hjk : j = k
    · exact hjk ▸ hjun
    · rwa [getD_set_ne true hjk] at hun

/-- The text's order is one of the orders; at its end X. -/
def lexH (md : Region.Mode) (ops : Array Oper) (X : Array Bool → Bool) : Nat → Nat → Array Bool → Bool
  | 0, _, listed => X listed
  | c + 1, k, listed => (Region.ready md ops listed).contains k && (Region.free md ops listed k && lexH md ops X c (k + 1) (listed.setIfInBounds k true))

theorem anyHF_lex {n f : Nat} {X : Array Bool → Bool} {Lq : Act → Prop} (hsel : Region.noSelect ops = true) (hh : headF md ops n f = true) :
    ∀ (l : List Oper) (k : Nat) (listed : Array Bool) (a : Act), (∀ j, j < l.length → l[j]? = ops[k + j]?) → k + l.length = n → upto listed k → HeadInv md ops n listed →
    lexH md ops X l.length k listed = true → wpQuiet P ops C Lq l a →
    anyHF P md ops C n f (fun listed' a' => (upto listed' n ∧ X listed' = true) ∧ Lq a') l.length listed a := by
  intro l
  induction l with
  | nil =>
    intro k listed a _ hk hu _ hB h
    obtain rfl : k = n := by simpa using hk
    exact ⟨⟨hu, hB⟩, h⟩
  | cons o l ih =>
    intro k listed a hl hk hu inv hB h
    have h0 : ops[k]? = some o := by simpa using (hl 0 (by simp)).symm
    rw [List.length_cons] at hB
    simp only [lexH, Bool.and_eq_true] at hB
    simp only [List.length_cons] at hk
    obtain ⟨hr, hf, hB'⟩ := hB
    have hr' : k ∈ Region.ready md ops listed := by simpa using hr
    have hkn : k < n := by omega
    obtain ⟨v, hy, hK⟩ := yieldsIn_of_qOp (C := C) (P := P) (K := wpQuiet P ops C Lq l) (a := a) h0 (by unfold qOp; simp only [h0]; exact h)
    exact anyHF_first h0 (Region.noSelect_spec hsel) hh hkn (fun _ _ hL => hL.1.1) l.length listed a inv (Region.free_spec h0 hf) hr' hy
      (ih (k + 1) _ _ (fun j hj => by have := hl (j + 1) (by simp; omega); simpa [Nat.add_assoc, Nat.add_comm 1 j] using this) (by omega) (upto_set hu) (inv.set hr' hkn) hB' hK)

/-- Pure operations, then a tail that begins at kt. -/
def lexP (md : Region.Mode) (ops : Array Oper) (g kt : Nat) : Nat → Nat → Array Bool → Bool
  | 0, _, listed => Region.seqB md ops g kt listed
  | c + 1, k, listed => (Region.ready md ops listed).contains k && (Region.free md ops listed k && lexP md ops g kt c (k + 1) (listed.setIfInBounds k true))

theorem wpAny_pure2 {Q : Exit → Act → World → Prop} {g kt : Nat} {lt : List Oper} (hsel : Region.noSelect ops = true) (hQ : ∀ c (a : Act) d v w, Q (.panic c) (a.put d v) w → Q (.panic c) a w) (w : World)
    (hl2 : ∀ j, lt[j]? = ops[kt + j]?) (hg : lt.length = g) :
    ∀ (l : List Oper) (k : Nat) (listed : Array Bool) (a : Act), (∀ j, j < l.length → l[j]? = ops[k + j]?) → (l.all fun o => pureOp o.op) = true →
    lexP md ops g kt l.length k listed = true → wpQuiet P ops (fun _ => True) (fun a' => wpList P ops Q lt a' w) l a → wpAny P md ops Q (l.length + g) listed a w := by
  intro l
  induction l with
  | nil =>
    intro k listed a _ _ hB h
    subst hg
    simp only [List.length_nil, Nat.zero_add]
    exact wpAny_of_seq lt kt listed a w hl2 (by simpa [lexP] using hB) h
  | cons o l ih =>
    intro k listed a hl hp hB h
    have h0 : ops[k]? = some o := by simpa using (hl 0 (by simp)).symm
    simp only [List.length_cons, lexP, Bool.and_eq_true] at hB
    simp only [List.all_cons, Bool.and_eq_true] at hp
    obtain ⟨hr, hf, hB'⟩ := hB
    obtain ⟨v, hy, hK⟩ := yieldsIn_of_qOp (C := fun _ => True) (P := P) (K := wpQuiet P ops (fun _ => True) (fun a' => wpList P ops Q lt a' w) l) (a := a) h0 (by unfold qOp; simp only [h0]; exact h)
    rw [List.length_cons, Nat.add_right_comm]
    refine wpAny_take h0 hsel hf hr (fun c a w' => hQ c a _ _ w') (yields_of_pure hp.1 hy) ?_
    exact ih (k + 1) _ _ (fun j hj => by have := hl (j + 1) (by simp; omega); simpa [Nat.add_assoc, Nat.add_comm 1 j] using this) hp.2 hB' hK

/-- An operation that does not look at slot d does the same where d holds another value. -/
theorem qOp_under {j : Nat} {oj : Oper} {d : Tmp} {p : Value} (hj : ops[j]? = some oj) (h1 : d ∉ oj.looksAt ops) (h2 : oj.dst ≠ some d) (hsj : ∀ cs b, oj.op ≠ .select cs b) {K : Act → Prop} {a : Act}
    (h : qOp P ops C j K a) : qOp P ops C j (fun a' => ∃ a0, a' = a0.put (some d) p ∧ K a0) (a.put (some d) p) := by
  have h1' : ∀ d', some d = some d' → d' ∉ oj.looksAt ops := fun d' e => by cases e; exact h1
  have h2' : ∀ d', some d = some d' → oj.dst ≠ some d' := fun d' e => by cases e; exact h2
  unfold qOp at *
  simp only [hj] at *
  rw [wanted_put oj a (some d) p h1']
  split
  · rename_i hw
    simp only [hw, if_true] at h
    obtain ⟨u, hu, hn⟩ := h
    refine ⟨u, fun w hw' => ?_, a.put oj.dst u, Act.put_comm a p u h2', hn⟩
    have := hu w hw'
    unfold Oper.quietAt at *
    rwa [execOp_put oj hsj a (some d) p h1']
  · rename_i hw
    simp only [hw] at h
    exact ⟨a.put oj.dst undef, Act.put_comm a p undef h2', h⟩

theorem wpQuiet_under {d : Tmp} {p : Value} {Kq : Act → Prop} : ∀ (l : List Oper) (a : Act), (∀ o ∈ l, d ∉ o.looksAt ops ∧ o.dst ≠ some d ∧ ∀ cs b, o.op ≠ .select cs b) →
    wpQuiet P ops C Kq l (a.put (some d) p) → wpQuiet P ops C (fun a' => Kq (a'.put (some d) p)) l a := by
  intro l
  induction l with
  | nil => intro a _ h; exact h
  | cons o l ih =>
    intro a ho h
    obtain ⟨h1, h2, hs⟩ := ho o (by simp)
    have h1' : ∀ d', some d = some d' → d' ∉ o.looksAt ops := fun d' e => by cases e; exact h1
    have h2' : ∀ d', some d = some d' → o.dst ≠ some d' := fun d' e => by cases e; exact h2
    unfold wpQuiet at h ⊢
    rw [wanted_put o a (some d) p h1'] at h
    split
    · rename_i hw
      simp only [hw, if_true] at h
      obtain ⟨u, hu, hn⟩ := h
      rw [Act.put_comm a p u h2'] at hn
      refine ⟨u, fun w hw' => ?_, ih _ (fun o' ho' => ho o' (by simp [ho'])) hn⟩
      have := hu w hw'
      unfold Oper.quietAt at *
      rwa [execOp_put o hs a (some d) p h1'] at this
    · rename_i hw
      simp only [hw, Bool.false_eq_true, if_false] at h
      rw [Act.put_comm a p undef h2'] at h
      exact ih _ (fun o' ho' => ho o' (by simp [ho'])) h

theorem qOp_join {w0 : World} {i : Nat} {a : Act} {K : World → Act → Prop} (h : ∀ S, Ext w0 S → qOp P ops (CL S) i (K S) a) : qOp P ops (CL w0) i (fun a' => ∀ S, Ext w0 S → K S a') a := by
  unfold qOp at *
  split
  · rename_i ho; intro S hS; have := h S hS; simpa [ho] using this
  · rename_i o ho
    simp only [ho] at h
    split
    · rename_i hw
      simp only [hw, if_true] at h
      obtain ⟨v, hv, _⟩ := h w0 (Ext.refl _)
      refine ⟨v, hv, fun S hS => ?_⟩
      obtain ⟨u, hu, hk⟩ := h S hS
      have e : v = u := by
        have e1 := hv S (cl_of hS)
        have e2 := hu S (cl_of (Ext.refl S))
        unfold Oper.quietAt at e1 e2
        exact quietUpon_val e1 e2
      rw [e]; exact hk
    · rename_i hw
      intro S hS
      have := h S hS
      simpa [hw] using this

theorem getD_set_f {listed : Array Bool} {f : Nat} : ∀ e b, e ≠ f → (listed.setIfInBounds f true).getD e b = listed.getD e b := fun e b he => getD_set_ne b (Ne.symm he)

/-- Behind the laying. -/
theorem anyHF_done {S : World} {n f g : Nat} {d : Tmp} {p : Value} {L : Array Bool → Act → Prop} {Q : Exit → Act → World → Prop} (hsel : Region.noSelect ops = true) (hh : headF md ops n f = true)
    (hap : ∀ j oj, j < n → ops[j]? = some oj → d ∉ oj.looksAt ops ∧ oj.dst ≠ some d)
    (hL : ∀ listed a w, Ext S w → L listed a → wpAny P md ops Q g (listed.setIfInBounds f true) (a.put (some d) p) w) :
    ∀ (c : Nat) (listed : Array Bool) (a : Act) (w : World), HeadInv md ops n listed → Ext S w → anyHF P md ops (CL S) n f L c listed a → wpAny P md ops Q (c + g) (listed.setIfInBounds f true) (a.put (some d) p) w := by
  have hh' := hh
  simp only [headF, Bool.and_eq_true, decide_eq_true_eq] at hh'
  obtain ⟨_, _, hh3, hnf, hfs⟩ := hh'
  intro c
  induction c with
  | zero => intro listed a w _ hw h; rw [Nat.zero_add]; exact hL _ _ _ hw h
  | succ c ih =>
    intro listed a w inv hw h
    obtain ⟨⟨i0, hi0, hi0n⟩, hall⟩ := h
    rw [Nat.succ_add]
    refine ⟨fun h0 => absurd h0 (List.ne_nil_of_mem (ready_mono hi0 (by omega))), fun j hj => ?_⟩
    have hjf : j ≠ f := by
      rintro rfl
      have := (mem_ready.1 hj).1
      have hsz : j < listed.size := by rw [inv.size]; exact hfs
      simp [hsz] at this
    have hjn : j < n := Nat.lt_of_not_le fun hge => head_waitsF hh inv getD_set_f hi0n (mem_ready.1 hi0).1 j hge hjf hj
    obtain ⟨hjun, oj, hoj, hed⟩ := mem_ready.1 hj
    have hj' : j ∈ Region.ready md ops listed := by
      refine mem_ready.2 ⟨by rw [getD_set_f _ _ hjf] at hjun; exact hjun, oj, hoj, fun e he hb => ?_⟩
      have h1 := hed e he hb
      rwa [getD_set_f _ _ (noEdge_spec (List.all_eq_true.1 hh3 j (List.mem_range.2 (by omega))) hoj e he hb)] at h1
    obtain ⟨h1, h2⟩ := hap j oj hjn hoj
    have hq := qOp_under (p := p) hoj h1 h2 (fun cs b => Region.noSelect_spec hsel j oj cs b hoj) (hall j hj' hjf).2
    refine wpOp_of_qOp (cl_of hw) ?_ hq
    rintro a' w' hw' ⟨a0, rfl, h3⟩
    have := ih (listed.setIfInBounds j true) a0 w' (inv.set hj' hjn) (cl_ext hw') h3
    rwa [Array.setIfInBounds_comm _ _ hjf] at this

/-- Ahead of it. -/
theorem anyHF_main {w0 : World} {n f g : Nat} {d : Tmp} {t : TypeId} {z : Array Value} {o : Oper} {L : Array Bool → Act → Prop} {Q : Exit → Act → World → Prop} (hsel : Region.noSelect ops = true) (hh : headF md ops n f = true)
    (hap : ∀ j oj, j < n → ops[j]? = some oj → d ∉ oj.looksAt ops ∧ oj.dst ≠ some d)
    (ho : ops[f]? = some o) (hd : o.dst = some d) (hgd : o.guard = none)
    (hal : ∀ (ρ : Operand → Value) w, (execOp ρ o).run P w = .ok (.value (.pointer (some ⟨w.heap.size, 0, none⟩))) (w.alloc (.cells z t)))
    (hL0 : ∀ listed a w, Ext w0 w → L listed a → wpAny P md ops Q (g + 1) listed a w)
    (hL1 : ∀ b S, Ext w0 S → w0.heap.size ≤ b → Blk S b z t → ∀ listed a w, Ext S w → L listed a → wpAny P md ops Q g (listed.setIfInBounds f true) (a.put (some d) (.pointer (some ⟨b, 0, none⟩))) w) :
    ∀ (c : Nat) (listed : Array Bool) (a : Act) (w : World), HeadInv md ops n listed → Ext w0 w → (∀ S, Ext w0 S → anyHF P md ops (CL S) n f L c listed a) → wpAny P md ops Q (c + (g + 1)) listed a w := by
  intro c
  induction c with
  | zero => intro listed a w _ hw h; rw [Nat.zero_add]; exact hL0 _ _ _ hw (h w0 (Ext.refl _))
  | succ c ih =>
    intro listed a w inv hw h
    obtain ⟨⟨i0, hi0, hi0n⟩, hall⟩ := h w0 (Ext.refl _)
    rw [Nat.succ_add]
    refine ⟨fun h0 => absurd h0 (List.ne_nil_of_mem hi0), fun j hj => ?_⟩
    by_cases hjf : j = f
    · subst hjf
      unfold wpOp
      simp only [ho]
      have hw1 : Region.wanted o (yielded ops a.tmps) = true := by unfold Region.wanted; simp [hgd]
      rw [if_pos hw1]
      refine .inl ?_
      unfold Oper.wp Oper.upon
      rw [hal]
      dsimp only
      rw [hd]
      have hS : Ext w0 (w.alloc (.cells z t)) := hw.alloc _
      have := anyHF_done (Q := Q) (g := g) hsel hh hap (hL1 w.heap.size _ hS hw.size (Blk.new w z t)) (c + 1) listed a _ inv (Ext.refl _) (h _ hS)
      rwa [show c + 1 + g = c + (g + 1) by omega] at this
    · have hjn := (hall j hj hjf).1
      have hq := qOp_join (w0 := w0) (K := fun S => anyHF P md ops (CL S) n f L c (listed.setIfInBounds j true)) fun S hS => ((h S hS).2 j hj hjf).2
      exact wpOp_of_qOp (cl_of hw) (fun a' w' hw' hk => ih _ a' w' (inv.set hj hjn) (cl_ext hw') hk) hq

/-- **The law.** -/
theorem wp_region_alloc {id : Nat} {Q : Exit → Act → World → Prop} {a : Act} {w : World} {l : List Oper} (n m : Nat) (d : Tmp) (t : TypeId) (z : Array Value) (o : Oper) (ho : l[n + m]? = some o) (hd : o.dst = some d) (hgd : o.guard = none)
    (hal : ∀ (ρ : Operand → Value) w, (execOp ρ o).run P w = .ok (.value (.pointer (some ⟨w.heap.size, 0, none⟩))) (w.alloc (.cells z t)))
    (hm : P.follows .mixedOrders = true)
    (hB : (Region.noSelect l.toArray && (headF .any l.toArray n (n + m) && (lexH .any l.toArray (fun ls => lexP .any l.toArray (l.length - (n + m)) (n + m) m n ls && lexP .any l.toArray (l.length - (n + m + 1)) (n + m + 1) m n (ls.setIfInBounds (n + m) true)) n 0 (Array.replicate l.length false) &&
      ((((l.drop n).take m).all fun o => pureOp o.op) && (List.range (n + m)).all fun j => match l[j]? with | some oj => !(oj.looksAt l.toArray).contains d && oj.dst != some d | none => true)))) = true)
    (hQ : ∀ c (a : Act) d v w, Q (.panic c) (a.put d v) w → Q (.panic c) a w)
    (h : ∀ S, Ext w S → wpQuiet P l.toArray (fun w' => ∃ y : Later S, w' = y.at') (fun a' => ∀ w' b, Ext w w' → w.heap.size ≤ b → Blk w' b z t →
      wpQuiet P l.toArray (fun _ => True) (fun a'' => wpList P l.toArray Q (l.drop (n + m + 1)) a'' w') ((l.drop n).take m) (a'.put (some d) (.pointer (some ⟨b, 0, none⟩)))) (l.take n) a) :
    (Code.region id l.toArray true).wp P Q a w := by
  simp only [Bool.and_eq_true] at hB
  obtain ⟨hsel, hh, hlex, hpure, hap⟩ := hB
  have hh' := hh
  simp only [headF, Bool.and_eq_true, decide_eq_true_eq] at hh'
  obtain ⟨_, _, _, hnf, hfs⟩ := hh'
  have hfl : n + m < l.length := by simpa using hfs
  have hap' : ∀ j oj, j < n + m → l[j]? = some oj → d ∉ oj.looksAt l.toArray ∧ oj.dst ≠ some d := by
    intro j oj hj hoj
    have := List.all_eq_true.1 hap j (List.mem_range.2 hj)
    simpa [hoj] using this
  have htl : (l.take n).length = n := by simp; omega
  have hml : ((l.drop n).take m).length = m := by simp; omega
  have inv0 : HeadInv .any l.toArray n (Array.replicate l.length false) :=
    ⟨by simp, fun j oj _ hl => absurd hl (by rw [getD_replicate_false]; simp), fun t _ ht => getD_in (by simpa using ht) (getD_replicate_false _ _)⟩
  have hmem : ∀ o' ∈ (l.drop n).take m, d ∉ o'.looksAt l.toArray ∧ o'.dst ≠ some d ∧ ∀ cs b, o'.op ≠ .select cs b := by
    intro o' ho'
    obtain ⟨j, hj⟩ := List.getElem?_of_mem ho'
    rw [List.getElem?_take] at hj
    split at hj
    · rw [List.getElem?_drop] at hj
      obtain ⟨h1, h2⟩ := hap' (n + j) o' (by omega) hj
      exact ⟨h1, h2, fun cs b => Region.noSelect_spec hsel (n + j) o' cs b (by simpa using hj)⟩
    · cases hj
  have hxd : Ext w w.drew := (Ext.refl w).drew
  have H : ∀ S, Ext w.drew S → anyHF P .any l.toArray (CL S) n (n + m) (fun listed' a' => (upto listed' n ∧ (lexP .any l.toArray (l.length - (n + m)) (n + m) m n listed' && lexP .any l.toArray (l.length - (n + m + 1)) (n + m + 1) m n (listed'.setIfInBounds (n + m) true)) = true) ∧
      ∀ w' b, Ext w w' → w.heap.size ≤ b → Blk w' b z t → wpQuiet P l.toArray (fun _ => True) (fun a'' => wpList P l.toArray Q (l.drop (n + m + 1)) a'' w') ((l.drop n).take m) (a'.put (some d) (.pointer (some ⟨b, 0, none⟩)))) n (Array.replicate l.length false) a := by
    intro S hS
    have := anyHF_lex (P := P) (C := CL S) (md := .any) (n := n) (f := n + m) hsel hh (l.take n) 0 _ a (fun j hj => by rw [htl] at hj; simp [List.getElem?_take_of_lt hj]) (by simpa using htl) (fun j hj => by omega) inv0 (by rw [htl]; exact hlex) (h S (hxd.trans hS))
    rwa [htl] at this
  have R := anyHF_main (Q := Q) (w0 := w.drew) (g := m + (l.length - (n + m + 1))) hsel hh (fun j oj hj hoj => hap' j oj (by omega) (by simpa using hoj)) (by simpa using ho) hd hgd hal
    (fun listed a' w' hw' hL => by
      obtain ⟨⟨_, hX⟩, hq⟩ := hL
      simp only [Bool.and_eq_true] at hX
      have hlt : l.drop (n + m) = o :: l.drop (n + m + 1) := by
        rw [List.drop_eq_getElem_cons hfl]
        congr 1
        rw [List.getElem?_eq_getElem hfl] at ho
        exact Option.some.inj ho
      have h1 := hq (w'.alloc (.cells z t)) w'.heap.size ((hxd.trans hw').alloc _) (hxd.trans hw').size (Blk.new w' z t)
      have h2 := wpQuiet_under _ _ hmem h1
      have := wpAny_pure2 (P := P) (md := .any) (Q := Q) (g := l.length - (n + m)) (kt := n + m) (lt := l.drop (n + m)) hsel hQ w' (fun j => by simp [List.getElem?_drop]) (by simp) ((l.drop n).take m) n listed a'
        (fun j hj => by rw [hml] at hj; simp [List.getElem?_take_of_lt hj, List.getElem?_drop]) hpure (by rw [hml]; exact hX.1) (by
          have hmono : ∀ (l' : List Oper) (a : Act) (K K' : Act → Prop), (∀ a, K a → K' a) → wpQuiet P l.toArray (fun _ => True) K l' a → wpQuiet P l.toArray (fun _ => True) K' l' a := by
            intro l'
            induction l' with
            | nil => intro a K K' hk h; exact hk a h
            | cons o' l' ih =>
              intro a K K' hk h
              unfold wpQuiet at h ⊢
              split
              · rename_i hw; simp only [hw, if_true] at h; obtain ⟨u, hu, hn⟩ := h; exact ⟨u, hu, ih _ _ _ hk hn⟩
              · rename_i hw; simp only [hw, Bool.false_eq_true, if_false] at h; exact ih _ _ _ hk h
          refine hmono _ _ _ _ ?_ h2
          intro a'' h3
          rw [hlt]
          unfold wpList
          have hw1 : Region.wanted o (yielded l.toArray a''.tmps) = true := by unfold Region.wanted; simp [hgd]
          rw [if_pos hw1]
          refine .inl ?_
          unfold Oper.wp Oper.upon
          rw [hal]
          dsimp only
          rw [hd]
          exact h3)
      rw [hml, show m + (l.length - (n + m)) = m + (l.length - (n + m + 1)) + 1 by omega] at this
      exact this)
    (fun b S hS hb hblk listed a' w' hw' hL => by
      obtain ⟨⟨_, hX⟩, hq⟩ := hL
      simp only [Bool.and_eq_true] at hX
      have h1 := hq w' b ((hxd.trans hS).trans hw') hb (hblk.ext hw')
      have := wpAny_pure2 (P := P) (md := .any) (Q := Q) (g := l.length - (n + m + 1)) (kt := n + m + 1) (lt := l.drop (n + m + 1)) hsel hQ w' (fun j => by simp [List.getElem?_drop]) (by simp) ((l.drop n).take m) n (listed.setIfInBounds (n + m) true) _
        (fun j hj => by rw [hml] at hj; simp [List.getElem?_take_of_lt hj, List.getElem?_drop]) hpure (by rw [hml]; exact hX.2) h1
      rwa [hml] at this)
    n _ a w.drew inv0 (Ext.refl _) H
  rw [show n + (m + (l.length - (n + m + 1)) + 1) = l.toArray.size by simp; omega] at R
  exact wp_region_any hm (by simpa using R)

end

end Go.Proofs.YthkfkfbfblppeaaGreat
