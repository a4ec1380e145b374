/- Regions that draw their order inside the wide fence, in a round or not: what was shown of all orders holds there too. Conditions: no defer statement in the region. -/
import Derived.Test.YtoicjiiifffciaaReg6
import Derived.Test.YtoicjiiifffciaaDown
namespace Go.Proofs.Ytoicjiiifffciaa
set_option linter.unusedSimpArgs false
set_option linter.unusedVariables false
open Go.RowKit

section
variable {P : Program} {n : Nat}

/-- Either the wide fence, or a round in it. -/
def Wide (F : Fence) : Prop := F = Fence.wide ∨ ∃ l, F = Fence.wide.inRound l

theorem Wide.calls {F : Fence} (h : Wide F) {m : Nat} {f : FuncId} {args : Array Value} {w : World} {R : Ending → World → Prop} (hc : Calls P f args w R) : CallsIn F m P f args w R := by
  rcases h with rfl | ⟨l, rfl⟩
  · exact callsIn_wide.2 hc
  · exact CallsIn.inRound l (callsIn_wide.2 hc)
theorem Wide.fn {F : Fence} (h : Wide F) (f : FuncId) : F.fn f := by
  rcases h with rfl | ⟨l, rfl⟩ <;> trivial
theorem Wide.depth {F : Fence} (h : Wide F) : F.depth.isSome = true → 1 ≤ n := by
  rcases h with rfl | ⟨l, rfl⟩ <;> (intro h; cases h)

theorem semAt_nd (r : Option Nat) (ρ : Operand → Value) (o : Oper) (h : ∀ c, o.op ≠ .defer c) : o.semAt r ρ = execOp ρ o := by
  unfold Oper.semAt
  split
  · rename_i c hc; exact absurd hc (h _)
  · rfl

theorem qOp_wpOpIn {F : Fence} (hF : Wide F) {ops : Array Oper} {C : World → Prop} {Q : Exit → Act → World → Prop} {i : Nat} {a : Act} {K : Act → Prop} {K' : Act → World → Prop} {w : World} (hd : ∀ (j : Nat) (o : Oper), ops[j]? = some o → ∀ c, o.op ≠ .defer c)
    (hC : C w) (h : ∀ a w', C w' → K a → K' a w') (hh : qOp P ops C i K a) : wpOpIn F n P ops Q i K' a w := by
  unfold qOp at hh
  unfold wpOpIn
  split
  · rename_i ho; simp only [ho] at hh; exact h _ _ hC hh
  · rename_i o ho
    simp only [ho] at hh
    split
    · rename_i hw
      simp only [hw, if_true] at hh
      obtain ⟨v, h1, h2⟩ := hh
      have h3 := h1 w hC
      refine ⟨fun f _ => hF.fn f, ?_⟩
      rw [semAt_nd _ _ _ (hd i o ho)]
      unfold Oper.quietAt at h3
      generalize (execOp a.eval o).run P w = r at h3
      cases r with
      | ok x w' =>
        cases x <;> simp only [Oper.quietUpon] at h3
        case value u => obtain ⟨rfl, rfl⟩ := h3; exact h _ _ hC h2
        case skip => obtain ⟨rfl, rfl⟩ := h3; exact h _ _ hC h2
        case enter f args =>
          obtain ⟨rfl, h4⟩ := h3
          refine ⟨hF.depth, hF.calls (Calls.mono h4 ?_)⟩
          rintro e w'' ⟨rfl, hw''⟩
          exact h _ _ hw'' h2
      | halt x w' => simp only [Oper.quietUpon] at h3
    · rename_i hw; simp only [hw] at hh; exact ⟨fun f _ => hF.fn f, h _ _ hC hh⟩

theorem yields_wpOpInW {F : Fence} (hF : Wide F) {ops : Array Oper} {Q : Exit → Act → World → Prop} {i : Nat} {o : Oper} {v : Value} {a : Act} (hd : ∀ c, o.op ≠ .defer c) (hi : ops[i]? = some o) (hy : Yields P ops o v a)
    {K : Act → World → Prop} {w : World} (h : K (a.put o.dst v) w) : wpOpIn F n P ops Q i K a w := by
  unfold Go.wpOpIn
  simp only [hi]
  rcases hy with ⟨hw, hv⟩ | ⟨hw, rfl⟩
  · simp only [hw, if_true, Oper.wpIn, semAt_nd _ _ _ hd, hv w, Oper.uponIn]; exact ⟨fun f _ => hF.fn f, h⟩
  · simp only [hw, Bool.false_eq_true, if_false]; exact ⟨fun f _ => hF.fn f, h⟩

theorem wpOpIn_putW {F : Fence} (hF : Wide F) {ops : Array Oper} {Q : Exit → Act → World → Prop} {j : Nat} {oi oj : Oper} {v : Value} (hdj : ∀ c, oj.op ≠ .defer c) (hj : ops[j]? = some oj) (hap : oi.apart ops oj = true)
    (hsi : ∀ cs b, oi.op ≠ .select cs b) (hsj : ∀ cs b, oj.op ≠ .select cs b)
    (hQ : ∀ c a w, Q (.panic c) (a.put oi.dst v) w → Q (.panic c) a w) {K : Act → World → Prop} {a : Act} {w : World}
    (hy : Yields P ops oi v a) (h : wpOpIn F n P ops Q j K (a.put oi.dst v) w) :
    wpOpIn F n P ops Q j (fun a' w' => Yields P ops oi v a' ∧ K (a'.put oi.dst v) w') a w := by
  obtain ⟨h1, h2, h3⟩ := Oper.apart_spec hap
  have keep : ∀ (a : Act), Yields P ops oi v a → ∀ u, Yields P ops oi v (a.put oj.dst u) := fun a hy u =>
    hy.of_same (execOp_put oi hsi a oj.dst u h3) (wanted_put oi a oj.dst u h3)
  have keepD : ∀ d, Yields P ops oi v { a with defers := d :: a.defers } := fun d => hy.of_same rfl rfl
  unfold wpOpIn at *
  simp only [hj] at *
  rw [wanted_put oj a oi.dst v h1] at h
  split
  · rename_i hw
    simp only [hw, if_true] at h
    refine ⟨fun f _ => hF.fn f, ?_⟩
    have h := h.2
    rw [semAt_nd _ _ _ hdj, execOp_put oj hsj a oi.dst v h1] at h
    rw [semAt_nd _ _ _ hdj]
    generalize (execOp a.eval oj).run P w = r at *
    cases r with
    | ok x w' =>
      cases x <;> simp only [Oper.uponIn] at h ⊢
      case value u => exact ⟨keep a hy u, by rw [← Act.put_comm a v u h2]; exact h⟩
      case skip => exact ⟨keep a hy _, by rw [← Act.put_comm a v undef h2]; exact h⟩
      case defer d =>
        refine ⟨keep _ (keepD d) _, ?_⟩
        rw [← Act.put_comm _ v undef h2, ← Act.put_defers]
        exact h
      case enter f args =>
        refine ⟨h.1, CallsIn.mono h.2 fun e w'' he => ?_⟩
        cases e with
        | returned u => exact ⟨keep a hy u, by rw [← Act.put_comm a v u h2]; exact he⟩
        | panicked c => exact hQ _ _ _ he
        | outgrown => exact he
      case row row args => exact ⟨h.1, RowsIn.mono h.2 fun u w'' he => ⟨keep a hy u, by rw [← Act.put_comm a v u h2]; exact he⟩⟩
      case round l f tmps assign body =>
        refine ⟨h.1, RoundIn.mono h.2 fun e w'' he => ?_⟩
        cases e with
        | returned u => exact ⟨keep a hy u, by rw [← Act.put_comm a v u h2]; exact he⟩
        | panicked c => exact hQ _ _ _ he
        | outgrown => exact he
    | halt x w' =>
      cases x <;> simp only [Oper.uponIn] at h ⊢
      case panic u => exact hQ _ _ _ h
  · rename_i hw
    simp only [hw] at h
    exact ⟨fun f _ => hF.fn f, keep a hy _, by rw [← Act.put_comm a v undef h2]; exact h.2⟩

theorem wpAnyIn_firstW {F : Fence} (hF : Wide F) {ops : Array Oper} {md : Region.Mode} {Q : Exit → Act → World → Prop} {i : Nat} {oi : Oper} {v : Value} (hd : ∀ (j : Nat) (o : Oper), ops[j]? = some o → ∀ c, o.op ≠ .defer c) (hi : ops[i]? = some oi)
    (hsel : ∀ (j : Nat) (o : Oper) cs b, ops[j]? = some o → o.op ≠ .select cs b) (hQ : ∀ c a w, Q (.panic c) (a.put oi.dst v) w → Q (.panic c) a w) :
    ∀ (fuel : Nat) (listed : Array Bool) (a : Act) (w : World),
      (∀ j oj, ops[j]? = some oj → j ≠ i → listed.getD j true = false → (∀ e ∈ oj.after, Region.binds md e = true → e.on ≠ i) → oi.apart ops oj = true) →
      i ∈ Region.ready md ops listed → Yields P ops oi v a →
      wpAnyIn F n P md ops Q fuel (listed.setIfInBounds i true) (a.put oi.dst v) w → wpAnyIn F n P md ops Q (fuel + 1) listed a w := by
  intro fuel
  induction fuel with
  | zero =>
    intro listed a w _ hr hy H
    refine ⟨fun h => (by rw [h] at hr; cases hr), fun j hj => ?_⟩
    by_cases hji : j = i
    · subst hji; exact yields_wpOpInW hF (hd _ _ hi) hi hy H
    · have := ready_mono hj hji
      rw [H.1] at this
      cases this
  | succ fuel ih =>
    intro listed a w hfree hr hy H
    refine ⟨fun h => (by rw [h] at hr; cases hr), fun j hj => ?_⟩
    by_cases hji : j = i
    · subst hji; exact yields_wpOpInW hF (hd _ _ hi) hi hy H
    · have h1 := H.2 j (ready_mono hj hji)
      obtain ⟨hjun, oj, hoj, hall⟩ := mem_ready.1 hj
      have hnot : ∀ e ∈ oj.after, Region.binds md e = true → e.on ≠ i := fun e he hb heq => by
        have h1 := hall e he hb
        rw [heq, getD_both (mem_ready.1 hr).1] at h1
        exact Bool.false_ne_true h1
      have h2 := wpOpIn_putW hF (hd _ _ hoj) hoj (hfree j oj hoj hji hjun hnot) (fun cs b => hsel i oi cs b hi) (fun cs b => hsel j oj cs b hoj) hQ hy h1
      refine wpOpIn_mono (fun a' w' h3 => ih (listed.setIfInBounds j true) a' w' (fun k ok hk hki hun hno => ?_) (ready_mono hr (Ne.symm hji)) h3.1 ?_) h2
      · refine hfree k ok hk hki ?_ hno
        by_cases hjk : j = k
        · exact hjk ▸ hjun
        · rwa [getD_set_ne true hjk] at hun
      · rw [Array.setIfInBounds_comm _ _ hji]
        exact h3.2

theorem anys_in {F : Fence} (hF : Wide F) {ops : Array Oper} {md : Region.Mode} {C : World → Prop} {Q : Exit → Act → World → Prop} (hd : ∀ (j : Nat) (o : Oper), ops[j]? = some o → ∀ c, o.op ≠ .defer c) (hsel : Region.noSelect ops = true)
    (hQ : ∀ c (a : Act) d v w, Q (.panic c) (a.put d v) w → Q (.panic c) a w) : Anys P md ops C (wpAnyIn F n P md ops Q) where
  all := fun f listed a w hw hne h => ⟨fun h0 => absurd h0 hne, fun i hi => qOp_wpOpIn hF hd hw (fun a' w' hw' h' => h' w' hw') (h i hi)⟩
  first := fun i oi v f listed a w hi hfree hr _ hy h => wpAnyIn_firstW hF hd hi (Region.noSelect_spec hsel) (fun c a w' => hQ c a _ _ w') f listed a w hfree hr hy h

theorem wpAnyIn_of_seq {F : Fence} {ops : Array Oper} {md : Region.Mode} {Q' : Exit → Act → World → Prop} : ∀ (l : List Oper) (k : Nat) (listed : Array Bool) (a : Act) (w : World), (∀ j, l[j]? = ops[k + j]?) →
    Region.seqB md ops l.length k listed = true → wpListIn F n P ops Q' l a w → wpAnyIn F n P md ops Q' l.length listed a w
  | [], _, _, _, _, _, hB, h => ⟨by simpa [Region.seqB] using hB, h⟩
  | o :: l, k, listed, a, w, hl, hB, h => by
    have h0 : ops[k]? = some o := by simpa using (hl 0).symm
    simp only [List.length_cons, Region.seqB, Bool.and_eq_true, decide_eq_true_eq] at hB
    refine ⟨fun h1 => (by rw [hB.1] at h1; cases h1), fun i hi => ?_⟩
    rw [hB.1] at hi
    have hik : i = k := by simpa using hi
    subst hik
    have hw : wpOpIn F n P ops Q' i (wpListIn F n P ops Q' l) a w := by unfold wpOpIn; simp only [h0]; exact h
    exact wpOpIn_mono (fun a' w' h' => wpAnyIn_of_seq l (i + 1) _ a' w' (fun j => by have := hl (j + 1); simpa [Nat.add_assoc, Nat.add_comm 1 j] using this) hB.2 h') hw

/-- No defer statement. -/
def noDf (l : List Oper) : Bool := l.all fun o => match o.op with | .defer _ => false | _ => true
theorem noDf_spec {l : List Oper} (h : noDf l = true) (j : Nat) (o : Oper) (ho : l.toArray[j]? = some o) : ∀ c, o.op ≠ .defer c := by
  intro c heq
  have hm : o ∈ l := List.mem_of_getElem? (by simpa using ho)
  have := List.all_eq_true.1 h o hm
  simp [heq] at this

theorem wpIn_region_qxtE {F : Fence} (hF : Wide F) {id : Nat} {Q : Exit → Act → World → Prop} {a : Act} {w : World} {l : List Oper} (n' m k : Nat) (hm : P.follows .mixedOrders = true) (hd : noDf l = true)
    (hB : (Region.noSelect l.toArray && (headX .any l.toArray n' m (n' + m + k) && (decide (n' + m + k ≤ l.length) && (Region.lexHead .any l.toArray (l.length - (n' + m + k)) (n' + m + k) 0 (Array.replicate l.length false) && ((l.drop n').take m).all fun o => pureOp o.op)))) = true)
    (hQ : ∀ c (a : Act) d v w, Q (.panic c) (a.put d v) w → Q (.panic c) a w)
    (h : wpQuiet P l.toArray (fun w' => ∃ y : Later w, w' = y.at') (fun a0 => wpQuiet P l.toArray (fun _ => True) (fun a1 => wpQuiet P l.toArray (fun w' => ∃ y : Later w, w' = y.at') (fun a' => ∀ w', (∃ y : Later w, w' = y.at') → wpListIn F n P l.toArray Q (l.drop (n' + m + k)) a' w') ((l.drop (n' + m)).take k) a1) ((l.drop n').take m) a0) (l.take n') a) :
    (Code.region id l.toArray true).wpIn F n P Q a w := by
  have R := any_qxt (C := fun w' => ∃ y : Later w, w' = y.at') (w := w.drew) (T := fun a' w' => wpListIn F n P l.toArray Q (l.drop (n' + m + k)) a' w') n' m k (anys_in (n := n) hF (noDf_spec hd) (noSel_of hB) hQ) hB ⟨⟨w.drew, (Ext.refl w).drew⟩, rfl⟩
    (fun listed a w hs h => by
      have := wpAnyIn_of_seq (F := F) (n := n) (md := .any) (Q' := Q) (P := P) (ops := l.toArray) (l.drop (n' + m + k)) (n' + m + k) listed a w (fun j => by simp [List.getElem?_drop]) (by rw [List.length_drop]; exact hs) h
      rwa [List.length_drop] at this) h
  exact wpIn_region_any hm (by simpa using R)

/-- An operation that looks at no memory, taken first. -/
theorem takeW {F : Fence} (hF : Wide F) {ops : Array Oper} {md : Region.Mode} {Q : Exit → Act → World → Prop} {i : Nat} {oi : Oper} {v : Value} {fuel : Nat} {listed : Array Bool} {a : Act} {w : World} (hi : ops[i]? = some oi)
    (hd : noDf ops.toList = true) (hs : Region.noSelect ops = true) (hf : Region.free md ops listed i = true) (hr : (Region.ready md ops listed).contains i = true)
    (hQ : ∀ c (a : Act) d v w, Q (.panic c) (a.put d v) w → Q (.panic c) a w) (hy : Yields P ops oi v a)
    (h : wpAnyIn F n P md ops Q fuel (listed.setIfInBounds i true) (a.put oi.dst v) w) : wpAnyIn F n P md ops Q (fuel + 1) listed a w :=
  wpAnyIn_firstW hF (fun j o ho => noDf_spec hd j o (by simpa using ho)) hi (Region.noSelect_spec hs) (fun c a w' => hQ c a _ _ w') fuel listed a w (Region.free_spec hi hf) (by simpa using hr) hy h

/-- The marks that loops over iterators have left. -/
def Marks (B : Nat) (ds : List Deferred) (W : World) : Prop :=
  ∃ rs : List Nat, ds = rs.map (fun r => { target := .collected r, args := #[] }) ∧ rs.Nodup ∧ ∀ r ∈ rs, B < r ∧ W.heap[r]? = some (.deferred (some []))

theorem Marks.nil (B : Nat) (W : World) : Marks B [] W := ⟨[], rfl, List.nodup_nil, fun r h => by cases h⟩
theorem Marks.fr {B : Nat} {ds : List Deferred} {W W' : World} (h : Marks B ds W) (e : ∀ i, i < W.heap.size → B < i → W'.heap[i]? = W.heap[i]?) : Marks B ds W' := by
  obtain ⟨rs, h1, h2, h3⟩ := h
  exact ⟨rs, h1, h2, fun r hr => ⟨(h3 r hr).1, (e r (Array.getElem?_eq_some_iff.1 (h3 r hr).2).1 (h3 r hr).1).trans (h3 r hr).2⟩⟩
theorem Marks.cons {B m : Nat} {ds : List Deferred} {W W0 : World} (h : Marks B ds W) (h0 : Marks B ds W0) (hm : W0.heap.size ≤ m) (hB : B < m) (hD : W.heap[m]? = some (.deferred (some []))) : Marks B ({ target := .collected m, args := #[] } :: ds) W := by
  obtain ⟨rs, h1, h2, h3⟩ := h
  obtain ⟨rs0, g1, g2, g3⟩ := h0
  have e : rs0 = rs := by
    have := g1.symm.trans h1
    have inj : Function.Injective (fun r : Nat => ({ target := .collected r, args := #[] } : Deferred)) := fun a b h => by injection h with h; injection h
    exact (List.map_inj_right (fun a b h => inj h)).1 this
  subst e
  refine ⟨m :: rs0, by rw [h1]; rfl, List.nodup_cons.2 ⟨fun hm' => ?_, h2⟩, fun r hr => ?_⟩
  · have := (Array.getElem?_eq_some_iff.1 (g3 m hm').2).1; omega
  · rcases List.mem_cons.1 hr with rfl | hr
    · exact ⟨hB, hD⟩
    · exact h3 r hr

theorem leaves_marks {F : Fence} {fn : Func} {tmps : Array Value} {R : Ending → World → Prop} {B : Nat} : ∀ (rs : List Nat) (W : World), rs.Nodup → (∀ r ∈ rs, B < r ∧ W.heap[r]? = some (.deferred (some []))) →
    (∀ W', Below (B + 1) W W' → LeavesInM F n P fn tmps R [] .returning W') → LeavesInM F n P fn tmps R (rs.map (fun r => { target := .collected r, args := #[] })) .returning W := by
  intro rs
  induction rs with
  | nil => intro W _ _ h; exact h W (Below.refl _ _)
  | cons r rs ih =>
    intro W hn hm h
    obtain ⟨hr, hk⟩ := hm r (by simp)
    refine ⟨by simp, .inl ⟨r, _, rfl, run_takeDeferred hk, ?_⟩⟩
    have hb : Below (B + 1) W (W.putObj r (.deferred none)) := ⟨rfl, rfl, rfl, by simp, fun i hi => World.putObj_heap_other (by omega)⟩
    refine ih _ (List.nodup_cons.1 hn).2 (fun r' hr' => ⟨(hm r' (by simp [hr'])).1, ?_⟩) (fun W' hb' => h W' (hb.trans hb'))
    have hne : r' ≠ r := fun e => by subst e; exact (List.nodup_cons.1 hn).1 hr'
    exact (World.putObj_heap_other hne).trans (hm r' (by simp [hr'])).2

theorem Marks.leaves {F : Fence} {fn : Func} {tmps : Array Value} {R : Ending → World → Prop} {B : Nat} {ds : List Deferred} {W : World} (h : Marks B ds W)
    (hr : ∀ W', Below (B + 1) W W' → LeavesInM F n P fn tmps R [] .returning W') : LeavesInM F n P fn tmps R ds .returning W := by
  obtain ⟨rs, rfl, h2, h3⟩ := h
  exact leaves_marks rs W h2 h3 hr

end
end Go.Proofs.Ytoicjiiifffciaa
