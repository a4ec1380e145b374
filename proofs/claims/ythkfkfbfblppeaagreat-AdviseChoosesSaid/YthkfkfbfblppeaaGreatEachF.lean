/- Regions that draw their order, met operation by operation, with one pure operation that may come behind the first store (an extract of an error). Conditions: as each states. -/
import Derived.Test.YthkfkfbfblppeaaGreatEach
import Derived.Test.YthkfkfbfblppeaaGreatGB
namespace Go.Proofs.YthkfkfbfblppeaaGreat
set_option linter.unusedSimpArgs false
set_option linter.unusedVariables false
open Go.RowKit

section
variable {P : Program} {l : List Oper} {n : Nat} {Q : Exit → Act → World → Prop} {J : Nat → Value → World → Prop}

/-- The floating operation yields one value, in whatever world. -/
def FloatStep (P : Program) (l : List Oper) (n : Nat) (J : Nat → Value → World → Prop) (a0 : Act) (w : World) (j : Nat) (o : Oper) : Prop :=
  ∀ (a : Act) (W : World), Ext w W → (∀ i, (fills (l.take n)).contains i = false → a.tmps.getD i undef = a0.tmps.getD i undef) →
    (∀ (e : Nat) (oe : Oper) (d : Tmp), l[e]? = some oe → oe.dst = some d → ((waits o).contains e && decide (e < n)) = true → J e (a.tmps.getD d undef) W) →
    ∃ v, (∀ w', (execOp a.eval o).run P w' = .ok (.value v) w') ∧ J j v W

/-- One operation floats. -/
def eachFloatB (l : List Oper) (n f : Nat) : Bool :=
  decide (n < l.length) && (decide (f < n) && (Region.noSelect l.toArray && (headX .any l.toArray f 1 n && (Region.seqB .any l.toArray (l.length - n) n (headDone n l.length) && (eachB 0 (l.take n) [] &&
    ((List.range l.length).all fun j => decide (j < n) || match l[f]?, l[j]? with
      | some o, some oj => o.guard.isNone && (o.apart l.toArray oj || oj.after.any fun e => Region.binds .any e && e.on == f)
      | _, _ => false))))))

theorem wpAny_eachF {a0 : Act} {w : World} {g f : Nat} {o9 : Oper} (hn : n ≤ l.length) (hfn : f < n) (hof : l[f]? = some o9) (hg9 : o9.guard = none) (hsel : Region.noSelect l.toArray = true) (hQ : ∀ c (a : Act) d v w, Q (.panic c) (a.put d v) w → Q (.panic c) a w)
    (hB : eachB 0 (l.take n) [] = true) (hR : ∀ d ∈ fills (l.take n), d < a0.tmps.size) (hJ : ∀ j v W W', J j v W → Ext W W' → J j v W') (hS : EachSteps P l n Q J a0 w 0 (l.take n))
    (hap : ∀ j oj, l[j]? = some oj → n ≤ j → (∀ e ∈ oj.after, Region.binds .any e = true → e.on ≠ f) → o9.apart l.toArray oj = true)
    (hF : FloatStep P l n J a0 w f o9)
    (hwait : ∀ listed, HeadInv .any l.toArray n listed → ∀ i, i < n → i ≠ f → listed.getD i true = false → ∀ j ∈ Region.ready .any l.toArray listed, j < n)
    (hfin : ∀ listed a W, EachInv l n J a0 w listed a W → (∀ j, j < n → listed.getD j false = true) → wpAny P .any l.toArray Q g listed a W) : ∀ (k : Nat) (listed : Array Bool) (a : Act) (W : World), (still n listed).length = k → EachInv l n J a0 w listed a W → wpAny P .any l.toArray Q (k + g) listed a W := by
  intro k
  induction k with
  | zero =>
    intro listed a W hf inv
    rw [Nat.zero_add]
    refine hfin listed a W inv (none_still hn hB (by simpa using inv.head.size) fun j hj hm => ?_)
    have h1 := (mem_ready.1 hm).1
    have h3 : j ∈ still n listed := List.mem_filter.2 ⟨List.mem_range.2 hj, by rw [h1]; rfl⟩
    rw [List.length_eq_zero_iff.1 hf] at h3
    cases h3
  | succ k ih =>
    intro listed a W hf inv
    rw [show k + 1 + g = (k + g) + 1 by omega]
    by_cases hex : ∃ i, i < n ∧ i ≠ f ∧ listed.getD i true = false
    · obtain ⟨i, hi, hif, hiu⟩ := hex
      refine ⟨fun hr => ?_, fun j hj => ?_⟩
      · exfalso
        have := none_still hn hB (by simpa using inv.head.size) (fun j _ hm => by rw [hr] at hm; cases hm) i hi
        rw [getD_both hiu] at this
        cases this
      · have hjn := hwait listed inv.head i hi hif hiu j hj
        obtain ⟨h1, o, h2, h3⟩ := mem_ready.1 hj
        have h2' : l[j]? = some o := by simpa using h2
        have hst := EachSteps.get (l.take n) 0 hS j o (by rw [take_get hjn]; exact h2')
        rw [Nat.zero_add] at hst
        refine wpOp_step h2 fun K' hK => hst a W inv.ext inv.base (fun e oe d he hd hwt => ?_) K' fun v W' hx hv => hK _ _ (ih _ _ _ ?_ (inv.step hB hR hJ hjn h2' hj hx hv))
        · simp only [Bool.and_eq_true, decide_eq_true_eq] at hwt
          obtain ⟨eg, k1, k2, k3⟩ := of_waits (by simpa using hwt.1)
          exact inv.done e oe d (by rw [take_get hwt.2]; exact he) hd (by rw [← k3]; exact h3 eg k1 k2)
        · have := still_set hjn (by have := inv.head.size; simp at this; omega) h1
          omega
    · have hall : ∀ i, i < n → i ≠ f → listed.getD i false = true := fun i hi hif => by
        refine Classical.byContradiction fun hc => hex ⟨i, hi, hif, getD_in (by have := inv.head.size; simp at this; omega) (by simpa using hc)⟩
      obtain ⟨i, hi, hiu⟩ : ∃ i, i < n ∧ listed.getD i true = false := by
        have hne : still n listed ≠ [] := fun e => by rw [e] at hf; cases hf
        obtain ⟨i, hi⟩ := List.exists_mem_of_ne_nil _ hne
        obtain ⟨h1, h2⟩ := List.mem_filter.1 hi
        exact ⟨i, List.mem_range.1 h1, by simpa using h2⟩
      obtain rfl : i = f := Classical.byContradiction fun hc => by
        have := hall i hi hc
        rw [getD_both hiu] at this
        cases this
      have hwf : ∀ e ∈ o9.after, Region.binds .any e = true → e.on < i := fun e he hb => (eachB_spec (l.take n) 0 [] hB).1 i o9 (by rw [take_get hi]; exact hof) e.on (waits_of he hb) |> fun h => by omega
      have hready : i ∈ Region.ready .any l.toArray listed := mem_ready.2 ⟨hiu, o9, by simpa using hof, fun e he hb => by
        have := hwf e he hb
        exact hall e.on (by omega) (by omega)⟩
      obtain ⟨v, hy, hv⟩ := hF a W inv.ext inv.base (fun e oe d he hd hwt => by
        simp only [Bool.and_eq_true, decide_eq_true_eq] at hwt
        obtain ⟨eg, k1, k2, k3⟩ := of_waits (by simpa using hwt.1)
        have := hwf eg k1 k2
        exact inv.done e oe d (by rw [take_get hwt.2]; exact he) hd (by rw [← k3]; exact hall eg.on (by omega) (by omega)))
      refine wpAny_first (oi := o9) (v := v) (by simpa using hof) (Region.noSelect_spec hsel) (fun c a w' => hQ c a _ _ w') (k + g) listed a W (fun j oj hj hji hju hje => ?_) hready (.inl ⟨wanted_none hg9, hy⟩) (ih _ _ _ ?_ (inv.step hB hR hJ hi hof hready (Ext.refl _) hv))
      · refine hap j oj (by simpa using hj) (Nat.le_of_not_lt fun hlt => ?_) hje
        have := hall j hlt hji
        rw [getD_both hju] at this
        cases this
      · have := still_set hi (by have := inv.head.size; simp at this; omega) hiu
        omega

/-- The head in any order, the tail in its forced order; one pure operation of the head may come late. -/
theorem wp_region_each_float {id : Nat} {a0 : Act} {w : World} (n f : Nat) (J : Nat → Value → World → Prop) {o9 : Oper} (hof : l[f]? = some o9) (hm : P.follows .mixedOrders = true) (hT : eachFloatB l n f = true) (hR0 : (fills (l.take n)).all (fun d => decide (d < a0.tmps.size)) = true) (hJ : ∀ j v W W', J j v W → Ext W W' → J j v W')
    (hQ : ∀ c (a : Act) d v w, Q (.panic c) (a.put d v) w → Q (.panic c) a w)
    (hS : EachSteps P l n Q J a0 w 0 (l.take n)) (hF : FloatStep P l n J a0 w f o9) (hend : ∀ W, Ext w W → Vals J W (fun a => wpList P l.toArray Q (l.drop n) a W) 0 (l.take n) a0) : (Code.region id l.toArray true).wp P Q a0 w := by
  have hR : ∀ d ∈ fills (l.take n), d < a0.tmps.size := fun d hd => by simpa using List.all_eq_true.1 hR0 d hd
  simp only [eachFloatB, Bool.and_eq_true, decide_eq_true_eq] at hT
  obtain ⟨hn, hfn, hsel, hh, hq, hB, hap⟩ := hT
  have hap2 : ∀ j oj, l[j]? = some oj → n ≤ j → o9.guard = none ∧ ((∀ e ∈ oj.after, Region.binds .any e = true → e.on ≠ f) → o9.apart l.toArray oj = true) := fun j oj hj hnj => by
    have hjl : j < l.length := (List.getElem?_eq_some_iff.1 hj).1
    have h1 := List.all_eq_true.1 hap j (List.mem_range.2 hjl)
    simp only [hof, hj, Bool.or_eq_true, decide_eq_true_eq, Bool.and_eq_true] at h1
    rcases h1 with h1 | ⟨h0, h1⟩
    · omega
    · refine ⟨by simpa using h0, fun hje => ?_⟩
      rcases h1 with h1 | h1
      · exact h1
      · obtain ⟨e, he, h2⟩ := Array.any_eq_true'.1 h1
        simp only [Bool.and_eq_true, beq_iff_eq] at h2
        exact absurd h2.2 (hje e he h2.1)
  have hg9 : o9.guard = none := (hap2 n l[n] (List.getElem?_eq_getElem hn) (Nat.le_refl _)).1
  have h := wpAny_eachF (P := P) (l := l) (n := n) (Q := Q) (J := J) (a0 := a0) (w := w) (g := l.length - n) (by omega) hfn hof hg9 hsel hQ hB hR hJ hS (fun j oj hj hnj hje => (hap2 j oj hj hnj).2 hje) hF
    (fun listed hi i hin hif hun j hj => Nat.lt_of_not_le fun hge => head_waitsX hh hi (i := i) (by simp [fixedB]; omega) hin hun j hge hj)
    (fun listed a W inv hall => by
      have he := headDone_eq (l := l) (by omega) (by simpa using inv.head.size) hall (fun t h1 h2 => inv.head.tail t h1 (by simpa using h2))
      subst he
      have := wpAny_of_seq (md := .any) (Q' := Q) (l.drop n) n (headDone n l.length) a W (fun j => by simp [List.getElem?_drop]) (by rw [List.length_drop]; exact hq) (inv.fin (G := fun a => wpList P l.toArray Q (l.drop n) a W) (by omega) hall (hend W inv.ext))
      rwa [List.length_drop] at this) n _ _ _ (still_start (by omega)) (EachInv.start a0 w)
  rw [show n + (l.length - n) = l.toArray.size by simp; omega] at h
  exact wp_region_any hm h
end
theorem run_extract9 {P : Program} {a : Act} {t i : Nat} {v : Value} {vs : Array Value} (h : a.tmps.getD t undef = .tuple vs) (hv : vs[i]? = some v) {o : Oper} (ho : o.op = .extract (.tmp t) i) (w : World) : (execOp a.eval o).run P w = .ok (.value v) w := by
  have h1 : a.eval (.tmp t) = .tuple vs := h
  simp [execOp, ho, h1, Instr.extract, hv, Result.andThen, pure, Sem.run]

end Go.Proofs.YthkfkfbfblppeaaGreat
