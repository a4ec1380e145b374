/- The plain law of InterpUnity: partial sums of the weights, and of the weights times the points. Conditions: a grid that Check accepts. -/
import Derived.Test.YtlbppdgijjbjbaaGM
import Derived.Test.YtlbppdgijjbjbaaGK
namespace Go.Proofs.Ytlbppdgijjbjbaa
set_option linter.unusedSimpArgs false
set_option linter.unusedVariables false
open Go.RowKit

theorem avg_snoc (l : List (Nat × Rat)) (y : Nat × Rat) (f : Nat → Rat) : avg (l ++ [y]) f = avg l f + y.2 * f y.1 := by
  rw [avg_app]
  simp only [avg]
  grind
theorem bd_zero : bd 0 1 := ⟨by decide, by decide⟩
theorem bd_int {x : Int} (h : -1073741824 ≤ x ∧ x ≤ 1073741824) : bd (x : Rat) 1 := by
  refine ⟨?_, ?_⟩
  · rw [Rat.num_intCast]; omega
  · rw [Rat.den_intCast]; decide
/-- Partial sums are not too long. -/
theorem bd_part {L : List (Nat × Rat)} {f : Nat → Rat} (h : ∀ y ∈ L, bd (y.2 * f y.1) 6) : ∀ i, i ≤ L.length → bd (avg (L.take i) f) (7 * i + 1)
  | 0, _ => bd_zero
  | i + 1, hi => by
    have hy : L[i]? = some L[i] := List.getElem?_eq_getElem (by omega)
    rw [take_snocE hy, avg_snoc]
    exact bd_mono (bd_add (bd_part h i (by omega)) (h _ (List.getElem_mem _))) (by omega)
theorem small_part {L : List (Nat × Rat)} {f : Nat → Rat} (h : ∀ y ∈ L, bd (y.2 * f y.1) 6) {i : Nat} (hi : i ≤ L.length) (h16 : L.length ≤ 16) : small (avg (L.take i) f) :=
  small_of_bd (bd_part h i hi) (by omega)
/-- One step of a sum. -/
theorem add_part {L : List (Nat × Rat)} {f : Nat → Rat} (h : ∀ y ∈ L, bd (y.2 * f y.1) 6) (h16 : L.length ≤ 16) {i : Nat} {y : Nat × Rat} (hy : L[i]? = some y) : addR (rep (avg (L.take i) f)) (rep (y.2 * f y.1)) = (rep (avg (L.take (i + 1)) f), 0) := by
  have hi : i < L.length := (List.getElem?_eq_some_iff.1 hy).1
  have hm := (List.getElem?_eq_some_iff.1 hy).2
  have h1 := small_part h (i := i) (by omega) h16
  have h2 := small_part h (i := i + 1) (by omega) h16
  have h3 : small (y.2 * f y.1) := small_of_bd (h y (by rw [← hm]; exact List.getElem_mem hi)) (by decide)
  have e : avg (L.take (i + 1)) f = avg (L.take i) f + y.2 * f y.1 := by rw [take_snocE hy, avg_snoc]
  rw [e] at h2 ⊢
  exact add_rep h1 h3 h2
/-- The weights of a point of a grid. -/
structure Wts (g : List (List Int)) (x : List Int) (L : List (Nat × Rat)) : Prop where
  ok : GridOk g
  is : weightsS g x = (repL L, 0)
  xl : x.length = g.length
  eq : L = wtsL g (xsOf g x) g.length
theorem wts_of {g : List (List Int)} {x : List Int} (h : (weightsS g x).2 = 0) : Wts g x (wtsL g (xsOf g x) g.length) := by
  obtain ⟨h0, h1, h2⟩ := weightsS_0 h
  exact ⟨gridE_ok h0, h2, h1, rfl⟩
theorem Wts.inn {g : List (List Int)} {x : List Int} {L : List (Nat × Rat)} (h : Wts g x L) : In g (xsOf g x) := in_of h.ok x
theorem Wts.pow {g : List (List Int)} {x : List Int} {L : List (Nat × Rat)} (h : Wts g x L) : L.length ≤ 2 ^ g.length := by
  rw [h.eq]; exact wtsL_len h.inn _ (Nat.le_refl _)
theorem Wts.len {g : List (List Int)} {x : List Int} {L : List (Nat × Rat)} (h : Wts g x L) : L.length ≤ 16 :=
  Nat.le_trans h.pow (Nat.le_trans (Nat.pow_le_pow_right (by decide) h.ok.le) (by decide))
theorem Wts.bd5 {g : List (List Int)} {x : List Int} {L : List (Nat × Rat)} (h : Wts g x L) {y : Nat × Rat} (hy : y ∈ L) : bd y.2 5 := by
  rw [h.eq] at hy
  exact bd_mono (wts_bd h.ok x _ (Nat.le_refl _) y hy) (by have := h.ok.le; omega)
theorem Wts.pos {g : List (List Int)} {x : List Int} {L : List (Nat × Rat)} (h : Wts g x L) {y : Nat × Rat} (hy : y ∈ L) : 0 < y.2 := by
  rw [h.eq] at hy
  exact wtsL_pos (Nat.le_refl _) hy
theorem Wts.lt {g : List (List Int)} {x : List Int} {L : List (Nat × Rat)} (h : Wts g x L) {y : Nat × Rat} (hy : y ∈ L) : y.1 < gsize g := by
  rw [h.eq] at hy
  have := (wtsL_mem (Nat.le_refl _) hy).1
  rwa [List.take_length] at this
theorem Wts.asc {g : List (List Int)} {x : List Int} {L : List (Nat × Rat)} (h : Wts g x L) {i j : Nat} {y z : Nat × Rat} (hi : L[i]? = some y) (hj : L[j]? = some z) (hij : i < j) : y.1 < z.1 := by
  have hp : L.Pairwise fun y z => y.1 < z.1 := by rw [h.eq]; exact wtsL_asc (Nat.le_refl _)
  obtain ⟨h1, rfl⟩ := List.getElem?_eq_some_iff.1 hi
  obtain ⟨h2, rfl⟩ := List.getElem?_eq_some_iff.1 hj
  exact List.pairwise_iff_getElem.1 hp i j h1 h2 hij
theorem cut_bd {g : List (List Int)} (ok : GridOk g) {a v : Nat} (ha : a < g.length) : -1073741824 ≤ cutAt g v a ∧ cutAt g v a ≤ 1073741824 :=
  (ok.ax a ha).2.2.2 _ (plc_lt (pos_of ok) ha v)
/-- The terms of the sum, and of the sum of the points. -/
theorem Wts.one6 {g : List (List Int)} {x : List Int} {L : List (Nat × Rat)} (h : Wts g x L) : ∀ y ∈ L, bd (y.2 * (fun _ => (1 : Rat)) y.1) 6 := fun y hy => by
  show bd (y.2 * 1) 6
  rw [Rat.mul_one]
  exact bd_mono (h.bd5 hy) (by decide)
theorem Wts.at6 {g : List (List Int)} {x : List Int} {L : List (Nat × Rat)} (h : Wts g x L) {a : Nat} (ha : a < g.length) : ∀ y ∈ L, bd (y.2 * (fun v => ((cutAt g v a : Int) : Rat)) y.1) 6 := fun y hy =>
  bd_mul (h.bd5 hy) (bd_int (cut_bd h.ok ha))
theorem Wts.sum {g : List (List Int)} {x : List Int} {L : List (Nat × Rat)} (h : Wts g x L) : avg L (fun _ => 1) = 1 := by
  rw [h.eq]; exact wts_sum h.inn _ (Nat.le_refl _)
theorem Wts.at {g : List (List Int)} {x : List Int} {L : List (Nat × Rat)} (h : Wts g x L) {a : Nat} (ha : a < g.length) : avg L (fun v => ((cutAt g v a : Int) : Rat)) = ((xsOf g x a : Int) : Rat) := by
  have := wts_at h.inn (a := a) g.length (Nat.le_refl _) ha
  rw [List.take_length] at this
  rw [h.eq]
  exact this
theorem Wts.mul {g : List (List Int)} {x : List Int} {L : List (Nat × Rat)} (h : Wts g x L) {a : Nat} (ha : a < g.length) {y : Nat × Rat} (hy : y ∈ L) : mulR (rep y.2) (rep ((cutAt g y.1 a : Int) : Rat)) = (rep (y.2 * ((cutAt g y.1 a : Int) : Rat)), 0) :=
  mul_rep (small_of_bd (h.bd5 hy) (by decide)) (small_of_bd (bd_int (cut_bd h.ok ha)) (by decide)) (small_of_bd (h.at6 ha y hy) (by decide))
theorem Wts.cmp {g : List (List Int)} {x : List Int} {L : List (Nat × Rat)} (h : Wts g x L) {y : Nat × Rat} (hy : y ∈ L) : cmpR (rep y.2) zR = (1, 0) := by
  rw [← rep_zero, cmp_rep (small_of_bd (h.bd5 hy) (by decide)) (small_of_bd bd_zero (by decide))]
  have hp := h.pos hy
  have : cmpQ y.2 0 = 1 := by
    unfold cmpQ
    rw [if_neg (by grind), if_neg (by grind)]
  rw [this]

end Go.Proofs.Ytlbppdgijjbjbaa
