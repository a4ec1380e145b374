/- Plain laws on the order of numbers in limbs. Conditions: limbs in range. -/
import Derived.Test.YtoicjiiifffciaaBigM
import Derived.Test.YtoicjiiifffciaaBigC
namespace Go.Proofs.Ytoicjiiifffciaa
set_option linter.unusedSimpArgs false
set_option linter.unusedVariables false
open Go.RowKit

/-- -1, 0, 1 -/
def cmpN (x y : Nat) : Int := sgn x y

theorem cmpN_lt {x y : Nat} (h : x < y) : cmpN x y = -1 := by unfold cmpN sgn; rw [if_pos (by omega)]
theorem cmpN_gt {x y : Nat} (h : y < x) : cmpN x y = 1 := by unfold cmpN sgn; rw [if_neg (by omega), if_pos (by omega)]
theorem cmpN_eq (x : Nat) : cmpN x x = 0 := by unfold cmpN sgn; rw [if_neg (by omega), if_neg (by omega)]

theorem can_lt_of_len {a b : List Int} (ha : Lim a) (hb : Lim b) (zb : NoZ b) (h : a.length < b.length) : nv a < nv b := by
  have h1 := nv_lt ha
  have h2 := nv_ge hb zb (by intro e; subst e; simp at h)
  have h3 := pow_le (show a.length ≤ b.length - 1 by omega)
  omega

theorem nv_lt_of_drop {a b : List Int} (ha : Lim a) (hb : Lim b) (hl : a.length = b.length) {k : Nat} (hk : k < a.length) (hd : a.drop (k + 1) = b.drop (k + 1)) (h : a.getD k 0 < b.getD k 0) : nv a < nv b := by
  have h1 := nv_split a (k + 1) (by omega)
  have h2 := nv_split b (k + 1) (by omega)
  have h3 := nv_lt (lim_take ha k)
  rw [List.length_take_of_le (by omega)] at h3
  have ga := getD_lim ha k; have gb := getD_lim hb k
  rw [h1, h2, hd, nv_takeD hk, nv_takeD (show k < b.length by omega)]
  have : 4294967296 ^ k * ((a.getD k 0).toNat + 1) ≤ 4294967296 ^ k * (b.getD k 0).toNat := Nat.mul_le_mul_left _ (by omega)
  rw [Nat.mul_add] at this
  omega

theorem drop_succ_eq {a b : List Int} (hl : a.length = b.length) {k : Nat} (hk : k < a.length) (hd : a.drop (k + 1) = b.drop (k + 1)) (h : a.getD k 0 = b.getD k 0) : a.drop k = b.drop k := by
  rw [List.drop_eq_getElem_cons hk, List.drop_eq_getElem_cons (show k < b.length by omega), hd]
  rw [List.getD_eq_getElem?_getD, List.getD_eq_getElem?_getD, List.getElem?_eq_getElem hk, List.getElem?_eq_getElem (show k < b.length by omega)] at h
  rw [show a[k] = b[k] from h]

theorem getD_cons_succ (x : Int) (l : List Int) (j : Nat) : (x :: l).getD (j + 1) 0 = l.getD j 0 := by simp [List.getD_eq_getElem?_getD]
theorem nv_head (l : List Int) : nv l = (l.getD 0 0).toNat + 4294967296 * nv l.tail := by cases l <;> simp [nv]
theorem getD_tail (l : List Int) (j : Nat) : l.tail.getD j 0 = l.getD (j + 1) 0 := by cases l <;> simp [List.getD_eq_getElem?_getD]

theorem nv_eq_of_getD : ∀ (a b : List Int), (∀ j, a.getD j 0 = b.getD j 0) → nv a = nv b := by
  have key : ∀ (n : Nat) (a b : List Int), a.length ≤ n → b.length ≤ n → (∀ j, a.getD j 0 = b.getD j 0) → nv a = nv b := by
    intro n
    induction n with
    | zero =>
      intro a b ha hb _
      rw [List.length_eq_zero_iff.1 (by omega : a.length = 0), List.length_eq_zero_iff.1 (by omega : b.length = 0)]
    | succ n ih =>
      intro a b ha hb h
      rw [nv_head a, nv_head b, h 0, ih a.tail b.tail (by rw [List.length_tail]; omega) (by rw [List.length_tail]; omega) (fun j => by rw [getD_tail, getD_tail]; exact h _)]
  exact fun a b h => key (max a.length b.length) a b (by omega) (by omega) h

theorem lim_tail {l : List Int} (h : Lim l) : Lim l.tail := fun x hx => h x (List.mem_of_mem_tail hx)

theorem nv_lt_of_getD : ∀ {k : Nat} {a b : List Int}, Lim a → Lim b → (∀ j, k < j → a.getD j 0 = b.getD j 0) → a.getD k 0 < b.getD k 0 → nv a < nv b := by
  intro k
  induction k with
  | zero =>
    intro a b ha hb h hlt
    rw [nv_head a, nv_head b, nv_eq_of_getD a.tail b.tail (fun j => by rw [getD_tail, getD_tail]; exact h _ (by omega))]
    have := getD_lim ha 0
    omega
  | succ k ih =>
    intro a b ha hb h hlt
    have := ih (lim_tail ha) (lim_tail hb) (fun j hj => by rw [getD_tail, getD_tail]; exact h _ (by omega)) (by rw [getD_tail, getD_tail]; exact hlt)
    rw [nv_head a, nv_head b]
    have h1 := getD_lim ha 0; have h2 := getD_lim hb 0
    omega

theorem nv_take_all (l : List Int) (k : Nat) : nv (l.take (k + 1)) = nv (l.take k) + 4294967296 ^ k * (l.getD k 0).toNat := by
  by_cases h : k < l.length
  · exact nv_takeD h
  · rw [List.take_of_length_le (by omega), List.take_of_length_le (by omega), List.getD_eq_getElem?_getD, List.getElem?_eq_none (by omega)]
    simp

end Go.Proofs.Ytoicjiiifffciaa
