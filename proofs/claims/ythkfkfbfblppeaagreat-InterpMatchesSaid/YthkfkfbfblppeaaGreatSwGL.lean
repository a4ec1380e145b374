/- Part of the proof of imatL_holds: what the row needs of GL. Conditions: as each theorem states. -/
import Derived.Test.YthkfkfbfblppeaaGreatSwGA
import Derived.Test.YthkfkfbfblppeaaGreatSwGB
import Derived.Test.YthkfkfbfblppeaaGreatSwGD
import Derived.Test.YthkfkfbfblppeaaGreatSwKit
import Derived.Test.YthkfkfbfblppeaaGreatSwAppB
import Derived.Test.YthkfkfbfblppeaaGreatSwRatLs
import Derived.Test.YthkfkfbfblppeaaGreatSwRatDt
import Derived.WalkMore
namespace Go.Proofs.YthkfkfbfblppeaaGreat
set_option linter.unusedSimpArgs false
set_option linter.unusedVariables false
def gsize : List (List Int) → Nat
  | [] => 1
  | c :: r => c.length * gsize r
theorem gsize_app : ∀ a b : List (List Int), gsize (a ++ b) = gsize a * gsize b
  | [], b => by simp [gsize]
  | c :: r, b => by simp only [List.cons_append, gsize, gsize_app r b, Nat.mul_assoc]
theorem gsize_take {g : List (List Int)} {k : Nat} (h : k < g.length) : gsize (g.take (k + 1)) = gsize (g.take k) * (g.getD k []).length := by
  rw [List.take_succ_eq_append_getElem h, gsize_app]
  simp [gsize, h]
theorem gsize_drop {g : List (List Int)} {k : Nat} (h : k < g.length) : gsize (g.drop k) = (g.getD k []).length * gsize (g.drop (k + 1)) := by
  rw [List.drop_eq_getElem_cons h]
  simp [gsize, h]
def plc (g : List (List Int)) (v a : Nat) : Nat := v / gsize (g.drop (a + 1)) % (g.getD a []).length
def num (g : List (List Int)) (p : Nat → Nat) : Nat → Nat
  | 0 => 0
  | k + 1 => num g p k * (g.getD k []).length + p k
theorem plc_lt {g : List (List Int)} (h : ∀ k, k < g.length → 0 < (g.getD k []).length) {a : Nat} (ha : a < g.length) (v : Nat) : plc g v a < (g.getD a []).length := Nat.mod_lt _ (h a ha)
theorem plc_ext {g : List (List Int)} {k a : Nat} (hk : k < g.length) (ha : a < k) (v : Nat) : plc (g.take (k + 1)) v a = plc (g.take k) (v / (g.getD k []).length) a := by
  unfold plc
  have e1 : (g.take (k + 1)).getD a [] = (g.take k).getD a [] := by simp [List.getD_eq_getElem?_getD, List.getElem?_take, ha, Nat.lt_succ_of_lt ha]
  have e2 : gsize ((g.take (k + 1)).drop (a + 1)) = gsize ((g.take k).drop (a + 1)) * (g.getD k []).length := by
    rw [List.take_succ_eq_append_getElem hk, List.drop_append_of_le_length (by rw [List.length_take]; omega), gsize_app]
    simp [gsize, hk]
  rw [e1, e2, Nat.mul_comm (gsize _), Nat.div_div_eq_div_mul]
theorem plc_last {g : List (List Int)} {k : Nat} (hk : k < g.length) (v : Nat) : plc (g.take (k + 1)) v k = v % (g.getD k []).length := by
  unfold plc
  have e1 : (g.take (k + 1)).getD k [] = g.getD k [] := by simp [List.getD_eq_getElem?_getD, List.getElem?_take]
  rw [e1, List.drop_of_length_le (by rw [List.length_take]; omega)]
  simp [gsize]
def wt (c : List Int) (x : Int) (i : Nat) : Rat :=
  if x = c.getD i 0 then 1
  else if i + 1 < c.length ∧ c.getD i 0 < x ∧ x < c.getD (i + 1) 0 then ((c.getD (i + 1) 0 - x : Int) : Rat) / ((c.getD (i + 1) 0 - c.getD i 0 : Int) : Rat)
  else if 0 < i ∧ x < c.getD i 0 ∧ c.getD (i - 1) 0 < x then ((x - c.getD (i - 1) 0 : Int) : Rat) / ((c.getD i 0 - c.getD (i - 1) 0 : Int) : Rat)
  else 0
def Asc (c : List Int) : Prop := ∀ i j, i < j → j < c.length → c.getD i 0 < c.getD j 0
def shareL (c : List Int) (x : Int) : List (Nat × Rat) := ((List.range c.length).filter fun i => wt c x i != 0).map fun i => (i, wt c x i)
theorem filter_none {n : Nat} {p : Nat → Bool} (h : ∀ j, j < n → p j = false) : (List.range n).filter p = [] := by
  rw [List.filter_eq_nil_iff]
  intro a ha
  rw [h a (List.mem_range.1 ha)]
  simp
theorem filter_one {n i : Nat} {p : Nat → Bool} (hi : i < n) (h1 : p i = true) (h : ∀ j, j < n → j ≠ i → p j = false) : (List.range n).filter p = [i] := by
  induction n with
  | zero => omega
  | succ n ih =>
    rw [List.range_succ, List.filter_append]
    by_cases e : i = n
    · subst e
      rw [filter_none fun j hj => h j (by omega) (by omega)]
      simp [h1]
    · rw [ih (by omega) fun j hj hji => h j (by omega) hji]
      simp [h n (by omega) (fun h => e h.symm)]
theorem filter_two {n i : Nat} {p : Nat → Bool} (hi : i + 1 < n) (h1 : p i = true) (h2 : p (i + 1) = true) (h : ∀ j, j < n → j ≠ i → j ≠ i + 1 → p j = false) : (List.range n).filter p = [i, i + 1] := by
  induction n with
  | zero => omega
  | succ n ih =>
    rw [List.range_succ, List.filter_append]
    by_cases e : i + 1 = n
    · subst e
      rw [filter_one (i := i) (by omega) h1 fun j hj hji => h j (by omega) hji (by omega)]
      simp [h2]
    · rw [ih (by omega) fun j hj hji hj2 => h j (by omega) hji hj2]
      simp [h n (by omega) (by omega) (fun h => e h.symm)]
theorem asc_eq {c : List Int} (h : Asc c) {i j : Nat} (hi : i < c.length) (hj : j < c.length) (e : c.getD i 0 = c.getD j 0) : i = j := by
  rcases Nat.lt_trichotomy i j with h1 | h1 | h1
  · have := h i j h1 hj; omega
  · exact h1
  · have := h j i h1 hi; omega
theorem asc_lt {c : List Int} (h : Asc c) {i j : Nat} (hi : i < c.length) (hj : j < c.length) (e : c.getD i 0 < c.getD j 0) : i < j := by
  rcases Nat.lt_trichotomy i j with h1 | h1 | h1
  · exact h1
  · subst h1; omega
  · have := h j i h1 hi; omega
theorem wt_eq {c : List Int} {x : Int} {i : Nat} (h : x = c.getD i 0) : wt c x i = 1 := by unfold wt; rw [if_pos h]
theorem wt_lo {c : List Int} {x : Int} {i : Nat} (hi : i + 1 < c.length) (h1 : c.getD i 0 < x) (h2 : x < c.getD (i + 1) 0) : wt c x i = ((c.getD (i + 1) 0 - x : Int) : Rat) / ((c.getD (i + 1) 0 - c.getD i 0 : Int) : Rat) := by
  unfold wt; rw [if_neg (by omega), if_pos ⟨hi, h1, h2⟩]
theorem wt_hi {c : List Int} {x : Int} {i : Nat} (h1 : c.getD i 0 < x) (h2 : x < c.getD (i + 1) 0) : wt c x (i + 1) = ((x - c.getD i 0 : Int) : Rat) / ((c.getD (i + 1) 0 - c.getD i 0 : Int) : Rat) := by
  unfold wt; rw [if_neg (by omega), if_neg (by omega), if_pos ⟨by omega, h2, h1⟩]; rfl
theorem ratio_pos {p q : Int} (hp : 0 < p) (hq : 0 < q) : 0 < (p : Rat) / (q : Rat) := by
  rw [Rat.div_def]
  exact Rat.mul_pos (Rat.intCast_pos.2 hp) (Rat.inv_pos.2 (Rat.intCast_pos.2 hq))
theorem wt_pos {c : List Int} {x : Int} {i : Nat} (h : wt c x i ≠ 0) : 0 < wt c x i := by
  unfold wt at h ⊢
  split
  · decide
  · split
    · exact ratio_pos (by omega) (by omega)
    · split
      · exact ratio_pos (by omega) (by omega)
      · rename_i h1 h2 h3; rw [if_neg h1, if_neg h2, if_neg h3] at h; exact absurd rfl h
theorem share_one {c : List Int} (h : Asc c) {x : Int} {i : Nat} (hi : i < c.length) (hx : x = c.getD i 0) : shareL c x = [(i, 1)] := by
  unfold shareL
  rw [filter_one (i := i) hi (by simp [wt_eq hx])]
  · simp [wt_eq hx]
  · intro j hj hji
    have : wt c x j = 0 := by
      unfold wt
      rw [if_neg (fun e => hji (asc_eq h hj hi (by omega))), if_neg, if_neg]
      · rintro ⟨a1, a2, a3⟩
        have b1 := asc_lt h hi hj (by omega)
        have b2 := asc_lt h (i := j - 1) (by omega) hi (by omega)
        omega
      · rintro ⟨a1, a2, a3⟩
        have b1 := asc_lt h hj hi (by omega)
        have b2 := asc_lt h hi (j := j + 1) (by omega) (by omega)
        omega
    simp [this]
theorem share_two {c : List Int} (h : Asc c) {x : Int} {i : Nat} (hi : i + 1 < c.length) (h1 : c.getD i 0 < x) (h2 : x < c.getD (i + 1) 0) :
    shareL c x = [(i, ((c.getD (i + 1) 0 - x : Int) : Rat) / ((c.getD (i + 1) 0 - c.getD i 0 : Int) : Rat)), (i + 1, ((x - c.getD i 0 : Int) : Rat) / ((c.getD (i + 1) 0 - c.getD i 0 : Int) : Rat))] := by
  unfold shareL
  have e1 := wt_lo hi h1 h2
  have e2 := wt_hi h1 h2
  have p1 : 0 < wt c x i := by rw [e1]; exact ratio_pos (by omega) (by omega)
  have p2 : 0 < wt c x (i + 1) := by rw [e2]; exact ratio_pos (by omega) (by omega)
  rw [filter_two (i := i) hi (by simpa using (Rat.ne_of_gt p1)) (by simpa using (Rat.ne_of_gt p2))]
  · simp only [List.map_cons, List.map_nil, e1, e2]
  · intro j hj hji hj2
    have : wt c x j = 0 := by
      unfold wt
      rw [if_neg, if_neg, if_neg]
      · rintro ⟨a1, a2, a3⟩
        have b1 := asc_lt h (i := i) (by omega) hj (by omega)
        have b2 := asc_lt h (i := j - 1) (by omega) hi (by omega)
        omega
      · rintro ⟨a1, a2, a3⟩
        have b1 := asc_lt h hj hi (by omega)
        have b2 := asc_lt h (i := i) (by omega) a1 (by omega)
        omega
      · intro e
        rcases Nat.lt_trichotomy j i with h3 | h3 | h3
        · have := h j i h3 (by omega); omega
        · exact hji h3
        · have := h (i + 1) j (by omega) hj; omega
    simp [this]
def wtsL (g : List (List Int)) (xs : Nat → Int) : Nat → List (Nat × Rat)
  | 0 => [(0, 1)]
  | k + 1 => (wtsL g xs k).flatMap fun y => (shareL (g.getD k []) (xs k)).map fun s => (y.1 * (g.getD k []).length + s.1, y.2 * s.2)
def wpr (g : List (List Int)) (xs : Nat → Int) (p : Nat → Nat) : Nat → Rat
  | 0 => 1
  | k + 1 => wpr g xs p k * wt (g.getD k []) (xs k) (p k)
theorem wpr_congr {g : List (List Int)} {xs : Nat → Int} {p q : Nat → Nat} : ∀ k, (∀ a, a < k → p a = q a) → wpr g xs p k = wpr g xs q k
  | 0, _ => rfl
  | k + 1, h => by simp only [wpr]; rw [wpr_congr k fun a ha => h a (by omega), h k (by omega)]
theorem range_mul (N L : Nat) : List.range (N * L) = (List.range N).flatMap fun y => (List.range L).map fun s => y * L + s := by
  induction N with
  | zero => simp
  | succ N ih => rw [Nat.add_mul, Nat.one_mul, List.range_add, ih, List.range_succ, List.flatMap_append]; simp
theorem flatMap_if {α β : Type} (l : List α) (p : α → Bool) (f : α → List β) : (l.filter p).flatMap f = l.flatMap fun y => if p y = true then f y else [] := by
  induction l with
  | nil => rfl
  | cons a l ih =>
    rw [List.flatMap_cons, ← ih]
    by_cases h : p a = true
    · rw [List.filter_cons_of_pos h, List.flatMap_cons, if_pos h]
    · rw [List.filter_cons_of_neg h, if_neg h, List.nil_append]
theorem flatMap_congr' {α β : Type} {l : List α} {f g : α → List β} (h : ∀ x ∈ l, f x = g x) : l.flatMap f = l.flatMap g := by
  induction l with
  | nil => rfl
  | cons a l ih => rw [List.flatMap_cons, List.flatMap_cons, h a (by simp), ih fun x hx => h x (by simp [hx])]
theorem wtsL_all {g : List (List Int)} {xs : Nat → Int} : ∀ k, k ≤ g.length →
    wtsL g xs k = ((List.range (gsize (g.take k))).filter fun v => wpr g xs (plc (g.take k) v) k != 0).map fun v => (v, wpr g xs (plc (g.take k) v) k)
  | 0, _ => by
    have e : gsize (g.take 0) = 1 := rfl
    rw [e]
    rfl
  | k + 1, hk => by
    have hk' : k < g.length := hk
    simp only [wtsL]
    rw [wtsL_all k (by omega), List.flatMap_map, flatMap_if, gsize_take hk', range_mul, List.filter_flatMap, List.map_flatMap]
    apply flatMap_congr'
    intro y hy
    have hL : ∀ s, s < (g.getD k []).length → wpr g xs (plc (g.take (k + 1)) (y * (g.getD k []).length + s)) (k + 1) = wpr g xs (plc (g.take k) y) k * wt (g.getD k []) (xs k) s := by
      intro s hs
      simp only [wpr]
      rw [plc_last hk']
      rw [show (y * (g.getD k []).length + s) % (g.getD k []).length = s by rw [Nat.mul_comm, Nat.mul_add_mod, Nat.mod_eq_of_lt hs]]
      congr 1
      apply wpr_congr
      intro a ha
      rw [plc_ext hk' ha]
      rw [show (y * (g.getD k []).length + s) / (g.getD k []).length = y by rw [Nat.mul_comm, Nat.mul_add_div (by omega), Nat.div_eq_of_lt hs, Nat.add_zero]]
    rw [List.filter_map, List.map_map]
    unfold shareL
    rw [List.map_map]
    by_cases h0 : wpr g xs (plc (g.take k) y) k = 0
    · rw [if_neg (by simp [h0])]
      symm
      rw [List.map_eq_nil_iff, List.filter_eq_nil_iff]
      intro s hs
      simp only [Function.comp]
      rw [hL s (List.mem_range.1 hs), h0, Rat.zero_mul]
      simp
    · rw [if_pos (by simp [h0])]
      have e1 : (List.range (g.getD k []).length).filter ((fun v => wpr g xs (plc (g.take (k + 1)) v) (k + 1) != 0) ∘ fun s => y * (g.getD k []).length + s) = (List.range (g.getD k []).length).filter fun i => wt (g.getD k []) (xs k) i != 0 := by
        apply List.filter_congr
        intro s hs
        simp only [Function.comp]
        rw [hL s (List.mem_range.1 hs)]
        by_cases h1 : wt (g.getD k []) (xs k) s = 0
        · rw [h1, Rat.mul_zero]
        · have h2 : ¬ (wpr g xs (plc (g.take k) y) k * wt (g.getD k []) (xs k) s = 0) := fun e => (Rat.mul_eq_zero.1 e).elim h0 h1
          rw [bne_iff_ne.2 h2, bne_iff_ne.2 h1]
      rw [e1]
      apply List.map_congr_left
      intro s hs
      have hs' := List.mem_range.1 (List.mem_filter.1 hs).1
      simp only [Function.comp]
      rw [hL s hs']
def avg : List (Nat × Rat) → (Nat → Rat) → Rat
  | [], _ => 0
  | y :: r, f => y.2 * f y.1 + avg r f
theorem avg_app : ∀ (a b : List (Nat × Rat)) (f : Nat → Rat), avg (a ++ b) f = avg a f + avg b f
  | [], b, f => by simp only [List.nil_append, avg]; grind
  | y :: r, b, f => by simp only [List.cons_append, avg, avg_app r b f]; grind
theorem avg_shift (y : Nat × Rat) (L : Nat) (f : Nat → Rat) : ∀ l : List (Nat × Rat), avg (l.map fun s => (y.1 * L + s.1, y.2 * s.2)) f = y.2 * avg l fun s => f (y.1 * L + s)
  | [] => by simp only [List.map_nil, avg]; grind
  | s :: r => by simp only [List.map_cons, avg, avg_shift y L f r]; grind
theorem avg_flat (L : Nat) (q : List (Nat × Rat)) (f : Nat → Rat) : ∀ l : List (Nat × Rat), avg (l.flatMap fun y => q.map fun s => (y.1 * L + s.1, y.2 * s.2)) f = avg l fun y => avg q fun s => f (y * L + s)
  | [] => rfl
  | y :: r => by rw [List.flatMap_cons, avg_app, avg_shift, avg_flat L q f r]; rfl
theorem avg_congr {f h : Nat → Rat} : ∀ l : List (Nat × Rat), (∀ y ∈ l, f y.1 = h y.1) → avg l f = avg l h
  | [], _ => rfl
  | y :: r, e => by simp only [avg]; rw [e y (by simp), avg_congr r fun z hz => e z (by simp [hz])]
theorem avg_mul (c : Rat) (f : Nat → Rat) : ∀ l : List (Nat × Rat), avg l (fun v => c * f v) = c * avg l f
  | [] => by simp only [avg]; grind
  | y :: r => by simp only [avg, avg_mul c f r]; grind
theorem between {c : List Int} {x : Int} (h0 : c.getD 0 0 ≤ x) (h1 : x ≤ c.getD (c.length - 1) 0) (hc : 0 < c.length) : (∃ i, i < c.length ∧ x = c.getD i 0) ∨ ∃ i, i + 1 < c.length ∧ c.getD i 0 < x ∧ x < c.getD (i + 1) 0 := by
  have key : ∀ n, n < c.length → x ≤ c.getD n 0 → (∃ i, i < c.length ∧ x = c.getD i 0) ∨ ∃ i, i + 1 < c.length ∧ c.getD i 0 < x ∧ x < c.getD (i + 1) 0 := by
    intro n
    induction n with
    | zero => intro hn hx; exact .inl ⟨0, hn, by omega⟩
    | succ n ih =>
      intro hn hx
      by_cases h : x ≤ c.getD n 0
      · exact ih (by omega) h
      · by_cases e : x = c.getD (n + 1) 0
        · exact .inl ⟨n + 1, hn, e⟩
        · exact .inr ⟨n, hn, by omega, by omega⟩
  exact key _ (by omega) h1
theorem share_cases {c : List Int} (h : Asc c) {x : Int} (h0 : c.getD 0 0 ≤ x) (h1 : x ≤ c.getD (c.length - 1) 0) (hc : 0 < c.length) :
    (∃ i, i < c.length ∧ x = c.getD i 0 ∧ shareL c x = [(i, 1)]) ∨ ∃ i, i + 1 < c.length ∧ c.getD i 0 < x ∧ x < c.getD (i + 1) 0 ∧
      shareL c x = [(i, ((c.getD (i + 1) 0 - x : Int) : Rat) / ((c.getD (i + 1) 0 - c.getD i 0 : Int) : Rat)), (i + 1, ((x - c.getD i 0 : Int) : Rat) / ((c.getD (i + 1) 0 - c.getD i 0 : Int) : Rat))] := by
  rcases between h0 h1 hc with ⟨i, hi, hx⟩ | ⟨i, hi, h2, h3⟩
  · exact .inl ⟨i, hi, hx, share_one h hi hx⟩
  · exact .inr ⟨i, hi, h2, h3, share_two h hi h2 h3⟩
theorem diff_ne {a b : Int} (h : a < b) : ((b : Rat) - (a : Rat)) ≠ 0 := by
  rw [← Rat.intCast_sub]
  intro e
  have := Rat.intCast_eq_zero_iff.1 e
  omega
theorem share_sum {c : List Int} (h : Asc c) {x : Int} (h0 : c.getD 0 0 ≤ x) (h1 : x ≤ c.getD (c.length - 1) 0) (hc : 0 < c.length) : avg (shareL c x) (fun _ => 1) = 1 := by
  rcases share_cases h h0 h1 hc with ⟨i, hi, hx, e⟩ | ⟨i, hi, h2, h3, e⟩
  · rw [e]; simp only [avg]; grind
  · rw [e]
    simp only [avg, Rat.intCast_sub]
    have := diff_ne (a := c.getD i 0) (b := c.getD (i + 1) 0) (by omega)
    grind
theorem share_at {c : List Int} (h : Asc c) {x : Int} (h0 : c.getD 0 0 ≤ x) (h1 : x ≤ c.getD (c.length - 1) 0) (hc : 0 < c.length) : avg (shareL c x) (fun s => ((c.getD s 0 : Int) : Rat)) = (x : Rat) := by
  rcases share_cases h h0 h1 hc with ⟨i, hi, hx, e⟩ | ⟨i, hi, h2, h3, e⟩
  · rw [e, hx]; simp only [avg]; grind
  · rw [e]
    simp only [avg, Rat.intCast_sub]
    have := diff_ne (a := c.getD i 0) (b := c.getD (i + 1) 0) (by omega)
    grind
def In (g : List (List Int)) (xs : Nat → Int) : Prop := ∀ k, k < g.length → Asc (g.getD k []) ∧ 0 < (g.getD k []).length ∧ (g.getD k []).getD 0 0 ≤ xs k ∧ xs k ≤ (g.getD k []).getD ((g.getD k []).length - 1) 0
theorem wts_sum {g : List (List Int)} {xs : Nat → Int} (h : In g xs) : ∀ k, k ≤ g.length → avg (wtsL g xs k) (fun _ => 1) = 1
  | 0, _ => by simp only [wtsL, avg]; grind
  | k + 1, hk => by
    obtain ⟨a1, a2, a3, a4⟩ := h k hk
    simp only [wtsL]
    rw [avg_flat]
    simp only [share_sum a1 a3 a4 a2]
    exact wts_sum h k (by omega)
theorem wtsL_mem {g : List (List Int)} {xs : Nat → Int} {k : Nat} (hk : k ≤ g.length) {y : Nat × Rat} (h : y ∈ wtsL g xs k) : y.1 < gsize (g.take k) ∧ y.2 = wpr g xs (plc (g.take k) y.1) k ∧ y.2 ≠ 0 := by
  rw [wtsL_all k hk] at h
  obtain ⟨v, hv, rfl⟩ := List.mem_map.1 h
  obtain ⟨h1, h2⟩ := List.mem_filter.1 hv
  exact ⟨List.mem_range.1 h1, rfl, by simpa using h2⟩
theorem shareL_mem {c : List Int} {x : Int} {s : Nat × Rat} (h : s ∈ shareL c x) : s.1 < c.length ∧ s.2 = wt c x s.1 ∧ s.2 ≠ 0 := by
  unfold shareL at h
  obtain ⟨v, hv, rfl⟩ := List.mem_map.1 h
  obtain ⟨h1, h2⟩ := List.mem_filter.1 hv
  exact ⟨List.mem_range.1 h1, rfl, by simpa using h2⟩
theorem wts_at {g : List (List Int)} {xs : Nat → Int} (h : In g xs) {a : Nat} : ∀ k, k ≤ g.length → a < k → avg (wtsL g xs k) (fun v => (((g.getD a []).getD (plc (g.take k) v a) 0 : Int) : Rat)) = (xs a : Rat)
  | 0, _, h0 => by omega
  | k + 1, hk, ha => by
    obtain ⟨a1, a2, a3, a4⟩ := h k hk
    simp only [wtsL]
    rw [avg_flat]
    by_cases e : a = k
    · subst e
      have : ∀ y, avg (shareL (g.getD a []) (xs a)) (fun s => (((g.getD a []).getD (plc (g.take (a + 1)) (y * (g.getD a []).length + s) a) 0 : Int) : Rat)) = (xs a : Rat) * 1 := by
        intro y
        rw [← share_at a1 a3 a4 a2]
        rw [Rat.mul_one]
        apply avg_congr
        intro s hs
        have hs := (shareL_mem hs).1
        try dsimp only
        rw [plc_last hk, show (y * (g.getD a []).length + s.1) % (g.getD a []).length = s.1 by rw [Nat.mul_comm, Nat.mul_add_mod, Nat.mod_eq_of_lt hs]]
      simp only [this]
      rw [avg_mul, wts_sum h a (by omega), Rat.mul_one]
    · rw [← wts_at h (a := a) k (by omega) (by omega)]
      apply avg_congr
      intro y hy
      try dsimp only
      have : avg (shareL (g.getD k []) (xs k)) (fun s => (((g.getD a []).getD (plc (g.take (k + 1)) (y.1 * (g.getD k []).length + s) a) 0 : Int) : Rat)) = avg (shareL (g.getD k []) (xs k)) (fun s => (((g.getD a []).getD (plc (g.take k) y.1 a) 0 : Int) : Rat) * 1) := by
        apply avg_congr
        intro s hs
        have hs := (shareL_mem hs).1
        try dsimp only
        rw [plc_ext hk (by omega), show (y.1 * (g.getD k []).length + s.1) / (g.getD k []).length = y.1 by rw [Nat.mul_comm, Nat.mul_add_div (by omega), Nat.div_eq_of_lt hs, Nat.add_zero], Rat.mul_one]
      rw [this, avg_mul, share_sum a1 a3 a4 a2, Rat.mul_one]
theorem wpr_pos {g : List (List Int)} {xs : Nat → Int} {p : Nat → Nat} : ∀ k, wpr g xs p k ≠ 0 → 0 < wpr g xs p k
  | 0, _ => (show (0 : Rat) < 1 by decide)
  | k + 1, h => by
    simp only [wpr] at h ⊢
    exact Rat.mul_pos (wpr_pos k fun e => h (by rw [e, Rat.zero_mul])) (wt_pos fun e => h (by rw [e, Rat.mul_zero]))
theorem wtsL_pos {g : List (List Int)} {xs : Nat → Int} {k : Nat} (hk : k ≤ g.length) {y : Nat × Rat} (h : y ∈ wtsL g xs k) : 0 < y.2 := by
  obtain ⟨_, h1, h2⟩ := wtsL_mem hk h
  rw [h1] at h2 ⊢
  exact wpr_pos k h2
theorem share_len {c : List Int} (h : Asc c) {x : Int} (h0 : c.getD 0 0 ≤ x) (h1 : x ≤ c.getD (c.length - 1) 0) (hc : 0 < c.length) : (shareL c x).length ≤ 2 := by
  rcases share_cases h h0 h1 hc with ⟨i, hi, hx, e⟩ | ⟨i, hi, h2, h3, e⟩ <;> rw [e] <;> simp
theorem flat_len {α β : Type} {f : α → List β} {n : Nat} : ∀ l : List α, (∀ y ∈ l, (f y).length ≤ n) → (l.flatMap f).length ≤ l.length * n
  | [], _ => by simp
  | y :: r, h => by
    rw [List.flatMap_cons, List.length_append, List.length_cons, Nat.add_mul, Nat.one_mul]
    have h1 := h y (by simp)
    have h2 := flat_len r fun z hz => h z (by simp [hz])
    omega
theorem wtsL_len {g : List (List Int)} {xs : Nat → Int} (h : In g xs) : ∀ k, k ≤ g.length → (wtsL g xs k).length ≤ 2 ^ k
  | 0, _ => by simp [wtsL]
  | k + 1, hk => by
    obtain ⟨a1, a2, a3, a4⟩ := h k hk
    simp only [wtsL]
    refine Nat.le_trans (flat_len (n := 2) _ fun y _ => ?_) (by rw [Nat.pow_succ]; exact Nat.mul_le_mul_right _ (wtsL_len h k (by omega)))
    rw [List.length_map]
    exact share_len a1 a3 a4 a2
def clampS (c : List Int) (x : Int) : Int := max (c.getD 0 0) (min x (c.getD (c.length - 1) 0))
theorem clamp_in {c : List Int} (h : Asc c) (hc : 0 < c.length) (x : Int) : c.getD 0 0 ≤ clampS c x ∧ clampS c x ≤ c.getD (c.length - 1) 0 := by
  have : c.getD 0 0 ≤ c.getD (c.length - 1) 0 := by
    by_cases e : c.length = 1
    · rw [e]; exact Int.le_refl _
    · exact Int.le_of_lt (h 0 _ (by omega) (by omega))
  unfold clampS
  omega
end Go.Proofs.YthkfkfbfblppeaaGreat
namespace Go.Proofs.YthkfkfbfblppeaaGreat
set_option linter.unusedSimpArgs false
set_option linter.unusedVariables false
open Go.RowKit
def RdG (w : World) (v : Value) (g : List (List Int)) : Prop := ∃ a cap, v = .slice a g.length cap ∧ g.length ≤ cap ∧ cap ≤ 9223372036854775807 ∧
  ∀ i, i < g.length → ∃ b off ai ci, a = some ⟨b, off, none⟩ ∧ b < w.heap.size ∧ w.cell? ⟨b, off + i, none⟩ = some (.slice ai (g.getD i []).length ci) ∧ RdI .i64 w (.slice ai (g.getD i []).length ci) (g.getD i [])
theorem RdG.ext {w w' : World} {v : Value} {g : List (List Int)} (h : RdG w v g) (e : Ext w w') : RdG w' v g := by
  obtain ⟨a, cap, rfl, h1, h2, h3⟩ := h
  refine ⟨a, cap, rfl, h1, h2, fun i hi => ?_⟩
  obtain ⟨b, off, ai, ci, e1, e2, e3, e4⟩ := h3 i hi
  exact ⟨b, off, ai, ci, e1, Nat.lt_of_lt_of_le e2 e.size, (e.cell (p := ⟨b, off + i, none⟩) e2).trans e3, e4.ext e⟩
def RowAt (w : World) (b o : Nat) (ai : Option Addr) (ci : Nat) (c : List Int) : Prop := b < w.heap.size ∧ w.cell? ⟨b, o, none⟩ = some (.slice ai c.length ci) ∧ RdI .i64 w (.slice ai c.length ci) c
theorem RowAt.ext {w w' : World} {b o : Nat} {ai : Option Addr} {ci : Nat} {c : List Int} (h : RowAt w b o ai ci c) (e : Ext w w') : RowAt w' b o ai ci c :=
  ⟨Nat.lt_of_lt_of_le h.1 e.size, (e.cell (p := ⟨b, o, none⟩) h.1).trans h.2.1, h.2.2.ext e⟩
theorem RdG.at {w : World} {a : Option Addr} {n cap : Nat} {g : List (List Int)} (h : RdG w (.slice a n cap) g) {i : Nat} (hi : i < g.length) : ∃ b off ai ci, a = some ⟨b, off, none⟩ ∧ RowAt w b (off + i) ai ci (g.getD i []) := by
  obtain ⟨a', cap', e, _, _, h3⟩ := h
  injection e with e1 _ _
  subst e1
  obtain ⟨b, off, ai, ci, e1, e2, e3, e4⟩ := h3 i hi
  exact ⟨b, off, ai, ci, e1, e2, e3, e4⟩
theorem RdG.shape {w : World} {v : Value} {g : List (List Int)} (h : RdG w v g) : ∃ a cap, v = .slice a g.length cap ∧ g.length ≤ 9223372036854775807 := by obtain ⟨a, cap, h, h1, h2, _⟩ := h; exact ⟨a, cap, h, Nat.le_trans h1 h2⟩
def IntAt (w : World) (b o : Nat) (z : Int) : Prop := b < w.heap.size ∧ w.cell? ⟨b, o, none⟩ = some (.int .i64 z)
theorem IntAt.ext {w w' : World} {b o : Nat} {z : Int} (h : IntAt w b o z) (e : Ext w w') : IntAt w' b o z := ⟨Nat.lt_of_lt_of_le h.1 e.size, (e.cell (p := ⟨b, o, none⟩) h.1).trans h.2⟩
theorem rdI_at {w : World} {a : Option Addr} {n cap : Nat} {l : List Int} (h : RdI .i64 w (.slice a n cap) l) {i : Nat} (hi : i < l.length) : ∃ b off, a = some ⟨b, off, none⟩ ∧ IntAt w b (off + i) (l.getD i 0) := by
  obtain ⟨a', cap', e, _, _, h3⟩ := h.get
  injection e with e1 _ _
  subst e1
  obtain ⟨b, off, e1, e2, e3⟩ := h3 i hi
  exact ⟨b, off, e1, e2, e3⟩
def Shrt (g : List (List Int)) : Prop := g.length ≤ 4 ∧ ∀ k, k < g.length → (g.getD k []).length ≤ 32
theorem shrt_le {g : List (List Int)} (h : Shrt g) : ∀ k, k ≤ g.length → gsize (g.take k) ≤ 32 ^ k
  | 0, _ => by simp [gsize]
  | k + 1, hk => by
    rw [gsize_take hk, Nat.pow_succ]
    exact Nat.mul_le_mul (shrt_le h k (by omega)) (h.2 k hk)
theorem shrt_lt {g : List (List Int)} (h : Shrt g) {k : Nat} (hk : k ≤ g.length) : gsize (g.take k) ≤ 1048576 := by
  refine Nat.le_trans (shrt_le h k hk) (Nat.le_trans (Nat.pow_le_pow_right (by decide) (Nat.le_trans hk h.1)) (by decide))
theorem wrapL {x : Int} (h0 : -9223372036854775808 ≤ x) (h1 : x ≤ 9223372036854775807) : IntKind.i64.wrap x = x := by
  have e : IntKind.i64.wrap x = wrap64 x := by first | rfl | (rw [IntKind.wrap_i64]; rfl) | (rw [IntKind.wrap_i64]; unfold wrap64; omega)
  rw [e]; unfold wrap64; omega
set_option maxHeartbeats 1000000 in
theorem size7_any (v : Value) (g : List (List Int)) (w : World) (h : RdG w v g) (hs : Shrt g) :
    Calls Tryz.prog 70 #[v] w fun e w' => e = .returned (.int .i64 (gsize g)) ∧ Ext w w' := by
  have HG := Lib.hid h
  obtain ⟨a, cap, rfl, hgl⟩ := h.shape
  have HS := Lib.hid hs
  clear hs h
  go_enter Tryz.func70, Tryz.ntmps70
  go_wp2
  go_loopw [3, 8] (fun n i wr => ∃ k : Nat, k ≤ g.length ∧ n = .int .i64 (gsize (g.take k)) ∧ i = .int .i64 k ∧ Ext w wr) (fun _ i _ => g.length - (intOf i).toNat)
  case atStart => exact ⟨0, Nat.zero_le _, rfl, rfl, Ext.refl w⟩
  case round =>
    obtain ⟨k, hk, rfl, rfl, hx⟩ := hrel
    have X := Lib.hid hx
    by_cases hlt : k < g.length
    · obtain ⟨b, off, ai, ci, rfl, hrow⟩ := (HG.out.ext hx).at hlt
      obtain ⟨r1, r2, r3⟩ := hrow
      have hm : (gsize (g.take k) : Int) * ((g.getD k []).length : Int) = (gsize (g.take (k + 1)) : Nat) := by rw [gsize_take hlt]; exact (Int.natCast_mul _ _).symm
      have hb := shrt_lt HS.out (show k + 1 ≤ g.length by omega)
      generalize g.getD k [] = c at *
      generalize gsize (g.take k) = A at *
      generalize hB : gsize (g.take (k + 1)) = B at *
      have hw : IntKind.i64.wrap ((A : Int) * (c.length : Int)) = B := by rw [hm]; exact wrapL (by omega) (by omega)
      have q1 : (0 : Int) ≤ (k : Int) := by omega
      have q2 : (k : Int) < (g.length : Int) := by omega
      have HB := Lib.hid hB
      clear hm hb r3 hx hB
      go_wp2
      go_roundw
      case rel => exact ⟨k + 1, by omega, by rw [HB.out], by go_num, X.out⟩
      case measure => simp [intOf]; omega
    · obtain rfl : k = g.length := by omega
      have q1 : ¬ (g.length : Int) < (g.length : Int) := by omega
      clear hx
      go_wp2
      go_ret
      exact ⟨rfl, X.out⟩
def okC (c : List Int) (i : Nat) : Prop := -1073741824 ≤ c.getD i 0 ∧ c.getD i 0 ≤ 1073741824 ∧ (0 < i → c.getD (i - 1) 0 < c.getD i 0)
instance (c : List Int) (i : Nat) : Decidable (okC c i) := by unfold okC; infer_instance
def axE (c : List Int) : Int := if c.length = 0 then 3 else if 32 < c.length then 4 else if (List.range c.length).all (fun i => decide (okC c i)) = true then 0 else 1
def firstE : List (List Int) → Int
  | [] => 0
  | c :: r => if axE c = 0 then firstE r else axE c
def gridE (g : List (List Int)) : Int := if g.length = 0 then 3 else if 4 < g.length then 4 else if firstE g = 0 then (if 256 < gsize g then 10 else 0) else firstE g
theorem firstE_0 : ∀ {g : List (List Int)}, (∀ k, k < g.length → axE (g.getD k []) = 0) → firstE g = 0
  | [], _ => rfl
  | c :: r, h => by
    have h0 : axE c = 0 := h 0 (by simp)
    unfold firstE
    rw [if_pos h0]
    exact firstE_0 fun k hk => h (k + 1) (by simpa using hk)
theorem firstE_at : ∀ {g : List (List Int)} {n : Nat}, n < g.length → (∀ k, k < n → axE (g.getD k []) = 0) → axE (g.getD n []) ≠ 0 → firstE g = axE (g.getD n [])
  | [], n, hn, _, _ => by simp at hn
  | c :: r, 0, _, _, h => by unfold firstE; rw [if_neg (show ¬ axE c = 0 from h)]; rfl
  | c :: r, n + 1, hn, h, h2 => by
    have h0 : axE c = 0 := h 0 (by omega)
    unfold firstE
    rw [if_pos h0]
    exact firstE_at (by simpa using hn) (fun k hk => h (k + 1) (by omega)) h2
theorem firstE_all : ∀ {g : List (List Int)}, firstE g = 0 → ∀ k, k < g.length → axE (g.getD k []) = 0
  | [], _, k, hk => by simp at hk
  | c :: r, h, k, hk => by
    unfold firstE at h
    by_cases h0 : axE c = 0
    · rw [if_pos h0] at h
      cases k with
      | zero => exact h0
      | succ k => exact firstE_all h k (by simpa using hk)
    · rw [if_neg h0] at h; exact absurd h h0
theorem axE_0 {c : List Int} (h0 : c.length ≠ 0) (h1 : ¬ 32 < c.length) (h : ∀ i, i < c.length → okC c i) : axE c = 0 := by
  unfold axE
  rw [if_neg h0, if_neg h1, if_pos (List.all_eq_true.2 fun i hi => decide_eq_true (h i (List.mem_range.1 hi)))]
theorem axE_1 {c : List Int} (h0 : c.length ≠ 0) (h1 : ¬ 32 < c.length) {i : Nat} (hi : i < c.length) (h : ¬ okC c i) : axE c = 1 := by
  unfold axE
  rw [if_neg h0, if_neg h1, if_neg (fun e => h (of_decide_eq_true (List.all_eq_true.1 e i (List.mem_range.2 hi))))]
theorem axE_ok {c : List Int} (h : axE c = 0) : 0 < c.length ∧ c.length ≤ 32 ∧ ∀ i, i < c.length → okC c i := by
  unfold axE at h
  split at h
  · cases h
  · split at h
    · cases h
    · split at h
      · rename_i h0 h1 h2
        exact ⟨by omega, by omega, fun i hi => of_decide_eq_true (List.all_eq_true.1 h2 i (List.mem_range.2 hi))⟩
      · cases h
theorem ok_asc {c : List Int} (h : ∀ i, i < c.length → okC c i) : Asc c := by
  intro i j hij hj
  have key : ∀ d, i + d + 1 < c.length → c.getD i 0 < c.getD (i + d + 1) 0 := by
    intro d
    induction d with
    | zero => intro hd; exact (h (i + 1) hd).2.2 (by omega)
    | succ d ih => intro hd; exact Int.lt_trans (ih (by omega)) ((h (i + (d + 1) + 1) hd).2.2 (by omega))
  have := key (j - i - 1) (by omega)
  rwa [show i + (j - i - 1) + 1 = j by omega] at this
structure GridOk (g : List (List Int)) : Prop where
  pos : 0 < g.length
  le : g.length ≤ 4
  ax : ∀ k, k < g.length → 0 < (g.getD k []).length ∧ (g.getD k []).length ≤ 32 ∧ Asc (g.getD k []) ∧ ∀ i, i < (g.getD k []).length → -1073741824 ≤ (g.getD k []).getD i 0 ∧ (g.getD k []).getD i 0 ≤ 1073741824
  size : gsize g ≤ 256
theorem gridE_ok {g : List (List Int)} (h : gridE g = 0) : GridOk g := by
  unfold gridE at h
  split at h
  · cases h
  · split at h
    · cases h
    · split at h
      · rename_i h0 h1 h2
        split at h
        · cases h
        · refine ⟨by omega, by omega, fun k hk => ?_, by omega⟩
          obtain ⟨a1, a2, a3⟩ := axE_ok (firstE_all h2 k hk)
          exact ⟨a1, a2, ok_asc a3, fun i hi => ⟨(a3 i hi).1, (a3 i hi).2.1⟩⟩
      · rename_i h0 h1 h2; exact absurd h h2
theorem GridOk.shrt {g : List (List Int)} (h : GridOk g) : Shrt g := ⟨h.le, fun k hk => (h.ax k hk).2.1⟩
set_option maxHeartbeats 4000000 in
theorem check7_any (v : Value) (g : List (List Int)) (w : World) (h : RdG w v g) :
    Calls Tryz.prog 22 #[v] w fun e w' => e = .returned (.int .i64 (gridE g)) ∧ Ext w w' := by
  have HG := Lib.hid h
  obtain ⟨a, cap, rfl, hgl⟩ := h.shape
  have hsz := fun W (x : Ext w W) => size7_any (.slice a g.length cap) g W (h.ext x)
  have HSZ := Lib.hid hsz
  clear h hsz
  by_cases h0 : g.length = 0
  · have e : gridE g = 3 := if_pos h0
    have q1 : ((g.length : Int) == 0) = true := by simp [h0]
    have E := Lib.hid e
    clear h0 e
    go_enter Tryz.func22, Tryz.ntmps22
    go_wp2
    go_ret
    exact ⟨by rw [E.out]; rfl, by (repeat (first | (with_reducible exact Ext.refl _) | (with_reducible assumption) | (with_reducible refine Ext.alloc ?_ _) | ((with_reducible refine Ext.setp ?_ ?_); focus (dsimp only; omega)) | (with_reducible refine Ext.drew ?_) | (with_reducible refine Ext.drewN ?_ _) | (with_reducible refine Ext.trans ?_ (by assumption))))⟩
  by_cases h1 : 4 < g.length
  · have e : gridE g = 4 := by unfold gridE; rw [if_neg h0, if_pos h1]
    have q1 : ((g.length : Int) == 0) = false := beq_eq_false_iff_ne.2 (by omega)
    have q2 : (4 : Int) < (g.length : Int) := by omega
    have E := Lib.hid e
    clear h0 h1 e
    go_enter Tryz.func22, Tryz.ntmps22
    go_wp2
    go_ret
    exact ⟨by rw [E.out]; rfl, by (repeat (first | (with_reducible exact Ext.refl _) | (with_reducible assumption) | (with_reducible refine Ext.alloc ?_ _) | ((with_reducible refine Ext.setp ?_ ?_); focus (dsimp only; omega)) | (with_reducible refine Ext.drew ?_) | (with_reducible refine Ext.drewN ?_ _) | (with_reducible refine Ext.trans ?_ (by assumption))))⟩
  have hge : gridE g = if firstE g = 0 then (if 256 < gsize g then 10 else 0) else firstE g := by unfold gridE; rw [if_neg h0, if_neg h1]
  have q1 : ((g.length : Int) == 0) = false := beq_eq_false_iff_ne.2 (by omega)
  have q2 : ¬ (4 : Int) < (g.length : Int) := by omega
  have GE := Lib.hid hge; have L4 := Lib.hid h1
  clear hge h0 h1
  go_enter Tryz.func22, Tryz.ntmps22
  go_wp2
  go_loopw [17] (fun i wr => ∃ k : Nat, k ≤ g.length ∧ i = .int .i64 k ∧ (∀ j, j < k → axE (g.getD j []) = 0) ∧ Ext w wr) (fun i _ => g.length - (intOf i).toNat)
  case atStart => exact ⟨0, Nat.zero_le _, rfl, (fun j hj => by omega), Ext.refl w⟩
  case round =>
    obtain ⟨k, hk, rfl, hok, hx⟩ := hrel
    have X := Lib.hid hx; have OK := Lib.hid hok
    clear q1 q2 hok
    by_cases hlt : k < g.length
    · obtain ⟨b, off, ai, ci, rfl, hrow⟩ := (HG.out.ext hx).at hlt
      obtain ⟨r1, r2, r3⟩ := hrow
      have hat := firstE_at hlt OK.out
      have HAT := Lib.hid hat
      have HR := Lib.hid r3
      obtain ⟨c, hc⟩ : ∃ c, c = g.getD k [] := ⟨_, rfl⟩
      rw [← hc] at HAT HR r2
      have HC := Lib.hid hc
      clear hat r3 hx hc
      have q1 : (0 : Int) ≤ (k : Int) := by omega
      have q2 : (k : Int) < (g.length : Int) := by omega
      by_cases c0 : c.length = 0
      · have e : axE c = 3 := if_pos c0
        have q3 : ((c.length : Int) == 0) = true := by simp [c0]
        have E := Lib.hid e
        clear c0 e
        go_wp2
        go_ret
        exact ⟨by rw [GE.out, if_neg (by rw [HAT.out (by rw [E.out]; decide), E.out]; decide), HAT.out (by rw [E.out]; decide), E.out]; rfl, X.out⟩
      by_cases c1 : 32 < c.length
      · have e : axE c = 4 := by unfold axE; rw [if_neg c0, if_pos c1]
        have q3 : ((c.length : Int) == 0) = false := beq_eq_false_iff_ne.2 (by omega)
        have q4 : (32 : Int) < (c.length : Int) := by omega
        have E := Lib.hid e
        clear c0 c1 e
        go_wp2
        go_ret
        exact ⟨by rw [GE.out, if_neg (by rw [HAT.out (by rw [E.out]; decide), E.out]; decide), HAT.out (by rw [E.out]; decide), E.out]; rfl, X.out⟩
      have q3 : ((c.length : Int) == 0) = false := beq_eq_false_iff_ne.2 (by omega)
      have q4 : ¬ (32 : Int) < (c.length : Int) := by omega
      have C0 := Lib.hid c0; have C1 := Lib.hid c1
      clear c0 c1
      go_wp2
      go_loopw [31] (fun i wq => ∃ m : Nat, m ≤ c.length ∧ i = .int .i64 m ∧ (∀ j, j < m → okC c j) ∧ Ext wr wq) (fun i _ => c.length - (intOf i).toNat)
      case atStart => exact ⟨0, Nat.zero_le _, rfl, (fun j hj => by omega), Ext.refl wr⟩
      case round =>
        obtain ⟨m, hm, rfl, hok, hx⟩ := hrel
        have XQ := Lib.hid hx; have OKM := Lib.hid hok
        clear q1 q2 q3 q4 hok r1 r2
        by_cases hlm : m < c.length
        · obtain ⟨b1, o1, rfl, hat⟩ := rdI_at (HR.out.ext hx) hlm
          obtain ⟨s1, s2⟩ := hat
          have q1 : (0 : Int) ≤ (m : Int) := by omega
          have q2 : (m : Int) < (c.length : Int) := by omega
          have hbad : ¬ okC c m → gridE g = 1 := fun h => by
            have e := axE_1 C0.out C1.out hlm h
            rw [GE.out, if_neg (by rw [HAT.out (by rw [e]; decide), e]; decide), HAT.out (by rw [e]; decide), e]
          obtain ⟨z, hz⟩ : ∃ z, z = c.getD m 0 := ⟨_, rfl⟩
          rw [← hz] at s2
          by_cases z1 : z < -1073741824
          · have E := Lib.hid (hbad fun h => by have := h.1; rw [← hz] at this; omega)
            clear hbad hz hx
            go_wp2
            go_ret
            exact ⟨by rw [E.out]; rfl, by have := X.out.trans XQ.out; (repeat (first | (with_reducible exact Ext.refl _) | (with_reducible assumption) | (with_reducible refine Ext.alloc ?_ _) | ((with_reducible refine Ext.setp ?_ ?_); focus (dsimp only; omega)) | (with_reducible refine Ext.drew ?_) | (with_reducible refine Ext.drewN ?_ _) | (with_reducible refine Ext.trans ?_ (by assumption))))⟩
          by_cases z2 : 1073741824 < z
          · have E := Lib.hid (hbad fun h => by have := h.2.1; rw [← hz] at this; omega)
            clear hbad hz hx
            go_wp2
            go_ret
            exact ⟨by rw [E.out]; rfl, by have := X.out.trans XQ.out; (repeat (first | (with_reducible exact Ext.refl _) | (with_reducible assumption) | (with_reducible refine Ext.alloc ?_ _) | ((with_reducible refine Ext.setp ?_ ?_); focus (dsimp only; omega)) | (with_reducible refine Ext.drew ?_) | (with_reducible refine Ext.drewN ?_ _) | (with_reducible refine Ext.trans ?_ (by assumption))))⟩
          cases m with
          | zero =>
            have hk2 : ∀ j, j < 1 → okC c j := fun j hj => by
              obtain rfl : j = 0 := by omega
              exact ⟨by omega, by omega, fun h => by omega⟩
            have OK2 := Lib.hid hk2
            clear hbad hz hx hk2
            simp only [Nat.add_zero] at s2
            go_wp2
            go_roundw
            case rel => exact ⟨1, by omega, by go_num, OK2.out, XQ.out⟩
            case measure => simp [intOf]; omega
          | succ m =>
            obtain ⟨b2, o2, e2, t1, t2⟩ := rdI_at (HR.out.ext hx) (show m < c.length by omega)
            injection e2 with e2
            injection e2 with e2 e3
            subst e2; subst e3
            obtain ⟨y, hy⟩ : ∃ y, y = c.getD m 0 := ⟨_, rfl⟩
            rw [← hy] at t2
            have q3 : (0 : Int) < ((m + 1 : Nat) : Int) := by omega
            have q5 : (0 : Int) ≤ (m : Int) := by omega
            have q6 : (m : Int) < (c.length : Int) := by omega
            by_cases hle : z ≤ y
            · have E := Lib.hid (hbad fun h => by have := h.2.2 (by omega); rw [← hz, Nat.add_sub_cancel, ← hy] at this; omega)
              have q7 : (m : Int) ≤ 32 := by have := C1.out; omega
              have q8 : wrap64 (m : Int) = (m : Int) := by unfold wrap64; omega
              clear hbad hz hx hy
              go_wp2
              go_ret
              exact ⟨by rw [E.out]; rfl, by have := X.out.trans XQ.out; (repeat (first | (with_reducible exact Ext.refl _) | (with_reducible assumption) | (with_reducible refine Ext.alloc ?_ _) | ((with_reducible refine Ext.setp ?_ ?_); focus (dsimp only; omega)) | (with_reducible refine Ext.drew ?_) | (with_reducible refine Ext.drewN ?_ _) | (with_reducible refine Ext.trans ?_ (by assumption))))⟩
            · have hk2 : ∀ j, j < m + 1 + 1 → okC c j := fun j hj => by
                by_cases e : j = m + 1
                · subst e
                  exact ⟨by omega, by omega, fun _ => by rw [Nat.add_sub_cancel, ← hy, ← hz]; omega⟩
                · exact OKM.out j (by omega)
              have OK2 := Lib.hid hk2
              have q7 : (m : Int) ≤ 32 := by have := C1.out; omega
              have q8 : wrap64 (m : Int) = (m : Int) := by unfold wrap64; omega
              clear hbad hz hx hk2 hy
              go_wp2
              go_roundw
              case rel => exact ⟨m + 1 + 1, by omega, by go_num, OK2.out, XQ.out⟩
              case measure => simp [intOf]; omega
        · obtain rfl : m = c.length := by omega
          have q1 : ¬ (c.length : Int) < (c.length : Int) := by omega
          have hk2 : ∀ j, j < k + 1 → axE (g.getD j []) = 0 := fun j hj => by
            by_cases e : j = k
            · subst e; rw [← HC.out]; exact axE_0 C0.out C1.out OKM.out
            · exact OK.out j (by omega)
          have OK2 := Lib.hid hk2
          clear hx hk2
          go_wp2
          go_roundw
          case rel => exact ⟨k + 1, by omega, by go_num, OK2.out, X.out.trans XQ.out⟩
          case measure => simp [intOf]; omega
    · obtain rfl : k = g.length := by omega
      have q1 : ¬ (g.length : Int) < (g.length : Int) := by omega
      have e0 := firstE_0 OK.out
      have hs : Shrt g := ⟨by have := L4.out; omega, fun k hk => (axE_ok (OK.out k hk)).2.1⟩
      have E0 := Lib.hid e0
      have HS := Lib.hid (HSZ.out _ hx hs)
      clear hx hs e0
      go_wp2_with fail
      refine HS.out.mono ?_
      rintro e w1 ⟨rfl, hx1⟩
      have X1 := Lib.hid (X.out.trans hx1)
      clear hx1
      by_cases h5 : 256 < gsize g
      · have q2 : (256 : Int) < (gsize g : Int) := by omega
        have H5 := Lib.hid h5
        clear h5
        go_wp2
        go_ret
        exact ⟨by rw [GE.out, if_pos E0.out, if_pos H5.out]; rfl, X1.out⟩
      · have q2 : ¬ (256 : Int) < (gsize g : Int) := by omega
        have H5 := Lib.hid h5
        clear h5
        go_wp2
        go_ret
        exact ⟨by rw [GE.out, if_pos E0.out, if_neg H5.out]; rfl, X1.out⟩
end Go.Proofs.YthkfkfbfblppeaaGreat
namespace Go.Proofs.YthkfkfbfblppeaaGreat
set_option linter.unusedSimpArgs false
set_option linter.unusedVariables false
open Go.RowKit
theorem num_ltk {g : List (List Int)} {p : Nat → Nat} : ∀ k, k ≤ g.length → (∀ a, a < k → p a < (g.getD a []).length) → num g p k < gsize (g.take k)
  | 0, _, _ => by simp [num, gsize]
  | k + 1, h, hp => by
    rw [gsize_take (by omega)]
    have := num_ltk k (by omega) fun a ha => hp a (by omega)
    have h2 := hp k (by omega)
    simp only [num]
    calc num g p k * (g.getD k []).length + p k < num g p k * (g.getD k []).length + (g.getD k []).length := by omega
      _ = (num g p k + 1) * (g.getD k []).length := by rw [Nat.add_mul, Nat.one_mul]
      _ ≤ _ := Nat.mul_le_mul_right _ this
def vertsS (g : List (List Int)) : Int × Int := if gridE g = 0 then ((gsize g : Int), 0) else (0, gridE g)
def pN (p : List Int) (a : Nat) : Nat := (p.getD a 0).toNat
def okP (g : List (List Int)) (p : List Int) (n : Nat) : Prop := ∀ a, a < n → 0 ≤ p.getD a 0 ∧ p.getD a 0 < ((g.getD a []).length : Int)
instance (g : List (List Int)) (p : List Int) (n : Nat) : Decidable (okP g p n) := by unfold okP; infer_instance
def vertexS (g : List (List Int)) (p : List Int) : Int × Int :=
  if gridE g = 0 then (if p.length = g.length then (if okP g p g.length then ((num g (pN p) g.length : Int), 0) else (0, 8)) else (0, 16)) else (0, gridE g)
theorem vertices7_any (v : Value) (g : List (List Int)) (w : World) (h : RdG w v g) :
    Calls Tryz.prog 17 #[v] w fun e w' => e = .returned (.tuple #[.int .i64 (vertsS g).1, .int .i64 (vertsS g).2]) ∧ Ext w w' := by
  have HG := Lib.hid h
  have HCK := Lib.hid (fun W (x : Ext w W) => check7_any v g W (h.ext x))
  have HSZ := Lib.hid (fun W (x : Ext w W) => size7_any v g W (h.ext x))
  clear h
  go_enter Tryz.func17, Tryz.ntmps17
  go_wp2_with fail
  refine (HCK.out _ (Ext.refl w)).mono ?_
  rintro e w1 ⟨rfl, hx⟩
  have X := Lib.hid hx
  by_cases h0 : gridE g = 0
  · have E := Lib.hid (show vertsS g = ((gsize g : Int), 0) from if_pos h0)
    have HS := Lib.hid (HSZ.out _ hx (gridE_ok h0).shrt)
    rw [h0]
    clear hx h0
    go_wp2_with fail
    refine HS.out.mono ?_
    rintro e w2 ⟨rfl, hx2⟩
    have X2 := Lib.hid (X.out.trans hx2)
    clear hx2
    go_wp2_with fail
    go_ret2
    exact ⟨by rw [E.out]; rfl, X2.out⟩
  · have E := Lib.hid (show vertsS g = (0, gridE g) from if_neg h0)
    obtain ⟨c, hc⟩ : ∃ c, c = gridE g := ⟨_, rfl⟩
    rw [← hc] at E h0 ⊢
    have q1 : (c != 0) = true := by simpa using h0
    clear hx h0 hc
    go_wp2_with fail
    go_ret2
    exact ⟨by rw [E.out]; rfl, X.out⟩
set_option maxHeartbeats 4000000 in
theorem vertex7_any (v vp : Value) (g : List (List Int)) (p : List Int) (w : World) (h : RdG w v g) (hp : RdI .i64 w vp p) :
    Calls Tryz.prog 18 #[v, vp] w fun e w' => e = .returned (.tuple #[.int .i64 (vertexS g p).1, .int .i64 (vertexS g p).2]) ∧ Ext w w' := by
  have HG := Lib.hid h; have HP := Lib.hid hp
  have HCK := Lib.hid (fun W (x : Ext w W) => check7_any v g W (h.ext x))
  obtain ⟨a, cap, rfl, hgl⟩ := h.shape
  obtain ⟨ap, cp, rfl, hcp, hmp, _⟩ := hp.get
  clear h hp
  have hpl : p.length ≤ 9223372036854775807 := by omega
  clear hcp hmp
  go_enter Tryz.func18, Tryz.ntmps18
  go_wp2_with fail
  refine (HCK.out _ (Ext.refl w)).mono ?_
  rintro e w1 ⟨rfl, hx⟩
  have X := Lib.hid hx
  by_cases h0 : gridE g = 0
  rotate_left
  · have E := Lib.hid (show vertexS g p = (0, gridE g) from if_neg h0)
    obtain ⟨c, hc⟩ : ∃ c, c = gridE g := ⟨_, rfl⟩
    rw [← hc] at E h0 ⊢
    have q1 : (c != 0) = true := by simpa using h0
    clear hx h0 hc
    go_wp2_with fail
    go_ret2
    exact ⟨by rw [E.out]; rfl, X.out⟩
  by_cases hl : p.length = g.length
  rotate_left
  · have E := Lib.hid (show vertexS g p = (0, 16) from (if_pos h0).trans (if_neg hl))
    rw [h0]
    have q1 : ((p.length : Int) != (g.length : Int)) = true := bne_iff_ne.2 (by omega)
    clear hx h0 hl
    go_wp2_with fail
    go_ret2
    exact ⟨by rw [E.out]; rfl, X.out⟩
  have E := Lib.hid (show vertexS g p = if okP g p g.length then ((num g (pN p) g.length : Int), 0) else (0, 8) from (if_pos h0).trans (if_pos hl))
  have HS := Lib.hid (gridE_ok h0).shrt
  rw [h0]
  have q1 : ((p.length : Int) != (g.length : Int)) = false := by rw [hl]; simp
  have HL := Lib.hid hl
  clear hx h0 hl
  go_wp2_with fail
  go_loopw [4, 23] (fun n i wr => ∃ k : Nat, k ≤ p.length ∧ n = .int .i64 (num g (pN p) k) ∧ i = .int .i64 k ∧ okP g p k ∧ Ext w wr) (fun _ i _ => p.length - (intOf i).toNat)
  case atStart => exact ⟨0, Nat.zero_le _, rfl, rfl, (fun a ha => by omega), X.out⟩
  case round =>
    obtain ⟨k, hk, rfl, rfl, hok, hx⟩ := hrel
    have XR := Lib.hid hx; have OK := Lib.hid hok
    clear q1 X hok
    by_cases hlt : k < p.length
    · have hlg : k < g.length := by have := HL.out; omega
      obtain ⟨b, off, ai, ci, rfl, r1, r2, r3⟩ := (HG.out.ext hx).at hlg
      obtain ⟨b1, o1, rfl, s1, s2⟩ := rdI_at (HP.out.ext hx) hlt
      have hn := num_ltk k (Nat.le_of_lt hlg) (p := pN p) (fun a ha => by have := OK.out a ha; unfold pN; omega)
      have hb := shrt_lt HS.out (show k ≤ g.length by omega)
      have hc := HS.out.2 k hlg
      have hst : num g (pN p) (k + 1) = num g (pN p) k * (g.getD k []).length + (p.getD k 0).toNat := rfl
      have hb2 := shrt_lt HS.out (show k + 1 ≤ g.length by omega)
      have hok2 : ∀ (h1 : 0 ≤ p.getD k 0) (h2 : p.getD k 0 < ((g.getD k []).length : Int)), okP g p (k + 1) := fun h1 h2 a ha => by
        by_cases e : a = k
        · subst e; exact ⟨h1, h2⟩
        · exact OK.out a (by omega)
      have hbad : ¬ (0 ≤ p.getD k 0 ∧ p.getD k 0 < ((g.getD k []).length : Int)) → vertexS g p = (0, 8) := fun h => by
        rw [E.out, if_neg (fun h2 => h (h2 k hlg))]
      have q1 : (0 : Int) ≤ (k : Int) := by omega
      have q2 : (k : Int) < (g.length : Int) := by omega
      have q3 : (k : Int) < (p.length : Int) := by omega
      have hnk := fun h1 h2 => num_ltk (k + 1) hlg (p := pN p) (fun a ha => by have := hok2 h1 h2 a ha; unfold pN; omega)
      generalize p.getD k 0 = z at *
      generalize g.getD k [] = c at *
      obtain ⟨A, hA⟩ : ∃ A, A = num g (pN p) k := ⟨_, rfl⟩
      obtain ⟨B, hB⟩ : ∃ B, B = num g (pN p) (k + 1) := ⟨_, rfl⟩
      rw [← hA] at hst hn ⊢
      rw [← hB] at hst hnk
      have hA2 : A ≤ 1048576 := by omega
      have hAc : A * c.length ≤ 1048576 * 32 := Nat.mul_le_mul hA2 hc
      by_cases z1 : z < 0
      · have EB := Lib.hid (hbad (by omega))
        clear hn hb hst hb2 hok2 hbad hnk hA hB hA2 hAc hx
        go_wp2_with fail
        go_ret2
        exact ⟨by rw [EB.out]; rfl, XR.out⟩
      by_cases z2 : (c.length : Int) ≤ z
      · have EB := Lib.hid (hbad (by omega))
        clear hn hb hst hb2 hok2 hbad hnk hA hB hA2 hAc hx
        go_wp2_with fail
        go_ret2
        exact ⟨by rw [EB.out]; rfl, XR.out⟩
      · have OK2 := Lib.hid (hok2 (by omega) (by omega))
        have HB := Lib.hid hB
        have e1 : (A : Int) * (c.length : Int) = ((A * c.length : Nat) : Int) := (Int.natCast_mul _ _).symm
        have e2 : IntKind.i64.wrap ((A : Int) * (c.length : Int)) = ((A * c.length : Nat) : Int) := by rw [e1]; exact wrapL (by omega) (by omega)
        have e3 : IntKind.i64.wrap (((A * c.length : Nat) : Int) + z) = (B : Int) := by rw [wrapL (by omega) (by omega)]; omega
        obtain ⟨M, hM⟩ : ∃ M, M = A * c.length := ⟨_, rfl⟩
        rw [← hM] at e2 e3
        clear hn hb hst hb2 hok2 hbad hnk hA hB hA2 hAc hx e1 hM
        go_wp2_with fail
        go_roundw
        case rel => exact ⟨k + 1, by omega, by rw [HB.out], by go_num, OK2.out, XR.out⟩
        case measure => simp [intOf]; omega
    · obtain rfl : k = p.length := by omega
      have q1 : ¬ (p.length : Int) < (p.length : Int) := by omega
      have E2 := Lib.hid (show vertexS g p = ((num g (pN p) p.length : Int), 0) by rw [E.out, HL.out] at *; exact if_pos (by have := OK.out; rw [HL.out] at this; exact this))
      clear hx
      go_wp2_with fail
      go_ret2
      exact ⟨by rw [E2.out]; rfl, XR.out⟩
end Go.Proofs.YthkfkfbfblppeaaGreat
namespace Go.Proofs.YthkfkfbfblppeaaGreat
set_option linter.unusedSimpArgs false
set_option linter.unusedVariables false
open Go.RowKit
structure Ki (m V : Nat) (A B : World) : Prop where
  zero : Below 0 A B
  block : ∀ i, i < A.heap.size → i ≤ m + 1 → i ≠ V → B.heap[i]? = A.heap[i]?
structure Km (m V : Nat) (A B : World) : Prop where
  zero : Below 0 A B
  block : ∀ i, i < A.heap.size → i < m → i ≠ V → B.heap[i]? = A.heap[i]?
structure Kr1 (O : Nat) (A B : World) : Prop where
  zero : Below 0 A B
  block : ∀ i, i < A.heap.size → i ≠ O → B.heap[i]? = A.heap[i]?
theorem Ki.km {m V : Nat} {A B : World} (h : Ki m V A B) : Km m V A B := ⟨h.zero, fun i hi hm hv => h.block i hi (by omega) hv⟩
theorem Ki.trans {m V : Nat} {A B C : World} (h : Ki m V A B) (k : Ki m V B C) : Ki m V A C := ⟨h.zero.trans k.zero, fun i hi hm hv => (k.block i (Nat.lt_of_lt_of_le hi h.zero.size) hm hv).trans (h.block i hi hm hv)⟩
theorem Ki.ext {m V : Nat} {A B : World} (h : Ext A B) : Ki m V A B := ⟨h.mono (Nat.zero_le _), fun i hi _ _ => h.block i hi⟩
theorem Ki.set {m V : Nat} {A B : World} (h : Ki m V A B) (o : Nat) (v : Value) : Ki m V A (B.setCell ⟨V, o, none⟩ v) :=
  ⟨h.zero.setCell (Nat.zero_le _) v, fun i hi hm hv => (Below.heap_setCell B ⟨V, o, none⟩ v i hv).trans (h.block i hi hm hv)⟩
theorem Ki.of_kz {m V n : Nat} {A B : World} (h : Kz n A B) (hn : m + 2 ≤ n) : Ki m V A B := ⟨h.zero, fun i hi hm _ => h.block i hi (.inl (by omega))⟩
theorem Km.ext {m V : Nat} {A B : World} (h : Ext A B) : Km m V A B := ⟨h.mono (Nat.zero_le _), fun i hi _ _ => h.block i hi⟩
theorem Km.putObj {m V : Nat} (A : World) (o : Obj) (k : Nat) (hk : m ≤ k) : Km m V A (A.putObj k o) :=
  ⟨⟨rfl, rfl, rfl, by simp, fun i hi => by omega⟩, fun i _ hm _ => World.putObj_heap_other (by omega)⟩
theorem Kr1.ext {O : Nat} {A B : World} (h : Ext A B) : Kr1 O A B := ⟨h.mono (Nat.zero_le _), fun i hi _ => h.block i hi⟩
theorem Kr1.trans {O : Nat} {A B C : World} (h : Kr1 O A B) (k : Kr1 O B C) : Kr1 O A C := ⟨h.zero.trans k.zero, fun i hi hv => (k.block i (Nat.lt_of_lt_of_le hi h.zero.size) hv).trans (h.block i hi hv)⟩
theorem Kr1.set {O : Nat} {A B : World} (h : Kr1 O A B) (o : Nat) (v : Value) : Kr1 O A (B.setCell ⟨O, o, none⟩ v) :=
  ⟨h.zero.setCell (Nat.zero_le _) v, fun i hi hv => (Below.heap_setCell B ⟨O, o, none⟩ v i hv).trans (h.block i hi hv)⟩
theorem Blk.km {m V : Nat} {A B : World} {b : Nat} {c : Array Value} {t : TypeId} (h : Blk A b c t) (k : Km m V A B) (hb : b < m) (hv : b ≠ V) : Blk B b c t := (k.block b h.lt hb hv).trans h
theorem Blk.kr1 {O : Nat} {A B : World} {b : Nat} {c : Array Value} {t : TypeId} (h : Blk A b c t) (k : Kr1 O A B) (hb : b ≠ O) : Blk B b c t := (k.block b h.lt hb).trans h
theorem Ext.km {m V : Nat} {w A B : World} (h : Ext w A) (k : Km m V A B) (hm : w.heap.size ≤ m) (hv : w.heap.size ≤ V) : Ext w B :=
  Below.trans h ⟨k.zero.os, k.zero.tape, k.zero.output, k.zero.size, fun i hi => k.block i (Nat.lt_of_lt_of_le hi h.size) (by omega) (by omega)⟩
theorem Ext.kr1 {O : Nat} {w A B : World} (h : Ext w A) (k : Kr1 O A B) (ho : w.heap.size ≤ O) : Ext w B :=
  Below.trans h ⟨k.zero.os, k.zero.tape, k.zero.output, k.zero.size, fun i hi => k.block i (Nat.lt_of_lt_of_le hi h.size) (by omega)⟩
def OwnSeq (F : Fence) (n : Nat) (P : Program) (gf : Nat) (lb : Array Value) (N : Nat) (encs : Nat → Array Value) (O m V : Nat) (W1 : World) : Prop :=
  ∀ (J : Nat → World → Prop), (∀ k A B, J k A → Ki m V A B → J k B) →
    (∀ k A, k < N → J (k + 1) A → YieldAt F (n - 1) P (m + 1) (encs k) A fun e A' => e = .returned (.bool true) ∧ J k A' ∧ Kr1 O A A') →
    J N W1 → CallsIn F n P gf (#[.func (.yield (m + 1)) #[] #[]] ++ lb) W1 fun e W' => (∃ v, e = .returned v) ∧ J 0 W'
variable {F : Fence} {n : Nat} {P : Program}
theorem wpIn_range_own {g : Operand} {ps : Array Tmp} {assign body : Code} {Q : Exit → Act → World → Prop} {a : Act} {w : World}
    (hro : F.round = none) (h1 : 1 ≤ n) {gf : Nat} {lb : Array Value} (hg : a.eval g = .func (.func gf) #[] lb) (hFg : F.fn gf) (eg : ∀ args w, (callFunc gf args).run P w = .ok (.enter gf args) w)
    {encs : Nat → Array Value} (O V N : Nat) (hO : O < w.heap.size) (hV : V < w.heap.size)
    (hseq : ∀ W1, Ext w W1 → W1.heap.size = w.heap.size + 2 → OwnSeq F (n - 1) P gf lb N encs O w.heap.size V W1) (hps : ∀ k, (encs k).size = ps.size)
    (I : Nat → World → Prop) (hI : ∀ k A B, I k A → Km w.heap.size V A B → I k B) (h0 : I N w)
    (Ax : Nat → Act → World → Prop) (hAx : ∀ k a1 A B, Ax k a1 A → Km w.heap.size V A B → Ax k a1 B)
    (hassign : ∀ (l k : Nat) (W : World) (K : Act → World → Prop), k < N → I (k + 1) W → w.heap.size + 1 < W.heap.size → (∀ a1 W1, Ext W W1 → Ax k a1 W1 → K a1 W1) →
      assign.wpIn (F.inRound l) (n - 1 - 1) P (Exit.then K (fun _ _ _ => False)) { tmps := (ps.zip (encs k)).foldl (fun t (p, v) => t.setIfInBounds p v) a.tmps, defers := [] } W)
    (hbody : ∀ (l k : Nat) (a1 : Act) (W : World), k < N → Ax k a1 W → w.heap.size + 1 < W.heap.size →
      body.wpIn (F.inRound l) (n - 1 - 1) P (fun e _ W' => e = .normal ∧ Kr1 O W W' ∧ I k W') a1 W)
    (hdone : ∀ (W : World), I 0 W → W.heap[w.heap.size]? = some (.deferred (some [])) → Q .normal { a with defers := { target := .collected w.heap.size, args := #[] } :: a.defers } W) :
    (Code.rangeFunc g ps assign body).wpIn F n P Q a w := by
  refine wpIn_rangeFunc ?_
  intro fn hfn
  rw [hro]
  obtain ⟨rec, hrec⟩ : ∃ rec : LoopState → Option Code → Loop, rec = fun st pe => { state := st, pending := pe, fn, tmps := a.tmps, params := ps, assign, body, defers := w.heap.size } := ⟨_, rfl⟩
  obtain ⟨W1, hW1⟩ : ∃ W1, (w.alloc (.deferred (some []))).alloc (.loop (rec .ready none)) = W1 := ⟨_, rfl⟩
  have hL1 : W1.heap[w.heap.size + 1]? = some (.loop (rec .ready none)) := by
    rw [← hW1]; have := World.alloc_heap_new (w.alloc (.deferred (some []))) (.loop (rec .ready none)); rwa [World.size_alloc] at this
  have hK1 : W1.heap[w.heap.size]? = some (.deferred (some [])) := by
    rw [← hW1]; exact (Below.heap_alloc _ _ _ (by simp)).trans (World.alloc_heap_new w _)
  have hx1 : Ext w W1 := by rw [← hW1]; exact ((Ext.refl w).alloc _).alloc _
  have hs1 : W1.heap.size = w.heap.size + 2 := by rw [← hW1]; simp
  have hI1 : I N W1 := hI _ _ _ h0 (.ext hx1)
  refine ⟨w.heap.size + 1, [{ target := .collected w.heap.size, args := #[] }], W1, { target := .fn (.func gf) lb, args := #[.func (.yield (w.heap.size + 1)) #[] #[]] }, W1, gf,
    #[.func (.yield (w.heap.size + 1)) #[] #[]] ++ lb, W1, ?_, ?_, ?_, ?_, fun _ => h1, ?_⟩
  · rw [← hW1, hrec]; exact run_enterLoop_outer _ _ _ _ _
  · simp only [resolve, hg]
    simp [go_sem]
  · intro f' hf'; simp [Target.leads] at hf'; subst hf'; exact hFg
  · simp [invoke, go_sem, eg]
  · refine (hseq W1 hx1 hs1
      (fun k W => I k W ∧ W.heap[w.heap.size + 1]? = some (.loop (rec .ready none)) ∧ W.heap[w.heap.size]? = some (.deferred (some [])))
      (fun k A B hs x => ⟨hI _ _ _ hs.1 x.km, (x.block _ (Array.getElem?_eq_some_iff.1 hs.2.1).1 (by omega) (by omega)).trans hs.2.1, (x.block _ (Array.getElem?_eq_some_iff.1 hs.2.2).1 (by omega) (by omega)).trans hs.2.2⟩)
      ?_ ⟨hI1, hL1, hK1⟩).mono ?_
    · rintro k W hkN ⟨hi, hl, hk⟩
      have hlt : w.heap.size + 1 < W.heap.size := (Array.getElem?_eq_some_iff.1 hl).1
      have hy := run_yield (P := P) (args := encs k) hl (by rw [hrec]; exact hps k)
      rw [hrec] at hy
      refine ⟨fn, _, assign, body, hy, roundIn_of_wpIn hfn (hassign _ k W _ hkN hi hlt ?_)⟩
      intro a1 V1 hxV hax
      have hlV := (hxV.block _ (Array.getElem?_eq_some_iff.1 hl).1).trans hl
      have hkV := (hxV.block _ (Array.getElem?_eq_some_iff.1 hk).1).trans hk
      refine ⟨_, run_beginRound hlV (by rw [hrec]), ?_⟩
      have hltV : w.heap.size + 1 < V1.heap.size := (Array.getElem?_eq_some_iff.1 hlV).1
      have hl2 : (V1.putObj (w.heap.size + 1) (.loop { rec .ready none with state := .busy })).heap[w.heap.size + 1]? = some (.loop { rec .ready none with state := .busy }) := World.putObj_heap_same hltV
      have hk2 : (V1.putObj (w.heap.size + 1) (.loop { rec .ready none with state := .busy })).heap[w.heap.size]? = some (.deferred (some [])) := (World.putObj_heap_other (by omega)).trans hkV
      refine wpIn_mono (hbody _ k a1 _ hkN (hAx _ _ _ _ hax (Km.putObj V1 _ _ (by omega))) (by simpa using hltV)) ?_
      rintro e a3 W3 ⟨rfl, hb3, hi3⟩
      have hl3 := (hb3.block _ (by simpa using hltV) (by omega)).trans hl2
      have hk3 := (hb3.block w.heap.size (by simp; omega) (by omega)).trans hk2
      have hr := run_endRound (P := P) none hl3
      rw [hrec] at hr
      have hfin : (W3.putObj (w.heap.size + 1) (.loop (rec .ready none))).heap[w.heap.size + 1]? = some (.loop (rec .ready none)) := World.putObj_heap_same (Array.getElem?_eq_some_iff.1 hl3).1
      rw [hrec] at hfin
      refine ⟨_, _, hr, rfl, ⟨hI _ _ _ hi3 (Km.putObj W3 _ _ (by omega)), ?_, (World.putObj_heap_other (by omega)).trans hk3⟩, ?_⟩
      · rw [hrec]; exact hfin
      · refine ⟨⟨hb3.zero.os.trans hxV.os, hb3.zero.tape.trans hxV.tape, hb3.zero.output.trans hxV.output, ?_, fun i hi => by omega⟩, fun i hi ho => ?_⟩
        · have := hb3.zero.size; have := hxV.size; simp at *; omega
        · by_cases e : i = w.heap.size + 1
          · subst e
            rw [hrec] at hl
            exact hfin.trans hl.symm
          · exact (World.putObj_heap_other (by omega)).trans ((hb3.block i (by have := hxV.size; simp; omega) ho).trans ((World.putObj_heap_other (by omega)).trans (hxV.block i hi)))
    · rintro e W2 ⟨⟨v, rfl⟩, hi, hl, hk⟩
      exact ⟨none, _, by have := run_endLoop (P := P) hl (by rw [hrec]; simp); rw [hrec] at this; exact this, hdone _ (hI _ _ _ hi (Km.putObj W2 _ _ (by omega))) ((World.putObj_heap_other (by omega)).trans hk)⟩
end Go.Proofs.YthkfkfbfblppeaaGreat
namespace Go.Proofs.YthkfkfbfblppeaaGreat
set_option linter.unusedSimpArgs false
set_option linter.unusedVariables false
open Go.RowKit Go.Shelf
attribute [local go_sem] Oper.semAt_some
theorem backward7_any (a : Option Addr) (n c : Nat) (w : World) :
    Calls Tryz.prog 142 #[.slice a n c] w fun e w' => e = .returned (.func (.func 184) #[] #[.pointer (some ⟨w.heap.size, 0, none⟩)]) ∧ w' = w.alloc (.cells #[.slice a n c] 23) := by
  go_enter Tryz.func142, Tryz.ntmps142
  go_wp2
  go_ret
  exact ⟨rfl, rfl⟩
def RdBg (Bx : Nat) (v : Value) (k : Nat) (W : World) (x : Value) : Prop :=
  W.cell? ⟨Bx, 0, none⟩ = some v ∧ ∃ b off n cap, v = .slice (some ⟨b, off, none⟩) n cap ∧ W.cell? ⟨b, off + k, none⟩ = some x
set_option maxHeartbeats 1000000 in
theorem back7_seq (n : Nat) (hn : 1 ≤ n) (a : Option Addr) (N cap Bx lb : Nat) (W1 : World) (hb : W1.cell? ⟨Bx, 0, none⟩ = some (.slice a N cap)) (hc : N ≤ cap) (hm : cap ≤ 9223372036854775807) :
    DownSeq Fence.wide n Tryz.prog 184 #[.pointer (some ⟨Bx, 0, none⟩)] N (fun k (x : Value) => #[.int .i64 k, x]) (RdBg Bx (.slice a N cap)) lb W1 := by
  intro J Jx hJ hJr hY h0
  refine callsIn_of_wp Tryz.func184 rfl trivial ?_ rfl
  simp only [Tryz.ntmps184, List.size_toArray, List.length_cons, List.length_nil, Nat.reduceAdd, Nat.reduceSub, Array.replicate_succ, Array.replicate_zero, List.push_toArray, List.append_toArray, List.nil_append, List.cons_append]
  gi_wp2_with fail
  gi_loopw [3] (fun i wr => (i = .int .i64 (-1) ∧ J 0 wr) ∨ ∃ j : Nat, j < N ∧ i = .int .i64 j ∧ J (j + 1) wr) (fun i _ => (intOf i + 1).toNat)
  case atStart =>
    rcases Nat.eq_zero_or_pos N with h | h
    · subst h; exact .inl ⟨rfl, h0⟩
    · exact .inr ⟨N - 1, by omega, by go_num, by rw [show N - 1 + 1 = N by omega]; exact h0⟩
  case round =>
    rcases hrel with ⟨rfl, hj⟩ | ⟨j, hj, rfl, hJj⟩
    · have HJ := Lib.hid hj; clear hj
      gi_wp2
      go_end0
      exact ⟨⟨_, rfl⟩, .inl HJ.out⟩
    · obtain ⟨x, hbx, b, off, n1, cap1, ha, hcx⟩ := hJr j wr hj hJj
      obtain ⟨fn, tmps, assign, body, hy, hR⟩ := hY j wr x hj hJj ⟨hbx, b, off, n1, cap1, ha, hcx⟩
      injection ha with ha hn1 hcap1
      subst ha
      have q1 : (0 : Int) ≤ (j : Int) := by omega
      have q2 : (j : Int) < (N : Int) := by omega
      have HJ := Lib.hid hJj; clear hJj hn1 hcap1
      gi_wp2
      refine hR.mono ?_
      rintro e W3 (⟨rfl, hJ3⟩ | ⟨rfl, hJ3⟩)
      · have HJ3 := Lib.hid hJ3; clear hJ3
        gi_wp2
        go_roundw
        case rel =>
          rcases Nat.eq_zero_or_pos j with h | h
          · subst h; exact .inl ⟨rfl, HJ3.out⟩
          · exact .inr ⟨j - 1, by omega, by go_num, by rw [show j - 1 + 1 = j by omega]; exact HJ3.out⟩
        case measure => simp [intOf] <;> omega
      · have HJ3 := Lib.hid hJ3; clear hJ3
        gi_wp2
        refine bodyPost_ret (v := .tuple #[]) ?_ rfl ⟨⟨_, rfl⟩, .inr ⟨j, hj, HJ3.out⟩⟩
        first | rfl | (simp only [results, Tryz.results184]; go_simp)
theorem indices7_any (a : Option Addr) (n c : Nat) (z : Int) (w : World) :
    Calls Tryz.prog 71 #[.slice a n c, .int .i64 z] w fun e w' => e = .returned (.func (.func 141) #[] #[.pointer (some ⟨w.heap.size, 0, none⟩), .pointer (some ⟨w.heap.size + 1, 0, none⟩)]) ∧
      w' = (w.alloc (.cells #[.slice a n c] 23)).alloc (.cells #[.int .i64 z] 3) := by
  go_enter Tryz.func71, Tryz.ntmps71
  go_wp2
  go_ret
  exact ⟨rfl, rfl⟩
structure IndI (J : Nat → World → Prop) (w0 : World) (g : List (List Int)) (v : Nat) (gs : Value) (Gb V m : Nat) (k : Nat) (W : World) : Prop where
  j : J k W
  v : Blk W V #[.int .i64 ((v / gsize (g.drop k) : Nat) : Int)] 3
  y : Blk W (m + 2) #[.func (.yield (m + 1)) #[] #[]] 137
  b : Blk W (m + 3) #[gs] 23
  x : Ext w0 W
theorem IndI.ext {J : Nat → World → Prop} {w0 : World} {g : List (List Int)} {v : Nat} {gs : Value} {Gb V m k : Nat} {A B : World} (hJ : ∀ k A B, J k A → Ki m V A B → J k B) (h : IndI J w0 g v gs Gb V m k A) (e : Ext A B) : IndI J w0 g v gs Gb V m k B :=
  ⟨hJ _ _ _ h.j (Ki.ext e), h.v.ext e, h.y.ext e, h.b.ext e, h.x.trans e⟩
theorem IndI.kz {J : Nat → World → Prop} {w0 : World} {g : List (List Int)} {v : Nat} {gs : Value} {Gb V m k : Nat} {A B : World} (hJ : ∀ k A B, J k A → Ki m V A B → J k B) (hV : V < m) (h0 : w0.heap.size ≤ m) (h : IndI J w0 g v gs Gb V m k A) (z : Kz (m + 4) A B) : IndI J w0 g v gs Gb V m k B :=
  ⟨hJ _ _ _ h.j (Ki.of_kz z (by omega)), h.v.kz z (by omega), h.y.kz z (by omega), h.b.kz z (by omega), h.x.kz z (by omega)⟩
def IndAx (J : Nat → World → Prop) (w0 : World) (g : List (List Int)) (v : Nat) (gs : Value) (Gb V m : Nat) (k : Nat) (y : Value) (a1 : Act) (W : World) : Prop :=
  IndI J w0 g v gs Gb V m (k + 1) W ∧ ∃ ai ci L, L = (g.getD k []).length ∧ y = .slice ai L ci ∧ ∃ t0 t6 t7 t8 t9 t10 t11 t12 t13 t14 t15 t16 t17 t18 t19 t20 t21 : Value,
    a1 = { tmps := #[t0, .pointer (some ⟨Gb, 0, none⟩), .pointer (some ⟨V, 0, none⟩), .pointer (some ⟨m + 2, 0, none⟩), .int .i64 k, y, t6, t7, t8, t9, t10, t11, t12, t13, t14, t15, t16, t17, t18, t19, t20, t21], defers := [] }
theorem tmod_nat (a b : Nat) : Int.tmod (a : Int) (b : Int) = ((a % b : Nat) : Int) := by rw [Int.ofNat_tmod]
theorem tdiv_nat (a b : Nat) : Int.tdiv (a : Int) (b : Int) = ((a / b : Nat) : Int) := by rw [Int.ofNat_tdiv]
set_option maxHeartbeats 4000000 in
theorem indices1_seq (gs : Value) (g : List (List Int)) (v : Nat) (w0 : World) (hg : RdG w0 gs g) (ok : GridOk g) (hv : v < gsize g) (O m V Gb : Nat) (W1 : World) (hs : W1.heap.size = m + 2) (hx : Ext w0 W1)
    (hO : w0.heap.size ≤ O ∧ O < m) (hV : w0.heap.size ≤ V ∧ V < m) (hGb : Gb < m) (hne : O ≠ V ∧ O ≠ Gb ∧ V ≠ Gb) (b1 : Blk W1 Gb #[gs] 23) (b2 : Blk W1 V #[.int .i64 (v : Int)] 3) :
    OwnSeq Fence.wide 7 Tryz.prog 141 #[.pointer (some ⟨Gb, 0, none⟩), .pointer (some ⟨V, 0, none⟩)] g.length (fun k => #[.int .i64 k, .int .i64 (plc g v k : Nat)]) O m V W1 := by
  intro J hJ hY h0
  have HG := Lib.hid hg
  obtain ⟨a, cap, rfl, hgl⟩ := hg.shape
  refine callsIn_of_wp_marks Tryz.func141 rfl trivial ?_ rfl
  simp only [Tryz.ntmps141, List.size_toArray, List.length_cons, List.length_nil, Nat.reduceAdd, Nat.reduceSub, Array.replicate_succ, Array.replicate_zero, List.push_toArray, List.append_toArray, List.nil_append, List.cons_append]
  obtain ⟨W2, hW2⟩ : ∃ W2, W2 = W1.alloc (.cells #[.func (.yield (m + 1)) #[] #[]] 137) := ⟨_, rfl⟩
  have hs2 : W2.heap.size = m + 3 := by rw [hW2]; simp [hs]
  have y2 : Blk W2 (m + 2) #[.func (.yield (m + 1)) #[] #[]] 137 := by rw [hW2, ← hs]; exact Blk.new _ _ _
  have x2 : Ext W1 W2 := by rw [hW2]; exact (Ext.refl _).alloc _
  have B1 := Lib.hid (b1.ext x2); have B2 := Lib.hid (b2.ext x2); have Y2 := Lib.hid y2; have HX := Lib.hid (hx.trans x2); have H0 := Lib.hid (hJ _ _ _ h0 (Ki.ext x2)); have HW2 := Lib.hid hW2; have HS2 := Lib.hid hs2
  have c1 : (W1.alloc (.cells #[.func (.yield (m + 1)) #[] #[]] 137)).cell? ⟨Gb, 0, none⟩ = some (.slice a g.length cap) := (b1.alloc (.cells #[.func (.yield (m + 1)) #[] #[]] 137)).cell 0
  clear hx b1 b2 h0 hW2 hs2 y2 x2
  gi_wp2_with fail
  rw [← HW2.out]
  clear c1
  refine ⟨trivial, (callsIn_wide.2 (backward7_any a g.length cap W2)).mono ?_⟩
  rintro e w3 ⟨rfl, hw3⟩
  have x3 : Ext W2 w3 := by rw [hw3]; exact (Ext.refl _).alloc _
  have hs3 : w3.heap.size = m + 4 := by rw [hw3]; simp [HS2.out]
  have k3 : Blk w3 (m + 3) #[.slice a g.length cap] 23 := by rw [hw3, ← HS2.out]; exact Blk.new _ _ _
  have I0 : IndI J w0 g v (.slice a g.length cap) Gb V m g.length w3 := ⟨hJ _ _ _ H0.out (Ki.ext x3), by have := B2.out.ext x3; rwa [List.drop_length, show gsize [] = 1 from rfl, Nat.div_one], Y2.out.ext x3, k3, HX.out.trans x3⟩
  have HI0 := Lib.hid I0; have HS3 := Lib.hid hs3
  clear I0 hw3 x3 hs3 k3
  rw [show W2.heap.size = m + 3 from HS2.out]
  gi_wp2_with fail
  obtain ⟨_, cap', e', hgc, hgm, hat⟩ := hg
  injection e' with e1 _ e3
  subst e1; subst e3
  have hseq : ∀ W1, Ext w3 W1 → DownSeq Fence.wide 6 Tryz.prog 184 #[.pointer (some ⟨m + 3, 0, none⟩)] g.length (fun k (x : Value) => #[.int .i64 k, x]) (RdBg (m + 3) (.slice a g.length cap)) (w3.heap.size + 1) W1 :=
    fun W1 hx => back7_seq 6 (by omega) a g.length cap (m + 3) _ W1 (by have := (HI0.out.b.ext hx).cell 0; simpa using this) hgc hgm
  refine wpIn_range_down rfl (by omega) (gf := 184) (lb := #[.pointer (some ⟨m + 3, 0, none⟩)]) rfl trivial (enters_of Tryz.func184 (by kernel_rfl) rfl) g.length hseq (fun _ _ => rfl)
    (fun k W => IndI J w0 g v (.slice a g.length cap) Gb V m k W)
    (fun c k W => False)
    (fun k A B h z => h.kz hJ hV.2 (by omega) (by rw [HS3.out] at z; exact z))
    (fun c k A B h z => h)
    ?hIr HI0.out
    (IndAx J w0 g v (.slice a g.length cap) Gb V m) ?hAx ?hassign ?hbody ?hdone ?hstop
  case hIr =>
    rintro k W hk hI
    obtain ⟨b, off, ai, ci, rfl, r1, r2, _⟩ := (HG.out.ext hI.x).at hk
    exact ⟨_, by have := hI.b.cell 0; simpa using this, b, off, _, _, rfl, r2⟩
  case hAx =>
    rintro k y a1 A B ⟨h1, h2⟩ z
    exact ⟨h1.kz hJ hV.2 (by omega) (by rw [HS3.out] at z; exact z), h2⟩
  case hassign =>
    rintro ll k y W K hk h1 ⟨_, b, off, _, _, e, h2⟩ hlt hK
    have h3 : ∃ ai ci, y = .slice ai (g.getD k []).length ci := by
      obtain ⟨b', off', ai, ci, e', r1, r2, _⟩ := (HG.out.ext h1.x).at hk
      injection e with e _ _
      rw [e] at e'
      injection e' with e'
      injection e' with e1 e2
      subst e1; subst e2
      rw [h2] at r2
      exact ⟨ai, ci, Option.some.inj r2⟩
    obtain ⟨ai, ci, rfl⟩ := h3
    obtain ⟨L, hL⟩ : ∃ L, L = (g.getD k []).length := ⟨_, rfl⟩
    have H1 := Lib.hid h1; have HL := Lib.hid hL
    rw [← hL] at hK ⊢
    clear h1 h2 e hL
    gi_wp2
    exact hK _ _ (Ext.refl W) ⟨H1.out, ai, ci, L, HL.out, rfl, _, _, _, _, _, _, _, _, _, _, _, _, _, _, _, _, _, rfl⟩
  case hbody =>
    rintro ll k y a1 w hk ⟨hI, ai, ci, L, hL, rfl, t0, t6, t7, t8, t9, t10, t11, t12, t13, t14, t15, t16, t17, t18, t19, t20, t21, rfl⟩ hlt
    have hLp : 0 < L := by rw [hL]; exact (ok.ax k hk).1
    have hLm : L ≤ 32 := by rw [hL]; exact (ok.ax k hk).2.1
    obtain ⟨A, hA⟩ : ∃ A, A = v / gsize (g.drop (k + 1)) := ⟨_, rfl⟩
    have hP : plc g v k = A % L := by rw [hA, hL]; rfl
    have hB : v / gsize (g.drop k) = A / L := by rw [gsize_drop hk, hA, hL, Nat.div_div_eq_div_mul, Nat.mul_comm]
    have hAm : A ≤ 256 := by have := ok.size; have := Nat.div_le_self v (gsize (g.drop (k + 1))); omega
    have h2 := hI.v
    rw [← hA] at h2
    have y1 := hI.y.cell 0; have y2 := hI.y.free 0; have y3 := hI.y.lt
    have v1 := h2.cell 0; have v2 := h2.free 0; have v3 := h2.lt
    simp only [List.getElem?_toArray, List.getElem?_cons_zero] at y1 v1
    have e1 := tmod_nat A L; have e2 := tdiv_nat A L
    obtain ⟨R, hR⟩ : ∃ R, R = A % L := ⟨_, rfl⟩
    obtain ⟨S, hS⟩ : ∃ S, S = A / L := ⟨_, rfl⟩
    have hRm : R ≤ 32 := by have := Nat.mod_lt A hLp; omega
    have hSm : S ≤ 256 := by rw [hS]; exact Nat.le_trans (Nat.div_le_self _ _) hAm
    rw [← hR] at e1 hP
    rw [← hS] at e2 hB
    have q1 : (L : Int) ≠ 0 := by omega
    have II := Lib.hid hI; have HB := Lib.hid hB; have HP := Lib.hid hP; have V2 := Lib.hid h2
    clear hI hB hP h2 hA hL hR hS
    gi_wp2_with fail
    (refine wpIn_region_qxtE (by first | exact Or.inr ⟨_, rfl⟩ | exact Or.inl rfl) 6 0 0 (by kernel_rfl) (by kernel_rfl) (by kernel_rfl) (fun _ _ d _ _ h => by cases d <;> exact h) ?_; simp only [Nat.reduceAdd, Nat.reduceSub, List.take_succ_cons, List.take_zero, List.take_nil, List.drop_succ_cons, List.drop_zero]; (repeat (go_big_quiet_step ((fail)))); refine wpQuiet_nil ?_; (try dsimp only); (repeat (go_big_quiet_step (fail))); refine wpQuiet_nil ?_; (try dsimp only); (repeat (go_big_quiet_step (fail))); refine wpQuiet_nil ?_; rintro w1 ⟨⟨_, hx1⟩, rfl⟩; (try dsimp only); have hz1 := hx1.size; (try simp only [World.size_alloc, World.size_setCell, World.size_drew, size_drewN] at hz1); obtain ⟨hc1, hf1⟩ := hx1.old (B := w.heap.size) (by (try simp only [World.size_alloc, World.size_setCell, World.size_drew, size_drewN]); omega))
    have hJ1 := hJ _ _ _ II.out.j (Ki.ext hx1)
    obtain ⟨fn, tmps, assign, body, hy, hR⟩ := hY k w1 hk hJ1
    rw [HP.out] at hy
    have II1 := Lib.hid (II.out.ext hJ hx1); have V3 := Lib.hid (V2.out.ext hx1); have HX1 := Lib.hid hx1
    clear hJ1 hx1 hz1 hc1 hf1 y1 y2 y3 v1 v2 v3 V2
    gi_wp2_with fail
    refine RoundIn.mono (R := fun e A' => e = .returned (.bool true) ∧ J k A' ∧ Kr1 O w1 A') ⟨hR.1, fun c cs _ => hR.2 c cs (fun d hd => by cases hd)⟩ ?_
    rintro e w2 ⟨rfl, hj2, hk2⟩
    have v4 : Blk w2 V #[.int .i64 A] 3 := V3.out.kr1 hk2 (by omega)
    have hI2 : Blk w2 (m + 2) #[.func (.yield (m + 1)) #[] #[]] 137 ∧ Blk w2 (m + 3) #[.slice a g.length cap] 23 ∧ Ext w0 w2 := ⟨II1.out.y.kr1 hk2 (by omega), II1.out.b.kr1 hk2 (by omega), II1.out.x.kr1 hk2 hO.1⟩
    have v1 := v4.cell 0; have v2 := v4.free 0; have v3 := v4.lt
    simp only [List.getElem?_toArray, List.getElem?_cons_zero] at v1
    have I2 := Lib.hid hI2; have V4 := Lib.hid v4; have HJ2 := Lib.hid hj2; have HK2 := Lib.hid hk2
    clear hI2 v4 hj2 hk2 hy hR
    gi_wp2_with fail
    have hb4 : ∀ i, i ≠ O → i ≠ V → i < w.heap.size → (w2.setCell ⟨V, 0, none⟩ (.int .i64 S)).heap[i]? = w.heap[i]? := fun i h1 h2 h3 =>
      (Below.heap_setCell w2 ⟨V, 0, none⟩ (.int .i64 S) i h2).trans ((HK2.out.block i (Nat.lt_of_lt_of_le h3 HX1.out.size) h1).trans (HX1.out.block i h3))
    have hz4 : w.heap.size ≤ (w2.setCell ⟨V, 0, none⟩ (.int .i64 S)).heap.size := by rw [World.size_setCell]; exact Nat.le_trans HX1.out.size HK2.out.zero.size
    have hs3 := HS3.out
    refine ⟨⟨hz4, hb4 _ (by omega) (by omega) (by omega), hb4 _ (by omega) (by omega) (by omega)⟩, hJ _ _ _ HJ2.out ((Ki.ext (Ext.refl w2)).set 0 _), ?_, I2.out.1.setOther (by dsimp only; omega) _, I2.out.2.1.setOther (by dsimp only; omega) _, I2.out.2.2.set (by dsimp only; omega) _⟩
    have := V4.out.set 0 (.int .i64 S)
    rw [HB.out]
    simpa using this
  case hdone =>
    rintro W hI hD
    have II := Lib.hid hI; have HD := Lib.hid hD
    clear hI hD
    gi_wp2
    refine ⟨by simp, .inl ⟨_, _, rfl, run_takeDeferred HD.out, ?_⟩⟩
    refine ⟨.tuple #[], by first | rfl | (simp only [results, Tryz.results141]; go_simp), ⟨_, rfl⟩, ?_⟩
    exact hJ _ _ _ II.out.j (Ki.of_kz (Kz.put0 (m := w3.heap.size) _ _) (by have := HS3.out; omega))
  case hstop =>
    rintro c k W hk h _
    exact h.elim
end Go.Proofs.YthkfkfbfblppeaaGreat
namespace Go.Proofs.YthkfkfbfblppeaaGreat
set_option linter.unusedSimpArgs false
set_option linter.unusedVariables false
open Go.RowKit Go.Shelf
attribute [local go_sem] Oper.semAt_some
def NewZ (w w' : World) (v : Value) (l : List Int) : Prop := l.length ≤ 1000 ∧ ((l = [] ∧ v = .slice none 0 0) ∨ ∃ b, w.heap.size ≤ b ∧ v = .slice (some ⟨b, 0, none⟩) l.length l.length ∧ Blk w' b (l.map (Value.int .i64)).toArray 3)
theorem NewZ.nil (w w' : World) : NewZ w w' (.slice none 0 0) [] := ⟨by simp, .inl ⟨rfl, rfl⟩⟩
theorem NewZ.shape {w w' : World} {v : Value} {l : List Int} (h : NewZ w w' v l) : ∃ a, v = .slice a l.length l.length := by
  rcases h.2 with ⟨rfl, rfl⟩ | ⟨b, _, rfl, _⟩
  · exact ⟨none, rfl⟩
  · exact ⟨_, rfl⟩
theorem NewZ.rd {w w' : World} {v : Value} {l : List Int} (h : NewZ w w' v l) : RdI .i64 w' v l := by
  obtain ⟨hl, ⟨rfl, rfl⟩ | ⟨b, _, rfl, hb⟩⟩ := h
  · exact ⟨none, 0, rfl, Nat.le_refl _, by omega, fun i hi => by cases hi⟩
  · refine ⟨some ⟨b, 0, none⟩, l.length, by rw [List.length_map], by rw [List.length_map]; exact Nat.le_refl _, by omega, fun i hi => ⟨b, 0, rfl, hb.lt, ?_⟩⟩
    rw [Nat.zero_add, hb.cell i, List.getElem?_toArray, List.getElem?_eq_getElem hi]
theorem NewZ.ext {w w' w2 : World} {v : Value} {l : List Int} (h : NewZ w w' v l) (x : Ext w' w2) : NewZ w w2 v l := by
  obtain ⟨hl, h | ⟨b, h1, h2, h3⟩⟩ := h
  · exact ⟨hl, .inl h⟩
  · exact ⟨hl, .inr ⟨b, h1, h2, h3.ext x⟩⟩
theorem NewZ.from {w0 w w' : World} {v : Value} {l : List Int} (h : NewZ w w' v l) (x : Ext w0 w) : NewZ w0 w' v l := by
  obtain ⟨hl, h | ⟨b, h1, h2, h3⟩⟩ := h
  · exact ⟨hl, .inl h⟩
  · exact ⟨hl, .inr ⟨b, Nat.le_trans x.size h1, h2, h3⟩⟩
def ResZ (w w' : World) (e : Ending) (r : List Int × Int) : Prop := ∃ v, e = .returned (.tuple #[v, .int .i64 r.2]) ∧ NewZ w w' v r.1
theorem ResZ.mk {w w' : World} {v : Value} {l : List Int} {x : Int} {r : List Int × Int} (h : NewZ w w' v l) (e : r = (l, x)) : ResZ w w' (.returned (.tuple #[v, .int .i64 x])) r := by subst e; exact ⟨v, rfl, h⟩
def plK (g : List (List Int)) (v k : Nat) : List Int := (List.range g.length).map fun a => if a < k then 0 else (plc g v a : Int)
theorem plK_len (g : List (List Int)) (v k : Nat) : (plK g v k).length = g.length := by simp [plK]
theorem plK_top (g : List (List Int)) (v : Nat) : plK g v g.length = List.replicate g.length 0 := by
  apply List.ext_getElem
  · simp [plK]
  · intro i h1 h2
    have : i < g.length := by rw [plK_len] at h1; exact h1
    simp [plK, this]
theorem plK_set {g : List (List Int)} {v k : Nat} (hk : k < g.length) : (plK g v (k + 1)).set k (plc g v k : Int) = plK g v k := by
  apply List.ext_getElem
  · simp [plK]
  · intro i h1 h2
    rw [List.getElem_set]
    simp only [plK, List.getElem_map, List.getElem_range]
    by_cases e : k = i
    · subst e; simp
    · rw [if_neg e]
      by_cases h : i < k
      · rw [if_pos (by omega), if_pos h]
      · rw [if_neg (by omega), if_neg h]
def placeS (g : List (List Int)) (v : Int) : List Int × Int := if gridE g = 0 then (if 0 ≤ v ∧ v < (gsize g : Int) then (plK g v.toNat 0, 0) else ([], 8)) else ([], gridE g)
def zerosZ (n : Nat) : Array Value := ((List.replicate n (0 : Int)).map (Value.int .i64)).toArray
theorem wpListIn_make_z {F : Fence} {nf : Nat} {w : World} {ops : Array Oper} {rest : List Oper} {o : Oper} {a : Act} {Q : Exit → Act → World → Prop}
    (hg : o.guard = none) (l c : Operand) (hop : o.op = Op.makeSlice 24 l c) (L C : Int) (n : Nat) (hl : a.eval l = .int .i64 L) (hc : a.eval c = .int .i64 C) (hL : L = (n : Int)) (hC : C = (n : Int)) (hn : n ≤ 1000000000)
    (hK : ∀ w', Blk w' w.heap.size (zerosZ n) 3 → Ext w w' → w'.heap.size = w.heap.size + 1 → wpListIn F nf Tryz.prog ops Q rest (a.put o.dst (.slice (some ⟨w.heap.size, 0, none⟩) n n)) w') :
    wpListIn F nf Tryz.prog ops Q (o :: rest) a w := by
  obtain ⟨i0, hi, hz0, hz1, hz2⟩ := info_parts Tryz.infoInt
  have h63' : (n : Int) ≤ 9223372036854775807 := by omega
  have hr := run_make (P := Tryz.prog) w 24 3 i0 (.int .i64 0) Tryz.underlying24 hi hz0 .i64 .i64 n n (by omega) (Int.le_refl _) (by rw [hz2]; omega) h63'
  simp only [Int.toNat_natCast, hz1] at hr
  have hcells : madeCells (Value.int .i64 0).cells (n * 1) = ((List.replicate n (0 : Int)).map (Value.int .i64)).toArray := by
    rw [List.map_replicate, Nat.mul_one]
    apply Array.ext
    · simp [madeCells]
    · intro i h1 h2
      simp [madeCells, Value.cells, Nat.mod_one]
  rw [hcells] at hr
  clear hcells
  have hK := hK
  unfold zerosZ at hK
  generalize ((List.replicate n (0 : Int)).map (Value.int .i64)).toArray = cs at *
  refine wpListIn_plain hg fun K hK' => ?_
  subst hL
  subst hC
  unfold Oper.wpIn
  refine ⟨?_, ?_⟩
  · simp [Oper.about, hop]
  · rw [Oper.semAt_plain F _ _ (by rw [hop]; intro c hc'; cases hc')]
    simp only [execOp, hop, hl, hc]
    simp [hr, Result.andThen]
    exact hK' _ _ (hK _ (Blk.new w _ _) ((Ext.refl w).alloc _) (by simp))
structure PlI (w : World) (g : List (List Int)) (v Ab Pb k : Nat) (W : World) : Prop where
  a : Blk W Ab ((plK g v k).map (Value.int .i64)).toArray 3
  p : Blk W Pb #[.slice (some ⟨Ab, 0, none⟩) g.length g.length] 24
  x : Ext w W
def PlAx (w : World) (g : List (List Int)) (v Ab Pb k : Nat) (a1 : Act) (W : World) : Prop :=
  PlI w g v Ab Pb (k + 1) W ∧ ∃ t0 t1 t2 t3 t4 t5 t6 t10 t11 t12 t13 t14 t15 t16 t17 t18 t19 t20 t21 t22 t23 t24 t25 t26 t27 t28 t29 t30 t31 t32 t33 t34 t35 t36 t37 : Value,
    a1 = { tmps := #[t0, t1, t2, t3, t4, t5, t6, .pointer (some ⟨Pb, 0, none⟩), .int .i64 k, .int .i64 (plc g v k : Nat), t10, t11, t12, t13, t14, t15, t16, t17, t18, t19, t20, t21, t22, t23, t24, t25, t26, t27, t28, t29, t30, t31, t32, t33, t34, t35, t36, t37], defers := [] }
set_option maxHeartbeats 4000000 in
theorem place7_any (gv : Value) (g : List (List Int)) (v : Int) (w : World) (h : RdG w gv g) :
    Calls Tryz.prog 19 #[gv, .int .i64 v] w fun e w' => ResZ w w' e (placeS g v) ∧ Ext w w' := by
  have HG := Lib.hid h
  have HCK := Lib.hid (fun W (x : Ext w W) => check7_any gv g W (h.ext x))
  have HSZ := Lib.hid (fun W (x : Ext w W) => size7_any gv g W (h.ext x))
  obtain ⟨a, cap, rfl, hgl⟩ := h.shape
  clear h
  refine (callsIn_wide (n := 8)).1 ?_
  refine callsIn_of_wp_marks Tryz.func19 rfl trivial ?_ rfl
  simp only [Tryz.ntmps19, List.size_toArray, List.length_cons, List.length_nil, Nat.reduceAdd, Nat.reduceSub, Array.replicate_succ, Array.replicate_zero, List.push_toArray, List.append_toArray, List.nil_append, List.cons_append]
  gi_wp2_with fail
  refine ⟨trivial, (callsIn_wide.2 (HCK.out _ (Ext.refl w))).mono ?_⟩
  rintro e w1 ⟨rfl, hx⟩
  have X := Lib.hid hx
  by_cases h0 : gridE g = 0
  rotate_left
  · have E := Lib.hid (show placeS g v = ([], gridE g) from if_neg h0)
    obtain ⟨c, hc⟩ : ∃ c, c = gridE g := ⟨_, rfl⟩
    rw [← hc] at E h0 ⊢
    have q1 : (c != 0) = true := by simpa using h0
    clear hx h0 hc
    gi_wp2_with fail
    exact ⟨.tuple #[.slice none 0 0, .int .i64 c], by first | rfl | (simp only [results, Tryz.results19]; go_simp), ResZ.mk (NewZ.nil _ _) E.out, X.out⟩
  have ok := gridE_ok h0
  have e0 : placeS g v = if 0 ≤ v ∧ v < (gsize g : Int) then (plK g v.toNat 0, 0) else ([], 8) := if_pos h0
  have HS := Lib.hid (HSZ.out _ hx ok.shrt)
  have E0 := Lib.hid e0
  rw [h0]
  by_cases h1 : v < 0
  · have E := Lib.hid (e0.trans (if_neg (by omega)))
    clear hx e0 h0
    gi_wp2_with fail
    refine ⟨trivial, ?_⟩
    gi_wp2_with fail
    exact ⟨.tuple #[.slice none 0 0, .int .i64 8], by first | rfl | (simp only [results, Tryz.results19]; go_simp), ResZ.mk (NewZ.nil _ _) E.out, X.out⟩
  clear hx e0 h0
  gi_wp2_with fail
  refine ⟨trivial, (callsIn_wide.2 HS.out).mono ?_⟩
  rintro e w2 ⟨rfl, hx2⟩
  have X2 := Lib.hid (X.out.trans hx2)
  clear hx2 X
  by_cases h2 : (gsize g : Int) ≤ v
  · have E := Lib.hid (E0.out.trans (if_neg (by omega)))
    gi_wp2_with fail
    exact ⟨.tuple #[.slice none 0 0, .int .i64 8], by first | rfl | (simp only [results, Tryz.results19]; go_simp), ResZ.mk (NewZ.nil _ _) E.out, X2.out⟩
  have E := Lib.hid (E0.out.trans (if_pos (by omega)))
  obtain ⟨n, rfl⟩ : ∃ n : Nat, v = n := ⟨v.toNat, by omega⟩
  rw [Int.toNat_natCast] at E
  have hn : n < gsize g := by omega
  have hgl4 := ok.le
  have q1 : (n : Int) ≤ 9223372036854775807 := by have := ok.size; omega
  clear E0 HS
  gi_wp2_with (with_reducible refine wpListIn_make_z rfl _ _ rfl _ _ g.length rfl rfl rfl rfl (by omega) ?_)
  intro w3 hb3 hx3 hs3
  have hb4 : Blk w3 w2.heap.size ((plK g n g.length).map (Value.int .i64)).toArray 3 := by rw [plK_top]; exact hb3
  obtain ⟨Ab, hAb⟩ : ∃ A, w2.heap.size = A := ⟨_, rfl⟩
  rw [hAb] at hb4 hs3 ⊢
  obtain ⟨w4, hw4⟩ : ∃ w4, w4 = w3.alloc (.cells #[.slice (some ⟨Ab, 0, none⟩) g.length g.length] 24) := ⟨_, rfl⟩
  have x4 : Ext w3 w4 := by rw [hw4]; exact (Ext.refl _).alloc _
  have s4 : w4.heap.size = Ab + 2 := by rw [hw4]; simp [hs3]
  have p4 : Blk w4 (Ab + 1) #[.slice (some ⟨Ab, 0, none⟩) g.length g.length] 24 := by rw [hw4, ← hs3]; exact Blk.new _ _ _
  have A4 := Lib.hid (hb4.ext x4); have P4 := Lib.hid p4; have X4 := Lib.hid ((X2.out.trans hx3).trans x4); have S4 := Lib.hid s4; have HW4 := Lib.hid hw4; have HS3 := Lib.hid hs3
  have hz2 := X2.out.size
  rw [hAb] at hz2
  clear hb3 hb4 hx3 x4 s4 p4 hw4 hs3
  gi_wp2_with fail
  (try rw [hAb]); rw [← HW4.out, HS3.out]
  refine ⟨trivial, (callsIn_wide.2 (indices7_any a g.length cap n w4)).mono ?_⟩
  rintro e w5 ⟨rfl, hw5⟩
  have x5 : Ext w4 w5 := by rw [hw5]; exact ((Ext.refl _).alloc _).alloc _
  have s5 : w5.heap.size = Ab + 4 := by rw [hw5]; simp [S4.out]
  have g5 : Blk w5 (Ab + 2) #[.slice a g.length cap] 23 := by rw [hw5, ← S4.out]; exact (Blk.new _ _ _).alloc _
  have v5 : Blk w5 (Ab + 3) #[.int .i64 n] 3 := by
    rw [hw5]
    have := Blk.new (w4.alloc (.cells #[.slice a g.length cap] 23)) #[.int .i64 n] 3
    rwa [World.size_alloc, S4.out] at this
  rw [S4.out]
  have I0 := Lib.hid (PlI.mk (g := g) (v := n) (A4.out.ext x5) (P4.out.ext x5) (X4.out.trans x5)); have G5 := Lib.hid g5; have V5 := Lib.hid v5; have S5 := Lib.hid s5
  clear hw5 x5 s5 g5 v5 A4 P4 X4
  gi_wp2_with fail
  refine wpIn_range_own rfl (by omega) (gf := 141) (lb := #[.pointer (some ⟨Ab + 2, 0, none⟩), .pointer (some ⟨Ab + 3, 0, none⟩)]) rfl trivial (enters_of Tryz.func141 (by kernel_rfl) rfl)
    (encs := fun k => #[.int .i64 k, .int .i64 (plc g n k : Nat)]) Ab (Ab + 3) g.length (by have := S5.out; omega) (by have := S5.out; omega) ?hseq (fun _ => rfl)
    (fun k W => PlI w g n Ab (Ab + 1) k W) ?hI I0.out (PlAx w g n Ab (Ab + 1)) ?hAx ?hassign ?hbody ?hdone
  case hseq =>
    intro W1 hx hs
    have s5 := S5.out
    exact indices1_seq _ g n w HG.out ok hn Ab w5.heap.size (Ab + 3) (Ab + 2) W1 hs (I0.out.x.trans hx) ⟨hz2, by omega⟩ ⟨by omega, by omega⟩ (by omega) ⟨by omega, by omega, by omega⟩ (G5.out.ext hx) (V5.out.ext hx)
  case hI =>
    rintro k A B ⟨h1, h2, h3⟩ z
    have s5 := S5.out
    exact ⟨h1.km z (by omega) (by omega), h2.km z (by omega) (by omega), h3.km z (by omega) (by omega)⟩
  case hAx =>
    rintro k a1 A B ⟨⟨h1, h2, h3⟩, h4⟩ z
    have s5 := S5.out
    exact ⟨⟨h1.km z (by omega) (by omega), h2.km z (by omega) (by omega), h3.km z (by omega) (by omega)⟩, h4⟩
  case hassign =>
    intro ll k W K hk h1 hlt hK
    have H1 := Lib.hid h1
    obtain ⟨P, hP⟩ : ∃ P, P = plc g n k := ⟨_, rfl⟩
    have hK2 : ∀ a1 W1, Ext W W1 → (PlI w g n Ab (Ab + 1) (k + 1) W1 ∧ ∃ t0 t1 t2 t3 t4 t5 t6 t10 t11 t12 t13 t14 t15 t16 t17 t18 t19 t20 t21 t22 t23 t24 t25 t26 t27 t28 t29 t30 t31 t32 t33 t34 t35 t36 t37 : Value, a1 = { tmps := #[t0, t1, t2, t3, t4, t5, t6, .pointer (some ⟨Ab + 1, 0, none⟩), .int .i64 k, .int .i64 (P : Nat), t10, t11, t12, t13, t14, t15, t16, t17, t18, t19, t20, t21, t22, t23, t24, t25, t26, t27, t28, t29, t30, t31, t32, t33, t34, t35, t36, t37], defers := [] }) → K a1 W1 :=
      fun a1 W1 hx h => hK a1 W1 hx (by unfold PlAx; rw [← hP]; exact h)
    have HK2 := Lib.hid hK2
    rw [← hP]
    clear h1 hK hK2 hP
    gi_wp2
    exact HK2.out _ _ (Ext.refl W) ⟨H1.out, _, _, _, _, _, _, _, _, _, _, _, _, _, _, _, _, _, _, _, _, _, _, _, _, _, _, _, _, _, _, _, _, _, _, _, rfl⟩
  case hbody =>
    rintro ll k a1 w hk ⟨⟨h1, h2, h3⟩, t0, t1, t2, t3, t4, t5, t6, t10, t11, t12, t13, t14, t15, t16, t17, t18, t19, t20, t21, t22, t23, t24, t25, t26, t27, t28, t29, t30, t31, t32, t33, t34, t35, t36, t37, rfl⟩ hlt
    have pm : plc g n k ≤ 32 := by have := plc_lt (g := g) (fun k hk => (ok.ax k hk).1) hk n; have := (ok.ax k hk).2.1; omega
    have hset := plK_set (v := n) hk
    have hlen := plK_len g n (k + 1)
    obtain ⟨P, hP⟩ : ∃ P, P = plc g n k := ⟨_, rfl⟩
    rw [← hP] at pm hset ⊢
    have c1 := h2.cell 0; have f1 := h2.free 0; have l1 := h2.lt
    have f2 := h1.free k; have l2 := h1.lt
    have c2 : w.cell? ⟨Ab, k, none⟩ = some (.int .i64 ((plK g n (k + 1)).getD k 0)) := by
      rw [h1.cell k]
      simp [hlen, hk]
    simp only [List.getElem?_toArray, List.getElem?_cons_zero] at c1
    generalize (plK g n (k + 1)).getD k 0 = old at c2
    have q1 : (0 : Int) ≤ (k : Int) := by omega
    have q2 : (k : Int) < (g.length : Int) := by omega
    have H1 := Lib.hid h1; have H2 := Lib.hid h2; have H3 := Lib.hid h3; have HSET := Lib.hid hset
    clear h1 h2 h3 hset hP hlen
    gi_wp2_with fail
    refine ⟨(Kr1.ext (Ext.refl w)).set k _, ?_, H2.out.setOther (by dsimp only; omega) _, H3.out.set (by dsimp only; omega) _⟩
    have := H1.out.set k (.int .i64 (P : Nat))
    rw [← HSET.out, List.map_set, ← List.setIfInBounds_toArray]
    exact this
  case hdone =>
    rintro W ⟨h1, h2, h3⟩ hD
    have c1 := h2.cell 0; have f1 := h2.free 0; have l1 := h2.lt
    simp only [List.getElem?_toArray, List.getElem?_cons_zero] at c1
    have H1 := Lib.hid h1; have H3 := Lib.hid h3; have HD := Lib.hid hD
    clear h1 h2 h3 hD
    gi_wp2
    have s5 := S5.out
    refine ⟨by simp, .inl ⟨_, _, rfl, run_takeDeferred HD.out, ?_⟩⟩
    have hz := Kz.put0 (m := w5.heap.size) W (.deferred none)
    refine ⟨.tuple #[.slice (some ⟨Ab, 0, none⟩) g.length g.length, .int .i64 0], by first | rfl | (simp only [results, Tryz.results19]; go_simp), ?_, H3.out.kz hz (by omega)⟩
    have hN : NewZ w (W.putObj w5.heap.size (.deferred none)) (.slice (some ⟨Ab, 0, none⟩) (plK g n 0).length (plK g n 0).length) (plK g n 0) :=
      ⟨by rw [plK_len]; omega, .inr ⟨Ab, hz2, rfl, H1.out.kz hz (by omega)⟩⟩
    rw [plK_len] at hN
    exact ResZ.mk hN E.out
end Go.Proofs.YthkfkfbfblppeaaGreat
namespace Go.Proofs.YthkfkfbfblppeaaGreat
set_option linter.unusedSimpArgs false
set_option linter.unusedVariables false
open Go.RowKit
def cutAt (g : List (List Int)) (v a : Nat) : Int := (g.getD a []).getD (plc g v a) 0
def ptK (g : List (List Int)) (v k : Nat) : List Int := (List.range g.length).map fun a => if a < k then cutAt g v a else (plc g v a : Int)
theorem ptK_len (g : List (List Int)) (v k : Nat) : (ptK g v k).length = g.length := by simp [ptK]
theorem ptK_0 (g : List (List Int)) (v : Nat) : plK g v 0 = ptK g v 0 := by simp [ptK, plK]
theorem ptK_at {g : List (List Int)} {v k : Nat} (hk : k < g.length) : (ptK g v k).getD k 0 = (plc g v k : Int) := by simp [ptK, hk]
theorem ptK_set {g : List (List Int)} {v k : Nat} (hk : k < g.length) : (ptK g v k).set k (cutAt g v k) = ptK g v (k + 1) := by
  apply List.ext_getElem
  · simp [ptK]
  · intro i h1 h2
    rw [List.getElem_set]
    simp only [ptK, List.getElem_map, List.getElem_range]
    by_cases e : k = i
    · subst e; simp
    · rw [if_neg e]
      by_cases h : i < k
      · rw [if_pos h, if_pos (by omega)]
      · rw [if_neg h, if_neg (by omega)]
def pointS (g : List (List Int)) (v : Int) : List Int × Int := if gridE g = 0 then (if 0 ≤ v ∧ v < (gsize g : Int) then (ptK g v.toNat g.length, 0) else ([], 8)) else ([], gridE g)
set_option maxHeartbeats 4000000 in
theorem point7_any (gv : Value) (g : List (List Int)) (v : Int) (w : World) (h : RdG w gv g) :
    Calls Tryz.prog 20 #[gv, .int .i64 v] w fun e w' => ResZ w w' e (pointS g v) ∧ Ext w w' := by
  have HG := Lib.hid h
  have hpl := place7_any gv g v w h
  obtain ⟨a, cap, rfl, hgl⟩ := h.shape
  by_cases hz : (placeS g v).2 = 0
  · have hg0 : gridE g = 0 := by
      unfold placeS at hz
      by_cases h0 : gridE g = 0
      · exact h0
      · rw [if_neg h0] at hz; exact absurd hz h0
    have ok := gridE_ok hg0
    have hr : 0 ≤ v ∧ v < (gsize g : Int) := by
      unfold placeS at hz
      rw [if_pos hg0] at hz
      by_cases h1 : 0 ≤ v ∧ v < (gsize g : Int)
      · exact h1
      · rw [if_neg h1] at hz; cases hz
    have e0 : placeS g v = (plK g v.toNat 0, 0) := (if_pos hg0).trans (if_pos hr)
    have E := Lib.hid (show pointS g v = (ptK g v.toNat g.length, 0) from (if_pos hg0).trans (if_pos hr))
    rw [e0] at hpl
    obtain ⟨n, rfl⟩ : ∃ n : Nat, v = n := ⟨v.toNat, by omega⟩
    rw [Int.toNat_natCast] at hpl E
    have HPL := Lib.hid hpl
    clear h hpl hz hg0 hr e0
    go_enter Tryz.func20, Tryz.ntmps20
    go_wp2_with fail
    refine HPL.out.mono ?_
    rintro e w1 ⟨⟨u, rfl, hu⟩, hx⟩
    have hle := ok.le
    obtain ⟨b, hb1, rfl, hb2⟩ : ∃ b, w.heap.size ≤ b ∧ u = .slice (some ⟨b, 0, none⟩) g.length g.length ∧ Blk w1 b ((ptK g n 0).map (Value.int .i64)).toArray 3 := by
      have hu2 := hu.2
      dsimp only at hu2
      rcases hu2 with ⟨e, _⟩ | ⟨b, h1, h2, h3⟩
      · have := plK_len g n 0
        rw [e] at this
        have := ok.pos
        simp at *
        omega
      · rw [plK_len] at h2
        rw [ptK_0] at h3
        exact ⟨b, h1, h2, h3⟩
    dsimp only
    have X := Lib.hid hx; have B := Lib.hid hb2
    clear hx hu hb2
    go_wp2_with fail
    go_loopw [18] (fun i wr => ∃ k : Nat, k ≤ g.length ∧ i = .int .i64 k ∧ Blk wr b ((ptK g n k).map (Value.int .i64)).toArray 3 ∧ Ext w wr) (fun i _ => g.length - (intOf i).toNat)
    case atStart => exact ⟨0, Nat.zero_le _, rfl, B.out, X.out⟩
    case round =>
      obtain ⟨k, hk, rfl, hb, hx⟩ := hrel
      have XR := Lib.hid hx; have BR := Lib.hid hb
      clear X B
      by_cases hlt : k < g.length
      · obtain ⟨b1, o1, ai, ci, rfl, r1, r2, r3⟩ := (HG.out.ext hx).at hlt
        have hpc := plc_lt (g := g) (fun k hk => (ok.ax k hk).1) hlt n
        obtain ⟨b2, o2, rfl, s1, s2⟩ := rdI_at r3 hpc
        have s2' : wr.cell? ⟨b2, o2 + plc g n k, none⟩ = some (.int .i64 (cutAt g n k)) := s2
        have c2 : wr.cell? ⟨b, k, none⟩ = some (.int .i64 (plc g n k : Nat)) := by
          rw [hb.cell k, ← ptK_at hlt]
          have : k < (ptK g n k).length := by rw [ptK_len]; exact hlt
          simp [this]
        have f2 := hb.free k; have l2 := hb.lt
        have hset := ptK_set (v := n) hlt
        have hcl := (ok.ax k hlt).2.1
        generalize cutAt g n k = z at s2' hset
        generalize plc g n k = P at s2' c2 hpc s2
        generalize g.getD k [] = c at r2 r3 hpc hcl s2
        have HSET := Lib.hid hset
        have q1 : (0 : Int) ≤ (k : Int) := by omega
        have q2 : (k : Int) < (g.length : Int) := by omega
        have q3 : (0 : Int) ≤ (P : Int) := by omega
        have q4 : (P : Int) < (c.length : Int) := by omega
        have q5 : P ≤ 32 := by omega
        clear r3 s2 hset hb hx hpc
        go_wp2_with fail
        have hb3 := BR.out.set k (.int .i64 z)
        rw [List.setIfInBounds_toArray, ← List.map_set, HSET.out] at hb3
        have B3 := Lib.hid hb3
        clear hb3
        go_roundw
        case rel => exact ⟨k + 1, by omega, by go_num, B3.out, XR.out.set (by dsimp only; omega) _⟩
        case measure => simp [intOf]; omega
      · obtain rfl : k = g.length := by omega
        have q1 : ¬ (g.length : Int) < (g.length : Int) := by omega
        clear hx hb
        go_wp2_with fail
        go_ret2
        refine ⟨?_, XR.out⟩
        have hN : NewZ w wr (.slice (some ⟨b, 0, none⟩) (ptK g n g.length).length (ptK g n g.length).length) (ptK g n g.length) := ⟨by rw [ptK_len]; omega, .inr ⟨b, hb1, rfl, BR.out⟩⟩
        rw [ptK_len] at hN
        exact ResZ.mk hN E.out
  · obtain ⟨c, hc, e1, e2⟩ : ∃ c, c ≠ 0 ∧ placeS g v = ([], c) ∧ pointS g v = ([], c) := by
      unfold placeS at hz
      by_cases h0 : gridE g = 0
      · rw [if_pos h0] at hz
        by_cases h1 : 0 ≤ v ∧ v < (gsize g : Int)
        · rw [if_pos h1] at hz; exact absurd rfl hz
        · exact ⟨8, by decide, (if_pos h0).trans (if_neg h1), (if_pos h0).trans (if_neg h1)⟩
      · exact ⟨gridE g, h0, if_neg h0, if_neg h0⟩
    rw [e1] at hpl
    have HPL := Lib.hid hpl; have E := Lib.hid e2
    clear h hpl hz e1 e2 hc
    go_enter Tryz.func20, Tryz.ntmps20
    go_wp2_with fail
    refine HPL.out.mono ?_
    rintro e w1 ⟨⟨u, rfl, hu⟩, hx⟩
    obtain ⟨p, rfl⟩ := hu.shape
    dsimp only at hu ⊢
    have X := Lib.hid hx; have U := Lib.hid hu
    clear hx hu
    go_wp2_with fail
    go_loopw [18] (fun i wr => i = .int .i64 0 ∧ Ext w wr ∧ NewZ w wr (.slice p 0 0) []) (fun i _ => 0)
    case atStart => exact ⟨rfl, X.out, U.out⟩
    case round =>
      obtain ⟨rfl, hx, hu⟩ := hrel
      clear X U
      have X := Lib.hid hx; have U := Lib.hid hu
      clear hx hu
      go_wp2_with fail
      go_ret2
      exact ⟨ResZ.mk U.out E.out, X.out⟩
end Go.Proofs.YthkfkfbfblppeaaGreat
namespace Go.Proofs.YthkfkfbfblppeaaGreat
set_option linter.unusedSimpArgs false
set_option linter.unusedVariables false
open Go.RowKit
def ElS (B : Nat) (w : World) (h : List Value) (y : Nat × RR) : Prop := ∃ a1 c1 a2 c2, h = [.int .i64 (y.1 : Nat), .bool y.2.neg, .slice a1 y.2.num.length c1, .slice a2 y.2.den.length c2] ∧ SfW B w (.slice a1 y.2.num.length c1) y.2.num ∧ SfW B w (.slice a2 y.2.den.length c2) y.2.den
theorem ElS.keeps0 {B C : Nat} {t : TypeId} (ht : 206 ≠ t) (w w' : World) (h : List Value) (y : Nat × RR) (e : ElS B w h y) (k : Keeps C t w w') : ElS B w' h y := by
  obtain ⟨a1, c1, a2, c2, rfl, h1, h2⟩ := e
  exact ⟨a1, c1, a2, c2, rfl, h1.keeps k ht, h2.keeps k ht⟩
theorem ElS.ext {B : Nat} {w w' : World} {h : List Value} {y : Nat × RR} (e : ElS B w h y) (k : Ext w w') : ElS B w' h y := by
  obtain ⟨a1, c1, a2, c2, rfl, h1, h2⟩ := e
  exact ⟨a1, c1, a2, c2, rfl, h1.ext k, h2.ext k⟩
theorem ElS.new {B : Nat} {w0 w : World} {a1 a2 : Option Addr} {c1 c2 : Nat} {i : Nat} {r : RR} (h : NewR w0 w (.agg #[.bool r.neg, .slice a1 r.num.length c1, .slice a2 r.den.length c2]) r) (hB : B ≤ w0.heap.size) : ElS B w [.int .i64 (i : Nat), .bool r.neg, .slice a1 r.num.length c1, .slice a2 r.den.length c2] (i, r) := by
  obtain ⟨vn, vd, e, h1, h2⟩ := h
  injection e with e
  simp only [Array.mk.injEq, List.cons.injEq, and_true, true_and] at e
  obtain ⟨rfl, rfl⟩ := e
  exact ⟨_, _, _, _, rfl, SfW.new h1 hB, SfW.new h2 hB⟩
theorem ElS.rd {B : Nat} {w : World} {h : List Value} {y : Nat × RR} (e : ElS B w h y) : ∃ a1 c1 a2 c2, h = [.int .i64 (y.1 : Nat), .bool y.2.neg, .slice a1 y.2.num.length c1, .slice a2 y.2.den.length c2] ∧ RdR w (.agg #[.bool y.2.neg, .slice a1 y.2.num.length c1, .slice a2 y.2.den.length c2]) y.2 := by
  obtain ⟨a1, c1, a2, c2, rfl, h1, h2⟩ := e
  exact ⟨a1, c1, a2, c2, rfl, _, _, rfl, h1.rd, h2.rd⟩
abbrev OwS (e : TypeId) (B : Nat) (w : World) (v : Value) (l : List (Nat × RR)) : Prop := OwRow e 4 (ElS B) B w v l
theorem OwS.ext' {e : TypeId} {B : Nat} {w w' : World} {v : Value} {l : List (Nat × RR)} (h : OwS e B w v l) (x : Ext w w') : OwS e B w' v l := OwRow.ext h x (fun _ _ e => e.ext x)
theorem OwS.shape {e : TypeId} {B : Nat} {w : World} {v : Value} {l : List (Nat × RR)} (h : OwS e B w v l) : ∃ a c, v = .slice a l.length c := by
  obtain ⟨a, c, h, _⟩ := OwRow.rdN h
  exact ⟨a, c, h⟩
theorem Tryz.infoSh : (Tryz.prog.info? 119).map (fun i => (i.zero, i.size, i.bytes)) = some (some (.agg #[.int .i64 0, .bool false, .slice none 0 0, .slice none 0 0]), 4, 64) := by kernel_rfl
theorem Tryz.infoWe : (Tryz.prog.info? 107).map (fun i => (i.zero, i.size, i.bytes)) = some (some (.agg #[.int .i64 0, .bool false, .slice none 0 0, .slice none 0 0]), 4, 64) := by kernel_rfl
theorem OwS.setBlk {e : TypeId} {B : Nat} {w : World} {v : Value} {l : List (Nat × RR)} (h : OwS e B w v l) {b : Nat} {c : Array Value} {t : TypeId} (hb : Blk w b c t) (hB : B ≤ b) (ht : t ≠ e) (hu : t ≠ 206) (o : Nat) (x : Value) : OwS e B (w.setCell ⟨b, o, none⟩ x) v l := by
  have hk : Keeps B t w (w.setCell ⟨b, o, none⟩ x) := ⟨(Below.refl 0 w).setCell (Nat.zero_le _) x, fun i hi ho => Below.heap_setCell w ⟨b, o, none⟩ x i (fun (e : i = b) => by
    subst e
    rcases ho with h1 | ⟨cur, u, h1, h2⟩
    · omega
    · unfold Blk at hb h1
      rw [hb] at h1
      injection h1 with h1
      injection h1 with _ h3
      exact h2 h3.symm)⟩
  obtain ⟨hs, h1, h2, h3, h4⟩ := h
  refine ⟨hs, ?_, h2, h3, fun i y hi => by obtain ⟨h, e1, e2⟩ := h4 i y hi; exact ⟨h, e1, e2.keeps0 (fun e => hu e.symm) _ _ _ _ hk⟩⟩
  refine ⟨h1.1, ?_⟩
  rcases h1.2 with hn | ⟨g, cap, cur, rfl, h1', hg, rest⟩
  · exact .inl hn
  · have hne : g ≠ b := fun e2 => by
      subst e2
      have h2 : Blk w g cur _ := hg
      unfold Blk at h2 hb
      rw [hb] at h2
      injection h2 with h2
      injection h2 with _ h3
      exact ht h3
    exact .inr ⟨g, cap, cur, rfl, h1', Blk.setOther (show Blk w g cur _ from hg) (a := ⟨b, o, none⟩) hne x, rest⟩
set_option maxHeartbeats 4000000 in
theorem shares1_any (i : Nat) (p q : Int) (L B : Nat) (v : Value) (l : List (Nat × RR)) (w : World) (h0 : -9223372036854775808 ≤ p) (h1 : p ≤ 9223372036854775807) (h2 : -9223372036854775808 ≤ q) (h3 : q ≤ 9223372036854775807)
    (hb : Blk w L #[v] 116) (hBL : B ≤ L) (ho : OwS 119 B w v l) (hl : l.length ≤ 1000) :
    Calls Tryz.prog 144 #[.int .i64 i, .int .i64 p, .int .i64 q, .pointer (some ⟨L, 0, none⟩)] w fun e w' => e = .returned (.tuple #[]) ∧ (∃ v', Blk w' L #[v'] 116 ∧ OwS 119 B w' v' (l ++ [(i, (ofR p q).1)])) ∧ Below B w w' := by
  have hof := fun W => ofnR_any p q W h0 h1 h2 h3
  obtain ⟨R, hR⟩ : ∃ R, R = ofR p q := ⟨_, rfl⟩
  rw [← hR] at hof ⊢
  clear hR
  obtain ⟨r, z⟩ := R
  have HOF := Lib.hid hof
  clear hof
  dsimp only
  have HB := Lib.hid hb; have HO := Lib.hid ho
  obtain ⟨a, c, rfl⟩ := ho.shape
  clear hb ho
  have hLl := HB.out.lt
  go_enter Tryz.func144, Tryz.ntmps144
  go_wp2_with fail
  refine (HOF.out _).mono ?_
  rintro e w1 ⟨⟨u, rfl, nn⟩, hx⟩
  dsimp only at nn ⊢
  obtain ⟨n1, n2, n3, n4, rfl⟩ := nn.shape
  have B1 := Lib.hid (HB.out.ext hx); have O1 := Lib.hid (HO.out.ext' hx); have N1 := Lib.hid nn; have X1 := Lib.hid hx
  have hz1 := hx.size
  have c1 := B1.out.cell 0; have f1 := B1.out.free 0; have l1 := B1.out.lt
  simp only [List.getElem?_toArray, List.getElem?_cons_zero] at c1
  have xw : Ext w1 ((w1.alloc (.cells #[.bool r.neg, .slice n1 r.num.length n2, .slice n3 r.den.length n4] 62)).alloc (.cells #[.int .i64 (i : Nat), .bool r.neg, .slice n1 r.num.length n2, .slice n3 r.den.length n4] 119)) := ((Ext.refl w1).alloc _).alloc _
  have O2 := Lib.hid (O1.out.ext' xw); have HE := Lib.hid (ElS.new (i := i) (B := B) (N1.out.ext xw) (by omega)); have B2 := Lib.hid (B1.out.ext xw)
  have hz2 : B ≤ ((w1.alloc (.cells #[.bool r.neg, .slice n1 r.num.length n2, .slice n3 r.den.length n4] 62)).alloc (.cells #[.int .i64 (i : Nat), .bool r.neg, .slice n1 r.num.length n2, .slice n3 r.den.length n4] 119)).heap.size := by rw [World.size_alloc, World.size_alloc]; omega
  have X2 := Lib.hid ((X1.out.mono (show B ≤ w.heap.size by omega)).trans (xw.mono (by omega)))
  have hbn : Blk ((w1.alloc (.cells #[.bool r.neg, .slice n1 r.num.length n2, .slice n3 r.den.length n4] 62)).alloc (.cells #[.int .i64 (i : Nat), .bool r.neg, .slice n1 r.num.length n2, .slice n3 r.den.length n4] 119)) (w1.heap.size + 1) [.int .i64 (i : Nat), .bool r.neg, .slice n1 r.num.length n2, .slice n3 r.den.length n4].toArray 119 := by have := Blk.new (w1.alloc (.cells #[.bool r.neg, .slice n1 r.num.length n2, .slice n3 r.den.length n4] 62)) #[.int .i64 (i : Nat), .bool r.neg, .slice n1 r.num.length n2, .slice n3 r.den.length n4] 119; rwa [World.size_alloc] at this
  have HBN := Lib.hid hbn
  clear xw hbn
  go_wp2_with (at_builtin; (refine wpList_append_rowB ((w1.alloc (.cells #[.bool r.neg, .slice n1 r.num.length n2, .slice n3 r.den.length n4] 62)).alloc (.cells #[.int .i64 (i : Nat), .bool r.neg, .slice n1 r.num.length n2, .slice n3 r.den.length n4] 119)) rfl _ _ 116 rfl B 119 (.agg #[.int .i64 0, .bool false, .slice none 0 0, .slice none 0 0]) 4 64 Tryz.underlying116 Tryz.infoSh rfl (by decide) (ElS.keeps0 (by decide)) _ _ O2.out rfl [.int .i64 (i : Nat), .bool r.neg, .slice n1 r.num.length n2, .slice n3 r.den.length n4] rfl (by simp [Value.oneCell']) (i, r) HE.out (w1.heap.size + 1) HBN.out rfl (by omega) (by omega) hz2 ?_))
  intro g cap2 w3 hown hk
  have B3 := Lib.hid (B2.out.keeps hk (by decide)); have X3 := Lib.hid (X2.out.trans (hk.below hz2)); have O3 := Lib.hid hown
  clear hown hk c1 f1 l1 hz2
  have c1 := B3.out.cell 0; have f1 := B3.out.free 0; have l1 := B3.out.lt
  simp only [List.getElem?_toArray, List.getElem?_cons_zero] at c1
  go_wp2_with fail
  go_end0
  have hs1 : Blk (w3.setCell ⟨L, 0, none⟩ (.slice (some ⟨g, 0, none⟩) (l.length + 1) cap2)) L #[.slice (some ⟨g, 0, none⟩) (l.length + 1) cap2] 116 := by
    have := B3.out.set 0 (.slice (some ⟨g, 0, none⟩) (l.length + 1) cap2); simpa using this
  exact ⟨rfl, ⟨_, hs1, OwS.setBlk O3.out B3.out hBL (by decide) (by decide) _ _⟩, X3.out.setCell hBL _⟩
end Go.Proofs.YthkfkfbfblppeaaGreat
namespace Go.Proofs.YthkfkfbfblppeaaGreat
set_option linter.unusedSimpArgs false
set_option linter.unusedVariables false
open Go.RowKit
theorem of_ratio {p q : Int} (hp : 0 ≤ p) (hq : 0 < q) : (ofR p q).1 = rep ((p : Rat) / (q : Rat)) := by
  unfold ofR
  rw [if_neg (by omega)]
  dsimp only
  congr 1
  have e1 : sg (decide (p < 0) != decide (q < 0)) p.natAbs = p := by
    rw [decide_eq_false (by omega : ¬ p < 0), decide_eq_false (by omega : ¬ q < 0)]
    unfold sg
    simp
    omega
  rw [e1, Rat.mkRat_eq_div]
  congr 1
  have : ((q.natAbs : Nat) : Int) = q := by omega
  rw [← Rat.intCast_natCast, this]
theorem of_one : (ofR 1 1).1 = rep 1 := by rw [of_ratio (by decide) (by decide)]; exact congrArg rep (show ((1 : Int) : Rat) / ((1 : Int) : Rat) = 1 by grind)
def shareR (c : List Int) (x : Int) : List (Nat × RR) := (shareL c x).map fun s => (s.1, rep s.2)
set_option maxHeartbeats 4000000 in
theorem shares7_any (v : Value) (c : List Int) (x : Int) (w : World) (h : RdI .i64 w v c) (hasc : Asc c) (h0 : 0 < c.length) (h1 : c.length ≤ 32) (hb : ∀ i, i < c.length → -1073741824 ≤ c.getD i 0 ∧ c.getD i 0 ≤ 1073741824)
    (hx0 : -9223372036854775808 ≤ x) (hx1 : x ≤ 9223372036854775807) :
    Calls Tryz.prog 73 #[v, .int .i64 x] w fun e w' => (∃ u, e = .returned u ∧ OwS 119 w.heap.size w' u (shareR c (clampS c x))) ∧ Ext w w' := by
  have HC := Lib.hid h
  obtain ⟨b0, o0, e0, p0, p1⟩ : ∃ b off, True ∧ IntAt w b (off + 0) (c.getD 0 0) ∧ IntAt w b (off + (c.length - 1)) (c.getD (c.length - 1) 0) ∧ ∃ cap, v = .slice (some ⟨b, off, none⟩) c.length cap := by
    obtain ⟨a, cap, rfl, _, _, hr⟩ := h.get
    obtain ⟨b, off, rfl, hi⟩ := rdI_at h h0
    obtain ⟨b', off', e, hj⟩ := rdI_at h (show c.length - 1 < c.length by omega)
    injection e with e
    injection e with e1 e2
    subst e1; subst e2
    exact ⟨b, off, trivial, hi, hj, cap, rfl⟩
  obtain ⟨p1, cap, rfl⟩ := p1
  obtain ⟨c1, f1⟩ := p0
  obtain ⟨c2, f2⟩ := p1
  have hin := clamp_in hasc h0 x
  have hbd : -1073741824 ≤ clampS c x ∧ clampS c x ≤ 1073741824 := by have := hb 0 h0; have := hb (c.length - 1) (by omega); omega
  obtain ⟨X, hX⟩ : ∃ X, X = clampS c x := ⟨_, rfl⟩
  rw [← hX] at hin hbd ⊢
  unfold clampS at hX
  have hfl : c.getD 0 0 ≤ c.getD (c.length - 1) 0 := by omega
  rw [Nat.add_zero] at f1
  have q1 : (0 : Int) < (c.length : Int) := by omega
  have q2 : (0 : Int) ≤ (c.length : Int) - 1 := by omega
  have q3 : ((c.length : Int) - 1).toNat = c.length - 1 := by omega
  have HB := Lib.hid hb; have HA := Lib.hid hasc; have HIN := Lib.hid hin
  generalize c.getD 0 0 = x0 at f1 hX hfl
  generalize c.getD (c.length - 1) 0 = x1 at f2 hX hfl
  have b0 := Blk.new w #[.slice none 0 0] 116
  have B0 := Lib.hid b0
  clear h hb hasc hin e0 b0
  go_enter Tryz.func73, Tryz.ntmps73
  go_wp2_with fail
  go_step3
  go_wp2_with fail
  (refine wp_region_quietE (by kernel_rfl) (by kernel_rfl) ?_; (repeat (go_big_quiet_step ((fail)))); refine wpQuiet_nil ?_; rintro w1 ⟨⟨_, hx1⟩, rfl⟩; (try dsimp only))
  rw [← hX]
  have X0 := Lib.hid (((Ext.refl w).alloc (.cells #[.slice none 0 0] 116)).trans hx1); have B1 := Lib.hid (B0.out.ext hx1)
  have HX := Lib.hid hX
  clear hx1 hX c1 c2 f1 f2 hfl
  obtain ⟨L, hL⟩ : ∃ L, w.heap.size = L := ⟨_, rfl⟩
  rw [hL] at B1 ⊢
  have HL := Lib.hid hL
  clear q2 q3 B0
  go_wp2_with fail
  go_step3
  go_wp2_with fail
  go_loopw [24] (fun i wr => ∃ k : Nat, k ≤ c.length ∧ i = .int .i64 k ∧ (∀ j, j < k → c.getD j 0 < X) ∧ Blk wr L #[.slice none 0 0] 116 ∧ Ext w wr) (fun i _ => c.length - (intOf i).toNat)
  case atStart => exact ⟨0, Nat.zero_le _, rfl, (fun j hj => by omega), B1.out, X0.out⟩
  case round =>
    obtain ⟨k, hk, rfl, hlt, hb, hx⟩ := hrel
    have hkl : k < c.length := by
      rcases Nat.lt_or_ge k c.length with h | h
      · exact h
      · have := hlt (c.length - 1) (by omega); have := HIN.out.2; omega
    have XR := Lib.hid hx; have BR := Lib.hid hb; have LT := Lib.hid hlt
    clear X0 B1
    obtain ⟨bk, ok, ek, s1, s2⟩ := rdI_at (HC.out.ext hx) hkl
    injection ek with ek
    injection ek with ek1 ek2
    subst ek1; subst ek2
    have hzb := HB.out k hkl
    have q2 : (0 : Int) ≤ (k : Int) := by omega
    have q3 : (k : Int) < (c.length : Int) := by omega
    obtain ⟨z, hz⟩ : ∃ z, z = c.getD k 0 := ⟨_, rfl⟩
    rw [← hz] at s2 hzb
    have HZ := Lib.hid hz
    by_cases e1 : X = z
    · have hsh := share_one HA.out hkl (e1.trans hz)
      have hR : shareR c X = [] ++ [(k, (ofR 1 1).1)] := by unfold shareR; rw [hsh, of_one]; rfl
      have HR := Lib.hid hR
      have h1c := shares1_any k 1 1 L L _ [] wr (by decide) (by decide) (by decide) (by decide) hb (Nat.le_refl _) (OwRow.nil _ _ _ _ _) (by simp)
      have H1C := Lib.hid h1c
      have q4 : (X == z) = true := by simpa using e1
      clear hsh hR h1c hb hx hlt hz
      rw [← e1] at s2
      subst e1
      go_wp2_with fail
      refine H1C.out.mono ?_
      rintro e w2 ⟨rfl, ⟨u, hu1, hu2⟩, hbel⟩
      rw [← HR.out] at hu2
      obtain ⟨ua, uc, rfl⟩ := hu2.shape
      have u1 := hu1.cell 0; have u2 := hu1.free 0; have u3 := hu1.lt
      simp only [List.getElem?_toArray, List.getElem?_cons_zero] at u1
      have hs1 : Blk (w2.setCell ⟨L, 0, none⟩ (.slice ua (shareR c X).length uc)) L #[.slice ua (shareR c X).length uc] 116 := by
        have := hu1.set 0 (.slice ua (shareR c X).length uc); simpa using this
      have HU3 := Lib.hid (OwS.setBlk hu2 hu1 (Nat.le_refl L) (by decide) (by decide) 0 (.slice ua (shareR c X).length uc))
      have XE := Lib.hid ((show Ext w w2 from Below.trans XR.out (by have := HL.out; rw [← this] at hbel; exact hbel)).set (p := ⟨L, 0, none⟩) (by have := HL.out; dsimp only; omega) (.slice ua (shareR c X).length uc))
      clear hu1 hu2 hbel hs1
      go_wp2_with fail
      rw [Exit.noGoto_ret]
      refine bodyPost_ret (v := .slice ua (shareR c X).length uc) (by simp only [results, Tryz.results73]; go_simp) rfl ⟨⟨_, rfl, ?_⟩, XE.out⟩
      rw [HL.out]
      exact HU3.out
    · have q4 : (X == z) = false := beq_eq_false_iff_ne.2 e1
      by_cases e2 : X < z
      · obtain ⟨m, rfl⟩ : ∃ m, k = m + 1 := by
          cases k with
          | zero => have := HIN.out.1; omega
          | succ m => exact ⟨m, rfl⟩
        obtain ⟨b2, o2, e5, t1, t2⟩ := rdI_at (HC.out.ext hx) (show m < c.length by omega)
        injection e5 with e5
        injection e5 with e6 e7
        subst e6; subst e7
        have hyb := HB.out m (by omega)
        have hlm := hlt m (by omega)
        have hsh := share_two HA.out (i := m) (by omega) hlm (by omega)
        rw [← hz] at hsh
        obtain ⟨y, hy⟩ : ∃ y, y = c.getD m 0 := ⟨_, rfl⟩
        rw [← hy] at t2 hyb hlm hsh
        have hR1 : [] ++ [(m, (ofR (z - X) (z - y)).1)] = [(m, rep (((z - X : Int) : Rat) / ((z - y : Int) : Rat)))] := by rw [of_ratio (by omega) (by omega)]; rfl
        have hR : shareR c X = [(m, rep (((z - X : Int) : Rat) / ((z - y : Int) : Rat)))] ++ [(m + 1, (ofR (X - y) (z - y)).1)] := by unfold shareR; rw [hsh, of_ratio (by omega) (by omega)]; rfl
        have HR1 := Lib.hid hR1; have HR := Lib.hid hR
        have h1c := shares1_any m (z - X) (z - y) L L _ [] wr (by omega) (by omega) (by omega) (by omega) hb (Nat.le_refl _) (OwRow.nil _ _ _ _ _) (by simp)
        rw [hR1] at h1c
        have H1C := Lib.hid h1c
        have h2c := fun W v hb ho => shares1_any (m + 1) (X - y) (z - y) L L v [(m, rep (((z - X : Int) : Rat) / ((z - y : Int) : Rat)))] W (by omega) (by omega) (by omega) (by omega) hb (Nat.le_refl _) ho (by simp)
        rw [← hR] at h2c
        have H2C := Lib.hid h2c
        generalize [(m, rep (((z - X : Int) : Rat) / ((z - y : Int) : Rat)))] = l1 at *
        have q5 : (0 : Int) ≤ (m : Int) := by omega
        have q6 : (m : Int) < (c.length : Int) := by omega
        clear hsh hR1 hR h1c h2c hb hx hlt hz hy HR1 HZ
        go_wp2_with fail
        refine H1C.out.mono ?_
        rintro e w2 ⟨rfl, ⟨u, hu1, hu2⟩, hbel⟩
        have B2 := Lib.hid hu1; have O2 := Lib.hid hu2
        have XQ := Lib.hid (show Ext w w2 from Below.trans XR.out (by have := HL.out; rw [← this] at hbel; exact hbel))
        have HC2 := Lib.hid (H2C.out w2 u hu1 hu2)
        clear hu1 hu2 hbel H1C H2C
        go_wp2_with fail
        refine HC2.out.mono ?_
        rintro e w4 ⟨rfl, ⟨u, hu1, hu2⟩, hbel⟩
        obtain ⟨ua, uc, rfl⟩ := hu2.shape
        have u1 := hu1.cell 0; have u2 := hu1.free 0; have u3 := hu1.lt
        simp only [List.getElem?_toArray, List.getElem?_cons_zero] at u1
        have hs1 : Blk (w4.setCell ⟨L, 0, none⟩ (.slice ua (shareR c X).length uc)) L #[.slice ua (shareR c X).length uc] 116 := by
          have := hu1.set 0 (.slice ua (shareR c X).length uc); simpa using this
        have HU3 := Lib.hid (OwS.setBlk hu2 hu1 (Nat.le_refl L) (by decide) (by decide) 0 (.slice ua (shareR c X).length uc))
        have XE := Lib.hid ((show Ext w w4 from Below.trans XQ.out (by have := HL.out; rw [← this] at hbel; exact hbel)).set (p := ⟨L, 0, none⟩) (by have := HL.out; dsimp only; omega) (.slice ua (shareR c X).length uc))
        clear hu1 hu2 hbel hs1
        go_wp2_with fail
        rw [Exit.noGoto_ret]
        refine bodyPost_ret (v := .slice ua (shareR c X).length uc) (by simp only [results, Tryz.results73]; go_simp) rfl ⟨⟨_, rfl, ?_⟩, XE.out⟩
        rw [HL.out]
        exact HU3.out
      · have hk2 : ∀ j, j < k + 1 → c.getD j 0 < X := fun j hj => by
          by_cases e : j = k
          · subst e; omega
          · exact hlt j (by omega)
        have HK2 := Lib.hid hk2
        clear hb hx hlt hz hk2
        go_wp2_with fail
        go_roundw
        case rel => exact ⟨k + 1, by omega, by go_num, HK2.out, BR.out, XR.out⟩
        case measure => simp [intOf]; omega
end Go.Proofs.YthkfkfbfblppeaaGreat
