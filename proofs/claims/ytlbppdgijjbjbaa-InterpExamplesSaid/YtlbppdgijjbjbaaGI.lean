/- Texts of this claim, laid together: Spec Adv AdvR AdvA. Conditions: as each states. -/
import Derived.Test.YtlbppdgijjbjbaaGA
/- Plain functions on the data of layer 30 and small facts on them; no program in sight. Conditions: none. -/
namespace Go.Proofs.Ytlbppdgijjbjbaa
set_option linter.unusedSimpArgs false
set_option linter.unusedVariables false

/-- a gap is valid -/
def gapB (e l : Int) : Bool := decide (0 ≤ e) && (decide (e ≤ l) && decide (l ≤ 50000))
/-- heights are valid: OK (0) or ErrArg (1) -/
def chk (de dl se sl ae al r : Int) : Int := if gapB de dl && gapB se sl && gapB ae al && decide (0 ≤ r) && decide (r ≤ 100) then 0 else 1
/-- a flag after a cycle -/
def flg (e l : Int) (was : Bool) (z : Int) : Bool := if z < e then true else if l ≤ z then false else was

theorem gapB_iff (e l : Int) : gapB e l = true ↔ 0 ≤ e ∧ e ≤ l ∧ l ≤ 50000 := by simp [gapB]

theorem flg_lo {e l : Int} {b : Bool} {z : Int} (h : z < e) : flg e l b z = true := by simp [flg, h]
theorem flg_hi {e l : Int} {b : Bool} {z : Int} (h : e ≤ z) (k : l ≤ z) : flg e l b z = false := by simp [flg, k]; omega
theorem flg_mid {e l : Int} {b : Bool} {z : Int} (h : e ≤ z) (k : z < l) : flg e l b z = b := by unfold flg; rw [if_neg (by omega), if_neg (by omega)]

section
variable {de dl se sl ae al r : Int}
theorem chk_1 (h : ¬ gapB de dl = true) : chk de dl se sl ae al r = 1 := by simp [chk, h]
theorem chk_2 (h : ¬ gapB se sl = true) : chk de dl se sl ae al r = 1 := by simp [chk, h]
theorem chk_3 (h : ¬ gapB ae al = true) : chk de dl se sl ae al r = 1 := by simp [chk, h]
theorem chk_4 (h : r < 0) : chk de dl se sl ae al r = 1 := by
  have : ¬ 0 ≤ r := by omega
  simp [chk, this]
theorem chk_5 (h : 100 < r) : chk de dl se sl ae al r = 1 := by
  have : ¬ r ≤ 100 := by omega
  simp [chk, this]
theorem chk_0 (h1 : gapB de dl = true) (h2 : gapB se sl = true) (h3 : gapB ae al = true) (h4 : 0 ≤ r) (h5 : r ≤ 100) : chk de dl se sl ae al r = 0 := by simp [chk, *]
theorem chk_01 : chk de dl se sl ae al r = 0 ∨ chk de dl se sl ae al r = 1 := by unfold chk; split <;> simp
theorem chk_ok (h : chk de dl se sl ae al r = 0) : gapB de dl = true ∧ gapB se sl = true ∧ gapB ae al = true ∧ 0 ≤ r ∧ r ≤ 100 := by
  unfold chk at h
  split at h
  · rename_i h'; simp at h'; exact ⟨h'.1.1.1.1, h'.1.1.1.2, h'.1.1.2, h'.1.2, h'.2⟩
  · simp at h
end

/-- Update: the three flags and the error -/
def upd (de dl se sl ae al r : Int) (bd bs ba : Bool) (z : Int) : Bool × Bool × Bool × Int :=
  if chk de dl se sl ae al r ≠ 0 then (false, false, false, chk de dl se sl ae al r)
  else if z < -2000 ∨ 60000 < z then (false, false, false, 1) else (flg de dl bd z, flg se sl bs z, flg ae al ba z, 0)
section
variable {de dl se sl ae al r : Int} {bd bs ba : Bool} {z : Int}
theorem upd_1 (h : chk de dl se sl ae al r = 1) : upd de dl se sl ae al r bd bs ba z = (false, false, false, 1) := by simp [upd, h]
theorem upd_2 (h : chk de dl se sl ae al r = 0) (hz : z < -2000 ∨ 60000 < z) : upd de dl se sl ae al r bd bs ba z = (false, false, false, 1) := by simp [upd, h, hz]
theorem upd_0 (h : chk de dl se sl ae al r = 0) (h1 : -2000 ≤ z) (h2 : z ≤ 60000) : upd de dl se sl ae al r bd bs ba z = (flg de dl bd z, flg se sl bs z, flg ae al ba z, 0) := by
  unfold upd; rw [if_neg (by simp [h]), if_neg (by omega)]
end

/-- one advisory: sense, least rate, greatest rate -/
abbrev Bnd := Int × Int × Int
/-- its error -/
def bnd1 (x : Bnd) : Int := if x.1 ≠ 1 ∧ x.1 ≠ 2 then 6 else if x.2.2 < x.2.1 ∨ x.2.1 < -100 ∨ 100 < x.2.2 then 1 else 0
def firstErr : List Bnd → Int
  | [] => 0
  | x :: r => if bnd1 x ≠ 0 then bnd1 x else firstErr r
/-- the error of a list of advisories -/
def achk (l : List Bnd) : Int := if l.length = 0 then 3 else if 6 < l.length then 4 else firstErr (l.drop 1)

theorem bnd1_kind {x : Bnd} (h1 : x.1 ≠ 1) (h2 : x.1 ≠ 2) : bnd1 x = 6 := by simp [bnd1, h1, h2]
theorem bnd1_arg {x : Bnd} (h : x.1 = 1 ∨ x.1 = 2) (k : x.2.2 < x.2.1 ∨ x.2.1 < -100 ∨ 100 < x.2.2) : bnd1 x = 1 := by
  unfold bnd1; rw [if_neg (by omega), if_pos k]
theorem bnd1_ok {x : Bnd} (h : x.1 = 1 ∨ x.1 = 2) (k : x.2.1 ≤ x.2.2 ∧ -100 ≤ x.2.1 ∧ x.2.2 ≤ 100) : bnd1 x = 0 := by
  unfold bnd1; rw [if_neg (by omega), if_neg (by omega)]
theorem firstErr_hit : ∀ (l : List Bnd) (k : Nat) (h : k < l.length), firstErr (l.take k) = 0 → (∀ j, j < k → ∀ x, l[j]? = some x → bnd1 x = 0) → bnd1 l[k] ≠ 0 → firstErr l = bnd1 l[k]
  | [], k, h, _, _, _ => absurd h (by simp)
  | x :: r, 0, h, _, _, he => by simp only [List.getElem_cons_zero] at he ⊢; simp [firstErr, he]
  | x :: r, k + 1, h, h0, ha, he => by
    have hx : bnd1 x = 0 := ha 0 (by omega) x rfl
    simp only [List.getElem_cons_succ] at he ⊢
    simp only [firstErr, hx, ne_eq, not_true_eq_false, if_false]
    refine firstErr_hit r k (by simpa using h) ?_ (fun j hj y hy => ha (j + 1) (by omega) y (by simpa using hy)) he
    simpa [firstErr, hx] using h0
theorem firstErr_none : ∀ (l : List Bnd), (∀ (j : Nat) (x : Bnd), l[j]? = some x → bnd1 x = 0) → firstErr l = 0
  | [], _ => rfl
  | x :: r, h => by
    have hx : bnd1 x = 0 := h 0 x rfl
    simp only [firstErr, hx, ne_eq, not_true_eq_false, if_false]
    exact firstErr_none r fun j y hy => h (j + 1) y (by simpa using hy)
/-- all advisories but the first up to number k are in order -/
def okTo (l : List Bnd) (k : Nat) : Prop := ∀ j, j < k → ∀ x, l[j + 1]? = some x → bnd1 x = 0
theorem okTo_succ {l : List Bnd} {k : Nat} (h : okTo l k) {x : Bnd} (hx : l[k + 1]? = some x) (e : bnd1 x = 0) : okTo l (k + 1) := by
  intro j hj y hy
  by_cases hjk : j = k
  · subst hjk; rw [hx] at hy; cases hy; exact e
  · exact h j (by omega) y hy
theorem firstErr_take0 (l : List Bnd) (h : ∀ (j : Nat) (x : Bnd), l[j]? = some x → bnd1 x = 0) (k : Nat) : firstErr (l.take k) = 0 := by
  refine firstErr_none _ fun j x hx => ?_
  rw [List.getElem?_take] at hx
  split at hx
  · exact h j x hx
  · cases hx
theorem achk_hit {l : List Bnd} {k : Nat} (h1 : l.length ≤ 6) {x : Bnd} (hx : l[k + 1]? = some x) (h : okTo l k) (he : bnd1 x ≠ 0) : achk l = bnd1 x := by
  have hlt : k + 1 < l.length := (List.getElem?_eq_some_iff.1 hx).1
  have hk : k < (l.drop 1).length := by simp; omega
  have hd : ∀ j, (l.drop 1)[j]? = l[j + 1]? := fun j => by rw [List.getElem?_drop, Nat.add_comm]
  have hxk : (l.drop 1)[k] = x := by
    have := hd k
    rw [hx, List.getElem?_eq_getElem hk] at this
    exact Option.some.inj this
  unfold achk
  rw [if_neg (by omega), if_neg (by omega), ← hxk]
  refine firstErr_hit _ k hk ?_ (fun j hj y hy => h j hj y (by rw [← hd]; exact hy)) (by rw [hxk]; exact he)
  refine firstErr_none _ fun j y hy => ?_
  rw [List.getElem?_take] at hy
  split at hy
  · exact h j ‹_› y (by rw [← hd]; exact hy)
  · cases hy
theorem achk_ok {l : List Bnd} (h0 : 0 < l.length) (h1 : l.length ≤ 6) (h : okTo l (l.length - 1)) : achk l = 0 := by
  unfold achk
  rw [if_neg (by omega), if_neg (by omega)]
  refine firstErr_none _ fun j y hy => ?_
  have hd : (l.drop 1)[j]? = l[j + 1]? := by rw [List.getElem?_drop, Nat.add_comm]
  rw [hd] at hy
  have := (List.getElem?_eq_some_iff.1 hy).1
  exact h j (by omega) y hy

/-- Weaken: sense, rate, keep, error -/
def weak (c r : Int) (bd bs ba : Bool) (s rt : Int) (kp : Bool) : Int × Int × Bool × Int :=
  if c ≠ 0 then (0, 0, false, c) else if 2 < s then (0, 0, false, 6) else if rt < -100 ∨ 100 < rt then (0, 0, false, 1)
  else if ba then (0, 0, false, 0) else if s ≠ 2 ∨ rt ≤ 0 then (s, rt, kp, 0) else if bd then (2, 0, true, 0)
  else if bs ∧ r < rt then (2, r, kp || (r == 0), 0) else (s, rt, kp, 0)

section
variable {c r : Int} {bd bs ba : Bool} {s rt : Int} {kp : Bool}
theorem weak_c (h : c = 1) : weak c r bd bs ba s rt kp = (0, 0, false, 1) := by simp [weak, h]
theorem weak_k (h : c = 0) (h1 : 2 < s) : weak c r bd bs ba s rt kp = (0, 0, false, 6) := by simp [weak, h, h1]
theorem weak_r (h : c = 0) (h1 : s ≤ 2) (h2 : rt < -100 ∨ 100 < rt) : weak c r bd bs ba s rt kp = (0, 0, false, 1) := by
  unfold weak; rw [if_neg (by simp [h]), if_neg (by omega), if_pos h2]
theorem weak_a (h : c = 0) (h1 : s ≤ 2) (h2 : -100 ≤ rt ∧ rt ≤ 100) (h3 : ba = true) : weak c r bd bs ba s rt kp = (0, 0, false, 0) := by
  unfold weak; rw [if_neg (by simp [h]), if_neg (by omega), if_neg (by omega), if_pos h3]
theorem weak_s (h : c = 0) (h1 : s ≤ 2) (h2 : -100 ≤ rt ∧ rt ≤ 100) (h3 : ba = false) (h4 : s ≠ 2 ∨ rt ≤ 0) : weak c r bd bs ba s rt kp = (s, rt, kp, 0) := by
  unfold weak; rw [if_neg (by simp [h]), if_neg (by omega), if_neg (by omega), if_neg (by simp [h3]), if_pos h4]
theorem weak_d (h : c = 0) (h1 : s = 2) (h2 : 0 < rt ∧ rt ≤ 100) (h3 : ba = false) (h4 : bd = true) : weak c r bd bs ba s rt kp = (2, 0, true, 0) := by
  unfold weak; rw [if_neg (by simp [h]), if_neg (by omega), if_neg (by omega), if_neg (by simp [h3]), if_neg (by omega), if_pos h4]
theorem weak_f (h : c = 0) (h1 : s = 2) (h2 : 0 < rt ∧ rt ≤ 100) (h3 : ba = false) (h4 : bd = false) (h5 : bs = true) (h6 : r < rt) : weak c r bd bs ba s rt kp = (2, r, kp || (r == 0), 0) := by
  unfold weak; rw [if_neg (by simp [h]), if_neg (by omega), if_neg (by omega), if_neg (by simp [h3]), if_neg (by omega), if_neg (by simp [h4]), if_pos ⟨h5, h6⟩]
theorem weak_g (h : c = 0) (h1 : s = 2) (h2 : 0 < rt ∧ rt ≤ 100) (h3 : ba = false) (h4 : bd = false) (h5 : bs = false ∨ rt ≤ r) : weak c r bd bs ba s rt kp = (2, rt, kp, 0) := by
  unfold weak; rw [if_neg (by simp [h]), if_neg (by omega), if_neg (by omega), if_neg (by simp [h3]), if_neg (by omega), if_neg (by simp [h4]), if_neg (by rcases h5 with h5 | h5 <;> simp [h5] <;> omega), h1]
end

end Go.Proofs.Ytlbppdgijjbjbaa

/- Walks of advise.Check and of its reference. Conditions: the argument reads as a slice of advisories. -/
namespace Go.Proofs.Ytlbppdgijjbjbaa
set_option linter.unusedSimpArgs false
set_option linter.unusedVariables false
open Go.RowKit

/-- v reads as the advisories l. -/
abbrev RdBnd (w : World) (v : Value) (l : List Bnd) : Prop := RdN 3 w v (l.map fun x => [.int .u8 x.1, .int .i64 x.2.1, .int .i64 x.2.2])

theorem RdBnd.get {w : World} {v : Value} {l : List Bnd} (h : RdBnd w v l) : ∃ a cap, v = .slice a l.length cap ∧ l.length ≤ cap ∧ cap ≤ 9223372036854775807 ∧
    ∀ i x, l[i]? = some x → ∃ b off, a = some ⟨b, off, none⟩ ∧ b < w.heap.size ∧ w.cell? ⟨b, off + i * 3, none⟩ = some (.int .u8 x.1) ∧ w.cell? ⟨b, off + i * 3 + 1, none⟩ = some (.int .i64 x.2.1) ∧ w.cell? ⟨b, off + i * 3 + 2, none⟩ = some (.int .i64 x.2.2) := by
  obtain ⟨a, cap, hv, hc, hm, hr⟩ := h
  simp only [List.length_map] at hv hc hr
  refine ⟨a, cap, hv, hc, hm, fun i x hx => ?_⟩
  have hi := (List.getElem?_eq_some_iff.1 hx).1
  obtain ⟨b, off, ha, hb, hy⟩ := hr i hi
  have e : (l.map fun x : Bnd => [Value.int .u8 x.1, .int .i64 x.2.1, .int .i64 x.2.2]).getD i [] = [.int .u8 x.1, .int .i64 x.2.1, .int .i64 x.2.2] := by simp [hx]
  rw [e] at hy
  exact ⟨b, off, ha, hb, hy 0 (by omega), hy 1 (by omega), hy 2 (by omega)⟩

end Go.Proofs.Ytlbppdgijjbjbaa

/- Walk of the reference's Check of advisories. Conditions: the argument reads as a slice of advisories. -/
namespace Go.Proofs.Ytlbppdgijjbjbaa
set_option linter.unusedSimpArgs false
set_option linter.unusedVariables false
open Go.RowKit

end Go.Proofs.Ytlbppdgijjbjbaa

/- Walks of the small functions of advise and of its reference (written by mkadva.py). Conditions: the advisories read as a slice. -/
namespace Go.Proofs.Ytlbppdgijjbjbaa
set_option linter.unusedSimpArgs false
set_option linter.unusedVariables false
open Go.RowKit

/-- The bounds of a lie inside those of b. -/
def ins (a b : Bnd) : Bool := decide (b.2.1 ≤ a.2.1) && decide (a.2.2 ≤ b.2.2)
/-- Advisory number i. -/
def bAt (l : List Bnd) (i : Nat) : Bnd := l.getD i (0, 0, 0)
/-- The kind of a change. -/
def chg (l : List Bnd) (a b : Nat) : Int :=
  if a = b then 1 else if b = 0 then 2 else if a = 0 then 3
  else if (bAt l a).1 ≠ (bAt l b).1 then 4
  else if ins (bAt l b) (bAt l a) = ins (bAt l a) (bAt l b) then 7
  else if ins (bAt l b) (bAt l a) = true then 5 else 6
theorem bAt_some {l : List Bnd} {i : Nat} (h : i < l.length) : l[i]? = some (bAt l i) := by
  unfold bAt; rw [List.getD_eq_getElem?_getD, List.getElem?_eq_getElem h]; rfl
/-- The error of a number. -/
def cn1 (l : List Bnd) (n : Int) : Int := if achk l ≠ 0 then achk l else if 0 ≤ n ∧ n < l.length then 0 else 8
/-- The error of two numbers. -/
def cn2 (l : List Bnd) (n m : Int) : Int := if achk l ≠ 0 then achk l else if (0 ≤ n ∧ n < l.length) ∧ 0 ≤ m ∧ m < l.length then 0 else 8

end Go.Proofs.Ytlbppdgijjbjbaa
