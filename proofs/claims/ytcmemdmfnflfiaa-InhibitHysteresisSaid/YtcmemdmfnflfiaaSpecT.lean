/- Plain facts on tame heights and on cut lists; monotonicity. Conditions: none. -/
import Derived.Test.YtcmemdmfnflfiaaTame
namespace Go.Proofs.Ytcmemdmfnflfiaa
set_option linter.unusedSimpArgs false
set_option linter.unusedVariables false
open Go.RowKit

theorem tame_chk (de dl se sl ae al r : Int) : chk (umod de 2000) (umod de 2000 + umod dl 500) (umod se 2000) (umod se 2000 + umod sl 500) (umod ae 2000) (umod ae 2000 + umod al 500) (umod r 101) = 0 := by
  have a1 := umod_bd de (k := 2000) (by omega) (by omega)
  have a2 := umod_bd dl (k := 500) (by omega) (by omega)
  have a3 := umod_bd se (k := 2000) (by omega) (by omega)
  have a4 := umod_bd sl (k := 500) (by omega) (by omega)
  have a5 := umod_bd ae (k := 2000) (by omega) (by omega)
  have a6 := umod_bd al (k := 500) (by omega) (by omega)
  have a7 := umod_bd r (k := 101) (by omega) (by omega)
  refine chk_0 ((gapB_iff _ _).2 ⟨by omega, by omega, by omega⟩) ((gapB_iff _ _).2 ⟨by omega, by omega, by omega⟩) ((gapB_iff _ _).2 ⟨by omega, by omega, by omega⟩) (by omega) (by omega)

theorem cutL_bd {l : List Int} {x : Int} (h : x ∈ cutL l) : -200 ≤ x ∧ x < 2800 := by
  obtain ⟨y, _, rfl⟩ := List.mem_map.1 h
  have := umod_bd y (k := 3000) (by omega) (by omega)
  omega
theorem any_wrong_no {l : List Int} (h : ∀ x ∈ l, -2000 ≤ x ∧ x ≤ 60000) : l.any wrongB = false := by
  rw [List.any_eq_false]
  intro x hx
  have := h x hx
  simp [wrongB_no (z := x) (by omega)]

theorem covB_iff (a b : BlkD) : covB a b = true ↔ ((b.1 = true → a.1 = true) ∧ (b.2.1 = true → a.2.1 = true) ∧ (b.2.2 = true → a.2.2 = true)) := by
  obtain ⟨a1, a2, a3⟩ := a
  obtain ⟨b1, b2, b3⟩ := b
  cases a1 <;> cases a2 <;> cases a3 <;> cases b1 <;> cases b2 <;> cases b3 <;> simp [covB]

theorem flg_mono {e l z z' : Int} {b b' : Bool} (hb : b' = true → b = true) (hz : z ≤ z') : flg e l b' z' = true → flg e l b z = true := by
  unfold flg
  split
  · intro _; rw [if_pos (by omega)]
  · split
    · intro h; cases h
    · intro h
      split
      · rfl
      · rw [if_neg (by omega)]; exact hb h

theorem sts_mono (de dl se sl ae al : Int) : ∀ (low high : List Int) (b b' : BlkD), low.length = high.length → (∀ i (h : i < low.length) (h' : i < high.length), low[i] ≤ high[i]) → covB b b' = true →
    ∀ (i : Nat) (x y : BlkD), (sts (stp de dl se sl ae al) b low)[i]? = some x → (sts (stp de dl se sl ae al) b' high)[i]? = some y → covB x y = true
  | [], _, _, _, _, _, _, i, x, y, h, _ => by simp [sts] at h
  | _ :: _, [], _, _, hl, _, _, _, _, _, _, _ => by simp at hl
  | p :: low, q :: high, b, b', hl, hp, hc, i, x, y, hx, hy => by
    have hpq : p ≤ q := hp 0 (by simp) (by simp)
    have hstep : covB (stp de dl se sl ae al b p) (stp de dl se sl ae al b' q) = true := by
      rw [covB_iff] at hc ⊢
      exact ⟨flg_mono hc.1 hpq, flg_mono hc.2.1 hpq, flg_mono hc.2.2 hpq⟩
    cases i with
    | zero => simp [sts] at hx hy; rw [← hx, ← hy]; exact hstep
    | succ i =>
      simp [sts] at hx hy
      exact sts_mono de dl se sl ae al low high _ _ (by simpa using hl) (fun j h h' => by have := hp (j + 1) (by simpa using h) (by simpa using h'); simpa using this) hstep i x y hx hy

end Go.Proofs.Ytcmemdmfnflfiaa
