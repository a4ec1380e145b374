/- Plain laws on one step of a sum, a difference, a product, a quotient over limbs. Conditions: limbs in range. -/
import Derived.Test.YtoicjiiifffciaaBigN
import Derived.Test.YtoicjiiifffciaaBits
namespace Go.Proofs.Ytoicjiiifffciaa
set_option linter.unusedSimpArgs false
set_option linter.unusedVariables false
open Go.RowKit

theorem getD_lim {l : List Int} (h : Lim l) (i : Nat) : 0 ≤ l.getD i 0 ∧ l.getD i 0 < 4294967296 := by
  rw [List.getD_eq_getElem?_getD]
  by_cases hi : i < l.length
  · rw [List.getElem?_eq_getElem hi]; exact lim_get h hi
  · rw [List.getElem?_eq_none (by omega)]; simp

theorem nv_setD {l : List Int} {k : Nat} (hk : k < l.length) (x : Int) : nv (l.set k x) + 4294967296 ^ k * (l.getD k 0).toNat = nv l + 4294967296 ^ k * x.toNat := by
  have := nv_set hk x
  rw [List.getD_eq_getElem?_getD, List.getElem?_eq_getElem hk]; exact this

theorem nv_takeD {l : List Int} {k : Nat} (h : k < l.length) : nv (l.take (k + 1)) = nv (l.take k) + 4294967296 ^ k * (l.getD k 0).toNat := by
  rw [nv_take_succ h, List.getD_eq_getElem?_getD, List.getElem?_eq_getElem h]; rfl

theorem add_step {l : List Int} {i : Nat} {x c : Int} (hl : Lim l) (hi : i < l.length) (hx : 0 ≤ x) (hc : 0 ≤ c) :
    nv (l.set i ((l.getD i 0 + x + c) % 4294967296)) + 4294967296 ^ (i + 1) * ((l.getD i 0 + x + c) / 4294967296).toNat = nv l + 4294967296 ^ i * (x.toNat + c.toNat) := by
  have h1 := nv_setD hi ((l.getD i 0 + x + c) % 4294967296)
  have h2 := getD_lim hl i
  generalize l.getD i 0 = y at *
  have e1 : y.toNat + x.toNat + c.toNat = 4294967296 * ((y + x + c) / 4294967296).toNat + ((y + x + c) % 4294967296).toNat := by omega
  generalize ((y + x + c) / 4294967296).toNat = q at *
  generalize ((y + x + c) % 4294967296) = r at *
  have e2 := congrArg (4294967296 ^ i * ·) e1
  simp only [Nat.mul_add] at e2 ⊢
  rw [Nat.pow_succ, Nat.mul_assoc]
  omega

theorem sub_step {l : List Int} {i : Nat} {x c : Int} (hl : Lim l) (hi : i < l.length) (hx : 0 ≤ x ∧ x < 4294967296) (hc : 0 ≤ c ∧ c ≤ 1) :
    nv (l.set i ((l.getD i 0 - x - c) % 4294967296)) + 4294967296 ^ i * (x.toNat + c.toNat) = nv l + 4294967296 ^ (i + 1) * (brw (l.getD i 0) x c).toNat := by
  have h1 := nv_setD hi ((l.getD i 0 - x - c) % 4294967296)
  have h2 := getD_lim hl i
  generalize l.getD i 0 = y at *
  have e1 : y.toNat + 4294967296 * (brw y x c).toNat = x.toNat + c.toNat + ((y - x - c) % 4294967296).toNat := by unfold brw; split <;> omega
  generalize (brw y x c).toNat = q at *
  generalize ((y - x - c) % 4294967296) = r at *
  have e2 := congrArg (4294967296 ^ i * ·) e1
  simp only [Nat.mul_add] at e2 ⊢
  rw [Nat.pow_succ, Nat.mul_assoc]
  omega

theorem lim_setMod {l : List Int} (h : Lim l) (i : Nat) (x : Int) : Lim (l.set i (x % 4294967296)) := lim_set h i (by omega) (by omega)
theorem brw_bd (x y c : Int) : 0 ≤ brw x y c ∧ brw x y c ≤ 1 := by unfold brw; split <;> omega
theorem carry_bd {y x c : Int} (hy : 0 ≤ y ∧ y < 4294967296) (hx : 0 ≤ x ∧ x < 4294967296) (hc : 0 ≤ c ∧ c ≤ 1) : 0 ≤ (y + x + c) / 4294967296 ∧ (y + x + c) / 4294967296 ≤ 1 := by omega

end Go.Proofs.Ytoicjiiifffciaa
