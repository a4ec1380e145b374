/- What the functions of layer 5 return: plain definitions. Conditions: none. -/
import Derived.Test.YtoicjiiifffciaaBigH
import Derived.Test.YtoicjiiifffciaaBigO
namespace Go.Proofs.Ytoicjiiifffciaa
set_option linter.unusedSimpArgs false
set_option linter.unusedVariables false
open Go.RowKit

/-- The first number that is too long. -/
def MAXE : Nat := 512
def MAXN : Nat := 4294967296 ^ MAXE
theorem len_max {n : Nat} : (lim n).length ≤ 512 ↔ n < MAXN := by
  unfold MAXN
  rw [show (512 : Nat) = MAXE from rfl]
  exact lim_len_le

/-- A result, or ErrLong. -/
def fitL (n : Nat) : List Int × Int := if n < MAXN then (lim n, 0) else ([], 4)
theorem fitL_ok {n : Nat} (h : n < MAXN) : fitL n = (lim n, 0) := by unfold fitL; rw [if_pos h]
theorem fitL_long {n : Nat} (h : ¬ n < MAXN) : fitL n = ([], 4) := by unfold fitL; rw [if_neg h]

/-- What an operation on two numbers returns. -/
def opS (l1 l2 : List Int) (r : List Int × Int) : List Int × Int := if chk2 l1 l2 = 0 then r else ([], chk2 l1 l2)
theorem opS_ok {l1 l2 : List Int} {r : List Int × Int} (h : chk2 l1 l2 = 0) : opS l1 l2 r = r := by unfold opS; rw [if_pos h]
theorem opS_err {l1 l2 : List Int} {r : List Int × Int} (h : chk2 l1 l2 ≠ 0) : opS l1 l2 r = ([], chk2 l1 l2) := by unfold opS; rw [if_neg h]

def addS (l1 l2 : List Int) : List Int × Int := opS l1 l2 (fitL (nv l1 + nv l2))
def mulS (l1 l2 : List Int) : List Int × Int := opS l1 l2 (fitL (nv l1 * nv l2))
def subS (l1 l2 : List Int) : List Int × Int := opS l1 l2 (if nv l1 < nv l2 then ([], 7) else (lim (nv l1 - nv l2), 0))
def cmpS (l1 l2 : List Int) : Int × Int := if chk2 l1 l2 = 0 then (cmpN (nv l1) (nv l2), 0) else (0, chk2 l1 l2)

theorem chkE_0 {l : List Int} (h : chkE l = 0) : l.length ≤ 512 ∧ NoZ l := by
  unfold chkE at h
  by_cases h1 : 512 < l.length
  · rw [if_pos h1] at h; cases h
  · rw [if_neg h1] at h
    by_cases h2 : l.getLast? = some 0
    · rw [if_pos h2] at h; cases h
    · exact ⟨by omega, h2⟩
theorem chk2_0 {l1 l2 : List Int} (h : chk2 l1 l2 = 0) : (l1.length ≤ 512 ∧ NoZ l1) ∧ (l2.length ≤ 512 ∧ NoZ l2) := by
  unfold chk2 orE at h
  by_cases h1 : chkE l1 = 0
  · rw [if_pos h1] at h; exact ⟨chkE_0 h1, chkE_0 h⟩
  · rw [if_neg h1] at h; exact absurd h h1
theorem chkE_ok {l : List Int} (h1 : l.length ≤ 512) (h2 : NoZ l) : chkE l = 0 := by
  unfold chkE; rw [if_neg (by omega), if_neg h2]
theorem chkE_lim {n : Nat} (h : n < MAXN) : chkE (lim n) = 0 := chkE_ok (len_max.2 h) (lim_noZ n)
theorem nv_max {l : List Int} (hl : Lim l) (h : l.length ≤ 512) : nv l < MAXN := by unfold MAXN; exact Nat.lt_of_lt_of_le (nv_lt hl) (pow_le h)

/-- A result of numbers and an error. -/
def Res (w w' : World) (e : Ending) (r : List Int × Int) : Prop := ∃ v, e = .returned (.tuple #[v, .int .i64 r.2]) ∧ NewV w w' v r.1

theorem Res.mk {w w' : World} {v : Value} {l : List Int} {x : Int} {r : List Int × Int} (h : NewV w w' v l) (e : r = (l, x)) : Res w w' (.returned (.tuple #[v, .int .i64 x])) r := by subst e; exact ⟨v, rfl, h⟩

theorem lt_max (a b c : Nat) (h1 : a ≤ c) (h2 : b ≤ c) {x y : Nat} (hx : x < 4294967296 ^ a) (hy : y < 4294967296 ^ b) : x + y < 4294967296 ^ (c + 1) := by
  have := pow_le h1; have := pow_le h2
  rw [Nat.pow_succ]; omega

end Go.Proofs.Ytoicjiiifffciaa
