/- Walks of Next of advise and of its reference (written by mkadvc.py). Conditions: the advisories read as a slice. -/
import Derived.Test.YtlbppdgijjbjbaaAdvB
namespace Go.Proofs.Ytlbppdgijjbjbaa
set_option linter.unusedSimpArgs false
set_option linter.unusedVariables false
open Go.RowKit

theorem nextS_e {l : List Bnd} {now age rev b : Int} (h : cn2 l now b ≠ 0) : nextS l now age rev b = ((0, 0, 0), cn2 l now b) := if_pos h
theorem nextS_m {l : List Bnd} {now age rev b : Int} (h : cn2 l now b = 0) (h2 : memE age rev ≠ 0) : nextS l now age rev b = ((0, 0, 0), memE age rev) := by
  unfold nextS; rw [if_neg (by simp [h]), if_pos h2]
theorem nextS_0 {l : List Bnd} {i j : Nat} {age rev : Int} (h : achk l = 0) (hi : i < l.length) (hj : j < l.length) (h2 : memE age rev = 0) : nextS l i age rev j = (nextV (chg l i j) age rev j, 0) := by
  unfold nextS; rw [cn2_ok h (by omega), if_neg (by decide), if_neg (by simp [h2]), Int.toNat_natCast, Int.toNat_natCast]

/-- The value of a memory. -/
def memW (x : Int × Int × Int) : Value := .agg #[.int .i64 x.1, .int .i64 x.2.1, .int .i64 x.2.2]

end Go.Proofs.Ytlbppdgijjbjbaa
