/- Part of the proof of nodL_holds: what the row needs of Eq. Conditions: as each theorem states. -/
import Derived.Test.YtbnalhmcbolngaaSnGA
import Derived.Laws.StructEq
namespace Go.Proofs.Ytbnalhmcbolngaa
set_option linter.unusedSimpArgs false
set_option linter.unusedVariables false
open Go.RowKit
def beqD {α : Type} [DecidableEq α] (a b : α) : Bool := decide (a = b)
theorem beqD_true {α : Type} [DecidableEq α] {a b : α} (h : beqD a b = true) : a = b := by simpa [beqD] using h
theorem beqD_false {α : Type} [DecidableEq α] {a b : α} (h : beqD a b = false) : a ≠ b := by simpa [beqD] using h
theorem beqD_self {α : Type} [DecidableEq α] (a : α) : beqD a a = true := by simp [beqD]
theorem neqBlk (x1 y1 z1 x2 y2 z2 : Bool) (w : World) : (binOp .neq 78 (.agg #[.bool x1, .bool y1, .bool z1]) (.agg #[.bool x2, .bool y2, .bool z2])).run Try.prog w = .ok (.bool (!beqD (x1, y1, z1) (x2, y2, z2))) w := by
  go_simp
  by_cases h1 : x1 = x2 <;> by_cases h2 : y1 = y2 <;> by_cases h3 : z1 = z2 <;> simp [beqD, h1, h2, h3]
theorem eqAdv (s1 r1 : Int) (k1 : Bool) (s2 r2 : Int) (k2 : Bool) (w : World) : (binOp .eql 120 (.agg #[.int .u8 s1, .int .i64 r1, .bool k1]) (.agg #[.int .u8 s2, .int .i64 r2, .bool k2])).run Try.prog w = .ok (.bool (beqD (s1, r1, k1) (s2, r2, k2))) w := by
  go_simp
  by_cases h1 : s1 = s2 <;> by_cases h2 : r1 = r2 <;> by_cases h3 : k1 = k2 <;> simp [beqD, h1, h2, h3]
end Go.Proofs.Ytbnalhmcbolngaa
