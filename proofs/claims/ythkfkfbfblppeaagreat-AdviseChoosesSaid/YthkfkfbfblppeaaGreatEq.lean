/- '==' of the small structs of layer 30, in one step. Conditions: none. -/
import Derived.Test.YthkfkfbfblppeaaGreatGA
import Derived.Laws.StructEq
namespace Go.Proofs.YthkfkfbfblppeaaGreat
set_option linter.unusedSimpArgs false
set_option linter.unusedVariables false
open Go.RowKit

/-- equality, in one word that the walk leaves alone -/
def beqD {α : Type} [DecidableEq α] (a b : α) : Bool := decide (a = b)
theorem beqD_true {α : Type} [DecidableEq α] {a b : α} (h : beqD a b = true) : a = b := by simpa [beqD] using h
theorem beqD_false {α : Type} [DecidableEq α] {a b : α} (h : beqD a b = false) : a ≠ b := by simpa [beqD] using h
theorem beqD_self {α : Type} [DecidableEq α] (a : α) : beqD a a = true := by simp [beqD]

theorem eqAdv (s1 r1 : Int) (k1 : Bool) (s2 r2 : Int) (k2 : Bool) (w : World) : (binOp .eql 130 (.agg #[.int .u8 s1, .int .i64 r1, .bool k1]) (.agg #[.int .u8 s2, .int .i64 r2, .bool k2])).run Tryz.prog w = .ok (.bool (beqD (s1, r1, k1) (s2, r2, k2))) w := by
  go_simp
  by_cases h1 : s1 = s2 <;> by_cases h2 : r1 = r2 <;> by_cases h3 : k1 = k2 <;> simp [beqD, h1, h2, h3]
theorem neqAdv (s1 r1 : Int) (k1 : Bool) (s2 r2 : Int) (k2 : Bool) (w : World) : (binOp .neq 130 (.agg #[.int .u8 s1, .int .i64 r1, .bool k1]) (.agg #[.int .u8 s2, .int .i64 r2, .bool k2])).run Tryz.prog w = .ok (.bool (!beqD (s1, r1, k1) (s2, r2, k2))) w := by
  go_simp
  by_cases h1 : s1 = s2 <;> by_cases h2 : r1 = r2 <;> by_cases h3 : k1 = k2 <;> simp [beqD, h1, h2, h3]

end Go.Proofs.YthkfkfbfblppeaaGreat
