/- Part of the proof of imatL_holds: what the row needs of GI. Conditions: as each theorem states. -/
import Derived.Test.YthkfkfbfblppeaaGreatSwGA
namespace Go.Proofs.YthkfkfbfblppeaaGreat
set_option linter.unusedSimpArgs false
set_option linter.unusedVariables false
section
variable {de dl se sl ae al r : Int}
end
section
variable {de dl se sl ae al r : Int} {bd bs ba : Bool} {z : Int}
end
abbrev Bnd := Int × Int × Int
section
variable {c r : Int} {bd bs ba : Bool} {s rt : Int} {kp : Bool}
end
end Go.Proofs.YthkfkfbfblppeaaGreat
namespace Go.Proofs.YthkfkfbfblppeaaGreat
set_option linter.unusedSimpArgs false
set_option linter.unusedVariables false
open Go.RowKit
abbrev RdBnd (w : World) (v : Value) (l : List Bnd) : Prop := RdN 3 w v (l.map fun x => [.int .u8 x.1, .int .i64 x.2.1, .int .i64 x.2.2])
theorem RdBnd.get {w : World} {v : Value} {l : List Bnd} (h : RdBnd w v l) : ∃ a cap, v = .slice a l.length cap ∧ l.length ≤ cap ∧ cap ≤ 9223372036854775807 ∧
    ∀ i x, l[i]? = some x → ∃ b off, a = some ⟨b, off, none⟩ ∧ b < w.heap.size ∧ w.cell? ⟨b, off + i * 3, none⟩ = some (.int .u8 x.1) ∧ w.cell? ⟨b, off + i * 3 + 1, none⟩ = some (.int .i64 x.2.1) ∧ w.cell? ⟨b, off + i * 3 + 2, none⟩ = some (.int .i64 x.2.2) := by
  obtain ⟨a, cap, hv, hc, hm, hr⟩ := h
  simp only [List.length_map] at hv hc hr
  refine ⟨a, cap, hv, hc, hm, fun i x hx => ?_⟩
  have hi := (List.getElem?_eq_some_iff.1 hx).1
  obtain ⟨b, off, ha, hb, hy⟩ := hr i hi
  have e : (l.map fun x : Bnd => [Value.int .u8 x.1, .int .i64 x.2.1, .int .i64 x.2.2]).getD i [] = [.int .u8 x.1, .int .i64 x.2.1, .int .i64 x.2.2] := by simp [hx]
  rw [e] at hy
  exact ⟨b, off, ha, hb, hy 0 (by omega), hy 1 (by omega), hy 2 (by omega)⟩
end Go.Proofs.YthkfkfbfblppeaaGreat
namespace Go.Proofs.YthkfkfbfblppeaaGreat
set_option linter.unusedSimpArgs false
set_option linter.unusedVariables false
open Go.RowKit
end Go.Proofs.YthkfkfbfblppeaaGreat
namespace Go.Proofs.YthkfkfbfblppeaaGreat
set_option linter.unusedSimpArgs false
set_option linter.unusedVariables false
open Go.RowKit
end Go.Proofs.YthkfkfbfblppeaaGreat
