/- Walk of the reference's Run of layer 30. Conditions: the heights read as a slice of ints. -/
import Derived.Test.YtcmemdmfnflfiaaInhB
import Derived.Test.YtcmemdmfnflfiaaSpecR
import Derived.Test.YtcmemdmfnflfiaaGA
import Derived.Test.YtcmemdmfnflfiaaGB
namespace Go.Proofs.Ytcmemdmfnflfiaa
set_option linter.unusedSimpArgs false
set_option linter.unusedVariables false
open Go.RowKit

abbrev blkCells (x : BlkD) : List Value := [.bool x.1, .bool x.2.1, .bool x.2.2]
/-- v owns, among the blocks from B on, the states l. -/
abbrev OwBk (w : World) (B : Nat) (v : Value) (l : List BlkD) : Prop := w.ownsRow B 31 3 v l.length (l.flatMap blkCells)

theorem Try.infoBlk : (Try.prog.info? 31).map (fun i => (i.zero, i.size, i.bytes)) = some (some (.agg #[.bool false, .bool false, .bool false]), 3, 3) := by kernel_rfl

/-- What the loop of the reference's Run keeps. -/
def RunRel (w : World) (B : Nat) (de dl se sl ae al r : Int) (l : List Int) (k : Nat) (v : Value) (wr : World) : Prop :=
  Ext w wr ∧ w.heap.size < B ∧ Blk wr w.heap.size #[.int .i64 de, .int .i64 dl, .int .i64 se, .int .i64 sl, .int .i64 ae, .int .i64 al, .int .i64 r] 26 ∧
  Blk wr B #[.bool ((l.take k).foldl (stp de dl se sl ae al) (false, false, false)).1, .bool ((l.take k).foldl (stp de dl se sl ae al) (false, false, false)).2.1, .bool ((l.take k).foldl (stp de dl se sl ae al) (false, false, false)).2.2] 31 ∧
  OwBk wr (B + 1) v (sts (stp de dl se sl ae al) (false, false, false) (l.take k)) ∧ (l.take k).any wrongB = false

end Go.Proofs.Ytcmemdmfnflfiaa
