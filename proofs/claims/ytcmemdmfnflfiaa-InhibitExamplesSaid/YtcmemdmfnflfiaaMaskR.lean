/- Walk of the reference's Mask of layer 30. Conditions: the advisories read as a slice. -/
import Derived.Test.YtcmemdmfnflfiaaBoolS
import Derived.Test.YtcmemdmfnflfiaaGI
import Derived.Test.YtcmemdmfnflfiaaInhB
import Derived.Test.YtcmemdmfnflfiaaSpecM
import Derived.Test.YtcmemdmfnflfiaaGA
import Derived.Test.YtcmemdmfnflfiaaGB
namespace Go.Proofs.Ytcmemdmfnflfiaa
set_option linter.unusedSimpArgs false
set_option linter.unusedVariables false
open Go.RowKit

theorem Try.infoBool : (Try.prog.info? 4).map (fun i => (i.zero, i.size, i.bytes)) = some (some (.bool false), 1, 1) := by kernel_rfl

def MkRel (w : World) (de dl se sl ae al r : Int) (bd bs ba : Bool) (l : List Bnd) (k : Nat) (v : Value) (wr : World) : Prop :=
  Ext w wr ∧ Blk wr w.heap.size #[.int .i64 de, .int .i64 dl, .int .i64 se, .int .i64 sl, .int .i64 ae, .int .i64 al, .int .i64 r] 26 ∧
  Blk wr (w.heap.size + 1) #[.bool bd, .bool bs, .bool ba] 31 ∧ OwBo wr (w.heap.size + 2) v (mskL r bd bs ba (l.take k))

end Go.Proofs.Ytcmemdmfnflfiaa
