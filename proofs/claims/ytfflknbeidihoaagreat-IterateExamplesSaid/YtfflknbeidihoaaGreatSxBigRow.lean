/- Lemmas and walks. Conditions: as stated. -/
import Derived.Test.YtfflknbeidihoaaGreatSxGD
import Derived.Shelf.RegionOpenPlain
import Derived.Sort.WalkB12
import Derived.Lib.SlicesMore
import Derived.Lib.OwnBridge
import Derived.Laws.BytesArg
import Derived.Shelf.Strings.FuncGrows
import Derived.Test.YtfflknbeidihoaaGreatRows
import Derived.ProofKit
import Derived.Deep.Slices
import Derived.OpenShut
import Derived.ShutString
import Derived.ChangeOld
import Derived.Below
set_option linter.unusedVariables false
set_option linter.unusedSimpArgs false
set_option maxRecDepth 100000
set_option maxHeartbeats 16000000
namespace Go.Proofs.YtfflknbeidihoaaGreat
open Go.RowKit
theorem rdU_new (w:World) (l:List Int) (h:l.length≤1000):RdI .u32 (w.alloc (.cells (l.map (Value.int .u32)).toArray 118)) (.slice (some ⟨w.heap.size,0,none⟩) l.length l.length) l:=
 (RowU.new w l (by omega)).rdI
theorem chk2_ok {l1 l2:List Int} (h1:l1.length≤512) (z1:NoZ l1) (h2:l2.length≤512) (z2:NoZ l2):chk2 l1 l2=0:=by
 unfold chk2 orE;rw [if_pos (chkE_ok h1 z1),chkE_ok h2 z2]
theorem lims (l:List Int) (h:l.all (fun x=>decide (0≤x) && decide (x < 4294967296))=true):Lim l:=by
 intro x hx;have:=List.all_eq_true.1 h x hx;simpa using this
end Go.Proofs.YtfflknbeidihoaaGreat
namespace Go.Proofs.YtfflknbeidihoaaGreat
open Go.RowKit Go.Shelf
attribute [local go_sem] Oper.semAt_some
end Go.Proofs.YtfflknbeidihoaaGreat
namespace Go.Proofs.YtfflknbeidihoaaGreat
open Go.RowKit
end Go.Proofs.YtfflknbeidihoaaGreat
namespace Go.Proofs.YtfflknbeidihoaaGreat
end Go.Proofs.YtfflknbeidihoaaGreat
namespace Go.Proofs.YtfflknbeidihoaaGreat
open Go.RowKit Go.Shelf Go.Proofs
end Go.Proofs.YtfflknbeidihoaaGreat
namespace Go.Proofs.YtfflknbeidihoaaGreat
open Go.RowKit
end Go.Proofs.YtfflknbeidihoaaGreat
namespace Go.Proofs.YtfflknbeidihoaaGreat
theorem mulS_ok {l1 l2:List Int} (h1:l1.length≤512) (z1:NoZ l1) (h2:l2.length≤512) (z2:NoZ l2) (hm:nv l1*nv l2 < MAXN):mulS l1 l2=(lim (nv l1*nv l2),0):=by
 unfold mulS;rw [opS_ok (chk2_ok h1 z1 h2 z2),fitL_ok hm]
theorem addS_ok {l1 l2:List Int} (h1:l1.length≤512) (z1:NoZ l1) (h2:l2.length≤512) (z2:NoZ l2) (hm:nv l1+nv l2 < MAXN):addS l1 l2=(lim (nv l1+nv l2),0):=by
 unfold addS;rw [opS_ok (chk2_ok h1 z1 h2 z2),fitL_ok hm]
theorem divS_ok {l1 l2:List Int} (h1:l1.length≤512) (z1:NoZ l1) (h2:l2.length≤512) (z2:NoZ l2) (h0:nv l2≠0):divS l1 l2=(lim (nv l1 / nv l2),lim (nv l1 % nv l2),0):=by
 unfold divS;rw [if_pos (chk2_ok h1 z1 h2 z2),if_neg h0]
theorem pow_max {n k:Nat} (h:n < 4294967296 ^ k) (hk:k≤512):n < MAXN:=by unfold MAXN;exact Nat.lt_of_lt_of_le h (pow_le hk)
end Go.Proofs.YtfflknbeidihoaaGreat
namespace Go.Proofs.YtfflknbeidihoaaGreat
end Go.Proofs.YtfflknbeidihoaaGreat
namespace Go.Proofs.YtfflknbeidihoaaGreat
open Go.RowKit Go.ChangeShapes Go.WideShapes Go.ChangeAt Go.Deep
theorem rowOwn:ownKnob Tryz.prog.godebug=none:=by kernel_rfl
section
variable {H:Type} {enc:TypeId × Value→H} {w:World} {base:Nat} {spare:Nat→Bool} {held:Bool}
end
end Go.Proofs.YtfflknbeidihoaaGreat
