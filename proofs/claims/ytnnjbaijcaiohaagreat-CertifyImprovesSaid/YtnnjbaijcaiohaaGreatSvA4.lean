/- Walks and lemmas. -/
import Derived.Test.YtnnjbaijcaiohaaGreatSvA3
import Derived.Shelf.RegionOpenPlain
import Derived.Sort.WalkB12
import Derived.Lib.SlicesMore
import Derived.Lib.OwnBridge
import Derived.Laws.BytesArg
import Derived.Shelf.Strings.FuncGrows
import Derived.Test.YtnnjbaijcaiohaaGreatRows
import Derived.ProofKit
import Derived.Deep.Slices
import Derived.OpenShut
import Derived.ShutString
import Derived.ChangeOld
import Derived.Below
set_option linter.unusedVariables false
set_option linter.unusedSimpArgs false
set_option maxRecDepth 100000
set_option maxHeartbeats 16000000
namespace Go.Proofs.YtnnjbaijcaiohaaGreat
open Go.RowKit
theorem Ft (w:World) (l:List Int) (h:l.length≤1000):bj .u32 (w.alloc (.cells (l.map (Value.int .u32)).toArray 157)) (.slice (some ⟨w.heap.size,0,none⟩) l.length l.length) l:=
 (bm.new w l Z).uh
theorem fL {l1 l2:List Int} (h1:l1.length≤512) (z1:cL l1) (h2:l2.length≤512) (z2:cL l2):cS l1 l2=0:=by
 unfold cS wX;rw [if_pos (yH h1 z1),yH h2 z2]
section
open Go.RowKit Go.Shelf
attribute [local go_sem] Oper.semAt_some
end
def NM (c:Int):Bool:=decide (c < 48) || decide (57 < c)
section
open Go.RowKit Go.Shelf Go.Proofs
def nd (r:Nat):Bool:=NM (r:Int)
end
theorem oF {l1 l2:List Int} (h1:l1.length≤512) (z1:cL l1) (h2:l2.length≤512) (z2:cL l2) (hm:nv l1*nv l2 < mR):mulS l1 l2=(lim (nv l1*nv l2),0):=by
 unfold mulS;rw [fw (fL h1 z1 h2 z2),sL hm]
theorem Fu {l1 l2:List Int} (h1:l1.length≤512) (z1:cL l1) (h2:l2.length≤512) (z2:cL l2) (hm:nv l1+nv l2 < mR):uB l1 l2=(lim (nv l1+nv l2),0):=by
 unfold uB;rw [fw (fL h1 z1 h2 z2),sL hm]
theorem Fv {l1 l2:List Int} (h1:l1.length≤512) (z1:cL l1) (h2:l2.length≤512) (z2:cL l2):qM l1 l2=(eP (nv l1) (nv l2),0):=by
 unfold qM;rw [if_pos (fL h1 z1 h2 z2)]
theorem yL {l1 l2:List Int} (h1:l1.length≤512) (z1:cL l1) (h2:l2.length≤512) (z2:cL l2) (h0:nv l2≠0):pm l1 l2=(lim (nv l1 / nv l2),lim (nv l1 % nv l2),0):=by
 unfold pm;rw [if_pos (fL h1 z1 h2 z2),if_neg h0]
theorem gM {n k:Nat} (h:n < 4294967296 ^ k) (hk:k≤512):n < mR:=by unfold mR;exact Nat.lt_of_lt_of_le h (gZ hk)
section
open Go.RowKit Go.ChangeShapes Go.WideShapes Go.ChangeAt Go.Deep
theorem I6:ownKnob Tryz.prog.godebug=none:=ax
theorem sT:laidOutB Tryz.prog=true:=ax
section
variable {H:Type} {enc:TypeId × Value→H} {w:World} {base:Nat} {spare:Nat→Bool} {held:Bool}
theorem nz {n m:Nat} {t e:TypeId} {α:Type} {f:α→List Value} {cs:List Value} {x:DataW H × List MemPlace} (ht:Tryz.prog.underlying t=some (.slice e)) (hm:Tryz.prog.cellsOf e=m) (hm0:0 < m) (hfl:∀ y,(f y).length=m)
  (hel:∀ n cs x,DataW.trod enc Tryz.prog w base spare held n e cs=some x→∃ y:α,cs=f y) [Inhabited α] (h:DataW.trod enc Tryz.prog w base spare held n t cs=some x) :
  ∃ (v:Value) (l:List α),cs=[v]∧SG m w v (l.map f):=by
 rcases open_slice ht h with ⟨rfl,_⟩|⟨a,len,cap,k,n',D,Pl,rfl,hb,hlc,hcm,hk,_,hall⟩
 ·exact ⟨_,[],rfl,none,0,rfl,by simp,by simp,fun i hi=>by simp at hi⟩
 ·have hlk:len≤k:=by rw [hk];split <;> omega
  have hex:∀ i,i < len→∃ y:α,w.cells? base (a.add (i*m)) m=some (f y):=by
   intro i hi;obtain ⟨cs',h1,h2⟩:=hall i Z;obtain ⟨y,rfl⟩:=hel _ _ _ h2;exact ⟨y,by rw [hm] at h1;exact h1⟩
  have hg:∃ g:Nat→α,∀ i,i < len→w.cells? base (a.add (i*m)) m=some (f (g i)):=by
   classical
   exact ⟨fun i=>if h:i < len then Classical.choose (hex i h) else default,fun i hi=>by simp only [hi,dif_pos];exact Classical.choose_spec (hex i hi)⟩
  obtain ⟨g,hg⟩:=hg;refine ⟨_,(List.range len).map g,rfl,some a,cap,by simp,by simpa using hlc,by unfold maxLen at hcm;omega,fun i hi=>?_⟩;simp at hi;obtain ⟨_,_,hcell⟩:=World.cells?_some (hg i hi);have hblk:=World.cells?_block (hg i hi) hm0;obtain ⟨b,off,spot⟩:=a;obtain ⟨_,_,hc0⟩:=World.cells?_some (hg 0 Z);have hsome:w.cell? (((Addr.mk b off spot).add (0*m)).add 0)=some ((f (g 0))[0]'(by rw [hfl];exact hm0)):=by rw [hc0 0 hm0,List.getElem?_eq_getElem]
  have hspot:spot=none:=by simpa [Addr.add] using World.cell?_spot hsome
  subst hspot;rw [Go.WideShapes.add_plain] at hblk;refine ⟨b,off,rfl,hblk,fun j hj=>?_⟩;have h1:=hcell j hj;rw [Go.WideShapes.add_plain,Go.WideShapes.add_plain] at h1;rw [h1];simp [hi]
theorem pp {w:World} {v:Value} {α:Type} {l:List α} {f:α→Value} (h:SG 1 w v (l.map fun x=>[f x])):Rd w v (l.map f):=by
 obtain ⟨a,cap,hv,hc,hm,hr⟩:=h;simp only [List.length_map] at hv hc hr;refine ⟨a,cap,by simpa using hv,by simpa using hc,hm,fun i hi=>?_⟩;simp only [List.length_map] at hi;obtain ⟨b,off,ha,hb,hx⟩:=hr i hi;have h0:=hx 0 Z;exact ⟨b,off,ha,hb,by simpa [hi] using h0⟩
theorem Tryz.cells50:Tryz.prog.cellsOf 157=1:=ax
end
end
end Go.Proofs.YtnnjbaijcaiohaaGreat
