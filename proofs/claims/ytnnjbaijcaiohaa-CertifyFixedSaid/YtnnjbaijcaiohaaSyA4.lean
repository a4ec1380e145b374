/- Walks and lemmas. -/
import Derived.Test.YtnnjbaijcaiohaaSyA3
import Derived.Shelf.RegionOpenPlain
import Derived.Sort.WalkB12
import Derived.Lib.SlicesMore
import Derived.Lib.OwnBridge
import Derived.Laws.BytesArg
import Derived.Shelf.Strings.FuncGrows
import Derived.Test.YtnnjbaijcaiohaaRows
import Derived.ProofKit
import Derived.Deep.Slices
import Derived.OpenShut
import Derived.ShutString
import Derived.ChangeOld
import Derived.Below
set_option linter.unusedVariables false
set_option linter.unusedSimpArgs false
set_option maxRecDepth 100000
set_option maxHeartbeats 16000000
namespace Go.Proofs.Ytnnjbaijcaiohaa
open Go.RowKit
theorem rdU_new (w:World) (l:List Int) (h:l.length≤1000):RdI .u32 (w.alloc (.cells (l.map (Value.int .u32)).toArray 102)) (.slice (some ⟨w.heap.size,0,none⟩) l.length l.length) l:=
 (RowU.new w l (by omega)).rdI
theorem chk2_ok {l1 l2:List Int} (h1:l1.length≤512) (z1:NoZ l1) (h2:l2.length≤512) (z2:NoZ l2):chk2 l1 l2=0:=by
 unfold chk2 orE;rw [if_pos (chkE_ok h1 z1),chkE_ok h2 z2]
section
open Go.RowKit Go.Shelf
attribute [local go_sem] Oper.semAt_some
end
def noDig (c:Int):Bool:=decide (c < 48) || decide (57 < c)
section
open Go.RowKit Go.Shelf Go.Proofs
def nd (r:Nat):Bool:=noDig (r:Int)
end
theorem mulS_ok {l1 l2:List Int} (h1:l1.length≤512) (z1:NoZ l1) (h2:l2.length≤512) (z2:NoZ l2) (hm:nv l1*nv l2 < MAXN):mulS l1 l2=(lim (nv l1*nv l2),0):=by
 unfold mulS;rw [opS_ok (chk2_ok h1 z1 h2 z2),fitL_ok hm]
theorem addS_ok {l1 l2:List Int} (h1:l1.length≤512) (z1:NoZ l1) (h2:l2.length≤512) (z2:NoZ l2) (hm:nv l1+nv l2 < MAXN):addS l1 l2=(lim (nv l1+nv l2),0):=by
 unfold addS;rw [opS_ok (chk2_ok h1 z1 h2 z2),fitL_ok hm]
theorem divS_ok {l1 l2:List Int} (h1:l1.length≤512) (z1:NoZ l1) (h2:l2.length≤512) (z2:NoZ l2) (h0:nv l2≠0):divS l1 l2=(lim (nv l1 / nv l2),lim (nv l1 % nv l2),0):=by
 unfold divS;rw [if_pos (chk2_ok h1 z1 h2 z2),if_neg h0]
theorem pow_max {n k:Nat} (h:n < 4294967296 ^ k) (hk:k≤512):n < MAXN:=by unfold MAXN;exact Nat.lt_of_lt_of_le h (pow_le hk)
section
open Go.RowKit Go.ChangeShapes Go.WideShapes Go.ChangeAt Go.Deep
theorem rowOwn:ownKnob Try.prog.godebug=none:=by kernel_rfl
theorem rowLaid:laidOutB Try.prog=true:=by kernel_rfl
section
variable {H:Type} {enc:TypeId × Value→H} {w:World} {base:Nat} {spare:Nat→Bool} {held:Bool}
theorem rdN_of_trod {n m:Nat} {t e:TypeId} {α:Type} {f:α→List Value} {cs:List Value} {x:DataW H × List MemPlace} (ht:Try.prog.underlying t=some (.slice e)) (hm:Try.prog.cellsOf e=m) (hm0:0 < m) (hfl:∀ y,(f y).length=m)
  (hel:∀ n cs x,DataW.trod enc Try.prog w base spare held n e cs=some x→∃ y:α,cs=f y) [Inhabited α] (h:DataW.trod enc Try.prog w base spare held n t cs=some x) :
  ∃ (v:Value) (l:List α),cs=[v]∧RdN m w v (l.map f):=by
 rcases open_slice ht h with ⟨rfl,_⟩|⟨a,len,cap,k,n',D,Pl,rfl,hb,hlc,hcm,hk,_,hall⟩
 ·exact ⟨_,[],rfl,none,0,rfl,by simp,by simp,fun i hi=>by simp at hi⟩
 ·have hlk:len≤k:=by rw [hk];split <;> omega
  have hex:∀ i,i < len→∃ y:α,w.cells? base (a.add (i*m)) m=some (f y):=by
   intro i hi;obtain ⟨cs',h1,h2⟩:=hall i (by omega);obtain ⟨y,rfl⟩:=hel _ _ _ h2;exact ⟨y,by rw [hm] at h1;exact h1⟩
  have hg:∃ g:Nat→α,∀ i,i < len→w.cells? base (a.add (i*m)) m=some (f (g i)):=by
   classical
   exact ⟨fun i=>if h:i < len then Classical.choose (hex i h) else default,fun i hi=>by simp only [hi,dif_pos];exact Classical.choose_spec (hex i hi)⟩
  obtain ⟨g,hg⟩:=hg;refine ⟨_,(List.range len).map g,rfl,some a,cap,by simp,by simpa using hlc,by unfold maxLen at hcm;omega,fun i hi=>?_⟩;simp at hi;obtain ⟨_,_,hcell⟩:=World.cells?_some (hg i hi);have hblk:=World.cells?_block (hg i hi) hm0;obtain ⟨b,off,spot⟩:=a;obtain ⟨_,_,hc0⟩:=World.cells?_some (hg 0 (by omega));have hsome:w.cell? (((Addr.mk b off spot).add (0*m)).add 0)=some ((f (g 0))[0]'(by rw [hfl];exact hm0)):=by rw [hc0 0 hm0,List.getElem?_eq_getElem]
  have hspot:spot=none:=by simpa [Addr.add] using World.cell?_spot hsome
  subst hspot;rw [Go.WideShapes.add_plain] at hblk;refine ⟨b,off,rfl,hblk,fun j hj=>?_⟩;have h1:=hcell j hj;rw [Go.WideShapes.add_plain,Go.WideShapes.add_plain] at h1;rw [h1];simp [hi]
theorem rd_of_rdN1 {w:World} {v:Value} {α:Type} {l:List α} {f:α→Value} (h:RdN 1 w v (l.map fun x=>[f x])):Rd w v (l.map f):=by
 obtain ⟨a,cap,hv,hc,hm,hr⟩:=h;simp only [List.length_map] at hv hc hr;refine ⟨a,cap,by simpa using hv,by simpa using hc,hm,fun i hi=>?_⟩;simp only [List.length_map] at hi;obtain ⟨b,off,ha,hb,hx⟩:=hr i hi;have h0:=hx 0 (by omega);exact ⟨b,off,ha,hb,by simpa [hi] using h0⟩
theorem open_ints64 {r:Reach} {b0:Nat} {t e:TypeId} {k:IntKind} {v:Value} {d:DataW H} {p:List MemPlace} (ht:Try.prog.underlying t=some (.slice e)) (he:Try.prog.underlying e=some (.int k)) (hc:Try.prog.cellsOf e=1)
  (hv:Value.okWide Try.prog w r b0 t v) (h:DataW.Trod enc Try.prog w base spare held t v d p):∃ l:List Int,RdI k w v l:=by
 obtain ⟨a,len,cap,rfl⟩:=okWide_slice ht hv;obtain ⟨n,hf⟩:=h;obtain ⟨v',l,hcs,hr⟩:=rdN_of_trod (m:=1) (f:=fun x:Int=>[Value.int k x]) ht hc (by omega) (fun _=>rfl)
  (fun n cs x hx=>by obtain ⟨a,e0,_⟩:=DataW.trod_int he hx;exact ⟨a,e0⟩) hf
 have e:v'=.slice a len cap:=by simpa [Value.cells] using hcs.symm
 rw [e] at hr;exact ⟨l,rd_of_rdN1 hr⟩
theorem Try.cells50:Try.prog.cellsOf 102=1:=by kernel_rfl
end
end
end Go.Proofs.Ytnnjbaijcaiohaa
