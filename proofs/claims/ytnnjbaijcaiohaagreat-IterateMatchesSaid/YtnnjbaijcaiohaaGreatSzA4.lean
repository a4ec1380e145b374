/- Walks and lemmas. -/
import Derived.Test.YtnnjbaijcaiohaaGreatSzA3
import Derived.Shelf.RegionOpenPlain
import Derived.Sort.WalkB12
import Derived.Lib.SlicesMore
import Derived.Lib.OwnBridge
import Derived.Laws.BytesArg
import Derived.Shelf.Strings.FuncGrows
import Derived.Test.YtnnjbaijcaiohaaGreatRows
import Derived.ProofKit
import Derived.Deep.Slices
import Derived.OpenShut
import Derived.ShutString
import Derived.ChangeOld
import Derived.Below
set_option linter.unusedVariables false
set_option linter.unusedSimpArgs false
set_option maxRecDepth 100000
set_option maxHeartbeats 16000000
namespace Go.Proofs.YtnnjbaijcaiohaaGreat
open Go.RowKit
variable {a a0:Act} {listed:Array Bool} {T:Array Bool→World→Prop} {ops:Array Oper} {ps:Array Tmp} {args tmps:Array Value} {assign body:Code} {Q:Exit→Act→World→Prop} {F:Fence} {u:FrameMode} {f:FuncId} {c s:Int} {plan:List (List Int)} {ds:List Deferred} {l l1 l2 la lb lq:List Int} {rest:List Oper} {cs h vs xs:List Value} {An B C H L N b b0 bx c1 c2 cap d1 d2 fuel g i id j jn k m1 m2 n n1 n2 nf nn off xn y:Nat} {X:Nat→Prop} {oi om:Oper} {a1 a2 a3 xa:Option Addr} {P:Program} {R p p0 p1 p10 p11 p12 p13 p2 p3 p4 p5 p6 p7 p8 p9:Prop} {md:Region.Mode} {α:Type} {e t t1 t2 t3:TypeId} {lv v vb vr z:Value} {A W W' W0 w w' w0 w2 w3 w4 wB:World} {S S1 S2:World→Prop}
theorem Ai (w:World) (l:List Int) (h:l.length≤1000):aY .u32 (w.alloc (.cells (l.map (Value.int .u32)).toArray 157)) (.slice (some ⟨w.heap.size,0,none⟩) l.length l.length) l:=
 (bh.new w l Z).GQ
theorem gF (h1:l1.length≤512) (z1:df l1) (h2:l2.length≤512) (z2:df l2):dG l1 l2=0:=by
 unfold dG z6;rw [if_pos (Ae h1 z1),Ae h2 z2]
theorem Qu (l:List Int) (h:l.all (fun x=>decide (0≤x) && decide (x < 4294967296))=true):bk l:=by
 intro x hx;have:=List.all_eq_true.1 h x hx;exact ri
section
open Go.RowKit Go.Shelf
attribute [local go_sem] Oper.semAt_some
end
def Qv (c:Int):Bool:=decide (c < 48) || decide (57 < c)
section
open Go.RowKit Go.Shelf Go.Proofs
def nd (r:Nat):Bool:=Qv (r:Int)
end
theorem Hr (h1:l1.length≤512) (z1:df l1) (h2:l2.length≤512) (z2:df l2) (hm:nv l1*nv l2 < ru):mulS l1 l2=(lim (nv l1*nv l2),0):=by
 unfold mulS;rw [fG (gF h1 z1 h2 z2),tF hm]
theorem Hs (h1:l1.length≤512) (z1:df l1) (h2:l2.length≤512) (z2:df l2) (hm:nv l1+nv l2 < ru):vu l1 l2=(lim (nv l1+nv l2),0):=by
 unfold vu;rw [fG (gF h1 z1 h2 z2),tF hm]
theorem Aj (h1:l1.length≤512) (z1:df l1) (h2:l2.length≤512) (z2:df l2) (h0:nv l2≠0):pF l1 l2=(lim (nv l1 / nv l2),lim (nv l1 % nv l2),0):=by
 unfold pF;rw [if_pos (gF h1 z1 h2 z2),if_neg h0]
theorem Ak (h:n < 4294967296 ^ k) (hk:k≤512):n < ru:=by unfold ru;exact Nat.lt_of_lt_of_le h (f5 hk)
section
open Go.RowKit Go.ChangeShapes Go.WideShapes Go.ChangeAt Go.Deep
theorem Lg:ownKnob Tryz.prog.godebug=none:=ak
theorem lV:laidOutB Tryz.prog=true:=ak
section
variable {H:Type} {enc:TypeId × Value→H} {w:World} {base:Nat} {spare:Nat→Bool} {held:Bool}
theorem nc {m:Nat} {f:α→List Value} {x:DataW H × List MemPlace} (ht:Tryz.prog.underlying t=some (.slice e)) (hm:Tryz.prog.cellsOf e=m) (hm0:0 < m) (hfl:∀ y,(f y).length=m)
  (hel:∀ n cs x,DataW.trod enc Tryz.prog w base spare held n e cs=some x→∃ y:α,cs=f y) [Inhabited α] (h:DataW.trod enc Tryz.prog w base spare held n t cs=some x) :
  ∃ (v:Value) (l:List α),cs=[v]∧Xo m w v (l.map f):=by
 rcases open_slice ht h with ⟨rfl,_⟩|⟨a,len,cap,k,n',D,Pl,rfl,hb,hlc,hcm,hk,_,hall⟩
 ·exact ⟨_,[],rfl,none,0,rfl,by simp,by simp,fun i hi=>by simp at hi⟩
 ·have hlk:len≤k:=by rw [hk];split <;> omega
  have hex:∀ i,i < len→∃ y:α,w.cells? base (a.add (i*m)) m=some (f y):=by
   intro i hi;obtain ⟨cs',h1,h2⟩:=hall i Z;obtain ⟨y,rfl⟩:=hel _ _ _ h2;exact ⟨y,by rw [hm] at h1;exact h1⟩
  have hg:∃ g:Nat→α,∀ i,i < len→w.cells? base (a.add (i*m)) m=some (f (g i)):=by
   classical
   exact ⟨fun i=>if h:i < len then Classical.choose (hex i h) else default,fun i hi=>by simp only [hi,dif_pos];exact Classical.choose_spec (hex i hi)⟩
  obtain ⟨g,hg⟩:=hg;refine ⟨_,(List.range len).map g,rfl,some a,cap,by simp,by simpa using hlc,by unfold maxLen at hcm;omega,fun i hi=>?_⟩;simp at hi;obtain ⟨_,_,hcell⟩:=World.cells?_some (hg i hi);have hblk:=World.cells?_block (hg i hi) hm0;obtain ⟨b,off,spot⟩:=a;obtain ⟨_,_,hc0⟩:=World.cells?_some (hg 0 Z);have hsome:w.cell? (((Addr.mk b off spot).add (0*m)).add 0)=some ((f (g 0))[0]'(by rw [hfl];exact hm0)):=by rw [hc0 0 hm0,List.getElem?_eq_getElem]
  have hspot:spot=none:=by simpa [Addr.add] using World.cell?_spot hsome
  subst hspot;rw [Go.WideShapes.add_plain] at hblk;refine ⟨b,off,rfl,hblk,fun j hj=>?_⟩;have h1:=hcell j hj;rw [Go.WideShapes.add_plain,Go.WideShapes.add_plain] at h1;rw [h1];simp [hi]
theorem pH {l:List α} {f:α→Value} (h:Xo 1 w v (l.map fun x=>[f x])):Rd w v (l.map f):=by
 obtain ⟨a,cap,hv,hc,hm,hr⟩:=h;simp only [List.length_map] at hv hc hr;refine ⟨a,cap,by simpa using hv,by simpa using hc,hm,fun i hi=>?_⟩;simp only [List.length_map] at hi;obtain ⟨b,off,ha,hb,hx⟩:=hr i hi;have h0:=hx 0 Z;exact ⟨b,off,ha,hb,by simpa [hi] using h0⟩
theorem Tryz.cells50:Tryz.prog.cellsOf 157=1:=ak
end
end
structure RR where
 neg:Bool
 num:List Int
 den:List Int
deriving DecidableEq
def zR:RR:=⟨false,[],[]⟩
def bj (r:RR):Prop:=bk r.num∧bk r.den
def aE (r:RR):Int:=
 if 128 < r.num.length∨128 < r.den.length then 4
 else if cI r.num≠0∨cI r.den≠0∨r.den=[1]∨(r.num=[]∧(r.neg=true∨r.den≠[])) then 2
 else if r.den≠[]∧Nat.gcd (nv r.num) (nv r.den)≠1 then 2
 else 0
def tK (l:List Int):Nat:=if l=[] then 1 else nv l
def sg (b:Bool) (n:Nat):Int:=if b=true then -(n:Int) else n
theorem pI (b:Bool) (n:Nat):(sg b n).natAbs=n:=by unfold sg;split <;> omega
theorem DX {b:Bool} (h:n≠0):decide (sg b n < 0)=b:=by
 unfold sg;cases b
 ·simp
 ·simp;omega
def qv (r:RR):Rat:=mkRat (sg r.neg (nv r.num)) (tK r.den)
def rep (q:Rat):RR:=⟨decide (q.num < 0),lim q.num.natAbs,if q.den=1 then [] else lim q.den⟩
theorem cG (q:Rat):bj (rep q):=by
 refine ⟨aH _,?_⟩;unfold rep;split
 ·intro x hx;cases hx
 ·exact aH _
theorem vO:rep 0=zR:=rfl
theorem pJ {r:RR} (hl:bj r) (h:aE r=0):r.num.length≤128∧r.den.length≤128∧df r.num∧df r.den∧r.den≠[1]∧(r.num=[]→r.neg=false∧r.den=[])∧(r.den≠[]→Nat.gcd (nv r.num) (nv r.den)=1):=by
 unfold aE at h;by_cases h1:128 < r.num.length∨128 < r.den.length
 ·rw [if_pos h1] at h;exact absurd h ah
 ·rw [if_neg h1] at h;by_cases h2:cI r.num≠0∨cI r.den≠0∨r.den=[1]∨(r.num=[]∧(r.neg=true∨r.den≠[]))
  ·rw [if_pos h2] at h;exact absurd h ah
  ·rw [if_neg h2] at h;by_cases h3:r.den≠[]∧Nat.gcd (nv r.num) (nv r.den)≠1
   ·rw [if_pos h3] at h;exact absurd h ah
   ·have a1:cI r.num=0:=Classical.byContradiction fun e=>h2 (.inl e);have a2:cI r.den=0:=Classical.byContradiction fun e=>h2 (.inr (.inl e));refine ⟨by omega,by omega,(kL a1).2,(kL a2).2,fun e=>h2 (.inr (.inr (.inl e))),fun e=>⟨?_,?_⟩,fun e=>Classical.byContradiction fun g=>h3 ⟨e,g⟩⟩
    ·cases hb:r.neg
     ·rfl
     ·exact absurd (.inr (.inr (.inr ⟨e,.inl hb⟩))) h2
    ·exact Classical.byContradiction fun g=>h2 (.inr (.inr (.inr ⟨e,.inr g⟩)))
theorem J4 (hl:bk l) (hz:df l) (h:l≠[]):nv l≠0:=fun e=>h (List.length_eq_zero_iff.1 ((cD hl hz).1 e))
theorem fQ {r:RR} (hl:bj r) (h:aE r=0):(qv r).num=sg r.neg (nv r.num)∧(qv r).den=tK r.den∧rep (qv r)=r:=by
 obtain ⟨h1,h2,h3,h4,h5,h6,h7⟩:=pJ hl h;have hd:tK r.den≠0:=by
  unfold tK;split
  ·decide
  ·rename_i hne;exact J4 hl.2 h4 hne
 have hg:(sg r.neg (nv r.num)).natAbs.Coprime (tK r.den):=by
  rw [pI];unfold tK;split
  ·exact Nat.coprime_one_right _
  ·rename_i hne;exact h7 hne
 have e:qv r=⟨sg r.neg (nv r.num),tK r.den,hd,hg⟩:=by
  unfold qv;rw [Rat.mk_eq_mkRat]
 rw [e];refine ⟨rfl,rfl,?_⟩;unfold rep;dsimp only;have e1:decide (sg r.neg (nv r.num) < 0)=r.neg:=by
  by_cases hn:r.num=[]
  ·rw [hn,(h6 hn).1];rfl
  ·exact DX (J4 hl.1 h3 hn)
 have e2:(if tK r.den=1 then [] else lim (tK r.den))=r.den:=by
  unfold tK;by_cases hn:r.den=[]
  ·rw [if_pos hn,if_pos rfl,hn]
  ·rw [if_neg hn];have:nv r.den≠1:=fun e=>h5 (by rw [← dg hl.2 h4,e];rfl);rw [if_neg this,dg hl.2 h4]
 rw [e1,pI,dg hl.1 h3,e2]
theorem oE (q:Rat):tK (rep q).den=q.den:=by
 unfold rep tK;dsimp only;by_cases h:q.den=1
 ·rw [if_pos h,if_pos rfl,h]
 ·rw [if_neg h];have:lim q.den≠[]:=fun e=>by have:=aA q.den;rw [e] at this;exact q.den_nz this.symm
  rw [if_neg this,aA]
theorem Al (q:Rat):sg (rep q).neg (nv (rep q).num)=q.num:=by
 unfold rep sg;dsimp only;rw [aA];exact qLd
theorem gd (q:Rat):qv (rep q)=q:=by
 unfold qv;rw [oE,Al,Rat.mkRat_self]
def small (q:Rat):Prop:=(rep q).num.length≤128∧(rep q).den.length≤128
instance (q:Rat):Decidable (small q):=inferInstanceAs (Decidable (_∧_))
theorem vP (h1:l.length≤512) (h2:df l):cI l=0:=by
 have h:=gF h1 h2 h1 h2;unfold dG z6 at h;by_cases h0:cI l=0
 ·exact h0
 ·simp [h0] at h
theorem Ht (q:Rat):df (rep q).num∧df (rep q).den:=by
 refine ⟨aW _,?_⟩;unfold rep;split
 ·simp [df]
 ·exact aW _
theorem oF {q:Rat} (h:small q):aE (rep q)=0:=by
 obtain ⟨h1,h2⟩:=h;obtain ⟨z1,z2⟩:=Ht q;unfold aE;rw [if_neg Z,if_neg,if_neg]
 ·rintro ⟨hd,hg⟩;apply hg;have hd1:tK (rep q).den=nv (rep q).den:=by unfold tK;rw [if_neg hd]
  rw [← hd1,oE];have:nv (rep q).num=q.num.natAbs:=aA _;rw [this];exact q.reduced
 ·rintro (h|h|h|⟨h,h3⟩)
  ·exact h (vP Z z1)
  ·exact h (vP Z z2)
  ·have e:=oE q;rw [h] at e;have:q.den=1:=by rw [← e];rfl
   unfold rep at h;rw [this] at h;simp at h
  ·have hn:q.num.natAbs=0:=by
    have:nv (rep q).num=q.num.natAbs:=aA _;rw [← this,h];rfl
   have h0:q.num=0:=Z
   have hq:q=0:=Rat.num_eq_zero.1 h0;subst hq;rcases h3 with h3|h3
   ·exact absurd h3 ah
   ·exact h3 rfl
theorem gG {r:RR} (hl:bj r) (h:aE r=0):small (qv r):=by
 obtain ⟨h1,h2,_⟩:=pJ hl h;unfold small;rw [(fQ hl h).2.2];exact ⟨h1,h2⟩
def dv (q:Rat):RR × Int:=if small q then (rep q,0) else (zR,4)
theorem zM {q:Rat} (h:small q):dv q=(rep q,0):=by unfold dv;rw [if_pos h]
theorem si {q:Rat} (h:¬ small q):dv q=(zR,4):=by unfold dv;rw [if_neg h]
def cK (a b:RR):Int:=z6 (aE a) (aE b)
def ng (a b:RR) (x:RR × Int):RR × Int:=if cK a b=0 then x else (zR,cK a b)
def bL (a b:RR):RR × Int:=ng a b (dv (qv a+qv b))
def mulR (a b:RR):RR × Int:=ng a b (dv (qv a*qv b))
def et (x y:Rat):Int:=if x < y then -1 else if x=y then 0 else 1
def fK (a b:RR):Int × Int:=if cK a b=0 then (et (qv a) (qv b),0) else (0,cK a b)
theorem dE {a b:RR} (h:cK a b=0):aE a=0∧aE b=0:=by
 unfold cK z6 at h;by_cases h0:aE a=0
 ·rw [if_pos h0] at h;exact ⟨h0,h⟩
 ·rw [if_neg h0] at h;exact absurd h h0
theorem lX {a b:RR} (h1:aE a=0) (h2:aE b=0):cK a b=0:=by unfold cK z6;rw [if_pos h1,h2]
theorem pK (b:Bool) {d:Nat} (hn:n≠0) (hd:d≠0):
  rep (mkRat (sg b n) d)=⟨b,lim (n / Nat.gcd n d),if d / Nat.gcd n d=1 then [] else lim (d / Nat.gcd n d)⟩:=by
 have hg:0 < Nat.gcd n d:=Nat.gcd_pos_of_pos_left _ Z;have e1:(mkRat (sg b n) d).num=sg b n / (Nat.gcd n d:Int):=by
  rw [Rat.num_mkRat,if_neg hd,pI,Nat.gcd_comm]
 have e2:(mkRat (sg b n) d).den=d / Nat.gcd n d:=by
  rw [Rat.den_mkRat,if_neg hd,pI,Nat.gcd_comm]
 have hdv:=Nat.gcd_dvd_left n d;have e3:sg b n / (Nat.gcd n d:Int)=sg b (n / Nat.gcd n d):=by
  obtain ⟨k,hk⟩:=hdv;have hk2:n / Nat.gcd n d=k:=by
   conv=>lhs;lhs;rw [hk]
   exact Nat.mul_div_cancel_left _ hg
  rw [hk2];have:sg b n=(Nat.gcd n d:Int)*sg b k:=by
   unfold sg;conv=>lhs;rw [hk]
   cases b
   ·simp
   ·simp [Int.mul_neg]
  rw [this];exact Int.mul_ediv_cancel_left _ Z
 have hq:n / Nat.gcd n d≠0:=by
  have:=Nat.div_gcd_pos_of_pos_left d (Nat.pos_of_ne_zero hn);omega
 unfold rep;rw [e1,e2,e3,pI,DX hq]
theorem vQ (b:Bool) (d:Nat):rep (mkRat (sg b 0) d)=zR:=by
 have:sg b 0=0:=by cases b <;> rfl
 rw [this,Rat.zero_mkRat];rfl
def vq (x:Bool × Nat × Nat):Rat:=mkRat (sg x.1 x.2.1) x.2.2
def eP (a b:Bool × Nat × Nat):Bool × Nat × Nat:=
 if a.1=b.1 then (a.1,a.2.1*b.2.2+b.2.1*a.2.2,a.2.2*b.2.2)
 else if a.2.1*b.2.2 < b.2.1*a.2.2 then (b.1,b.2.1*a.2.2 - a.2.1*b.2.2,a.2.2*b.2.2)
 else (a.1,a.2.1*b.2.2 - b.2.1*a.2.2,a.2.2*b.2.2)
def Am (a b:Bool × Nat × Nat):Bool × Nat × Nat:=(a.1 != b.1,a.2.1*b.2.1,a.2.2*b.2.2)
theorem yO {a b:Bool × Nat × Nat} (ha:a.2.2≠0) (hb:b.2.2≠0):vq (eP a b)=vq a+vq b:=by
 obtain ⟨sa,na,da⟩:=a;obtain ⟨sb,nb,db⟩:=b;unfold vq;dsimp only at ha hb ⊢;rw [Rat.mkRat_add_mkRat _ _ ha hb];have e:sg (eP (sa,na,da) (sb,nb,db)).1 (eP (sa,na,da) (sb,nb,db)).2.1=sg sa na*db+sg sb nb*da∧(eP (sa,na,da) (sb,nb,db)).2.2=da*db:=by
  unfold eP;dsimp only;have p1:((na*db:Nat):Int)=(na:Int)*db:=by simp
  have p2:((nb*da:Nat):Int)=(nb:Int)*da:=by simp
  cases sa <;> cases sb <;> simp only [if_true,Bool.true_eq_false,Bool.false_eq_true,if_false]
  ·refine ⟨?_,trivial⟩;unfold sg;simp
  ·split
   ·exact T3
   ·exact T3
  ·split
   ·exact T3
   ·exact T3
  ·refine ⟨?_,trivial⟩;unfold sg;simp [Int.neg_mul];omega
 rw [e.1,e.2]
theorem Ao (a b:Bool × Nat × Nat):vq (Am a b)=vq a*vq b:=by
 obtain ⟨sa,na,da⟩:=a;obtain ⟨sb,nb,db⟩:=b;unfold vq Am;dsimp only;rw [Rat.mkRat_mul_mkRat];congr 1
 unfold sg;cases sa <;> cases sb <;> simp [Int.neg_mul,Int.mul_neg]
def J5 (r:RR):Bool × Nat × Nat:=(r.neg,nv r.num,tK r.den)
theorem iC (r:RR):vq (J5 r)=qv r:=rfl
theorem Hu {r:RR} (hl:bj r) (h:aE r=0):(J5 r).2.2≠0:=by
 rw [show (J5 r).2.2=tK r.den from rfl,← (fQ hl h).2.1];exact (qv r).den_nz
def bH (w:World) (v:Value) (r:RR):Prop:=∃ vn vd,v=.agg #[.bool r.neg,vn,vd]∧aY .u32 w vn r.num∧aY .u32 w vd r.den
def aO (w w':World) (v:Value) (r:RR):Prop:=∃ vn vd,v=.agg #[.bool r.neg,vn,vd]∧bv w w' vn r.num∧bv w w' vd r.den
theorem bH.ext {r:RR} (h:bH w v r) (e:Ext w w'):bH w' v r:=by
 obtain ⟨vn,vd,h1,h2,h3⟩:=h;exact ⟨vn,vd,h1,h2.ext e,h3.ext e⟩
instance {r:RR}:Lx (Ext w w') (bH w v r) (bH w' v r):=⟨fun k h=>bH.ext h k⟩
theorem aO.rd {r:RR} (h:aO w w' v r):bH w' v r:=by
 obtain ⟨vn,vd,h1,h2,h3⟩:=h;exact ⟨vn,vd,h1,h2.rd,h3.rd⟩
theorem aO.from {r:RR} (h:aO w w' v r) (x:Ext w0 w):aO w0 w' v r:=by
 obtain ⟨vn,vd,h1,h2,h3⟩:=h;exact ⟨vn,vd,h1,h2.from x,h3.from x⟩
theorem aO.ext {r:RR} (h:aO w w' v r) (x:Ext w' w2):aO w w2 v r:=by
 obtain ⟨vn,vd,h1,h2,h3⟩:=h;exact ⟨vn,vd,h1,h2.ext x,h3.ext x⟩
instance {r:RR}:Lx (Ext w' w2) (aO w w' v r) (aO w w2 v r):=⟨fun k h=>aO.ext h k⟩
theorem aO.zero (w w':World):aO w w' (.agg #[.bool false,.slice none 0 0,.slice none 0 0]) zR:=⟨_,_,rfl,bv.nil _ _,bv.nil _ _⟩
theorem am (h:aY .u32 w v l):∃ a c,v=.slice a l.length c:=by
 obtain ⟨a,c,rfl,_⟩:=fC h;exact ⟨a,c,rfl⟩
theorem yP (va vb:Value) (la lb:List Int) (w:World) (ha:aY .u32 w va la) (hb:aY .u32 w vb lb) (hla:bk la) (hlb:bk lb):
  Calls Tryz.prog 167 #[va,vb] w fun e w'=>(∃ v,e=.returned v∧bv w w' v (mulS la lb).1)∧Ext w w':=by
 have h:=DM va vb la lb w ha hb hla hlb;obtain ⟨aa,ca,rfl⟩:=am ha;obtain ⟨ab,cb,rfl⟩:=am hb;have H:=kI h;clear h ha hb;go_enter Tryz.func167,Tryz.ntmps167
 exact kZy
theorem BF (va vb:Value) (la lb:List Int) (w:World) (ha:aY .u32 w va la) (hb:aY .u32 w vb lb) (hla:bk la) (hlb:bk lb):
  Calls Tryz.prog 168 #[va,vb] w fun e w'=>(∃ v,e=.returned v∧bv w w' v (vu la lb).1)∧Ext w w':=by
 have h:=DB va vb la lb w ha hb hla hlb;obtain ⟨aa,ca,rfl⟩:=am ha;obtain ⟨ab,cb,rfl⟩:=am hb;have H:=kI h;clear h ha hb;go_enter Tryz.func168,Tryz.ntmps168
 exact kZy
theorem yQ (va vb:Value) (la lb:List Int) (w:World) (ha:aY .u32 w va la) (hb:aY .u32 w vb lb) (hla:bk la) (hlb:bk lb) (za:df la) (zb:df lb) (sa:la.length≤512) (sb:lb.length≤512):
  Calls Tryz.prog 169 #[va,vb] w fun e w'=>(∃ v,e=.returned (.tuple #[v,.bool (decide (nv la < nv lb))])∧bv w w' v (lim (if nv la < nv lb then nv lb - nv la else nv la - nv lb)))∧Ext w w':=by
 have HA:=kI ha;have HB:=kI hb;have hc:=gF sa za sb zb;have hc2:=gF sb zb sa za;have h1:=fun W h1 h2=>vw va vb la lb W h1 h2 hla hlb;have h2:=fun W h1 h2=>vw vb va lb la W h1 h2 hlb hla;obtain ⟨aa,ca,rfl⟩:=am ha;obtain ⟨ab,cb,rfl⟩:=am hb;clear ha hb;by_cases hlt:nv la < nv lb
 ·have e1:nI la lb=([],7):=by unfold nI;rw [fG hc,if_pos hlt]
  have e2:nI lb la=(lim (nv lb - nv la),0):=by unfold nI;rw [fG hc2,if_neg Z]
  rw [e1] at h1;rw [e2] at h2;rw [decide_eq_true hlt,if_pos hlt];have H1:=kI h1;have H2:=kI h2;clear h1 h2 e1 e2 hlt;go_enter Tryz.func169,Tryz.ntmps169
  go_wp2_with fail;refine (H1.o _ HA.o HB.o).mono ?_;rintro e w2 ⟨⟨v,rfl,n2⟩,hx2⟩;obtain ⟨a2,c2,rfl⟩:=n2.shape;have X2:=kI hx2;clear n2 hx2;go_wp2_with fail;refine (H2.o _ (HB.o.ext X2.o) (HA.o.ext X2.o)).mono ?_;rintro e w3 ⟨⟨v,rfl,n3⟩,hx3⟩;obtain ⟨a3,c3,rfl⟩:=n3.shape;have N3:=kI n3;have X3:=X2.x hx3;have X2':=X2;clear n3 hx3;go_wp2_with fail;go_ret2
  exact ⟨⟨_,rfl,N3.o.from X2.o⟩,X3.o⟩
 ·have e1:nI la lb=(lim (nv la - nv lb),0):=by unfold nI;rw [fG hc,if_neg hlt]
  rw [e1] at h1;rw [decide_eq_false hlt,if_neg hlt];have H1:=kI h1;clear h1 h2 e1 hlt;go_enter Tryz.func169,Tryz.ntmps169
  go_wp2_with fail;refine (H1.o _ HA.o HB.o).mono ?_;rintro e w2 ⟨⟨v,rfl,n2⟩,hx2⟩;obtain ⟨a2,c2,rfl⟩:=n2.shape;have N2:=kI n2;have X2:=kI hx2;clear n2 hx2;go_wp2_with fail;go_ret2
  exact ⟨⟨_,rfl,N2.o⟩,X2.o⟩
theorem ie (v:Value) (l:List Int) (w:World) (h:aY .u32 w v l):
  Calls Tryz.prog 156 #[v] w fun e w'=>e=.returned (.bool (decide (l=[1])))∧Ext w w':=by
 obtain ⟨a,c,rfl,hc,hm,hr⟩:=fC h;clear h;by_cases h1:l.length=1
 ·obtain ⟨x,rfl⟩:=List.length_eq_one_iff.1 h1;obtain ⟨b,off,rfl,hb,hx⟩:=hr 0 dc;have hx':w.cell? ⟨b,off,none⟩=some (.int .u32 x):=hx;have e:decide ([x]=[1])=(x == 1):=by
   by_cases h:x=1 <;> simp [h]
  rw [e];clear hr hx h1 e;go_enter Tryz.func156,Tryz.ntmps156
  go_wp2_with fail;all_goals
   go_ret;exact ⟨ii (by simp_all),eX⟩
 ·have e:decide (l=[1])=false:=decide_eq_false (by rintro rfl;exact h1 rfl);rw [e];have h1':((l.length:Int) == 1)=false:=by simpa using (by omega:¬ (l.length:Int)=1)
  clear hr e;go_enter Tryz.func156,Tryz.ntmps156
  go_wp2_with fail;go_ret;exact ⟨rfl,eX⟩
def dl (l:List Int):List Int:=if l=[] then [1] else l
theorem D4 (l:List Int):nv (dl l)=tK l:=by unfold dl tK;split <;> rfl
theorem pL (h:bk l):bk (dl l):=by
 unfold dl;split
 ·intro x hx;rw [List.mem_singleton.1 hx];omega
 ·exact h
theorem Lh (h:df l):df (dl l):=by
 unfold dl;split
 ·simp [df]
 ·exact h
theorem pM (h:l.length≤k) (hk:1≤k):(dl l).length≤k:=by
 unfold dl;split
 ·exact hk
 ·exact h
def BH (w:World) (v:Value) (b:Bool) (ln ld:List Int):Prop:=∃ vn vd,v=.agg #[vn,vd,.bool b]∧aY .u32 w vn ln∧aY .u32 w vd ld
theorem oG (v:Value) (r:RR) (w:World) (h:bH w v r):
  Calls Tryz.prog 122 #[v] w fun e w'=>(∃ v',e=.returned v'∧BH w' v' r.neg r.num (dl r.den))∧Ext w w':=by
 obtain ⟨vn,vd,rfl,hn,hd⟩:=h;obtain ⟨an,cn,rfl⟩:=am hn;obtain ⟨ad,cd,rfl⟩:=am hd;have HN:=kI hn;have HD:=kI hd;clear hn hd;obtain ⟨b,ln,ld⟩:=r;dsimp only at *;by_cases h0:ld=[]
 ·subst h0;go_enter Tryz.func122,Tryz.ntmps122
  go_wp2_with fail;refine bodyPost_ret (v:=.agg #[.slice an ln.length cn,.slice (some ⟨w.heap.size+1+1+1,0,none⟩) 1 1,.bool b]) (by simp only [results,Tryz.results122];go_simp) rfl ⟨⟨_,rfl,_,_,rfl,HN.o.ext eX,?_⟩,eX⟩;have h1:=Ai ((((w.alloc (.cells #[.bool b,.slice an ln.length cn,.slice ad 0 cd] 25)).alloc (.cells #[.slice an ln.length cn,.slice (some ⟨w.heap.size+1+1+1,0,none⟩) 1 1,.bool b] 134)).alloc (.cells #[.slice an ln.length cn,.slice (some ⟨w.heap.size+1+1+1,0,none⟩) 1 1,.bool b] 134))) [1] dc;simp only [World.size_alloc] at h1;exact h1
 ·have hl:¬ ld.length=0:=fun e=>h0 (List.length_eq_zero_iff.1 e);have e:dl ld=ld:=by unfold dl;rw [if_neg h0]
  rw [e];have hl':((ld.length:Int) == 0)=false:=by simpa using hl
  clear h0 e;go_enter Tryz.func122,Tryz.ntmps122
  go_wp2_with fail;exact bodyPost_ret (v:=.agg #[.slice an ln.length cn,.slice ad ld.length cd,.bool b]) (by simp only [results,Tryz.results122];go_simp) rfl ⟨⟨_,rfl,_,_,rfl,HN.o.ext eX,HD.o.ext eX⟩,eX⟩
theorem cF.eV (h:cF A B v l) {c:Array Value} (hb:af A bx c t) (ht:t≠157) (o:Nat) (u:Value):cF (A.setCell ⟨bx,o,none⟩ u) B v l:=by
 obtain ⟨q,h1,h2⟩:=h;refine ⟨q,?_,h2⟩;rcases h1 with h|⟨g,cap,ho,hv,hr⟩
 ·exact .inl h
 ·refine .inr ⟨g,cap,ho,hv,hr.setOther ?_ u⟩;intro e;obtain ⟨cur,h3,_⟩:=hr.blk;have e2:g=bx:=by first|exact e|exact Eq.symm e
  rw [e2] at h3;unfold af at hb h3;rw [hb] at h3;injection h3 with h3
  injection h3 with _ h4
  exact ht h4
theorem dJ (h:aY .u32 A v l) {c:Array Value} (hb:af A bx c t) (ht:∀ x ∈ c,∀ n,x≠.int .u32 n) (o:Nat) (u:Value):aY .u32 (A.setCell ⟨bx,o,none⟩ u) v l:=by
 obtain ⟨a,cap,rfl,h1,h2,h3⟩:=fC h;refine lh.to (p:=fun _=>True) ⟨a,cap,rfl,h1,h2,fun i hi=>?_⟩;obtain ⟨b,off,e1,e2,e3⟩:=h3 i hi;have hne:b≠bx:=by
  intro e;rw [e,hb.cell] at e3;exact ht _ (Array.mem_of_getElem? e3) _ rfl
 refine ⟨b,off,e1,trivial,by simpa [World.setCell] using e2,?_⟩;exact qQt
def S3 (b:Nat) (x y z:Value) (t:TypeId) (W:World):Prop:=af W b #[x,y,z] t∧W.cell? ⟨b,0,none⟩=some x∧W.cell? ⟨b,1,none⟩=some y∧W.cell? ⟨b,2,none⟩=some z
theorem af.s3 {x y:Value} (h:af W b #[x,y,z] t):af W b #[x,y,z] t∧W.cell? ⟨b,0,none⟩=some x∧W.cell? ⟨b,1,none⟩=some y∧W.cell? ⟨b,2,none⟩=some z:=
 ⟨h,by simpa using h.cell 0,by simpa using h.cell 1,by simpa using h.cell 2⟩
theorem Hv (v:Value) (b:Bool) (ln ld:List Int) (w:World) (h:BH w v b ln ld) (hn:bk ln) (hd:bk ld) (zn:df ln) (zd:df ld) (sn:ln.length≤512) (sd:ld.length≤512) (h0:nv ld≠0):
  Calls Tryz.prog 166 #[v] w fun e w'=>(∃ v',e=.returned v'∧aO w w' v' (rep (mkRat (sg b (nv ln)) (nv ld))))∧Ext w w':=by
 obtain ⟨vn,vd,rfl,hrn,hrd⟩:=h;obtain ⟨an,cn,rfl⟩:=am hrn;obtain ⟨ad,cd,rfl⟩:=am hrd;obtain ⟨HN,HD,LN,LD,ZN,ZD⟩:=od hrn hrd hn hd zn zd;clear hrn hrd hn hd zn zd;by_cases hz:nv ln=0
 ·have hl:ln.length=0:=(cD LN.o ZN.o).1 hz;have e:rep (mkRat (sg b (nv ln)) (nv ld))=zR:=by rw [hz];exact vQ _ _
  rw [e];clear e hz;go_enter Tryz.func166,Tryz.ntmps166
  go_wp2_with fail;exact bodyPost_ret (v:=.agg #[.bool false,.slice none 0 0,.slice none 0 0]) OX rfl ⟨⟨_,rfl,aO.zero _ _⟩,eX⟩
 ·have hl:¬ ln.length=0:=fun e=>hz ((cD LN.o ZN.o).2 e);have e:=pK b hz h0;rw [e];clear e;obtain ⟨g,hg⟩:=gN (Nat.gcd (nv ln) (nv ld));have KN:g≠0:=by rw [hg];exact Nat.ne_of_gt (Nat.gcd_pos_of_pos_left _ (Nat.pos_of_ne_zero hz))
  have hgl:g≤nv ln:=by rw [hg];exact Nat.gcd_le_left _ (Nat.pos_of_ne_zero hz)
  have hg5:(lim g).length≤512:=Nat.le_trans (aG.2 (Nat.lt_of_le_of_lt hgl (bJ LN.o))) sn;have hgs:yN ln ld=(lim g,0):=by unfold yN;rw [fG (gF sn ZN.o sd ZD.o),hg]
  rw [← hg];have hl':((ln.length:Int) == 0)=false:=by simpa using hl
  have XN:=kI hgs;clear hg hgs;obtain ⟨RS,hRS⟩:=gN (RR.mk b (lim (nv ln / g)) (if nv ld / g=1 then [] else lim (nv ld / g)));rw [← hRS];have Ku:=kI hRS;clear hRS;have b0:=(af.new w #[.slice an ln.length cn,.slice ad ld.length cd,.bool b] 134).alloc (.cells #[.bool false,.slice none 0 0,.slice none 0 0] 25);have b1:=af.new (w.alloc (.cells #[.slice an ln.length cn,.slice ad ld.length cd,.bool b] 134)) #[.bool false,.slice none 0 0,.slice none 0 0] 25;rw [World.size_alloc] at b1;have x0:Ext w ((w.alloc (.cells #[.slice an ln.length cn,.slice ad ld.length cd,.bool b] 134)).alloc (.cells #[.bool false,.slice none 0 0,.slice none 0 0] 25)):=((Ext.refl w).alloc _).alloc _;obtain ⟨B0,B1,X0⟩:=cC b0 b1 x0;clear b0 b1 x0;go_enter Tryz.func166,Tryz.ntmps166
  go_wp2_with fail;refine (Ah _ _ ln ld _ (HN.o.ext X0.o) (HD.o.ext X0.o) LN.o LD.o).mono ?_;rw [XN.o];rintro e w2 ⟨⟨v2,rfl,n2⟩,hx2⟩;obtain ⟨a2,c2,rfl⟩:=n2.shape;have N2:=kI n2.rd;have X2:=X0.x hx2;have B0':=kI (B0.o.ext hx2);have B1':=kI (B1.o.ext hx2);clear n2 hx2 B0 B1 X0;go_wp2_with fail;refine (ie _ (lim g) _ N2.o).mono ?_;by_cases hg1:g=1
  ·have e1:decide (lim g=[1])=true:=by rw [hg1];rfl
   have hrep:RR.mk b (lim (nv ln / g)) (if nv ld / g=1 then [] else lim (nv ld / g))=RR.mk b ln (if ld=[1] then [] else ld):=by
    rw [hg1,Nat.div_one,Nat.div_one,dg LN.o ZN.o,dg LD.o ZD.o];have:nv ld=1↔ld=[1]:=⟨fun e=>by rw [← dg LD.o ZD.o,e];rfl,fun e=>by rw [e];rfl⟩;simp only [this]
   rw [e1];have De:=Ku.x hrep;rintro e w3 ⟨rfl,hx3⟩;have X3:=X2.x hx3;have P0:=kI (B0'.out.ext hx3);have P1:=kI (B1'.out.ext hx3);clear hx3 e1 hrep;have c0:=P0.o.cell;have f0:=P0.o.free;have J2:=kI (HN.o.ext X3.o);have OU:=kI (HD.o.ext X3.o);go_wp2_with fail;have hmx:Tryz.prog.follows .mixedOrders=true:=ak
   have x3:=X3.o;have XT:=P0.o.lt;have XU:=P1.o.lt;go_region_held3 (fun W=>af W w.heap.size #[.slice an ln.length cn,.slice ad ld.length cd,.bool b] 134∧W.cell? ⟨w.heap.size,0,none⟩=some (.slice an ln.length cn)∧W.cell? ⟨w.heap.size,1,none⟩=some (.slice ad ld.length cd)∧W.cell? ⟨w.heap.size,2,none⟩=some (.bool b))
    ((refine af.s3 ?_;(repeat (first|exact P0.o|exact k4|refine af.setOther ?_ aD _|refine af.alloc ?_ _|refine af.drew ?_))))
    (first|(go_at_call 177;refine (clone_any _ ln _ (J2.o.ext eX) Z).mono ?_;rintro e w4 ⟨⟨v4,rfl,n4⟩,hx4⟩;obtain ⟨a4,c4,rfl⟩:=n4.shape;have N4:=kI n4;have z4:=hx4.size;have e4:Ext w3 w4:=Ext.trans eX hx4;have k4:=P0.o.ext e4;have qc:=fun h=>(hx4.cO (b:=w3.heap.size) h).1;have qf:=fun h=>(hx4.cO (b:=w3.heap.size) h).2;(try simp only [World.size_alloc,World.size_drew] at qc qf z4);clear n4))
   ·have B5:Hid (af (w4.alloc (.cells #[.bool b,.slice a4 ln.length c4,.slice none 0 0] 25)) w4.heap.size #[.bool b,.slice a4 ln.length c4,.slice none 0 0] 25):=kI (af.new _ _ _);have K5:=kI (k4.alloc (.cells #[.bool b,.slice a4 ln.length c4,.slice none 0 0] 25));have R5:=kI ((P1.o.ext e4).alloc (.cells #[.bool b,.slice a4 ln.length c4,.slice none 0 0] 25));have Y5:=kI (e4.alloc (.cells #[.bool b,.slice a4 ln.length c4,.slice none 0 0] 25));have X5:=kI ((x3.trans e4).alloc (.cells #[.bool b,.slice a4 ln.length c4,.slice none 0 0] 25));have V5:Hid (cF (w4.alloc (.cells #[.bool b,.slice a4 ln.length c4,.slice none 0 0] 25)) (w.heap.size+1+1) (.slice a4 ln.length c4) ln):=kI ((cF.mono N4.o (B':=w.heap.size+1+1) Ub).ext ((Ext.refl w4).alloc (.cells #[.bool b,.slice a4 ln.length c4,.slice none 0 0] 25)));clear hx4 qc qf N4 k4;generalize hbx:w4.heap.size=bx at *
    generalize w4.alloc (.cells #[.bool b,.slice a4 ln.length c4,.slice none 0 0] 25)=w5 at *
    exact qFl
   ·have B5:Hid (af (((w4.setCell ⟨w3.heap.size,0,none⟩ (.bool b)).setCell ⟨w3.heap.size,1,none⟩ (.slice a4 ln.length c4)).setCell ⟨w3.heap.size,2,none⟩ (.slice none 0 0)) w3.heap.size #[.bool b,.slice a4 ln.length c4,.slice none 0 0] 25):=by
     have h1:=((af.new w3 #[.bool false,.slice none 0 0,.slice none 0 0] 25).drew).ext hx4;have h2:=((h1.set 0 (.bool b)).set 1 (.slice a4 ln.length c4)).set 2 (.slice none 0 0);exact kI Bk
    have K5:=kI (((k4.setOther (a:=⟨w3.heap.size,0,none⟩) aD (.bool b)).setOther (a:=⟨w3.heap.size,1,none⟩) aD (.slice a4 ln.length c4)).setOther (a:=⟨w3.heap.size,2,none⟩) aD (.slice none 0 0));have R5:=kI ((((P1.o.ext e4).setOther (a:=⟨w3.heap.size,0,none⟩) aD (.bool b)).setOther (a:=⟨w3.heap.size,1,none⟩) aD (.slice a4 ln.length c4)).setOther (a:=⟨w3.heap.size,2,none⟩) aD (.slice none 0 0));have Y5:=kI (((e4.set (p:=⟨w3.heap.size,0,none⟩) (Nat.le_refl _) (.bool b)).set (p:=⟨w3.heap.size,1,none⟩) (Nat.le_refl _) (.slice a4 ln.length c4)).set (p:=⟨w3.heap.size,2,none⟩) (Nat.le_refl _) (.slice none 0 0));have X5:=kI ((((x3.trans e4).set (p:=⟨w3.heap.size,0,none⟩) aD (.bool b)).set (p:=⟨w3.heap.size,1,none⟩) aD (.slice a4 ln.length c4)).set (p:=⟨w3.heap.size,2,none⟩) aD (.slice none 0 0));have V5:=kI (((((cF.mono N4.o (B':=w3.heap.size+1) Ub).aP (p:=⟨w3.heap.size,0,none⟩) aD (.bool b)).aP (p:=⟨w3.heap.size,1,none⟩) aD (.slice a4 ln.length c4)).aP (p:=⟨w3.heap.size,2,none⟩) aD (.slice none 0 0)).mono (B':=w.heap.size+1+1) Z);clear hx4 qc qf N4 k4;generalize ((w4.setCell ⟨w3.heap.size,0,none⟩ (.bool b)).setCell ⟨w3.heap.size,1,none⟩ (.slice a4 ln.length c4)).setCell ⟨w3.heap.size,2,none⟩ (.slice none 0 0)=w5 at *
    generalize hbx:w3.heap.size=bx at *
    exact qFl
  ·have e1:decide (lim g=[1])=false:=decide_eq_false (fun e=>hg1 (by rw [← aA g,e];rfl));obtain ⟨l1,hl1⟩:=gN (lim (nv ln / g));obtain ⟨l2,hl2⟩:=gN (lim (nv ld / g));have hs1:l1.length≤512:=by rw [hl1];exact Nat.le_trans (aG.2 (Nat.lt_of_le_of_lt (Nat.div_le_self _ _) (bJ LN.o))) sn
   have hs2:l2.length≤512:=by rw [hl2];exact Nat.le_trans (aG.2 (Nat.lt_of_le_of_lt (Nat.div_le_self _ _) (bJ LD.o))) sd
   have hd1:pF ln (lim g)=(l1,lim (nv ln % g),0):=by rw [Aj sn ZN.o hg5 (aW _) Uf,aA,hl1]
   have hd2:pF ld (lim g)=(l2,lim (nv ld % g),0):=by rw [Aj sd ZD.o hg5 (aW _) Uf,aA,hl2]
   have hrep:RR.mk b (lim (nv ln / g)) (if nv ld / g=1 then [] else lim (nv ld / g))=RR.mk b l1 (if l2=[1] then [] else l2):=by
    have:nv ld / g=1↔l2=[1]:=⟨fun e=>by rw [hl2,e];rfl,fun e=>by rw [← aA (nv ld / g),← hl2,e];rfl⟩;rw [hl1,← hl2];simp only [this]
   have De:=Ku.x hrep;have HD1:=kI hd1;have HD2:=kI hd2;clear hrep hl1 hl2 hd1 hd2;rw [e1];rintro e wa ⟨rfl,hxa⟩;have XA:=X2.x hxa;have PA:=kI (B0'.out.ext hxa);have QA':=kI (B1'.out.ext hxa);have NA:=N2.x hxa;clear hxa e1;have c0:=PA.o.cell;have f0:=PA.o.free;have l0:=PA.o.lt;go_wp2_with fail;refine (pG _ _ ln (lim g) _ (HN.o.ext XA.o) NA.o LN.o (aH _)).mono ?_;rw [HD1.o];rintro e wb ⟨⟨vq,vr,rfl,nq,nr⟩,hxb⟩;obtain ⟨aq,cq,rfl⟩:=nq.shape;have hpb:=PA.o.ext hxb;have c1:=hpb.cell;have f1:=hpb.free;have vN:=hpb.lt;have NQ:Hid (cF wb (w.heap.size+1+1) (.slice aq l1.length cq) l1):=kI (cF.mono nq (by have:=QA'.out.lt;omega));have XB:=XA.x hxb;have QB:=kI (QA'.out.ext hxb);have NB:=NA.x hxb;have PB:=kI hpb;clear nq nr hxb hpb c0 f0 l0;go_wp2_with fail;have hpc:af (wb.setCell ⟨w.heap.size,0,none⟩ (.slice aq l1.length cq)) w.heap.size #[.slice aq l1.length cq,.slice ad ld.length cd,.bool b] 134:=by
    have:=PB.o.set 0 (.slice aq l1.length cq);exact ri
   have hqc:=QB.o.setOther (a:=⟨w.heap.size,0,none⟩) aD (.slice aq l1.length cq);have hnc:aY .u32 (wb.setCell ⟨w.heap.size,0,none⟩ (.slice aq l1.length cq)) (.slice a2 (lim g).length c2) (lim g):=dJ NB.o PB.o (by intro x hx n;simp at hx;rcases hx with rfl|rfl|rfl <;> simp) 0 _;have rA:=NQ.o.aP (p:=⟨w.heap.size,0,none⟩) aD (.slice aq l1.length cq);have hxc:=XB.o.set (p:=⟨w.heap.size,0,none⟩) (Nat.le_refl _) (.slice aq l1.length cq);obtain ⟨PC,QC,NC,VC,XC⟩:=iR hpc hqc hnc rA hxc;clear hpc hqc hnc rA hxc PB QB NB NQ XB c1 f1 vN;generalize wb.setCell ⟨w.heap.size,0,none⟩ (.slice aq l1.length cq)=wc at *
   have c0:=PC.o.cell;have f0:=PC.o.free;have l0:=PC.o.lt;go_wp2_with fail;refine (pG _ _ ld (lim g) _ (HD.o.ext XC.o) NC.o LD.o (aH _)).mono ?_;rw [HD2.o];rintro e wd ⟨⟨vq,vr,rfl,nq,nr⟩,hxd⟩;obtain ⟨ar,cr,rfl⟩:=nq.shape;have hpb:=PC.o.ext hxd;have c1:=hpb.cell;have f1:=hpb.free;have vN:=hpb.lt;have ND:Hid (cF wd (w.heap.size+1+1) (.slice ar l2.length cr) l2):=kI (cF.mono nq (by have:=QC.o.lt;omega));have XD:=XC.x hxd;have QD:=QC.x hxd;have VD:=VC.x hxd;have PD:=kI hpb;clear nq nr hxd hpb c0 f0 l0;go_wp2_with fail;have hpc:af (wd.setCell ⟨w.heap.size,1,none⟩ (.slice ar l2.length cr)) w.heap.size #[.slice aq l1.length cq,.slice ar l2.length cr,.bool b] 134:=by
    have:=PD.o.set 1 (.slice ar l2.length cr);exact ri
   have hqc:=QD.o.setOther (a:=⟨w.heap.size,1,none⟩) aD (.slice ar l2.length cr);have hnc:=(ND.o.aP (p:=⟨w.heap.size,1,none⟩) aD (.slice ar l2.length cr)).rd;have rA:=(VD.o.aP (p:=⟨w.heap.size,1,none⟩) aD (.slice ar l2.length cr)).rd;have hxc:=XD.o.set (p:=⟨w.heap.size,1,none⟩) (Nat.le_refl _) (.slice ar l2.length cr);obtain ⟨P0,P1,OU,J2,X3⟩:=iR hpc hqc hnc rA hxc;clear hpc hqc hnc rA hxc PD QD ND VD XD c1 f1 vN;generalize wd.setCell ⟨w.heap.size,1,none⟩ (.slice ar l2.length cr)=w3 at *
   have c0:=P0.o.cell;have f0:=P0.o.free;go_wp2_with fail;have hmx:Tryz.prog.follows .mixedOrders=true:=ak
   have x3:=X3.o;have XT:=P0.o.lt;have XU:=P1.o.lt;go_region_held3 (fun W=>af W w.heap.size #[.slice aq l1.length cq,.slice ar l2.length cr,.bool b] 134∧W.cell? ⟨w.heap.size,0,none⟩=some (.slice aq l1.length cq)∧W.cell? ⟨w.heap.size,1,none⟩=some (.slice ar l2.length cr)∧W.cell? ⟨w.heap.size,2,none⟩=some (.bool b))
    ((refine af.s3 ?_;(repeat (first|exact P0.o|exact k4|refine af.setOther ?_ aD _|refine af.alloc ?_ _|refine af.drew ?_))))
    (first|(go_at_call 177;refine (clone_any _ l1 _ (J2.o.ext eX) Z).mono ?_;rintro e w4 ⟨⟨v4,rfl,n4⟩,hx4⟩;obtain ⟨a4,c4,rfl⟩:=n4.shape;have N4:=kI n4;have z4:=hx4.size;have e4:Ext w3 w4:=Ext.trans eX hx4;have k4:=P0.o.ext e4;have qc:=fun h=>(hx4.cO (b:=w3.heap.size) h).1;have qf:=fun h=>(hx4.cO (b:=w3.heap.size) h).2;(try simp only [World.size_alloc,World.size_drew] at qc qf z4);clear n4))
   ·have B5:Hid (af (w4.alloc (.cells #[.bool b,.slice a4 l1.length c4,.slice none 0 0] 25)) w4.heap.size #[.bool b,.slice a4 l1.length c4,.slice none 0 0] 25):=kI (af.new _ _ _);have K5:=kI (k4.alloc (.cells #[.bool b,.slice a4 l1.length c4,.slice none 0 0] 25));have R5:=kI ((P1.o.ext e4).alloc (.cells #[.bool b,.slice a4 l1.length c4,.slice none 0 0] 25));have Y5:=kI (e4.alloc (.cells #[.bool b,.slice a4 l1.length c4,.slice none 0 0] 25));have X5:=kI ((x3.trans e4).alloc (.cells #[.bool b,.slice a4 l1.length c4,.slice none 0 0] 25));have V5:Hid (cF (w4.alloc (.cells #[.bool b,.slice a4 l1.length c4,.slice none 0 0] 25)) (w.heap.size+1+1) (.slice a4 l1.length c4) l1):=kI ((cF.mono N4.o (B':=w.heap.size+1+1) Ub).ext ((Ext.refl w4).alloc (.cells #[.bool b,.slice a4 l1.length c4,.slice none 0 0] 25)));clear hx4 qc qf N4 k4;generalize hbx:w4.heap.size=bx at *
    generalize w4.alloc (.cells #[.bool b,.slice a4 l1.length c4,.slice none 0 0] 25)=w5 at *
    exact qO5
   ·have B5:Hid (af (((w4.setCell ⟨w3.heap.size,0,none⟩ (.bool b)).setCell ⟨w3.heap.size,1,none⟩ (.slice a4 l1.length c4)).setCell ⟨w3.heap.size,2,none⟩ (.slice none 0 0)) w3.heap.size #[.bool b,.slice a4 l1.length c4,.slice none 0 0] 25):=by
     have h1:=((af.new w3 #[.bool false,.slice none 0 0,.slice none 0 0] 25).drew).ext hx4;have h2:=((h1.set 0 (.bool b)).set 1 (.slice a4 l1.length c4)).set 2 (.slice none 0 0);exact kI Bk
    have K5:=kI (((k4.setOther (a:=⟨w3.heap.size,0,none⟩) aD (.bool b)).setOther (a:=⟨w3.heap.size,1,none⟩) aD (.slice a4 l1.length c4)).setOther (a:=⟨w3.heap.size,2,none⟩) aD (.slice none 0 0));have R5:=kI ((((P1.o.ext e4).setOther (a:=⟨w3.heap.size,0,none⟩) aD (.bool b)).setOther (a:=⟨w3.heap.size,1,none⟩) aD (.slice a4 l1.length c4)).setOther (a:=⟨w3.heap.size,2,none⟩) aD (.slice none 0 0));have Y5:=kI (((e4.set (p:=⟨w3.heap.size,0,none⟩) (Nat.le_refl _) (.bool b)).set (p:=⟨w3.heap.size,1,none⟩) (Nat.le_refl _) (.slice a4 l1.length c4)).set (p:=⟨w3.heap.size,2,none⟩) (Nat.le_refl _) (.slice none 0 0));have X5:=kI ((((x3.trans e4).set (p:=⟨w3.heap.size,0,none⟩) aD (.bool b)).set (p:=⟨w3.heap.size,1,none⟩) aD (.slice a4 l1.length c4)).set (p:=⟨w3.heap.size,2,none⟩) aD (.slice none 0 0));have V5:=kI (((((cF.mono N4.o (B':=w3.heap.size+1) Ub).aP (p:=⟨w3.heap.size,0,none⟩) aD (.bool b)).aP (p:=⟨w3.heap.size,1,none⟩) aD (.slice a4 l1.length c4)).aP (p:=⟨w3.heap.size,2,none⟩) aD (.slice none 0 0)).mono (B':=w.heap.size+1+1) Z);clear hx4 qc qf N4 k4;generalize ((w4.setCell ⟨w3.heap.size,0,none⟩ (.bool b)).setCell ⟨w3.heap.size,1,none⟩ (.slice a4 l1.length c4)).setCell ⟨w3.heap.size,2,none⟩ (.slice none 0 0)=w5 at *
    generalize hbx:w3.heap.size=bx at *
    exact qO5
theorem nh (h:cI l=0):df l:=(kL h).2
theorem iy (v:Value) (r:RR) (w:World) (h:bH w v r) (hl:bj r):
  Calls Tryz.prog 111 #[v] w fun e w'=>e=.returned (.int .i64 (aE r))∧Ext w w':=by
 obtain ⟨vn,vd,rfl,hn,hd⟩:=h;obtain ⟨an,cn,rfl⟩:=am hn;obtain ⟨ad,cd,rfl⟩:=am hd;obtain ⟨b,ln,ld⟩:=r;obtain ⟨hl1,hl2⟩:=hl;dsimp only at hl1 hl2 hn hd ⊢;obtain ⟨HN,HD,L1,L2⟩:=dW hn hd hl1 hl2;clear hn hd hl1 hl2;have hb0:=af.new w #[.bool b,.slice an ln.length cn,.slice ad ld.length cd] 25;have HB:=kI hb0;have HX:=kI ((Ext.refl w).alloc (.cells #[.bool b,.slice an ln.length cn,.slice ad ld.length cd] 25));clear hb0;by_cases h1:128 < ln.length∨128 < ld.length
 ·have e:aE ⟨b,ln,ld⟩=4:=by unfold aE;rw [if_pos h1]
  have E:=kI e;clear e;by_cases h2:128 < ln.length
  ·have q1:(128:Int) < (ln.length:Int):=Z
   go_enter Tryz.func111,Tryz.ntmps111
   exact T5
  ·have q1:¬ (128:Int) < (ln.length:Int):=Z
   have q2:(128:Int) < (ld.length:Int):=Z
   go_enter Tryz.func111,Tryz.ntmps111
   exact T5
 ·have q1:¬ (128:Int) < (ln.length:Int):=Z
  have q2:¬ (128:Int) < (ld.length:Int):=Z
  have s1:ln.length≤128:=Z
  have s2:ld.length≤128:=Z
  by_cases hc:cI ln=0
  ·have hc1:=fun W h=>fa (.slice an ln.length cn) ln W h;rw [hc] at hc1;have C1:=kI hc1;clear hc1;by_cases hd0:cI ld=0
   ·have hc2:=fun W h=>fa (.slice ad ld.length cd) ld W h;rw [hd0] at hc2;have C2:=kI hc2;clear hc2;obtain ⟨E,hE⟩:=gN (aE ⟨b,ln,ld⟩);rw [← hE];obtain ⟨HE,HC,Oe,H1⟩:=dW hE hc hd0 h1;clear hE hc hd0 h1;go_enter Tryz.func111,Tryz.ntmps111
    go_wp2_with fail;refine (C1.o _ (HN.o.ext HX.o)).mono ?_;rintro e w1 ⟨rfl,hx1⟩;have B1:=HB.x hx1;have X1:=HX.x hx1;clear hx1;have k1:=B1.o.cell;have f1:=B1.o.free;have l1:=B1.o.lt;go_wp2_with fail;refine (C2.o _ (HD.o.ext X1.o)).mono ?_;rintro e w2 ⟨rfl,hx2⟩;have B2:=B1.x hx2;have X2:=X1.x hx2;clear hx2 k1 f1 l1 B1 X1;have k2:=B2.o.cell;have f2:=B2.o.free;have l2:=B2.o.lt;go_wp2_with fail;refine (ie _ ld _ (HD.o.ext X2.o)).mono ?_;rintro e w3 ⟨rfl,hx3⟩;have B3:=B2.x hx3;have X3:=X2.x hx3;clear hx3 k2 f2 l2 B2 X2;have k3:=B3.o.cell;have f3:=B3.o.free;have l3:=B3.o.lt;by_cases hu:ld=[1]
    ·rw [decide_eq_true hu];have HU:=kI hu;clear hu;go_wp2_with fail;go_ret;refine ⟨?_,X3.o⟩;rw [HE.o];unfold aE;rw [if_neg H1.o,if_pos (.inr (.inr (.inl HU.o)))];rfl
    ·rw [decide_eq_false hu];have HU:=kI hu;clear hu;by_cases hz:ln.length=0
     ·have hz':((ln.length:Int) == 0)=true:=by simpa using hz
      have hz2:ln=[]:=List.length_eq_zero_iff.1 hz;cases b
      ·by_cases hdz:ld.length=0
       ·have Qy:ld=[]:=List.length_eq_zero_iff.1 hdz;have q3:¬ (0:Int) < (ld.length:Int):=Z
        have HZ:=kI hz2;have HDZ:=kI Qy;clear hz2 Qy;go_wp2_with fail;go_ret;refine ⟨?_,X3.o⟩;rw [HE.o,HZ.o,HDZ.o];rfl
       ·have q3:(0:Int) < (ld.length:Int):=Z
        have HZ:=kI hz2;clear hz2;go_wp2_with fail;go_ret;refine ⟨?_,X3.o⟩;rw [HE.o];unfold aE;rw [if_neg H1.o,if_pos (.inr (.inr (.inr ⟨HZ.o,.inr (fun e=>hdz (by rw [show ld=[] from e];rfl))⟩)))];rfl
      ·have HZ:=kI hz2;clear hz2;go_wp2_with fail;go_ret;refine ⟨?_,X3.o⟩;rw [HE.o];unfold aE;rw [if_neg H1.o,if_pos (.inr (.inr (.inr ⟨HZ.o,.inl rfl⟩)))];rfl
     ·have hz':((ln.length:Int) == 0)=false:=by simpa using hz
      have h2:¬ (cI ln≠0∨cI ld≠0∨ld=[1]∨(ln=[]∧(b=true∨ld≠[]))):=by
       rintro (h|h|h|⟨h,_⟩)
       ·exact h HC.o
       ·exact h Oe.o
       ·exact HU.o h
       ·exact hz (by rw [h];rfl)
      have H2:=kI h2;clear h2;by_cases hdz:ld.length=0
      ·have q3:¬ (0:Int) < (ld.length:Int):=Z
       go_wp2_with fail;go_ret;refine ⟨?_,X3.o⟩;rw [HE.o];unfold aE;rw [if_neg H1.o,if_neg H2.o,if_neg (fun h=>h.1 (List.length_eq_zero_iff.1 hdz))];rfl
      ·have q3:(0:Int) < (ld.length:Int):=Z
       obtain ⟨g,hg⟩:=gN (Nat.gcd (nv ln) (nv ld));have hgs:yN ln ld=(lim g,0):=by unfold yN;rw [fG (gF Z (nh HC.o) Z (nh Oe.o)),hg]
       have HG:=kI hg;have XN:=kI hgs;clear hg hgs;go_wp2_with fail;refine (Ah _ _ ln ld _ (HN.o.ext X3.o) (HD.o.ext X3.o) L1.o L2.o).mono ?_;rw [XN.o];rintro e w4 ⟨⟨v4,rfl,n4⟩,hx4⟩;obtain ⟨a4,c4,rfl⟩:=n4.shape;have N4:=kI n4.rd;have X4:=X3.x hx4;clear n4 hx4;go_wp2_with fail;refine (ie _ (lim g) _ N4.o).mono ?_;rintro e w5 ⟨rfl,hx5⟩;have X5:=X4.x hx5;clear hx5;by_cases hg1:g=1
       ·have e1:decide (lim g=[1])=true:=by rw [hg1];rfl
        rw [e1];go_wp2_with fail;go_ret;refine ⟨?_,X5.o⟩;rw [HE.o];unfold aE;rw [if_neg H1.o,if_neg H2.o,if_neg (fun h=>h.2 (HG.o.symm.trans hg1))];rfl
       ·have e1:decide (lim g=[1])=false:=decide_eq_false (fun e=>hg1 (by rw [← aA g,e];rfl));rw [e1];go_wp2_with fail;go_ret;refine ⟨?_,X5.o⟩;rw [HE.o];unfold aE;rw [if_neg H1.o,if_neg H2.o,if_pos ⟨fun e=>hdz (by rw [show ld=[] from e];rfl),fun e=>hg1 (HG.o.trans e)⟩];rfl
   ·have e:aE ⟨b,ln,ld⟩=2:=by unfold aE;rw [if_neg h1,if_pos (.inr (.inl hd0))]
    obtain ⟨cc,hcc⟩:=gN (cI ld);have hc2:=fun W h=>fa (.slice ad ld.length cd) ld W h;rw [← hcc] at hc2 hd0;have hcb:(cc != 0)=true:=by simpa using hd0
    have C2:=kI hc2;have E:=kI e;clear hc2 e hcc h1;go_enter Tryz.func111,Tryz.ntmps111
    go_wp2_with fail;refine (C1.o _ (HN.o.ext HX.o)).mono ?_;rintro e w1 ⟨rfl,hx1⟩;have B1:=HB.x hx1;have X1:=HX.x hx1;clear hx1;have k1:=B1.o.cell;have f1:=B1.o.free;have l1:=B1.o.lt;go_wp2_with fail;refine (C2.o _ (HD.o.ext X1.o)).mono ?_;rintro e w2 ⟨rfl,hx2⟩;have X2:=X1.x hx2;clear hx2;go_wp2_with fail;go_ret;exact ⟨by rw [E.o];rfl,X2.o⟩
  ·have e:aE ⟨b,ln,ld⟩=2:=by unfold aE;rw [if_neg h1,if_pos (.inl hc)]
   obtain ⟨cc,hcc⟩:=gN (cI ln);have hc2:=fun W h=>fa (.slice an ln.length cn) ln W h;rw [← hcc] at hc2 hc;have hcb:(cc != 0)=true:=by simpa using hc
   have C2:=kI hc2;have E:=kI e;clear hc2 e hcc h1;go_enter Tryz.func111,Tryz.ntmps111
   go_wp2_with fail;refine (C2.o _ (HN.o.ext HX.o)).mono ?_;rintro e w2 ⟨rfl,hx2⟩;have B1:=HB.x hx2;have X2:=HX.x hx2;clear hx2;have k1:=B1.o.cell;have f1:=B1.o.free;have l1:=B1.o.lt;go_wp2_with fail;go_ret;exact ⟨by rw [E.o];rfl,X2.o⟩
theorem BM (ha:bk la) (hb:bk lb) (za:df la) (zb:df lb) (h:la.length+lb.length≤512):mulS la lb=(lim (nv la*nv lb),0):=by
 refine Hr Z za Z zb (Ak (k:=la.length+lb.length) ?_ h);rw [Nat.pow_add];exact Nat.mul_lt_mul'' (bJ ha) (bJ hb)
theorem js {va:Value} (ha:aY .u32 w va la) (hb:aY .u32 w vb lb) (hla:bk la) (hlb:bk lb) (za:df la) (zb:df lb) (h:la.length+lb.length≤512):
  ∀ W,Ext w W→Calls Tryz.prog 167 #[va,vb] W fun e w'=>(∃ v,e=.returned v∧bv W w' v (lim (nv la*nv lb)))∧Ext W w':=fun W x=>by
 have:=yP va vb la lb W (ha.ext x) (hb.ext x) hla hlb;rwa [BM hla hlb za zb h] at this
theorem Ap (ha:bk la) (hb:bk lb):(lim (nv la*nv lb)).length≤la.length+lb.length:=by
 refine aG.2 ?_;rw [Nat.pow_add];exact Nat.mul_lt_mul'' (bJ ha) (bJ hb)
theorem BQ {P Q:Nat} (hP:(lim P).length≤k) (hQ:(lim Q).length≤k) (hk:k+1≤512):vu (lim P) (lim Q)=(lim (P+Q),0):=by
 rw [Hs Z (aW _) Z (aW _) (by rw [aA,aA];exact Ak (yE k k k (Nat.le_refl _) (Nat.le_refl _) (aG.1 hP) (aG.1 hQ)) hk),aA,aA]
theorem cF.cW (h:cF A B v l) {c:Array Value} (hb:af A bx c t) (ht:t≠157) (x y z:Value):
  cF (((A.setCell ⟨bx,0,none⟩ x).setCell ⟨bx,1,none⟩ y).setCell ⟨bx,2,none⟩ z) B v l:=
 ((h.eV hb ht 0 x).eV (hb.set 0 x) ht 1 y).eV ((hb.set 0 x).set 1 y) ht 2 z
theorem tL (va vb:Value) (s1 s2:Bool) (l1 l2 l3 l4:List Int) (w:World) (ha:BH w va s1 l1 l2) (hb:BH w vb s2 l3 l4) (h1:bk l1) (h2:bk l2) (h3:bk l3) (h4:bk l4) (z1:df l1) (z2:df l2) (z3:df l3) (z4:df l4)
  (t1:l1.length≤200) (t2:l2.length≤200) (t3:l3.length≤200) (t4:l4.length≤200) :
  Calls Tryz.prog 120 #[va,vb] w fun e w'=>(∃ v',e=.returned v'∧BH w' v' (s1 != s2) (lim (nv l1*nv l3)) (lim (nv l2*nv l4)))∧Ext w w':=by
 obtain ⟨vn,vd,rfl,hrn,hrd⟩:=ha;obtain ⟨a1,c1,rfl⟩:=am hrn;obtain ⟨a2,c2,rfl⟩:=am hrd;obtain ⟨vn,vd,rfl,yR,mI⟩:=hb;obtain ⟨a3,c3,rfl⟩:=am yR;obtain ⟨a4,c4,rfl⟩:=am mI;have uL:=kI (js hrn yR h1 h3 z1 z3 Z);have HC2:=kI (js hrd mI h2 h4 z2 z4 Z);clear hrn hrd yR mI h1 h2 h3 h4 z1 z2 z3 z4;obtain ⟨P,hP⟩:=gN (nv l1*nv l3);obtain ⟨D,hD⟩:=gN (nv l2*nv l4);rw [← hP] at uL ⊢;rw [← hD] at HC2 ⊢;clear hP hD;have b0:=((af.new w #[.slice a1 l1.length c1,.slice a2 l2.length c2,.bool s1] 134).alloc (.cells #[.slice a3 l3.length c3,.slice a4 l4.length c4,.bool s2] 134)).alloc (.cells #[.slice none 0 0,.slice none 0 0,.bool false] 134);have b1:=(af.new (w.alloc (.cells #[.slice a1 l1.length c1,.slice a2 l2.length c2,.bool s1] 134)) #[.slice a3 l3.length c3,.slice a4 l4.length c4,.bool s2] 134).alloc (.cells #[.slice none 0 0,.slice none 0 0,.bool false] 134);have b2:=af.new ((w.alloc (.cells #[.slice a1 l1.length c1,.slice a2 l2.length c2,.bool s1] 134)).alloc (.cells #[.slice a3 l3.length c3,.slice a4 l4.length c4,.bool s2] 134)) #[.slice none 0 0,.slice none 0 0,.bool false] 134;rw [World.size_alloc] at b1;rw [World.size_alloc,World.size_alloc] at b2;have x0:Ext w (((w.alloc (.cells #[.slice a1 l1.length c1,.slice a2 l2.length c2,.bool s1] 134)).alloc (.cells #[.slice a3 l3.length c3,.slice a4 l4.length c4,.bool s2] 134)).alloc (.cells #[.slice none 0 0,.slice none 0 0,.bool false] 134)):=(((Ext.refl w).alloc _).alloc _).alloc _;obtain ⟨A0,A1,A2,X0⟩:=dW b0 b1 b2 x0;clear b0 b1 b2;go_enter Tryz.func120,Tryz.ntmps120
 go_wp2_with fail;have hmx:Tryz.prog.follows .mixedOrders=true:=ak
 go_region_held3 (fun W=>(af W w.heap.size #[.slice a1 l1.length c1,.slice a2 l2.length c2,.bool s1] 134∧W.cell? ⟨w.heap.size,0,none⟩=some (.slice a1 l1.length c1)∧W.cell? ⟨w.heap.size,1,none⟩=some (.slice a2 l2.length c2)∧W.cell? ⟨w.heap.size,2,none⟩=some (.bool s1))∧(af W (w.heap.size+1) #[.slice a3 l3.length c3,.slice a4 l4.length c4,.bool s2] 134∧W.cell? ⟨w.heap.size+1,0,none⟩=some (.slice a3 l3.length c3)∧W.cell? ⟨w.heap.size+1,1,none⟩=some (.slice a4 l4.length c4)∧W.cell? ⟨w.heap.size+1,2,none⟩=some (.bool s2)))
  ((refine ⟨af.s3 ?_,af.s3 ?_⟩ <;> (repeat (first|exact A0.o|exact A1.o|exact k5|exact k6|exact k7|exact k8|refine af.setOther ?_ aD _|refine af.alloc ?_ _|refine af.drew ?_))))
  (first|(go_at_call_of 167 (Value.slice a1 l1.length c1);refine (uL.o _ eX).mono ?_;rintro e W5 ⟨⟨v5,rfl,n5⟩,hx5⟩;obtain ⟨p5,q5,rfl⟩:=n5.shape;have N5:=kI n5;have z5:=hx5.size;have k5:=A0.o.ext (Ext.trans eX hx5);have k6:=A1.o.ext (Ext.trans eX hx5);have r5:=A2.o.ext (Ext.trans eX hx5);have x5:=Ext.trans x0 (Ext.trans eX hx5);clear n5)|(go_at_call_of 167 (Value.slice a2 l2.length c2);refine (HC2.o _ eX).mono ?_;rintro e W7 ⟨⟨v7,rfl,n7⟩,hx7⟩;obtain ⟨p7,q7,rfl⟩:=n7.shape;have N7:=kI n7;have z7:=hx7.size;have k7:=k5.ext hx7;have k8:=k6.ext hx7;have r7:=(r5.ext hx7).cell;have fr7:=(r5.ext hx7).free;have lr7:=(r5.ext hx7).lt;have R7:=kI (r5.ext hx7);have M5:=N5.x hx7;have x7:=x5.trans hx7;clear n7 hx7))
 go_wp2_with fail;refine bodyPost_ret (v:=.agg #[.slice p5 (lim P).length q5,.slice p7 (lim D).length q7,.bool (s1 != s2)]) (by simp only [results,Tryz.results120];go_simp;first|done|(cases s1 <;> cases s2 <;> rfl)) rfl ⟨⟨_,rfl,_,_,rfl,?_,?_⟩,?_⟩
 ·exact (cF.cW M5.o R7.o ah _ _ _).rd
 ·exact (cF.cW N7.o R7.o ah _ _ _).rd
 ·exact eX
theorem vR (va vb:Value) (s1 s2:Bool) (l1 l2 l3 l4:List Int) (w:World) (ha:BH w va s1 l1 l2) (hb:BH w vb s2 l3 l4) (h1:bk l1) (h2:bk l2) (h3:bk l3) (h4:bk l4) (z1:df l1) (z2:df l2) (z3:df l3) (z4:df l4)
  (t1:l1.length≤200) (t2:l2.length≤200) (t3:l3.length≤200) (t4:l4.length≤200) :
  Calls Tryz.prog 119 #[va,vb] w fun e w'=>(∃ v',e=.returned v'∧BH w' v' (eP (s1,nv l1,nv l2) (s2,nv l3,nv l4)).1 (lim (eP (s1,nv l1,nv l2) (s2,nv l3,nv l4)).2.1) (lim (eP (s1,nv l1,nv l2) (s2,nv l3,nv l4)).2.2))∧Ext w w':=by
 obtain ⟨vn,vd,rfl,hrn,hrd⟩:=ha;obtain ⟨a1,c1,rfl⟩:=am hrn;obtain ⟨a2,c2,rfl⟩:=am hrd;obtain ⟨vn,vd,rfl,yR,mI⟩:=hb;obtain ⟨a3,c3,rfl⟩:=am yR;obtain ⟨a4,c4,rfl⟩:=am mI;have uL:=kI (js hrn mI h1 h4 z1 z4 Z);have HC2:=kI (js yR hrd h3 h2 z3 z2 Z);have Us:=kI (js hrd mI h2 h4 z2 z4 Z);have k14:=Ap h1 h4;have k32:=Ap h3 h2;clear hrn hrd yR mI h1 h2 h3 h4 z1 z2 z3 z4;obtain ⟨T,hT⟩:=gN (eP (s1,nv l1,nv l2) (s2,nv l3,nv l4));rw [← hT];unfold eP at hT;dsimp only at hT;obtain ⟨P,hP⟩:=gN (nv l1*nv l4);obtain ⟨Q,hQ⟩:=gN (nv l3*nv l2);obtain ⟨D,hD⟩:=gN (nv l2*nv l4);rw [← hP] at uL hT k14;rw [← hQ] at HC2 hT k32;rw [← hD] at Us hT;have HT:=kI hT;clear hP hQ hD hT;have sP:(lim P).length≤400:=Z
 have sQ:(lim Q).length≤400:=Z
 have hpl:=fun W va vb h1 h2=>BF va vb (lim P) (lim Q) W h1 h2 (aH _) (aH _);rw [BQ (k:=400) sP sQ Z] at hpl;have Li:=fun W va vb h1 h2=>yQ va vb (lim P) (lim Q) W h1 h2 (aH _) (aH _) (aW _) (aW _) Z Z;rw [aA,aA] at Li;have mD:=kI hpl;have OO:=kI Li;clear hpl Li k14 k32;have b0:=((af.new w #[.slice a1 l1.length c1,.slice a2 l2.length c2,.bool s1] 134).alloc (.cells #[.slice a3 l3.length c3,.slice a4 l4.length c4,.bool s2] 134)).alloc (.cells #[.slice none 0 0,.slice none 0 0,.bool false] 134);have b1:=(af.new (w.alloc (.cells #[.slice a1 l1.length c1,.slice a2 l2.length c2,.bool s1] 134)) #[.slice a3 l3.length c3,.slice a4 l4.length c4,.bool s2] 134).alloc (.cells #[.slice none 0 0,.slice none 0 0,.bool false] 134);have b2:=af.new ((w.alloc (.cells #[.slice a1 l1.length c1,.slice a2 l2.length c2,.bool s1] 134)).alloc (.cells #[.slice a3 l3.length c3,.slice a4 l4.length c4,.bool s2] 134)) #[.slice none 0 0,.slice none 0 0,.bool false] 134;rw [World.size_alloc] at b1;rw [World.size_alloc,World.size_alloc] at b2;have x0:Ext w (((w.alloc (.cells #[.slice a1 l1.length c1,.slice a2 l2.length c2,.bool s1] 134)).alloc (.cells #[.slice a3 l3.length c3,.slice a4 l4.length c4,.bool s2] 134)).alloc (.cells #[.slice none 0 0,.slice none 0 0,.bool false] 134)):=(((Ext.refl w).alloc _).alloc _).alloc _;obtain ⟨A0,A1,A2,X0⟩:=dW b0 b1 b2 x0;clear b0 b1 b2;go_enter Tryz.func119,Tryz.ntmps119
 go_wp2_with fail;have hmx:Tryz.prog.follows .mixedOrders=true:=ak
 go_region_held3 (fun W=>(af W w.heap.size #[.slice a1 l1.length c1,.slice a2 l2.length c2,.bool s1] 134∧W.cell? ⟨w.heap.size,0,none⟩=some (.slice a1 l1.length c1)∧W.cell? ⟨w.heap.size,1,none⟩=some (.slice a2 l2.length c2)∧W.cell? ⟨w.heap.size,2,none⟩=some (.bool s1))∧(af W (w.heap.size+1) #[.slice a3 l3.length c3,.slice a4 l4.length c4,.bool s2] 134∧W.cell? ⟨w.heap.size+1,0,none⟩=some (.slice a3 l3.length c3)∧W.cell? ⟨w.heap.size+1,1,none⟩=some (.slice a4 l4.length c4)∧W.cell? ⟨w.heap.size+1,2,none⟩=some (.bool s2)))
  ((refine ⟨af.s3 ?_,af.s3 ?_⟩ <;> (repeat (first|exact A0.o|exact A1.o|exact k5|exact k6|exact k7|exact k8|refine af.setOther ?_ aD _|refine af.alloc ?_ _|refine af.drew ?_))))
  (first|(go_at_call_of 167 (Value.slice a1 l1.length c1);refine (uL.o _ eX).mono ?_;rintro e W5 ⟨⟨v5,rfl,n5⟩,hx5⟩;obtain ⟨p5,q5,rfl⟩:=n5.shape;have N5:=kI n5;have z5:=hx5.size;have k5:=A0.o.ext (Ext.trans eX hx5);have k6:=A1.o.ext (Ext.trans eX hx5);have r5:=A2.o.ext (Ext.trans eX hx5);have x5:=Ext.trans x0 (Ext.trans eX hx5);clear n5)|(go_at_call_of 167 (Value.slice a3 l3.length c3);refine (HC2.o _ eX).mono ?_;rintro e W7 ⟨⟨v7,rfl,n7⟩,hx7⟩;obtain ⟨p7,q7,rfl⟩:=n7.shape;have N7:=kI n7;have z7:=hx7.size;have k7:=k5.ext hx7;have k8:=k6.ext hx7;have r7:=r5.ext hx7;have M5:=kI ((N5.o.ext hx7).from (Ext.trans x0 eX));have M7:=kI (N7.o.from x5);have x7:=x5.trans hx7;clear n7 hx7))
 obtain ⟨K7,K8,R7,X7⟩:=dW k7 k8 r7 x7;clear k5 k6 r5 x5 N5 N7 hx5 z5 z7 k7 k8 r7 A0 A1 A2 X0 x0;have lt7:=R7.o.lt;go_wp2_with fail;have x7:=X7.o;go_region_held3 (fun W=>(af W w.heap.size #[.slice a1 l1.length c1,.slice a2 l2.length c2,.bool s1] 134∧W.cell? ⟨w.heap.size,0,none⟩=some (.slice a1 l1.length c1)∧W.cell? ⟨w.heap.size,1,none⟩=some (.slice a2 l2.length c2)∧W.cell? ⟨w.heap.size,2,none⟩=some (.bool s1))∧(af W (w.heap.size+1) #[.slice a3 l3.length c3,.slice a4 l4.length c4,.bool s2] 134∧W.cell? ⟨w.heap.size+1,0,none⟩=some (.slice a3 l3.length c3)∧W.cell? ⟨w.heap.size+1,1,none⟩=some (.slice a4 l4.length c4)∧W.cell? ⟨w.heap.size+1,2,none⟩=some (.bool s2)))
  ((refine ⟨af.s3 ?_,af.s3 ?_⟩ <;> (repeat (first|exact K7.o|exact K8.o|exact k5|exact k6|refine af.setOther ?_ aD _|refine af.alloc ?_ _|refine af.drew ?_))))
  (first|(go_at_call_of 167 (Value.slice a2 l2.length c2);refine (Us.o _ eX).mono ?_;rintro e W8 ⟨⟨v8,rfl,n8⟩,yl⟩;obtain ⟨p8,q8,rfl⟩:=n8.shape;have N8:=kI n8;have z8:=yl.size;have e8:Ext W7 W8:=Ext.trans eX yl;have k5:=K7.o.ext e8;have k6:=K8.o.ext e8;have qc:=fun h=>(yl.cO (b:=W7.heap.size) h).1;have qf:=fun h=>(yl.cO (b:=W7.heap.size) h).2;(try simp only [World.size_alloc,World.size_drew] at qc qf z8);clear n8))
 ·have B9:Hid (af (W8.alloc (.cells #[.slice none 0 0,.slice p8 (lim D).length q8,.bool s1] 134)) W8.heap.size #[.slice none 0 0,.slice p8 (lim D).length q8,.bool s1] 134):=kI (af.new _ _ _);have y9:Ext W8 (W8.alloc (.cells #[.slice none 0 0,.slice p8 (lim D).length q8,.bool s1] 134)):=(Ext.refl W8).alloc _;have D9:=kI ((N8.o.from (Ext.trans x7 eX)).ext y9);have lt8:=e8.size;have hbx0:w.heap.size+1+1 < W8.heap.size:=Z
  have VW:=kI ((M5.o.ext e8).ext y9);have VY:=kI ((M7.o.ext e8).ext y9);have K9:=kI ((K7.o.ext e8).ext y9);have J9:=kI ((K8.o.ext e8).ext y9);have R9:=kI ((R7.o.ext e8).ext y9);have X9:=kI ((x7.trans e8).trans y9);clear yl qc qf N8 k5 k6 y9 M5 M7 K7 K8 R7;generalize hbx:W8.heap.size=bx at *
  generalize W8.alloc (.cells #[.slice none 0 0,.slice p8 (lim D).length q8,.bool s1] 134)=w9 at *
  exact qHa
 ·have h1:=((af.new W7 #[.slice none 0 0,.slice none 0 0,.bool false] 134).drew).ext yl;have B9:Hid (af (((W8.setCell ⟨W7.heap.size,0,none⟩ (.slice none 0 0)).setCell ⟨W7.heap.size,1,none⟩ (.slice p8 (lim D).length q8)).setCell ⟨W7.heap.size,2,none⟩ (.bool s1)) W7.heap.size #[.slice none 0 0,.slice p8 (lim D).length q8,.bool s1] 134):=by
   have h2:=((h1.set 0 (.slice none 0 0)).set 1 (.slice p8 (lim D).length q8)).set 2 (.bool s1);exact kI Bk
  have D9:=kI (cF.cW (N8.o.from (w0:=w) (Ext.trans x7 eX)) h1 ah (.slice none 0 0) (.slice p8 (lim D).length q8) (.bool s1));have hbx0:w.heap.size+1+1 < W7.heap.size:=lt7;have VW:=kI (cF.cW (M5.o.ext e8) h1 ah (.slice none 0 0) (.slice p8 (lim D).length q8) (.bool s1));have VY:=kI (cF.cW (M7.o.ext e8) h1 ah (.slice none 0 0) (.slice p8 (lim D).length q8) (.bool s1));have K9:=kI ((((K7.o.ext e8).setOther (a:=⟨W7.heap.size,0,none⟩) aD (.slice none 0 0)).setOther (a:=⟨W7.heap.size,1,none⟩) aD (.slice p8 (lim D).length q8)).setOther (a:=⟨W7.heap.size,2,none⟩) aD (.bool s1));have J9:=kI ((((K8.o.ext e8).setOther (a:=⟨W7.heap.size,0,none⟩) aD (.slice none 0 0)).setOther (a:=⟨W7.heap.size,1,none⟩) aD (.slice p8 (lim D).length q8)).setOther (a:=⟨W7.heap.size,2,none⟩) aD (.bool s1));have R9:=kI ((((R7.o.ext e8).setOther (a:=⟨W7.heap.size,0,none⟩) aD (.slice none 0 0)).setOther (a:=⟨W7.heap.size,1,none⟩) aD (.slice p8 (lim D).length q8)).setOther (a:=⟨W7.heap.size,2,none⟩) aD (.bool s1));have X9:=kI ((((x7.trans e8).set (p:=⟨W7.heap.size,0,none⟩) aD (.slice none 0 0)).set (p:=⟨W7.heap.size,1,none⟩) aD (.slice p8 (lim D).length q8)).set (p:=⟨W7.heap.size,2,none⟩) aD (.bool s1));clear yl qc qf N8 k5 k6 h1 M5 M7 K7 K8 R7;generalize ((W8.setCell ⟨W7.heap.size,0,none⟩ (.slice none 0 0)).setCell ⟨W7.heap.size,1,none⟩ (.slice p8 (lim D).length q8)).setCell ⟨W7.heap.size,2,none⟩ (.bool s1)=w9 at *
  generalize hbx:W7.heap.size=bx at *
  exact qHa
theorem vS (k:Int) (n:Nat) (w:World) (hn:n < 18446744073709551616) (hk:k=n):
  Calls Tryz.prog 159 #[.int .u64 k] w fun e w'=>(∃ v,e=.returned v∧bv w w' v (lim n))∧Ext w w':=by
 subst hk;exact Dz n w hn
theorem tM (n:Int) (w:World) (h0 : -9223372036854775808≤n) (h1:n≤9223372036854775807):
  Calls Tryz.prog 140 #[.int .i64 n] w fun e w'=>(∃ v,e=.returned v∧bv w w' v (lim n.natAbs))∧Ext w w':=by
 by_cases hn:n < 0
 ·have hf:=fun k hk W=>vS k n.natAbs W Z hk;have HF:=kI hf;obtain ⟨m,hm⟩:=gN (n.natAbs);rw [← hm] at HF ⊢;have hmn:(m:Int) = -n:=Z
  clear hf hm;go_enter Tryz.func140,Tryz.ntmps140
  exact qUg
 ·have hf:=fun k hk W=>vS k n.natAbs W Z hk;have HF:=kI hf;obtain ⟨m,hm⟩:=gN (n.natAbs);rw [← hm] at HF ⊢;have hmn:(m:Int)=n:=Z
  clear hf hm;go_enter Tryz.func140,Tryz.ntmps140
  go_wp2_with fail;refine (HF.o _ Z _).mono ?_;exact Ws
theorem Hw (n:Int):rep (n:Rat)=⟨decide (n < 0),lim n.natAbs,[]⟩:=by
 unfold rep;rw [Rat.num_intCast,Rat.den_intCast,if_pos rfl]
theorem il (n:Int) (w:World) (h0 : -9223372036854775808≤n) (h1:n≤9223372036854775807):
  Calls Tryz.prog 83 #[.int .i64 n] w fun e w'=>(∃ v,e=.returned v∧aO w w' v (rep (n:Rat)))∧Ext w w':=by
 rw [Hw];have b0:=af.new w #[.bool false,.slice none 0 0,.slice none 0 0] 25;have B0:=kI b0;have X0:=kI ((Ext.refl w).alloc (.cells #[.bool false,.slice none 0 0,.slice none 0 0] 25));clear b0;go_enter Tryz.func83,Tryz.ntmps83
 go_wp2_with fail;refine (tM n _ h0 h1).mono ?_;rintro e w1 ⟨⟨v,rfl,n1⟩,hx1⟩;obtain ⟨a1,c1,rfl⟩:=n1.shape;have N1:=kI (n1.from X0.o);have X1:=X0.x hx1;have B1:=B0.x hx1;clear n1 hx1;obtain ⟨L,hL⟩:=gN (lim n.natAbs);rw [← hL] at N1 ⊢;have HL:=kI hL;clear hL;have c0:=B1.o.cell;have f0:=B1.o.free;have l0:=B1.o.lt;go_wp2_with fail;refine bodyPost_ret (v:=.agg #[.bool (decide (n < 0)),.slice a1 L.length c1,.slice none 0 0]) (by simp only [results,Tryz.results83];go_simp) rfl ⟨⟨_,rfl,_,_,rfl,?_,bv.nil _ _⟩,?_⟩
 ·rw [← HL.o];exact cF.cW N1.o B1.o ah _ _ _
 ·have:=X1.o;exact eX
def bG (w w':World) (e:Ending) (r:RR × Int):Prop:=∃ v,e=.returned (.tuple #[v,.int .i64 r.2])∧aO w w' v r.1
theorem bG.mk {l:RR} {x:Int} {r:RR × Int} (h:aO w w' v l) (e:r=(l,x)):bG w w' (.returned (.tuple #[v,.int .i64 x])) r:=by subst e;exact ⟨v,rfl,h⟩
theorem aO.shape {r:RR} (h:aO w w' v r):∃ a c a2 c2,v=.agg #[.bool r.neg,.slice a r.num.length c,.slice a2 r.den.length c2]:=by
 obtain ⟨vn,vd,rfl,h1,h2⟩:=h;obtain ⟨a,c,rfl⟩:=h1.shape;obtain ⟨a2,c2,rfl⟩:=h2.shape;exact ⟨_,_,_,_,rfl⟩
theorem bH.shape {r:RR} (h:bH w v r):∃ a c a2 c2,v=.agg #[.bool r.neg,.slice a r.num.length c,.slice a2 r.den.length c2]:=by
 obtain ⟨vn,vd,rfl,h1,h2⟩:=h;obtain ⟨a,c,rfl⟩:=am h1;obtain ⟨a2,c2,rfl⟩:=am h2;exact ⟨_,_,_,_,rfl⟩
theorem aO.cW {r:RR} (h:aO w A v r) {c:Array Value} (hb:af A bx c t) (ht:t≠157) (x y z:Value):
  aO w (((A.setCell ⟨bx,0,none⟩ x).setCell ⟨bx,1,none⟩ y).setCell ⟨bx,2,none⟩ z) v r:=by
 obtain ⟨vn,vd,rfl,h1,h2⟩:=h;exact ⟨_,_,rfl,cF.cW h1 hb ht x y z,cF.cW h2 hb ht x y z⟩
theorem vT (h:n < 18446744073709551616):(lim n).length≤2:=aG.2 (Nat.lt_of_lt_of_le h ah)
theorem fj (h:aY .u32 A v l) {c:Array Value} (hb:af A bx c t) (ht:∀ x ∈ c,∀ n,x≠.int .u32 n) (x y z:Value) (hx:∀ n,x≠.int .u32 n) (hy:∀ n,y≠.int .u32 n):
  aY .u32 (((A.setCell ⟨bx,0,none⟩ x).setCell ⟨bx,1,none⟩ y).setCell ⟨bx,2,none⟩ z) v l:=by
 have hc1:∀ u ∈ c.setIfInBounds 0 x,∀ n,u≠.int .u32 n:=fun u hu=>by
  rcases Array.mem_or_eq_of_mem_setIfInBounds hu with hu|rfl
  ·exact ht u hu
  ·exact hx
 have hc2:∀ u ∈ (c.setIfInBounds 0 x).setIfInBounds 1 y,∀ n,u≠.int .u32 n:=fun u hu=>by
  rcases Array.mem_or_eq_of_mem_setIfInBounds hu with hu|rfl
  ·exact hc1 u hu
  ·exact hy
 exact dJ (dJ (dJ h hb ht 0 x) (hb.set 0 x) hc1 1 y) ((hb.set 0 x).set 1 y) hc2 2 z
section
open Go.RowKit Go.ChangeShapes Go.WideShapes Go.ChangeAt Go.Deep
section
variable {H:Type} {enc:TypeId × Value→H} {w:World} {base:Nat} {spare:Nat→Bool} {held:Bool}
theorem Tryz.cellsB:Tryz.prog.cellsOf 4=1:=ak
theorem Tryz.Lj:Tryz.prog.cellsOf 23=1:=ak
theorem Tryz.pN:Tryz.prog.cellsOf 25=3:=ak
theorem QE {l:List α} (h:l.length=3):∃ a b c,l=[a,b,c]:=by match l,h with|[a,b,c],_=>exact ⟨a,b,c,rfl⟩
theorem pO {x:DataW H × List MemPlace} (h:DataW.trod enc Tryz.prog w base spare held n 23 cs=some x):∃ (v:Value) (l:List Int),cs=[v]∧aY .u32 w v l∧bk l:=by
 have inst:Inhabited { x:Int // (Lit.int .u32 x).wf=true }:=⟨⟨0,by decide⟩⟩;obtain ⟨v',l,hcs,hr⟩:=nc (m:=1) (f:=fun x:{ x:Int // (Lit.int .u32 x).wf=true }=>[Value.int .u32 x.1]) Tryz.underlying23 Tryz.cells50 Z (fun _=>rfl)
  (fun n cs x hx=>by obtain ⟨a,e0,_,wa⟩:=DataW.trod_int Tryz.underlying157 hx;exact ⟨⟨a,wa⟩,e0⟩) h
 refine ⟨v',l.map (·.1),hcs,?_,fun y hy=>?_⟩
 ·have:=pH (f:=fun x:{ x:Int // (Lit.int .u32 x).wf=true }=>Value.int .u32 x.1) hr;unfold aY;rw [List.map_map];exact this
 ·obtain ⟨z,_,rfl⟩:=List.mem_map.1 hy;have:=z.2;simp [Lit.wf,IntKind.min,IntKind.max,IntKind.signed,IntKind.bits] at this;omega
theorem jt {x:DataW H × List MemPlace} (h:DataW.trod enc Tryz.prog w base spare held n 25 cs=some x):
  ∃ (b:Bool) (v u:Value) (l m:List Int),cs=[.bool b,v,u]∧aY .u32 w v l∧bk l∧aY .u32 w u m∧bk m:=by
 obtain ⟨xs,m,_,_,hl,hx,hf⟩:=DataW.trod_struct Tryz.underlying25 h;obtain ⟨c0,c1,c2,rfl⟩:=QE (hl.trans Tryz.pN);obtain ⟨y0,y1,y2,rfl⟩:=QE hx;have h0:=hf 0 _ rfl;have h1:=hf 1 _ rfl;have h2:=hf 2 _ rfl;simp [Tryz.cellsB,Tryz.Lj] at h0 h1 h2;obtain ⟨a,e0,_⟩:=DataW.trod_bool Tryz.underlying4 h0;obtain ⟨v,l,e1,k1,k2⟩:=pO h1;obtain ⟨u,m,e2,k3,k4⟩:=pO h2;simp at e0 e1 e2;exact ⟨a,v,u,l,m,by rw [e0,e1,e2],k1,k2,k3,k4⟩
end
end
end Go.Proofs.YtnnjbaijcaiohaaGreat
