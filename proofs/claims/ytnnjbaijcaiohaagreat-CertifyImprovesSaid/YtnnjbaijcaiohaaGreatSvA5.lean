/- Walks and lemmas. -/
import Derived.Test.YtnnjbaijcaiohaaGreatSvA4
set_option linter.unusedVariables false
set_option linter.unusedSimpArgs false
set_option maxRecDepth 100000
set_option maxHeartbeats 16000000
namespace Go.Proofs.YtnnjbaijcaiohaaGreat
open Go.RowKit
structure RR where
 neg:Bool
 num:List Int
 den:List Int
deriving DecidableEq
def zR:RR:=⟨false,[],[]⟩
def aC (r:RR):Prop:=br r.num∧br r.den
def aA (r:RR):Int:=
 if 128 < r.num.length∨128 < r.den.length then 4
 else if dT r.num≠0∨dT r.den≠0∨r.den=[1]∨(r.num=[]∧(r.neg=true∨r.den≠[])) then 2
 else if r.den≠[]∧Nat.gcd (nv r.num) (nv r.den)≠1 then 2
 else 0
def eJ (l:List Int):Nat:=if l=[] then 1 else nv l
def sg (b:Bool) (n:Nat):Int:=if b=true then -(n:Int) else n
theorem pq (b:Bool) (n:Nat):(sg b n).natAbs=n:=by unfold sg;split <;> omega
theorem Ce {b:Bool} {n:Nat} (h:n≠0):decide (sg b n < 0)=b:=by
 unfold sg;cases b
 ·simp
 ·simp;omega
def qv (r:RR):Rat:=mkRat (sg r.neg (nv r.num)) (eJ r.den)
def rep (q:Rat):RR:=⟨decide (q.num < 0),lim q.num.natAbs,if q.den=1 then [] else lim q.den⟩
theorem cU (q:Rat):aC (rep q):=by
 refine ⟨aR _,?_⟩;unfold rep;split
 ·intro x hx;cases hx
 ·exact aR _
theorem Cf:rep 0=zR:=rfl
theorem sU {r:RR} (hl:aC r) (h:aA r=0):r.num.length≤128∧r.den.length≤128∧cL r.num∧cL r.den∧r.den≠[1]∧(r.num=[]→r.neg=false∧r.den=[])∧(r.den≠[]→Nat.gcd (nv r.num) (nv r.den)=1):=by
 unfold aA at h;by_cases h1:128 < r.num.length∨128 < r.den.length
 ·rw [if_pos h1] at h;exact absurd h ap
 ·rw [if_neg h1] at h;by_cases h2:dT r.num≠0∨dT r.den≠0∨r.den=[1]∨(r.num=[]∧(r.neg=true∨r.den≠[]))
  ·rw [if_pos h2] at h;exact absurd h ap
  ·rw [if_neg h2] at h;by_cases h3:r.den≠[]∧Nat.gcd (nv r.num) (nv r.den)≠1
   ·rw [if_pos h3] at h;exact absurd h ap
   ·have a1:dT r.num=0:=Classical.byContradiction fun e=>h2 (.inl e);have a2:dT r.den=0:=Classical.byContradiction fun e=>h2 (.inr (.inl e));refine ⟨by omega,by omega,(pg a1).2,(pg a2).2,fun e=>h2 (.inr (.inr (.inl e))),fun e=>⟨?_,?_⟩,fun e=>Classical.byContradiction fun g=>h3 ⟨e,g⟩⟩
    ·cases hb:r.neg
     ·rfl
     ·exact absurd (.inr (.inr (.inr ⟨e,.inl hb⟩))) h2
    ·exact Classical.byContradiction fun g=>h2 (.inr (.inr (.inr ⟨e,.inr g⟩)))
theorem yM {l:List Int} (hl:br l) (hz:cL l) (h:l≠[]):nv l≠0:=fun e=>h (List.length_eq_zero_iff.1 ((ct hl hz).1 e))
theorem eQ {r:RR} (hl:aC r) (h:aA r=0):(qv r).num=sg r.neg (nv r.num)∧(qv r).den=eJ r.den∧rep (qv r)=r:=by
 obtain ⟨h1,h2,h3,h4,h5,h6,h7⟩:=sU hl h;have hd:eJ r.den≠0:=by
  unfold eJ;split
  ·decide
  ·rename_i hne;exact yM hl.2 h4 hne
 have hg:(sg r.neg (nv r.num)).natAbs.Coprime (eJ r.den):=by
  rw [pq];unfold eJ;split
  ·exact Nat.coprime_one_right _
  ·rename_i hne;exact h7 hne
 have e:qv r=⟨sg r.neg (nv r.num),eJ r.den,hd,hg⟩:=by
  unfold qv;rw [Rat.mk_eq_mkRat]
 rw [e];refine ⟨rfl,rfl,?_⟩;unfold rep;dsimp only;have e1:decide (sg r.neg (nv r.num) < 0)=r.neg:=by
  by_cases hn:r.num=[]
  ·rw [hn,(h6 hn).1];rfl
  ·exact Ce (yM hl.1 h3 hn)
 have e2:(if eJ r.den=1 then [] else lim (eJ r.den))=r.den:=by
  unfold eJ;by_cases hn:r.den=[]
  ·rw [if_pos hn,if_pos rfl,hn]
  ·rw [if_neg hn];have:nv r.den≠1:=fun e=>h5 (by rw [← dx hl.2 h4,e];rfl);rw [if_neg this,dx hl.2 h4]
 rw [e1,pq,dx hl.1 h3,e2]
theorem sV (q:Rat):eJ (rep q).den=q.den:=by
 unfold rep eJ;dsimp only;by_cases h:q.den=1
 ·rw [if_pos h,if_pos rfl,h]
 ·rw [if_neg h];have:lim q.den≠[]:=fun e=>by have:=aG q.den;rw [e] at this;exact q.den_nz this.symm
  rw [if_neg this,aG]
theorem Fw (q:Rat):sg (rep q).neg (nv (rep q).num)=q.num:=by
 unfold rep sg;dsimp only;rw [aG];by_cases h:q.num < 0
 ·rw [if_pos kN];omega
 ·rw [if_neg kN];omega
theorem jk (q:Rat):qv (rep q)=q:=by
 unfold qv;rw [sV,Fw,Rat.mkRat_self]
def small (q:Rat):Prop:=(rep q).num.length≤128∧(rep q).den.length≤128
instance (q:Rat):Decidable (small q):=inferInstanceAs (Decidable (_∧_))
theorem uM {l:List Int} (h1:l.length≤512) (h2:cL l):dT l=0:=by
 have h:=fL h1 h2 h1 h2;unfold cS wX at h;by_cases h0:dT l=0
 ·exact h0
 ·simp [h0] at h
theorem Fx (q:Rat):cL (rep q).num∧cL (rep q).den:=by
 refine ⟨aX _,?_⟩;unfold rep;split
 ·simp [cL]
 ·exact aX _
theorem yN {q:Rat} (h:small q):aA (rep q)=0:=by
 obtain ⟨h1,h2⟩:=h;obtain ⟨z1,z2⟩:=Fx q;unfold aA;rw [if_neg Z,if_neg,if_neg]
 ·rintro ⟨hd,hg⟩;apply hg;have hd1:eJ (rep q).den=nv (rep q).den:=by unfold eJ;rw [if_neg hd]
  rw [← hd1,sV];have:nv (rep q).num=q.num.natAbs:=aG _;rw [this];exact q.reduced
 ·rintro (h|h|h|⟨h,h3⟩)
  ·exact h (uM Z z1)
  ·exact h (uM Z z2)
  ·have e:=sV q;rw [h] at e;have:q.den=1:=by rw [← e];rfl
   unfold rep at h;rw [this] at h;simp at h
  ·have hn:q.num.natAbs=0:=by
    have:nv (rep q).num=q.num.natAbs:=aG _;rw [← this,h];rfl
   have h0:q.num=0:=Z
   have hq:q=0:=Rat.num_eq_zero.1 h0;subst hq;rcases h3 with h3|h3
   ·exact absurd h3 ap
   ·exact h3 rfl
def dK (q:Rat):RR × Int:=if small q then (rep q,0) else (zR,4)
theorem mc {q:Rat} (h:small q):dK q=(rep q,0):=by unfold dK;rw [if_pos h]
theorem du {q:Rat} (h:¬ small q):dK q=(zR,4):=by unfold dK;rw [if_neg h]
def cP (a b:RR):Int:=wX (aA a) (aA b)
def i9 (a b:RR) (x:RR × Int):RR × Int:=if cP a b=0 then x else (zR,cP a b)
def cz (a b:RR):RR × Int:=i9 a b (dK (qv a+qv b))
def bR (a b:RR):RR × Int:=i9 a b (dK (qv a - qv b))
def mulR (a b:RR):RR × Int:=i9 a b (dK (qv a*qv b))
def bJ (a b:RR):RR × Int:=i9 a b (if b.num=[] then (zR,14) else dK (qv a / qv b))
def eu (x y:Rat):Int:=if x < y then -1 else if x=y then 0 else 1
def cA (a b:RR):Int × Int:=if cP a b=0 then (eu (qv a) (qv b),0) else (0,cP a b)
theorem bD {a b:RR} (h:cP a b=0):aA a=0∧aA b=0:=by
 unfold cP wX at h;by_cases h0:aA a=0
 ·rw [if_pos h0] at h;exact ⟨h0,h⟩
 ·rw [if_neg h0] at h;exact absurd h h0
theorem dz {a b:RR} (h1:aA a=0) (h2:aA b=0):cP a b=0:=by unfold cP wX;rw [if_pos h1,h2]
theorem uN (b:Bool) {n d:Nat} (hn:n≠0) (hd:d≠0) :
  rep (mkRat (sg b n) d)=⟨b,lim (n / Nat.gcd n d),if d / Nat.gcd n d=1 then [] else lim (d / Nat.gcd n d)⟩:=by
 have hg:0 < Nat.gcd n d:=Nat.gcd_pos_of_pos_left _ Z;have e1:(mkRat (sg b n) d).num=sg b n / (Nat.gcd n d:Int):=by
  rw [Rat.num_mkRat,if_neg hd,pq,Nat.gcd_comm]
 have e2:(mkRat (sg b n) d).den=d / Nat.gcd n d:=by
  rw [Rat.den_mkRat,if_neg hd,pq,Nat.gcd_comm]
 have hdv:=Nat.gcd_dvd_left n d;have e3:sg b n / (Nat.gcd n d:Int)=sg b (n / Nat.gcd n d):=by
  obtain ⟨k,hk⟩:=hdv;have hk2:n / Nat.gcd n d=k:=by
   conv=>lhs;lhs;rw [hk]
   exact Nat.mul_div_cancel_left _ hg
  rw [hk2];have:sg b n=(Nat.gcd n d:Int)*sg b k:=by
   unfold sg;conv=>lhs;rw [hk]
   cases b
   ·simp
   ·simp [Int.mul_neg]
  rw [this];exact Int.mul_ediv_cancel_left _ Z
 have hq:n / Nat.gcd n d≠0:=by
  have:=Nat.div_gcd_pos_of_pos_left d (Nat.pos_of_ne_zero hn);omega
 unfold rep;rw [e1,e2,e3,pq,Ce hq]
theorem Cg (b:Bool) (d:Nat):rep (mkRat (sg b 0) d)=zR:=by
 have:sg b 0=0:=by cases b <;> rfl
 rw [this,Rat.zero_mkRat];rfl
def vq (x:Bool × Nat × Nat):Rat:=mkRat (sg x.1 x.2.1) x.2.2
def dU (a b:Bool × Nat × Nat):Bool × Nat × Nat:=
 if a.1=b.1 then (a.1,a.2.1*b.2.2+b.2.1*a.2.2,a.2.2*b.2.2)
 else if a.2.1*b.2.2 < b.2.1*a.2.2 then (b.1,b.2.1*a.2.2 - a.2.1*b.2.2,a.2.2*b.2.2)
 else (a.1,a.2.1*b.2.2 - b.2.1*a.2.2,a.2.2*b.2.2)
def rF (a b:Bool × Nat × Nat):Bool × Nat × Nat:=(a.1 != b.1,a.2.1*b.2.1,a.2.2*b.2.2)
theorem xE {a b:Bool × Nat × Nat} (ha:a.2.2≠0) (hb:b.2.2≠0):vq (dU a b)=vq a+vq b:=by
 obtain ⟨sa,na,da⟩:=a;obtain ⟨sb,nb,db⟩:=b;unfold vq;dsimp only at ha hb ⊢;rw [Rat.mkRat_add_mkRat _ _ ha hb];have e:sg (dU (sa,na,da) (sb,nb,db)).1 (dU (sa,na,da) (sb,nb,db)).2.1=sg sa na*db+sg sb nb*da∧(dU (sa,na,da) (sb,nb,db)).2.2=da*db:=by
  unfold dU;dsimp only;have p1:((na*db:Nat):Int)=(na:Int)*db:=by simp
  have p2:((nb*da:Nat):Int)=(nb:Int)*da:=by simp
  cases sa <;> cases sb <;> simp only [if_true,Bool.true_eq_false,Bool.false_eq_true,if_false]
  ·refine ⟨?_,trivial⟩;unfold sg;simp
  ·split
   ·refine ⟨?_,rfl⟩;unfold sg;simp [Int.neg_mul];omega
   ·refine ⟨?_,rfl⟩;unfold sg;simp [Int.neg_mul];omega
  ·split
   ·refine ⟨?_,rfl⟩;unfold sg;simp [Int.neg_mul];omega
   ·refine ⟨?_,rfl⟩;unfold sg;simp [Int.neg_mul];omega
  ·refine ⟨?_,trivial⟩;unfold sg;simp [Int.neg_mul];omega
 rw [e.1,e.2]
theorem yO (a b:Bool × Nat × Nat):vq (rF a b)=vq a*vq b:=by
 obtain ⟨sa,na,da⟩:=a;obtain ⟨sb,nb,db⟩:=b;unfold vq rF;dsimp only;rw [Rat.mkRat_mul_mkRat];congr 1
 unfold sg;cases sa <;> cases sb <;> simp [Int.neg_mul,Int.mul_neg]
def Ij (r:RR):Bool × Nat × Nat:=(r.neg,nv r.num,eJ r.den)
theorem jl (r:RR):vq (Ij r)=qv r:=rfl
theorem oG {r:RR} (hl:aC r) (h:aA r=0):(Ij r).2.2≠0:=by
 rw [show (Ij r).2.2=eJ r.den from rfl,← (eQ hl h).2.1];exact (qv r).den_nz
def bh (w:World) (v:Value) (r:RR):Prop:=∃ vn vd,v=.agg #[.bool r.neg,vn,vd]∧bj .u32 w vn r.num∧bj .u32 w vd r.den
def aV (w w':World) (v:Value) (r:RR):Prop:=∃ vn vd,v=.agg #[.bool r.neg,vn,vd]∧bM w w' vn r.num∧bM w w' vd r.den
theorem bh.ext {w w':World} {v:Value} {r:RR} (h:bh w v r) (e:Ext w w'):bh w' v r:=by
 obtain ⟨vn,vd,h1,h2,h3⟩:=h;exact ⟨vn,vd,h1,h2.ext e,h3.ext e⟩
theorem aV.rd {w w':World} {v:Value} {r:RR} (h:aV w w' v r):bh w' v r:=by
 obtain ⟨vn,vd,h1,h2,h3⟩:=h;exact ⟨vn,vd,h1,h2.rd,h3.rd⟩
theorem aV.from {w0 w w':World} {v:Value} {r:RR} (h:aV w w' v r) (x:Ext w0 w):aV w0 w' v r:=by
 obtain ⟨vn,vd,h1,h2,h3⟩:=h;exact ⟨vn,vd,h1,h2.from x,h3.from x⟩
theorem aV.ext {w w' w2:World} {v:Value} {r:RR} (h:aV w w' v r) (x:Ext w' w2):aV w w2 v r:=by
 obtain ⟨vn,vd,h1,h2,h3⟩:=h;exact ⟨vn,vd,h1,h2.ext x,h3.ext x⟩
theorem aV.zero (w w':World):aV w w' (.agg #[.bool false,.slice none 0 0,.slice none 0 0]) zR:=⟨_,_,rfl,bM.nil _ _,bM.nil _ _⟩
theorem az {w:World} {v:Value} {l:List Int} (h:bj .u32 w v l):∃ a c,v=.slice a l.length c:=by
 obtain ⟨a,c,rfl,_⟩:=jZ h;exact ⟨a,c,rfl⟩
theorem xF (va vb:Value) (la lb:List Int) (w:World) (ha:bj .u32 w va la) (hb:bj .u32 w vb lb) (hla:br la) (hlb:br lb) :
  Calls Tryz.prog 167 #[va,vb] w fun e w'=>(∃ v,e=.returned v∧bM w w' v (mulS la lb).1)∧Ext w w':=by
 have h:=l6 va vb la lb w ha hb hla hlb;obtain ⟨aa,ca,rfl⟩:=az ha;obtain ⟨ab,cb,rfl⟩:=az hb;have H:=kI h;clear h ha hb;go_enter Tryz.func167,Tryz.ntmps167
 go_wp2_with fail;refine H.o.mono ?_;rintro e w2 ⟨⟨v,rfl,n2⟩,hx2⟩;obtain ⟨a2,c2,rfl⟩:=n2.shape;have N2:=kI n2;have X2:=kI hx2;clear n2 hx2;go_wp2_with fail;go_ret;exact ⟨⟨_,rfl,N2.o⟩,X2.o⟩
theorem zW (va vb:Value) (la lb:List Int) (w:World) (ha:bj .u32 w va la) (hb:bj .u32 w vb lb) (hla:br la) (hlb:br lb) :
  Calls Tryz.prog 168 #[va,vb] w fun e w'=>(∃ v,e=.returned v∧bM w w' v (uB la lb).1)∧Ext w w':=by
 have h:=BF va vb la lb w ha hb hla hlb;obtain ⟨aa,ca,rfl⟩:=az ha;obtain ⟨ab,cb,rfl⟩:=az hb;have H:=kI h;clear h ha hb;go_enter Tryz.func168,Tryz.ntmps168
 go_wp2_with fail;refine H.o.mono ?_;rintro e w2 ⟨⟨v,rfl,n2⟩,hx2⟩;obtain ⟨a2,c2,rfl⟩:=n2.shape;have N2:=kI n2;have X2:=kI hx2;clear n2 hx2;go_wp2_with fail;go_ret;exact ⟨⟨_,rfl,N2.o⟩,X2.o⟩
theorem xG (va vb:Value) (la lb:List Int) (w:World) (ha:bj .u32 w va la) (hb:bj .u32 w vb lb) (hla:br la) (hlb:br lb) (za:cL la) (zb:cL lb) (sa:la.length≤512) (sb:lb.length≤512) :
  Calls Tryz.prog 169 #[va,vb] w fun e w'=>(∃ v,e=.returned (.tuple #[v,.bool (decide (nv la < nv lb))])∧bM w w' v (lim (if nv la < nv lb then nv lb - nv la else nv la - nv lb)))∧Ext w w':=by
 have HA:=kI ha;have HB:=kI hb;have hc:=fL sa za sb zb;have hc2:=fL sb zb sa za;have h1:=fun W h1 h2=>uD va vb la lb W h1 h2 hla hlb;have h2:=fun W h1 h2=>uD vb va lb la W h1 h2 hlb hla;obtain ⟨aa,ca,rfl⟩:=az ha;obtain ⟨ab,cb,rfl⟩:=az hb;clear ha hb;by_cases hlt:nv la < nv lb
 ·have e1:nW la lb=([],7):=by unfold nW;rw [fw hc,if_pos hlt]
  have e2:nW lb la=(lim (nv lb - nv la),0):=by unfold nW;rw [fw hc2,if_neg Z]
  rw [e1] at h1;rw [e2] at h2;rw [decide_eq_true hlt,if_pos hlt];have H1:=kI h1;have H2:=kI h2;clear h1 h2 e1 e2 hlt;go_enter Tryz.func169,Tryz.ntmps169
  go_wp2_with fail;refine (H1.o _ HA.o HB.o).mono ?_;rintro e w2 ⟨⟨v,rfl,n2⟩,hx2⟩;obtain ⟨a2,c2,rfl⟩:=n2.shape;have X2:=kI hx2;clear n2 hx2;go_wp2_with fail;refine (H2.o _ (HB.o.ext X2.o) (HA.o.ext X2.o)).mono ?_;rintro e w3 ⟨⟨v,rfl,n3⟩,hx3⟩;obtain ⟨a3,c3,rfl⟩:=n3.shape;have N3:=kI n3;have X3:=kI (X2.o.trans hx3);have X2':=X2;clear n3 hx3;go_wp2_with fail;go_ret2
  exact ⟨⟨_,rfl,N3.o.from X2.o⟩,X3.o⟩
 ·have e1:nW la lb=(lim (nv la - nv lb),0):=by unfold nW;rw [fw hc,if_neg hlt]
  rw [e1] at h1;rw [decide_eq_false hlt,if_neg hlt];have H1:=kI h1;clear h1 h2 e1 hlt;go_enter Tryz.func169,Tryz.ntmps169
  go_wp2_with fail;refine (H1.o _ HA.o HB.o).mono ?_;rintro e w2 ⟨⟨v,rfl,n2⟩,hx2⟩;obtain ⟨a2,c2,rfl⟩:=n2.shape;have N2:=kI n2;have X2:=kI hx2;clear n2 hx2;go_wp2_with fail;go_ret2
  exact ⟨⟨_,rfl,N2.o⟩,X2.o⟩
theorem eU (v:Value) (l:List Int) (w:World) (h:bj .u32 w v l) :
  Calls Tryz.prog 156 #[v] w fun e w'=>e=.returned (.bool (decide (l=[1])))∧Ext w w':=by
 obtain ⟨a,c,rfl,hc,hm,hr⟩:=jZ h;clear h;by_cases h1:l.length=1
 ·obtain ⟨x,rfl⟩:=List.length_eq_one_iff.1 h1;obtain ⟨b,off,rfl,hb,hx⟩:=hr 0 cp;have hx':w.cell? ⟨b,off,none⟩=some (.int .u32 x):=hx;have e:decide ([x]=[1])=(x == 1):=by
   by_cases h:x=1 <;> simp [h]
  rw [e];clear hr hx h1 e;go_enter Tryz.func156,Tryz.ntmps156
  go_wp2_with fail;all_goals
   go_ret;exact ⟨cT (by simp_all),eX⟩
 ·have e:decide (l=[1])=false:=decide_eq_false (by rintro rfl;exact h1 rfl);rw [e];have h1':((l.length:Int) == 1)=false:=by simpa using (by omega:¬ (l.length:Int)=1)
  clear hr e;go_enter Tryz.func156,Tryz.ntmps156
  go_wp2_with fail;go_ret;exact ⟨rfl,eX⟩
def dl (l:List Int):List Int:=if l=[] then [1] else l
theorem Ch (l:List Int):nv (dl l)=eJ l:=by unfold dl eJ;split <;> rfl
theorem I7 {l:List Int} (h:br l):br (dl l):=by
 unfold dl;split
 ·intro x hx;rw [List.mem_singleton.1 hx];omega
 ·exact h
theorem I8 {l:List Int} (h:cL l):cL (dl l):=by
 unfold dl;split
 ·simp [cL]
 ·exact h
theorem I9 {l:List Int} {k:Nat} (h:l.length≤k) (hk:1≤k):(dl l).length≤k:=by
 unfold dl;split
 ·exact hk
 ·exact h
def sW (w:World) (v:Value) (b:Bool) (ln ld:List Int):Prop:=∃ vn vd,v=.agg #[vn,vd,.bool b]∧bj .u32 w vn ln∧bj .u32 w vd ld
theorem oH (v:Value) (r:RR) (w:World) (h:bh w v r) :
  Calls Tryz.prog 122 #[v] w fun e w'=>(∃ v',e=.returned v'∧sW w' v' r.neg r.num (dl r.den))∧Ext w w':=by
 obtain ⟨vn,vd,rfl,hn,hd⟩:=h;obtain ⟨an,cn,rfl⟩:=az hn;obtain ⟨ad,cd,rfl⟩:=az hd;have HN:=kI hn;have HD:=kI hd;clear hn hd;obtain ⟨b,ln,ld⟩:=r;dsimp only at *;by_cases h0:ld=[]
 ·subst h0;go_enter Tryz.func122,Tryz.ntmps122
  go_wp2_with fail;refine bodyPost_ret (v:=.agg #[.slice an ln.length cn,.slice (some ⟨w.heap.size+1+1+1,0,none⟩) 1 1,.bool b]) (by simp only [results,Tryz.results122];go_simp) rfl ⟨⟨_,rfl,_,_,rfl,HN.o.ext eX,?_⟩,eX⟩;have h1:=Ft ((((w.alloc (.cells #[.bool b,.slice an ln.length cn,.slice ad 0 cd] 25)).alloc (.cells #[.slice an ln.length cn,.slice (some ⟨w.heap.size+1+1+1,0,none⟩) 1 1,.bool b] 134)).alloc (.cells #[.slice an ln.length cn,.slice (some ⟨w.heap.size+1+1+1,0,none⟩) 1 1,.bool b] 134))) [1] cp;simp only [World.size_alloc] at h1;exact h1
 ·have hl:¬ ld.length=0:=fun e=>h0 (List.length_eq_zero_iff.1 e);have e:dl ld=ld:=by unfold dl;rw [if_neg h0]
  rw [e];have hl':((ld.length:Int) == 0)=false:=by simpa using hl
  clear h0 e;go_enter Tryz.func122,Tryz.ntmps122
  go_wp2_with fail;exact bodyPost_ret (v:=.agg #[.slice an ln.length cn,.slice ad ld.length cd,.bool b]) (by simp only [results,Tryz.results122];go_simp) rfl ⟨⟨_,rfl,_,_,rfl,HN.o.ext eX,HD.o.ext eX⟩,eX⟩
theorem bZ.cE {A:World} {B:Nat} {v:Value} {l:List Int} (h:bZ A B v l) {bx:Nat} {c:Array Value} {t:TypeId} (hb:ag A bx c t) (ht:t≠157) (o:Nat) (u:Value):bZ (A.setCell ⟨bx,o,none⟩ u) B v l:=by
 obtain ⟨q,h1,h2⟩:=h;refine ⟨q,?_,h2⟩;rcases h1 with h|⟨g,cap,ho,hv,hr⟩
 ·exact .inl h
 ·refine .inr ⟨g,cap,ho,hv,hr.setOther ?_ u⟩;intro e;obtain ⟨cur,h3,_⟩:=hr.blk;have e2:g=bx:=by first|exact e|exact Eq.symm e
  rw [e2] at h3;unfold ag at hb h3;rw [hb] at h3;injection h3 with h3
  injection h3 with _ h4
  exact ht h4
theorem dB {A:World} {v:Value} {l:List Int} (h:bj .u32 A v l) {bx:Nat} {c:Array Value} {t:TypeId} (hb:ag A bx c t) (ht:∀ x ∈ c,∀ n,x≠.int .u32 n) (o:Nat) (u:Value):bj .u32 (A.setCell ⟨bx,o,none⟩ u) v l:=by
 obtain ⟨a,cap,rfl,h1,h2,h3⟩:=jZ h;refine no.to (p:=fun _=>True) ⟨a,cap,rfl,h1,h2,fun i hi=>?_⟩;obtain ⟨b,off,e1,e2,e3⟩:=h3 i hi;have hne:b≠bx:=by
  intro e;rw [e,hb.cell] at e3;exact ht _ (Array.mem_of_getElem? e3) _ rfl
 refine ⟨b,off,e1,trivial,by simpa [World.setCell] using e2,?_⟩;rw [← e3];exact World.cell?_of_block (Below.heap_setCell _ _ _ _ hne)
def S3 (b:Nat) (x y z:Value) (t:TypeId) (W:World):Prop:=ag W b #[x,y,z] t∧W.cell? ⟨b,0,none⟩=some x∧W.cell? ⟨b,1,none⟩=some y∧W.cell? ⟨b,2,none⟩=some z
theorem ag.s3 {b:Nat} {x y z:Value} {t:TypeId} {W:World} (h:ag W b #[x,y,z] t):ag W b #[x,y,z] t∧W.cell? ⟨b,0,none⟩=some x∧W.cell? ⟨b,1,none⟩=some y∧W.cell? ⟨b,2,none⟩=some z:=
 ⟨h,by simpa using h.cell 0,by simpa using h.cell 1,by simpa using h.cell 2⟩
theorem yP (v:Value) (b:Bool) (ln ld:List Int) (w:World) (h:sW w v b ln ld) (hn:br ln) (hd:br ld) (zn:cL ln) (zd:cL ld) (sn:ln.length≤512) (sd:ld.length≤512) (h0:nv ld≠0) :
  Calls Tryz.prog 166 #[v] w fun e w'=>(∃ v',e=.returned v'∧aV w w' v' (rep (mkRat (sg b (nv ln)) (nv ld))))∧Ext w w':=by
 obtain ⟨vn,vd,rfl,hrn,hrd⟩:=h;obtain ⟨an,cn,rfl⟩:=az hrn;obtain ⟨ad,cd,rfl⟩:=az hrd;have HN:=kI hrn;have HD:=kI hrd;have LN:=kI hn;have LD:=kI hd;have ZN:=kI zn;have ZD:=kI zd;clear hrn hrd hn hd zn zd;by_cases hz:nv ln=0
 ·have hl:ln.length=0:=(ct LN.o ZN.o).1 hz;have e:rep (mkRat (sg b (nv ln)) (nv ld))=zR:=by rw [hz];exact Cg _ _
  rw [e];clear e hz;go_enter Tryz.func166,Tryz.ntmps166
  go_wp2_with fail;exact bodyPost_ret (v:=.agg #[.bool false,.slice none 0 0,.slice none 0 0]) EV rfl ⟨⟨_,rfl,aV.zero _ _⟩,eX⟩
 ·have hl:¬ ln.length=0:=fun e=>hz ((ct LN.o ZN.o).2 e);have e:=uN b hz h0;rw [e];clear e;obtain ⟨g,hg⟩:=gN (Nat.gcd (nv ln) (nv ld));have WM:g≠0:=by rw [hg];exact Nat.ne_of_gt (Nat.gcd_pos_of_pos_left _ (Nat.pos_of_ne_zero hz))
  have hgl:g≤nv ln:=by rw [hg];exact Nat.gcd_le_left _ (Nat.pos_of_ne_zero hz)
  have hg5:(lim g).length≤512:=Nat.le_trans (aL.2 (Nat.lt_of_le_of_lt hgl (bX LN.o))) sn;have hgs:xD ln ld=(lim g,0):=by unfold xD;rw [fw (fL sn ZN.o sd ZD.o),hg]
  rw [← hg];have hl':((ln.length:Int) == 0)=false:=by simpa using hl
  have S8:=kI hgs;clear hg hgs;obtain ⟨RS,hRS⟩:=gN (RR.mk b (lim (nv ln / g)) (if nv ld / g=1 then [] else lim (nv ld / g)));rw [← hRS];have uq:=kI hRS;clear hRS;have b0:=(ag.new w #[.slice an ln.length cn,.slice ad ld.length cd,.bool b] 134).alloc (.cells #[.bool false,.slice none 0 0,.slice none 0 0] 25);have b1:=ag.new (w.alloc (.cells #[.slice an ln.length cn,.slice ad ld.length cd,.bool b] 134)) #[.bool false,.slice none 0 0,.slice none 0 0] 25;rw [World.size_alloc] at b1;have x0:Ext w ((w.alloc (.cells #[.slice an ln.length cn,.slice ad ld.length cd,.bool b] 134)).alloc (.cells #[.bool false,.slice none 0 0,.slice none 0 0] 25)):=((Ext.refl w).alloc _).alloc _;have B0:=kI b0;have B1:=kI b1;have X0:=kI x0;clear b0 b1 x0;go_enter Tryz.func166,Tryz.ntmps166
  go_wp2_with fail;refine (yK _ _ ln ld _ (HN.o.ext X0.o) (HD.o.ext X0.o) LN.o LD.o).mono ?_;rw [S8.o];rintro e w2 ⟨⟨v2,rfl,n2⟩,hx2⟩;obtain ⟨a2,c2,rfl⟩:=n2.shape;have N2:=kI n2.rd;have X2:=kI (X0.o.trans hx2);have WN:=kI (B0.o.ext hx2);have WO:=kI (B1.o.ext hx2);clear n2 hx2 B0 B1 X0;go_wp2_with fail;refine (eU _ (lim g) _ N2.o).mono ?_;by_cases hg1:g=1
  ·have e1:decide (lim g=[1])=true:=by rw [hg1];rfl
   have hrep:RR.mk b (lim (nv ln / g)) (if nv ld / g=1 then [] else lim (nv ld / g))=RR.mk b ln (if ld=[1] then [] else ld):=by
    rw [hg1,Nat.div_one,Nat.div_one,dx LN.o ZN.o,dx LD.o ZD.o];have:nv ld=1↔ld=[1]:=⟨fun e=>by rw [← dx LD.o ZD.o,e];rfl,fun e=>by rw [e];rfl⟩;simp only [this]
   rw [e1];have sX:=kI (uq.o.trans hrep);rintro e w3 ⟨rfl,hx3⟩;have X3:=kI (X2.o.trans hx3);have P0:=kI (WN.out.ext hx3);have P1:=kI (WO.out.ext hx3);clear hx3 e1 hrep;have c0:=P0.o.cell;have f0:=P0.o.free;have Nz:=kI (HN.o.ext X3.o);have Fy:=kI (HD.o.ext X3.o);go_wp2_with fail;have hmx:Tryz.prog.follows .mixedOrders=true:=ax
   have x3:=X3.o;have S9:=P0.o.lt;have Ta:=P1.o.lt;go_region_held3 (fun W=>ag W w.heap.size #[.slice an ln.length cn,.slice ad ld.length cd,.bool b] 134∧W.cell? ⟨w.heap.size,0,none⟩=some (.slice an ln.length cn)∧W.cell? ⟨w.heap.size,1,none⟩=some (.slice ad ld.length cd)∧W.cell? ⟨w.heap.size,2,none⟩=some (.bool b))
    ((refine ag.s3 ?_;(repeat (first|exact P0.o|exact k4|refine ag.setOther ?_ au _|refine ag.alloc ?_ _|refine ag.drew ?_))))
    (first|(go_at_call 177;refine (clone_any _ ln _ (Nz.o.ext eX) Z).mono ?_;rintro e w4 ⟨⟨v4,rfl,n4⟩,hx4⟩;obtain ⟨a4,c4,rfl⟩:=n4.shape;have N4:=kI n4;have z4:=hx4.size;have e4:Ext w3 w4:=Ext.trans eX hx4;have k4:=P0.o.ext e4;have qc:=fun h=>(hx4.cK (b:=w3.heap.size) h).1;have qf:=fun h=>(hx4.cK (b:=w3.heap.size) h).2;(try simp only [World.size_alloc,World.size_drew] at qc qf z4);clear n4))
   ·have B5:Hid (ag (w4.alloc (.cells #[.bool b,.slice a4 ln.length c4,.slice none 0 0] 25)) w4.heap.size #[.bool b,.slice a4 ln.length c4,.slice none 0 0] 25):=kI (ag.new _ _ _);have K5:=kI (k4.alloc (.cells #[.bool b,.slice a4 ln.length c4,.slice none 0 0] 25));have R5:=kI ((P1.o.ext e4).alloc (.cells #[.bool b,.slice a4 ln.length c4,.slice none 0 0] 25));have Y5:=kI (e4.alloc (.cells #[.bool b,.slice a4 ln.length c4,.slice none 0 0] 25));have X5:=kI ((x3.trans e4).alloc (.cells #[.bool b,.slice a4 ln.length c4,.slice none 0 0] 25));have V5:Hid (bZ (w4.alloc (.cells #[.bool b,.slice a4 ln.length c4,.slice none 0 0] 25)) (w.heap.size+1+1) (.slice a4 ln.length c4) ln):=kI ((bZ.mono N4.o (B':=w.heap.size+1+1) QS).ext ((Ext.refl w4).alloc (.cells #[.bool b,.slice a4 ln.length c4,.slice none 0 0] 25)));clear hx4 qc qf N4 k4;generalize hbx:w4.heap.size=bx at *
    generalize w4.alloc (.cells #[.bool b,.slice a4 ln.length c4,.slice none 0 0] 25)=w5 at *
    have b5:=B5.o.cell;have Ja:=B5.o.free;have Tb:=B5.o.lt;have r5:=R5.o.cell;have Jb:=R5.o.free;have Tc:=R5.o.lt;have k5:=K5.o.cell;have Td:=K5.o.lt;go_wp2_with fail;refine (eU _ ld w5 (Fy.o.ext Y5.o)).mono ?_;clear b5 Ja r5 Jb k5;by_cases hu:ld=[1]
    ·rw [decide_eq_true hu];have HU:=kI hu;clear hu;rintro e w6 ⟨rfl,hx6⟩;have B6:=B5.o.ext hx6;have R6:=R5.o.ext hx6;have X6:=kI (X5.o.trans hx6);have V6:=kI (V5.o.ext hx6);have b6:=B6.cell;have Te:=B6.free;have Jc:=B6.lt;have r6:=R6.cell;have Tf:=R6.free;have Jd:=R6.lt;clear hx6 B6 R6;go_wp2_with fail;exact bodyPost_ret (v:=.agg #[.bool b,.slice a4 ln.length c4,.slice none 0 0]) EV rfl ⟨⟨_,rfl,by rw [sX.o,if_pos HU.o];exact ⟨_,_,rfl,bZ.mono (((V6.o.aB au _).aB au _).aB au _) Z,bM.nil _ _⟩⟩,by have:=X6.o;exact eX⟩
    ·rw [decide_eq_false hu];have HU:=kI hu;rintro e w6 ⟨rfl,hx6⟩;have B6:=kI (B5.o.ext hx6);have K6:=(K5.o.ext hx6);have R6:=kI (R5.o.ext hx6);have X6:=kI (X5.o.trans hx6);have Y6:=kI (Y5.o.trans hx6);have V6:=kI (V5.o.ext hx6);have k6:=K6.cell;have Je:=K6.free;have Tg:=K6.lt;have Jc:=B6.o.lt;have Jd:=R6.o.lt;clear hx6 K6 hu;go_wp2_with fail;refine (clone_any _ ld w6 (Fy.o.ext Y6.o) Z).mono ?_;rintro e w7 ⟨⟨v7,rfl,n7⟩,hx7⟩;obtain ⟨a7,c7,rfl⟩:=n7.shape;have N7:Hid (bZ w7 w6.heap.size (.slice a7 ld.length c7) ld):=kI n7;have B7:=B6.o.ext hx7;have Jf:=kI B7;have R7:=R6.o.ext hx7;have X7:=kI (X6.o.trans hx7);have V7:=kI (V6.o.ext hx7);have b7:=B7.cell;have Th:=B7.free;have Ti:=B7.lt;have r7:=R7.cell;have Rl:=R7.free;have Rm:=R7.lt;clear hx7 B7 R7 k6 Je n7;go_wp2_with fail;refine bodyPost_ret (v:=.agg #[.bool b,.slice a4 ln.length c4,.slice a7 ld.length c7]) EV rfl ⟨⟨_,rfl,?_⟩,?_⟩
     ·rw [sX.o,if_neg HU.o];exact ⟨_,_,rfl,bZ.mono ((((V7.o.cE Jf.o ap _ _).aB au _).aB au _).aB au _) Z,
       bZ.mono ((((N7.o.aB au _).aB au _).aB au _).aB au _) Z⟩
     ·have:=X7.o;exact eX
   ·have B5:Hid (ag (((w4.setCell ⟨w3.heap.size,0,none⟩ (.bool b)).setCell ⟨w3.heap.size,1,none⟩ (.slice a4 ln.length c4)).setCell ⟨w3.heap.size,2,none⟩ (.slice none 0 0)) w3.heap.size #[.bool b,.slice a4 ln.length c4,.slice none 0 0] 25):=by
     have h1:=((ag.new w3 #[.bool false,.slice none 0 0,.slice none 0 0] 25).drew).ext hx4;have h2:=((h1.set 0 (.bool b)).set 1 (.slice a4 ln.length c4)).set 2 (.slice none 0 0);exact kI yB
    have K5:=kI (((k4.setOther (a:=⟨w3.heap.size,0,none⟩) au (.bool b)).setOther (a:=⟨w3.heap.size,1,none⟩) au (.slice a4 ln.length c4)).setOther (a:=⟨w3.heap.size,2,none⟩) au (.slice none 0 0));have R5:=kI ((((P1.o.ext e4).setOther (a:=⟨w3.heap.size,0,none⟩) au (.bool b)).setOther (a:=⟨w3.heap.size,1,none⟩) au (.slice a4 ln.length c4)).setOther (a:=⟨w3.heap.size,2,none⟩) au (.slice none 0 0));have Y5:=kI (((e4.set (p:=⟨w3.heap.size,0,none⟩) (Nat.le_refl _) (.bool b)).set (p:=⟨w3.heap.size,1,none⟩) (Nat.le_refl _) (.slice a4 ln.length c4)).set (p:=⟨w3.heap.size,2,none⟩) (Nat.le_refl _) (.slice none 0 0));have X5:=kI ((((x3.trans e4).set (p:=⟨w3.heap.size,0,none⟩) au (.bool b)).set (p:=⟨w3.heap.size,1,none⟩) au (.slice a4 ln.length c4)).set (p:=⟨w3.heap.size,2,none⟩) au (.slice none 0 0));have V5:=kI (((((bZ.mono N4.o (B':=w3.heap.size+1) QS).aB (p:=⟨w3.heap.size,0,none⟩) au (.bool b)).aB (p:=⟨w3.heap.size,1,none⟩) au (.slice a4 ln.length c4)).aB (p:=⟨w3.heap.size,2,none⟩) au (.slice none 0 0)).mono (B':=w.heap.size+1+1) Z);clear hx4 qc qf N4 k4;generalize ((w4.setCell ⟨w3.heap.size,0,none⟩ (.bool b)).setCell ⟨w3.heap.size,1,none⟩ (.slice a4 ln.length c4)).setCell ⟨w3.heap.size,2,none⟩ (.slice none 0 0)=w5 at *
    generalize hbx:w3.heap.size=bx at *
    have b5:=B5.o.cell;have Ja:=B5.o.free;have Tb:=B5.o.lt;have r5:=R5.o.cell;have Jb:=R5.o.free;have Tc:=R5.o.lt;have k5:=K5.o.cell;have Td:=K5.o.lt;go_wp2_with fail;refine (eU _ ld w5 (Fy.o.ext Y5.o)).mono ?_;clear b5 Ja r5 Jb k5;by_cases hu:ld=[1]
    ·rw [decide_eq_true hu];have HU:=kI hu;clear hu;rintro e w6 ⟨rfl,hx6⟩;have B6:=B5.o.ext hx6;have R6:=R5.o.ext hx6;have X6:=kI (X5.o.trans hx6);have V6:=kI (V5.o.ext hx6);have b6:=B6.cell;have Te:=B6.free;have Jc:=B6.lt;have r6:=R6.cell;have Tf:=R6.free;have Jd:=R6.lt;clear hx6 B6 R6;go_wp2_with fail;exact bodyPost_ret (v:=.agg #[.bool b,.slice a4 ln.length c4,.slice none 0 0]) EV rfl ⟨⟨_,rfl,by rw [sX.o,if_pos HU.o];exact ⟨_,_,rfl,bZ.mono (((V6.o.aB au _).aB au _).aB au _) Z,bM.nil _ _⟩⟩,by have:=X6.o;exact eX⟩
    ·rw [decide_eq_false hu];have HU:=kI hu;rintro e w6 ⟨rfl,hx6⟩;have B6:=kI (B5.o.ext hx6);have K6:=(K5.o.ext hx6);have R6:=kI (R5.o.ext hx6);have X6:=kI (X5.o.trans hx6);have Y6:=kI (Y5.o.trans hx6);have V6:=kI (V5.o.ext hx6);have k6:=K6.cell;have Je:=K6.free;have Tg:=K6.lt;have Jc:=B6.o.lt;have Jd:=R6.o.lt;clear hx6 K6 hu;go_wp2_with fail;refine (clone_any _ ld w6 (Fy.o.ext Y6.o) Z).mono ?_;rintro e w7 ⟨⟨v7,rfl,n7⟩,hx7⟩;obtain ⟨a7,c7,rfl⟩:=n7.shape;have N7:Hid (bZ w7 w6.heap.size (.slice a7 ld.length c7) ld):=kI n7;have B7:=B6.o.ext hx7;have Jf:=kI B7;have R7:=R6.o.ext hx7;have X7:=kI (X6.o.trans hx7);have V7:=kI (V6.o.ext hx7);have b7:=B7.cell;have Th:=B7.free;have Ti:=B7.lt;have r7:=R7.cell;have Rl:=R7.free;have Rm:=R7.lt;clear hx7 B7 R7 k6 Je n7;go_wp2_with fail;refine bodyPost_ret (v:=.agg #[.bool b,.slice a4 ln.length c4,.slice a7 ld.length c7]) EV rfl ⟨⟨_,rfl,?_⟩,?_⟩
     ·rw [sX.o,if_neg HU.o];exact ⟨_,_,rfl,bZ.mono ((((V7.o.cE Jf.o ap _ _).aB au _).aB au _).aB au _) Z,
       bZ.mono ((((N7.o.aB au _).aB au _).aB au _).aB au _) Z⟩
     ·have:=X7.o;exact eX
  ·have e1:decide (lim g=[1])=false:=decide_eq_false (fun e=>hg1 (by rw [← aG g,e];rfl));obtain ⟨l1,hl1⟩:=gN (lim (nv ln / g));obtain ⟨l2,hl2⟩:=gN (lim (nv ld / g));have hs1:l1.length≤512:=by rw [hl1];exact Nat.le_trans (aL.2 (Nat.lt_of_le_of_lt (Nat.div_le_self _ _) (bX LN.o))) sn
   have hs2:l2.length≤512:=by rw [hl2];exact Nat.le_trans (aL.2 (Nat.lt_of_le_of_lt (Nat.div_le_self _ _) (bX LD.o))) sd
   have hd1:pm ln (lim g)=(l1,lim (nv ln % g),0):=by rw [yL sn ZN.o hg5 (aX _) (by rw [aG];exact WM),aG,hl1]
   have hd2:pm ld (lim g)=(l2,lim (nv ld % g),0):=by rw [yL sd ZD.o hg5 (aX _) (by rw [aG];exact WM),aG,hl2]
   have hrep:RR.mk b (lim (nv ln / g)) (if nv ld / g=1 then [] else lim (nv ld / g))=RR.mk b l1 (if l2=[1] then [] else l2):=by
    have:nv ld / g=1↔l2=[1]:=⟨fun e=>by rw [hl2,e];rfl,fun e=>by rw [← aG (nv ld / g),← hl2,e];rfl⟩;rw [hl1,← hl2];simp only [this]
   have sX:=kI (uq.o.trans hrep);have HD1:=kI hd1;have HD2:=kI hd2;clear hrep hl1 hl2 hd1 hd2;rw [e1];rintro e wa ⟨rfl,hxa⟩;have XA:=kI (X2.o.trans hxa);have PA:=kI (WN.out.ext hxa);have WP:=kI (WO.out.ext hxa);have NA:=kI (N2.o.ext hxa);clear hxa e1;have c0:=PA.o.cell;have f0:=PA.o.free;have l0:=PA.o.lt;go_wp2_with fail;refine (pn _ _ ln (lim g) _ (HN.o.ext XA.o) NA.o LN.o (aR _)).mono ?_;rw [HD1.o];rintro e wb ⟨⟨vq,vr,rfl,nq,nr⟩,hxb⟩;obtain ⟨aq,cq,rfl⟩:=nq.shape;have hpb:=PA.o.ext hxb;have c1:=hpb.cell;have f1:=hpb.free;have NL:=hpb.lt;have NQ:Hid (bZ wb (w.heap.size+1+1) (.slice aq l1.length cq) l1):=kI (bZ.mono nq (by have:=WP.out.lt;omega));have XB:=kI (XA.o.trans hxb);have QB:=kI (WP.out.ext hxb);have NB:=kI (NA.o.ext hxb);have PB:=kI hpb;clear nq nr hxb hpb c0 f0 l0;go_wp2_with fail;have hpc:ag (wb.setCell ⟨w.heap.size,0,none⟩ (.slice aq l1.length cq)) w.heap.size #[.slice aq l1.length cq,.slice ad ld.length cd,.bool b] 134:=by
    have:=PB.o.set 0 (.slice aq l1.length cq);simpa using this
   have hqc:=QB.o.setOther (a:=⟨w.heap.size,0,none⟩) au (.slice aq l1.length cq);have hnc:bj .u32 (wb.setCell ⟨w.heap.size,0,none⟩ (.slice aq l1.length cq)) (.slice a2 (lim g).length c2) (lim g):=dB NB.o PB.o M6 0 _;have zX:=NQ.o.aB (p:=⟨w.heap.size,0,none⟩) au (.slice aq l1.length cq);have hxc:=XB.o.set (p:=⟨w.heap.size,0,none⟩) (Nat.le_refl _) (.slice aq l1.length cq);have PC:=kI hpc;have QC:=kI hqc;have NC:=kI hnc;have VC:=kI zX;have XC:=kI hxc;clear hpc hqc hnc zX hxc PB QB NB NQ XB c1 f1 NL;generalize wb.setCell ⟨w.heap.size,0,none⟩ (.slice aq l1.length cq)=wc at *
   have c0:=PC.o.cell;have f0:=PC.o.free;have l0:=PC.o.lt;go_wp2_with fail;refine (pn _ _ ld (lim g) _ (HD.o.ext XC.o) NC.o LD.o (aR _)).mono ?_;rw [HD2.o];rintro e wd ⟨⟨vq,vr,rfl,nq,nr⟩,hxd⟩;obtain ⟨ar,cr,rfl⟩:=nq.shape;have hpb:=PC.o.ext hxd;have c1:=hpb.cell;have f1:=hpb.free;have NL:=hpb.lt;have ND:Hid (bZ wd (w.heap.size+1+1) (.slice ar l2.length cr) l2):=kI (bZ.mono nq (by have:=QC.o.lt;omega));have XD:=kI (XC.o.trans hxd);have QD:=kI (QC.o.ext hxd);have VD:=kI (VC.o.ext hxd);have PD:=kI hpb;clear nq nr hxd hpb c0 f0 l0;go_wp2_with fail;have hpc:ag (wd.setCell ⟨w.heap.size,1,none⟩ (.slice ar l2.length cr)) w.heap.size #[.slice aq l1.length cq,.slice ar l2.length cr,.bool b] 134:=by
    have:=PD.o.set 1 (.slice ar l2.length cr);simpa using this
   have hqc:=QD.o.setOther (a:=⟨w.heap.size,1,none⟩) au (.slice ar l2.length cr);have hnc:=(ND.o.aB (p:=⟨w.heap.size,1,none⟩) au (.slice ar l2.length cr)).rd;have zX:=(VD.o.aB (p:=⟨w.heap.size,1,none⟩) au (.slice ar l2.length cr)).rd;have hxc:=XD.o.set (p:=⟨w.heap.size,1,none⟩) (Nat.le_refl _) (.slice ar l2.length cr);have P0:=kI hpc;have P1:=kI hqc;have Fy:=kI hnc;have Nz:=kI zX;have X3:=kI hxc;clear hpc hqc hnc zX hxc PD QD ND VD XD c1 f1 NL;generalize wd.setCell ⟨w.heap.size,1,none⟩ (.slice ar l2.length cr)=w3 at *
   have c0:=P0.o.cell;have f0:=P0.o.free;go_wp2_with fail;have hmx:Tryz.prog.follows .mixedOrders=true:=ax
   have x3:=X3.o;have S9:=P0.o.lt;have Ta:=P1.o.lt;go_region_held3 (fun W=>ag W w.heap.size #[.slice aq l1.length cq,.slice ar l2.length cr,.bool b] 134∧W.cell? ⟨w.heap.size,0,none⟩=some (.slice aq l1.length cq)∧W.cell? ⟨w.heap.size,1,none⟩=some (.slice ar l2.length cr)∧W.cell? ⟨w.heap.size,2,none⟩=some (.bool b))
    ((refine ag.s3 ?_;(repeat (first|exact P0.o|exact k4|refine ag.setOther ?_ au _|refine ag.alloc ?_ _|refine ag.drew ?_))))
    (first|(go_at_call 177;refine (clone_any _ l1 _ (Nz.o.ext eX) Z).mono ?_;rintro e w4 ⟨⟨v4,rfl,n4⟩,hx4⟩;obtain ⟨a4,c4,rfl⟩:=n4.shape;have N4:=kI n4;have z4:=hx4.size;have e4:Ext w3 w4:=Ext.trans eX hx4;have k4:=P0.o.ext e4;have qc:=fun h=>(hx4.cK (b:=w3.heap.size) h).1;have qf:=fun h=>(hx4.cK (b:=w3.heap.size) h).2;(try simp only [World.size_alloc,World.size_drew] at qc qf z4);clear n4))
   ·have B5:Hid (ag (w4.alloc (.cells #[.bool b,.slice a4 l1.length c4,.slice none 0 0] 25)) w4.heap.size #[.bool b,.slice a4 l1.length c4,.slice none 0 0] 25):=kI (ag.new _ _ _);have K5:=kI (k4.alloc (.cells #[.bool b,.slice a4 l1.length c4,.slice none 0 0] 25));have R5:=kI ((P1.o.ext e4).alloc (.cells #[.bool b,.slice a4 l1.length c4,.slice none 0 0] 25));have Y5:=kI (e4.alloc (.cells #[.bool b,.slice a4 l1.length c4,.slice none 0 0] 25));have X5:=kI ((x3.trans e4).alloc (.cells #[.bool b,.slice a4 l1.length c4,.slice none 0 0] 25));have V5:Hid (bZ (w4.alloc (.cells #[.bool b,.slice a4 l1.length c4,.slice none 0 0] 25)) (w.heap.size+1+1) (.slice a4 l1.length c4) l1):=kI ((bZ.mono N4.o (B':=w.heap.size+1+1) QS).ext ((Ext.refl w4).alloc (.cells #[.bool b,.slice a4 l1.length c4,.slice none 0 0] 25)));clear hx4 qc qf N4 k4;generalize hbx:w4.heap.size=bx at *
    generalize w4.alloc (.cells #[.bool b,.slice a4 l1.length c4,.slice none 0 0] 25)=w5 at *
    have b5:=B5.o.cell;have Ja:=B5.o.free;have Tb:=B5.o.lt;have r5:=R5.o.cell;have Jb:=R5.o.free;have Tc:=R5.o.lt;have k5:=K5.o.cell;have Td:=K5.o.lt;go_wp2_with fail;refine (eU _ l2 w5 (Fy.o.ext Y5.o)).mono ?_;clear b5 Ja r5 Jb k5;by_cases hu:l2=[1]
    ·rw [decide_eq_true hu];have HU:=kI hu;clear hu;rintro e w6 ⟨rfl,hx6⟩;have B6:=B5.o.ext hx6;have R6:=R5.o.ext hx6;have X6:=kI (X5.o.trans hx6);have V6:=kI (V5.o.ext hx6);have b6:=B6.cell;have Te:=B6.free;have Jc:=B6.lt;have r6:=R6.cell;have Tf:=R6.free;have Jd:=R6.lt;clear hx6 B6 R6;go_wp2_with fail;exact bodyPost_ret (v:=.agg #[.bool b,.slice a4 l1.length c4,.slice none 0 0]) EV rfl ⟨⟨_,rfl,by rw [sX.o,if_pos HU.o];exact ⟨_,_,rfl,bZ.mono (((V6.o.aB au _).aB au _).aB au _) Z,bM.nil _ _⟩⟩,by have:=X6.o;exact eX⟩
    ·rw [decide_eq_false hu];have HU:=kI hu;rintro e w6 ⟨rfl,hx6⟩;have B6:=kI (B5.o.ext hx6);have K6:=(K5.o.ext hx6);have R6:=kI (R5.o.ext hx6);have X6:=kI (X5.o.trans hx6);have Y6:=kI (Y5.o.trans hx6);have V6:=kI (V5.o.ext hx6);have k6:=K6.cell;have Je:=K6.free;have Tg:=K6.lt;have Jc:=B6.o.lt;have Jd:=R6.o.lt;clear hx6 K6 hu;go_wp2_with fail;refine (clone_any _ l2 w6 (Fy.o.ext Y6.o) Z).mono ?_;rintro e w7 ⟨⟨v7,rfl,n7⟩,hx7⟩;obtain ⟨a7,c7,rfl⟩:=n7.shape;have N7:Hid (bZ w7 w6.heap.size (.slice a7 l2.length c7) l2):=kI n7;have B7:=B6.o.ext hx7;have Jf:=kI B7;have R7:=R6.o.ext hx7;have X7:=kI (X6.o.trans hx7);have V7:=kI (V6.o.ext hx7);have b7:=B7.cell;have Th:=B7.free;have Ti:=B7.lt;have r7:=R7.cell;have Rl:=R7.free;have Rm:=R7.lt;clear hx7 B7 R7 k6 Je n7;go_wp2_with fail;refine bodyPost_ret (v:=.agg #[.bool b,.slice a4 l1.length c4,.slice a7 l2.length c7]) EV rfl ⟨⟨_,rfl,?_⟩,?_⟩
     ·rw [sX.o,if_neg HU.o];exact ⟨_,_,rfl,bZ.mono ((((V7.o.cE Jf.o ap _ _).aB au _).aB au _).aB au _) Z,
       bZ.mono ((((N7.o.aB au _).aB au _).aB au _).aB au _) Z⟩
     ·have:=X7.o;exact eX
   ·have B5:Hid (ag (((w4.setCell ⟨w3.heap.size,0,none⟩ (.bool b)).setCell ⟨w3.heap.size,1,none⟩ (.slice a4 l1.length c4)).setCell ⟨w3.heap.size,2,none⟩ (.slice none 0 0)) w3.heap.size #[.bool b,.slice a4 l1.length c4,.slice none 0 0] 25):=by
     have h1:=((ag.new w3 #[.bool false,.slice none 0 0,.slice none 0 0] 25).drew).ext hx4;have h2:=((h1.set 0 (.bool b)).set 1 (.slice a4 l1.length c4)).set 2 (.slice none 0 0);exact kI yB
    have K5:=kI (((k4.setOther (a:=⟨w3.heap.size,0,none⟩) au (.bool b)).setOther (a:=⟨w3.heap.size,1,none⟩) au (.slice a4 l1.length c4)).setOther (a:=⟨w3.heap.size,2,none⟩) au (.slice none 0 0));have R5:=kI ((((P1.o.ext e4).setOther (a:=⟨w3.heap.size,0,none⟩) au (.bool b)).setOther (a:=⟨w3.heap.size,1,none⟩) au (.slice a4 l1.length c4)).setOther (a:=⟨w3.heap.size,2,none⟩) au (.slice none 0 0));have Y5:=kI (((e4.set (p:=⟨w3.heap.size,0,none⟩) (Nat.le_refl _) (.bool b)).set (p:=⟨w3.heap.size,1,none⟩) (Nat.le_refl _) (.slice a4 l1.length c4)).set (p:=⟨w3.heap.size,2,none⟩) (Nat.le_refl _) (.slice none 0 0));have X5:=kI ((((x3.trans e4).set (p:=⟨w3.heap.size,0,none⟩) au (.bool b)).set (p:=⟨w3.heap.size,1,none⟩) au (.slice a4 l1.length c4)).set (p:=⟨w3.heap.size,2,none⟩) au (.slice none 0 0));have V5:=kI (((((bZ.mono N4.o (B':=w3.heap.size+1) QS).aB (p:=⟨w3.heap.size,0,none⟩) au (.bool b)).aB (p:=⟨w3.heap.size,1,none⟩) au (.slice a4 l1.length c4)).aB (p:=⟨w3.heap.size,2,none⟩) au (.slice none 0 0)).mono (B':=w.heap.size+1+1) Z);clear hx4 qc qf N4 k4;generalize ((w4.setCell ⟨w3.heap.size,0,none⟩ (.bool b)).setCell ⟨w3.heap.size,1,none⟩ (.slice a4 l1.length c4)).setCell ⟨w3.heap.size,2,none⟩ (.slice none 0 0)=w5 at *
    generalize hbx:w3.heap.size=bx at *
    have b5:=B5.o.cell;have Ja:=B5.o.free;have Tb:=B5.o.lt;have r5:=R5.o.cell;have Jb:=R5.o.free;have Tc:=R5.o.lt;have k5:=K5.o.cell;have Td:=K5.o.lt;go_wp2_with fail;refine (eU _ l2 w5 (Fy.o.ext Y5.o)).mono ?_;clear b5 Ja r5 Jb k5;by_cases hu:l2=[1]
    ·rw [decide_eq_true hu];have HU:=kI hu;clear hu;rintro e w6 ⟨rfl,hx6⟩;have B6:=B5.o.ext hx6;have R6:=R5.o.ext hx6;have X6:=kI (X5.o.trans hx6);have V6:=kI (V5.o.ext hx6);have b6:=B6.cell;have Te:=B6.free;have Jc:=B6.lt;have r6:=R6.cell;have Tf:=R6.free;have Jd:=R6.lt;clear hx6 B6 R6;go_wp2_with fail;exact bodyPost_ret (v:=.agg #[.bool b,.slice a4 l1.length c4,.slice none 0 0]) EV rfl ⟨⟨_,rfl,by rw [sX.o,if_pos HU.o];exact ⟨_,_,rfl,bZ.mono (((V6.o.aB au _).aB au _).aB au _) Z,bM.nil _ _⟩⟩,by have:=X6.o;exact eX⟩
    ·rw [decide_eq_false hu];have HU:=kI hu;rintro e w6 ⟨rfl,hx6⟩;have B6:=kI (B5.o.ext hx6);have K6:=(K5.o.ext hx6);have R6:=kI (R5.o.ext hx6);have X6:=kI (X5.o.trans hx6);have Y6:=kI (Y5.o.trans hx6);have V6:=kI (V5.o.ext hx6);have k6:=K6.cell;have Je:=K6.free;have Tg:=K6.lt;have Jc:=B6.o.lt;have Jd:=R6.o.lt;clear hx6 K6 hu;go_wp2_with fail;refine (clone_any _ l2 w6 (Fy.o.ext Y6.o) Z).mono ?_;rintro e w7 ⟨⟨v7,rfl,n7⟩,hx7⟩;obtain ⟨a7,c7,rfl⟩:=n7.shape;have N7:Hid (bZ w7 w6.heap.size (.slice a7 l2.length c7) l2):=kI n7;have B7:=B6.o.ext hx7;have Jf:=kI B7;have R7:=R6.o.ext hx7;have X7:=kI (X6.o.trans hx7);have V7:=kI (V6.o.ext hx7);have b7:=B7.cell;have Th:=B7.free;have Ti:=B7.lt;have r7:=R7.cell;have Rl:=R7.free;have Rm:=R7.lt;clear hx7 B7 R7 k6 Je n7;go_wp2_with fail;refine bodyPost_ret (v:=.agg #[.bool b,.slice a4 l1.length c4,.slice a7 l2.length c7]) EV rfl ⟨⟨_,rfl,?_⟩,?_⟩
     ·rw [sX.o,if_neg HU.o];exact ⟨_,_,rfl,bZ.mono ((((V7.o.cE Jf.o ap _ _).aB au _).aB au _).aB au _) Z,
       bZ.mono ((((N7.o.aB au _).aB au _).aB au _).aB au _) Z⟩
     ·have:=X7.o;exact eX
theorem nG {l:List Int} (h:dT l=0):cL l:=(pg h).2
theorem ee (v:Value) (r:RR) (w:World) (h:bh w v r) (hl:aC r) :
  Calls Tryz.prog 111 #[v] w fun e w'=>e=.returned (.int .i64 (aA r))∧Ext w w':=by
 obtain ⟨vn,vd,rfl,hn,hd⟩:=h;obtain ⟨an,cn,rfl⟩:=az hn;obtain ⟨ad,cd,rfl⟩:=az hd;obtain ⟨b,ln,ld⟩:=r;obtain ⟨hl1,hl2⟩:=hl;dsimp only at hl1 hl2 hn hd ⊢;have HN:=kI hn;have HD:=kI hd;have L1:=kI hl1;have L2:=kI hl2;clear hn hd hl1 hl2;have hb0:=ag.new w #[.bool b,.slice an ln.length cn,.slice ad ld.length cd] 25;have HB:=kI hb0;have HX:=kI ((Ext.refl w).alloc (.cells #[.bool b,.slice an ln.length cn,.slice ad ld.length cd] 25));clear hb0;by_cases h1:128 < ln.length∨128 < ld.length
 ·have e:aA ⟨b,ln,ld⟩=4:=by unfold aA;rw [if_pos h1]
  have E:=kI e;clear e;by_cases h2:128 < ln.length
  ·have q1:(128:Int) < (ln.length:Int):=Z
   go_enter Tryz.func111,Tryz.ntmps111
   go_wp2_with fail;go_ret;exact ⟨by rw [E.o];rfl,eX⟩
  ·have q1:¬ (128:Int) < (ln.length:Int):=Z
   have q2:(128:Int) < (ld.length:Int):=Z
   go_enter Tryz.func111,Tryz.ntmps111
   go_wp2_with fail;go_ret;exact ⟨by rw [E.o];rfl,eX⟩
 ·have q1:¬ (128:Int) < (ln.length:Int):=Z
  have q2:¬ (128:Int) < (ld.length:Int):=Z
  have s1:ln.length≤128:=Z
  have s2:ld.length≤128:=Z
  by_cases hc:dT ln=0
  ·have hc1:=fun W h=>eO (.slice an ln.length cn) ln W h;rw [hc] at hc1;have C1:=kI hc1;clear hc1;by_cases hd0:dT ld=0
   ·have hc2:=fun W h=>eO (.slice ad ld.length cd) ld W h;rw [hd0] at hc2;have C2:=kI hc2;clear hc2;obtain ⟨E,hE⟩:=gN (aA ⟨b,ln,ld⟩);rw [← hE];have HE:=kI hE;have HC:=kI hc;have WQ:=kI hd0;have H1:=kI h1;clear hE hc hd0 h1;go_enter Tryz.func111,Tryz.ntmps111
    go_wp2_with fail;refine (C1.o _ (HN.o.ext HX.o)).mono ?_;rintro e w1 ⟨rfl,hx1⟩;have B1:=kI (HB.o.ext hx1);have X1:=kI (HX.o.trans hx1);clear hx1;have k1:=B1.o.cell;have f1:=B1.o.free;have l1:=B1.o.lt;go_wp2_with fail;refine (C2.o _ (HD.o.ext X1.o)).mono ?_;rintro e w2 ⟨rfl,hx2⟩;have B2:=kI (B1.o.ext hx2);have X2:=kI (X1.o.trans hx2);clear hx2 k1 f1 l1 B1 X1;have k2:=B2.o.cell;have f2:=B2.o.free;have l2:=B2.o.lt;go_wp2_with fail;refine (eU _ ld _ (HD.o.ext X2.o)).mono ?_;rintro e w3 ⟨rfl,hx3⟩;have B3:=kI (B2.o.ext hx3);have X3:=kI (X2.o.trans hx3);clear hx3 k2 f2 l2 B2 X2;have k3:=B3.o.cell;have f3:=B3.o.free;have l3:=B3.o.lt;by_cases hu:ld=[1]
    ·rw [decide_eq_true hu];have HU:=kI hu;clear hu;go_wp2_with fail;go_ret;refine ⟨?_,X3.o⟩;rw [HE.o];unfold aA;rw [if_neg H1.o,if_pos (.inr (.inr (.inl HU.o)))];rfl
    ·rw [decide_eq_false hu];have HU:=kI hu;clear hu;by_cases hz:ln.length=0
     ·have hz':((ln.length:Int) == 0)=true:=by simpa using hz
      have hz2:ln=[]:=List.length_eq_zero_iff.1 hz;cases b
      ·by_cases hdz:ld.length=0
       ·have NO:ld=[]:=List.length_eq_zero_iff.1 hdz;have q3:¬ (0:Int) < (ld.length:Int):=Z
        have HZ:=kI hz2;have ZE:=kI NO;clear hz2 NO;go_wp2_with fail;go_ret;refine ⟨?_,X3.o⟩;rw [HE.o,HZ.o,ZE.o];rfl
       ·have q3:(0:Int) < (ld.length:Int):=Z
        have HZ:=kI hz2;clear hz2;go_wp2_with fail;go_ret;refine ⟨?_,X3.o⟩;rw [HE.o];unfold aA;rw [if_neg H1.o,if_pos (.inr (.inr (.inr ⟨HZ.o,.inr (fun e=>hdz (by rw [show ld=[] from e];rfl))⟩)))];rfl
      ·have HZ:=kI hz2;clear hz2;go_wp2_with fail;go_ret;refine ⟨?_,X3.o⟩;rw [HE.o];unfold aA;rw [if_neg H1.o,if_pos (.inr (.inr (.inr ⟨HZ.o,.inl rfl⟩)))];rfl
     ·have hz':((ln.length:Int) == 0)=false:=by simpa using hz
      have h2:¬ (dT ln≠0∨dT ld≠0∨ld=[1]∨(ln=[]∧(b=true∨ld≠[]))):=by
       rintro (h|h|h|⟨h,_⟩)
       ·exact h HC.o
       ·exact h WQ.o
       ·exact HU.o h
       ·exact hz (by rw [h];rfl)
      have H2:=kI h2;clear h2;by_cases hdz:ld.length=0
      ·have q3:¬ (0:Int) < (ld.length:Int):=Z
       go_wp2_with fail;go_ret;refine ⟨?_,X3.o⟩;rw [HE.o];unfold aA;rw [if_neg H1.o,if_neg H2.o,if_neg (fun h=>h.1 (List.length_eq_zero_iff.1 hdz))];rfl
      ·have q3:(0:Int) < (ld.length:Int):=Z
       obtain ⟨g,hg⟩:=gN (Nat.gcd (nv ln) (nv ld));have hgs:xD ln ld=(lim g,0):=by unfold xD;rw [fw (fL Z (nG HC.o) Z (nG WQ.o)),hg]
       have HG:=kI hg;have S8:=kI hgs;clear hg hgs;go_wp2_with fail;refine (yK _ _ ln ld _ (HN.o.ext X3.o) (HD.o.ext X3.o) L1.o L2.o).mono ?_;rw [S8.o];rintro e w4 ⟨⟨v4,rfl,n4⟩,hx4⟩;obtain ⟨a4,c4,rfl⟩:=n4.shape;have N4:=kI n4.rd;have X4:=kI (X3.o.trans hx4);clear n4 hx4;go_wp2_with fail;refine (eU _ (lim g) _ N4.o).mono ?_;rintro e w5 ⟨rfl,hx5⟩;have X5:=kI (X4.o.trans hx5);clear hx5;by_cases hg1:g=1
       ·have e1:decide (lim g=[1])=true:=by rw [hg1];rfl
        rw [e1];go_wp2_with fail;go_ret;refine ⟨?_,X5.o⟩;rw [HE.o];unfold aA;rw [if_neg H1.o,if_neg H2.o,if_neg (fun h=>h.2 (HG.o.symm.trans hg1))];rfl
       ·have e1:decide (lim g=[1])=false:=decide_eq_false (fun e=>hg1 (by rw [← aG g,e];rfl));rw [e1];go_wp2_with fail;go_ret;refine ⟨?_,X5.o⟩;rw [HE.o];unfold aA;rw [if_neg H1.o,if_neg H2.o,if_pos ⟨fun e=>hdz (by rw [show ld=[] from e];rfl),fun e=>hg1 (HG.o.trans e)⟩];rfl
   ·have e:aA ⟨b,ln,ld⟩=2:=by unfold aA;rw [if_neg h1,if_pos (.inr (.inl hd0))]
    obtain ⟨cc,hcc⟩:=gN (dT ld);have hc2:=fun W h=>eO (.slice ad ld.length cd) ld W h;rw [← hcc] at hc2 hd0;have hcb:(cc != 0)=true:=by simpa using hd0
    have C2:=kI hc2;have E:=kI e;clear hc2 e hcc h1;go_enter Tryz.func111,Tryz.ntmps111
    go_wp2_with fail;refine (C1.o _ (HN.o.ext HX.o)).mono ?_;rintro e w1 ⟨rfl,hx1⟩;have B1:=kI (HB.o.ext hx1);have X1:=kI (HX.o.trans hx1);clear hx1;have k1:=B1.o.cell;have f1:=B1.o.free;have l1:=B1.o.lt;go_wp2_with fail;refine (C2.o _ (HD.o.ext X1.o)).mono ?_;rintro e w2 ⟨rfl,hx2⟩;have X2:=kI (X1.o.trans hx2);clear hx2;go_wp2_with fail;go_ret;exact ⟨by rw [E.o];rfl,X2.o⟩
  ·have e:aA ⟨b,ln,ld⟩=2:=by unfold aA;rw [if_neg h1,if_pos (.inl hc)]
   obtain ⟨cc,hcc⟩:=gN (dT ln);have hc2:=fun W h=>eO (.slice an ln.length cn) ln W h;rw [← hcc] at hc2 hc;have hcb:(cc != 0)=true:=by simpa using hc
   have C2:=kI hc2;have E:=kI e;clear hc2 e hcc h1;go_enter Tryz.func111,Tryz.ntmps111
   go_wp2_with fail;refine (C2.o _ (HN.o.ext HX.o)).mono ?_;rintro e w2 ⟨rfl,hx2⟩;have B1:=kI (HB.o.ext hx2);have X2:=kI (HX.o.trans hx2);clear hx2;have k1:=B1.o.cell;have f1:=B1.o.free;have l1:=B1.o.lt;go_wp2_with fail;go_ret;exact ⟨by rw [E.o];rfl,X2.o⟩
theorem zY {la lb:List Int} (ha:br la) (hb:br lb) (za:cL la) (zb:cL lb) (h:la.length+lb.length≤512):mulS la lb=(lim (nv la*nv lb),0):=by
 refine oF Z za Z zb (gM (k:=la.length+lb.length) ?_ h);rw [Nat.pow_add];exact Nat.mul_lt_mul'' (bX ha) (bX hb)
theorem jm {w:World} {va vb:Value} {la lb:List Int} (ha:bj .u32 w va la) (hb:bj .u32 w vb lb) (hla:br la) (hlb:br lb) (za:cL la) (zb:cL lb) (h:la.length+lb.length≤512) :
  ∀ W,Ext w W→Calls Tryz.prog 167 #[va,vb] W fun e w'=>(∃ v,e=.returned v∧bM W w' v (lim (nv la*nv lb)))∧Ext W w':=fun W x=>by
 have:=xF va vb la lb W (ha.ext x) (hb.ext x) hla hlb;rwa [zY hla hlb za zb h] at this
theorem yQ {la lb:List Int} (ha:br la) (hb:br lb):(lim (nv la*nv lb)).length≤la.length+lb.length:=by
 refine aL.2 ?_;rw [Nat.pow_add];exact Nat.mul_lt_mul'' (bX ha) (bX hb)
theorem zZ {P Q k:Nat} (hP:(lim P).length≤k) (hQ:(lim Q).length≤k) (hk:k+1≤512):uB (lim P) (lim Q)=(lim (P+Q),0):=by
 rw [Fu Z (aX _) Z (aX _) (by rw [aG,aG];exact gM (xk k k k (Nat.le_refl _) (Nat.le_refl _) (aL.1 hP) (aL.1 hQ)) hk),aG,aG]
theorem bZ.cM {A:World} {B:Nat} {v:Value} {l:List Int} (h:bZ A B v l) {bx:Nat} {c:Array Value} {t:TypeId} (hb:ag A bx c t) (ht:t≠157) (x y z:Value) :
  bZ (((A.setCell ⟨bx,0,none⟩ x).setCell ⟨bx,1,none⟩ y).setCell ⟨bx,2,none⟩ z) B v l:=
 ((h.cE hb ht 0 x).cE (hb.set 0 x) ht 1 y).cE ((hb.set 0 x).set 1 y) ht 2 z
theorem mf (va vb:Value) (s1 s2:Bool) (l1 l2 l3 l4:List Int) (w:World) (ha:sW w va s1 l1 l2) (hb:sW w vb s2 l3 l4) (h1:br l1) (h2:br l2) (h3:br l3) (h4:br l4) (z1:cL l1) (z2:cL l2) (z3:cL l3) (z4:cL l4)
  (t1:l1.length≤200) (t2:l2.length≤200) (t3:l3.length≤200) (t4:l4.length≤200) :
  Calls Tryz.prog 120 #[va,vb] w fun e w'=>(∃ v',e=.returned v'∧sW w' v' (s1 != s2) (lim (nv l1*nv l3)) (lim (nv l2*nv l4)))∧Ext w w':=by
 obtain ⟨vn,vd,rfl,hrn,hrd⟩:=ha;obtain ⟨a1,c1,rfl⟩:=az hrn;obtain ⟨a2,c2,rfl⟩:=az hrd;obtain ⟨vn,vd,rfl,lg,hZ⟩:=hb;obtain ⟨a3,c3,rfl⟩:=az lg;obtain ⟨a4,c4,rfl⟩:=az hZ;have Aa:=kI (jm hrn lg h1 h3 z1 z3 Z);have HC2:=kI (jm hrd hZ h2 h4 z2 z4 Z);clear hrn hrd lg hZ h1 h2 h3 h4 z1 z2 z3 z4;obtain ⟨P,hP⟩:=gN (nv l1*nv l3);obtain ⟨D,hD⟩:=gN (nv l2*nv l4);rw [← hP] at Aa ⊢;rw [← hD] at HC2 ⊢;clear hP hD;have b0:=((ag.new w #[.slice a1 l1.length c1,.slice a2 l2.length c2,.bool s1] 134).alloc (.cells #[.slice a3 l3.length c3,.slice a4 l4.length c4,.bool s2] 134)).alloc (.cells #[.slice none 0 0,.slice none 0 0,.bool false] 134);have b1:=(ag.new (w.alloc (.cells #[.slice a1 l1.length c1,.slice a2 l2.length c2,.bool s1] 134)) #[.slice a3 l3.length c3,.slice a4 l4.length c4,.bool s2] 134).alloc (.cells #[.slice none 0 0,.slice none 0 0,.bool false] 134);have b2:=ag.new ((w.alloc (.cells #[.slice a1 l1.length c1,.slice a2 l2.length c2,.bool s1] 134)).alloc (.cells #[.slice a3 l3.length c3,.slice a4 l4.length c4,.bool s2] 134)) #[.slice none 0 0,.slice none 0 0,.bool false] 134;rw [World.size_alloc] at b1;rw [World.size_alloc,World.size_alloc] at b2;have x0:Ext w (((w.alloc (.cells #[.slice a1 l1.length c1,.slice a2 l2.length c2,.bool s1] 134)).alloc (.cells #[.slice a3 l3.length c3,.slice a4 l4.length c4,.bool s2] 134)).alloc (.cells #[.slice none 0 0,.slice none 0 0,.bool false] 134)):=(((Ext.refl w).alloc _).alloc _).alloc _;have A0:=kI b0;have A1:=kI b1;have A2:=kI b2;have X0:=kI x0;clear b0 b1 b2;go_enter Tryz.func120,Tryz.ntmps120
 go_wp2_with fail;have hmx:Tryz.prog.follows .mixedOrders=true:=ax
 go_region_held3 (fun W=>(ag W w.heap.size #[.slice a1 l1.length c1,.slice a2 l2.length c2,.bool s1] 134∧W.cell? ⟨w.heap.size,0,none⟩=some (.slice a1 l1.length c1)∧W.cell? ⟨w.heap.size,1,none⟩=some (.slice a2 l2.length c2)∧W.cell? ⟨w.heap.size,2,none⟩=some (.bool s1))∧(ag W (w.heap.size+1) #[.slice a3 l3.length c3,.slice a4 l4.length c4,.bool s2] 134∧W.cell? ⟨w.heap.size+1,0,none⟩=some (.slice a3 l3.length c3)∧W.cell? ⟨w.heap.size+1,1,none⟩=some (.slice a4 l4.length c4)∧W.cell? ⟨w.heap.size+1,2,none⟩=some (.bool s2)))
  ((refine ⟨ag.s3 ?_,ag.s3 ?_⟩ <;> (repeat (first|exact A0.o|exact A1.o|exact k5|exact k6|exact k7|exact k8|refine ag.setOther ?_ au _|refine ag.alloc ?_ _|refine ag.drew ?_))))
  (first|(go_at_call_of 167 (Value.slice a1 l1.length c1);refine (Aa.o _ eX).mono ?_;rintro e W5 ⟨⟨v5,rfl,n5⟩,hx5⟩;obtain ⟨p5,q5,rfl⟩:=n5.shape;have N5:=kI n5;have z5:=hx5.size;have k5:=A0.o.ext (Ext.trans eX hx5);have k6:=A1.o.ext (Ext.trans eX hx5);have r5:=A2.o.ext (Ext.trans eX hx5);have x5:=Ext.trans x0 (Ext.trans eX hx5);clear n5)|(go_at_call_of 167 (Value.slice a2 l2.length c2);refine (HC2.o _ eX).mono ?_;rintro e W7 ⟨⟨v7,rfl,n7⟩,hx7⟩;obtain ⟨p7,q7,rfl⟩:=n7.shape;have N7:=kI n7;have z7:=hx7.size;have k7:=k5.ext hx7;have k8:=k6.ext hx7;have r7:=(r5.ext hx7).cell;have Rl:=(r5.ext hx7).free;have Rm:=(r5.ext hx7).lt;have R7:=kI (r5.ext hx7);have M5:=kI (N5.o.ext hx7);have x7:=x5.trans hx7;clear n7 hx7))
 go_wp2_with fail;refine bodyPost_ret (v:=.agg #[.slice p5 (lim P).length q5,.slice p7 (lim D).length q7,.bool (s1 != s2)]) (by simp only [results,Tryz.results120];go_simp;first|done|(cases s1 <;> cases s2 <;> rfl)) rfl ⟨⟨_,rfl,_,_,rfl,?_,?_⟩,?_⟩
 ·exact (bZ.cM M5.o R7.o ap _ _ _).rd
 ·exact (bZ.cM N7.o R7.o ap _ _ _).rd
 ·exact eX
theorem pr (va vb:Value) (s1 s2:Bool) (l1 l2 l3 l4:List Int) (w:World) (ha:sW w va s1 l1 l2) (hb:sW w vb s2 l3 l4) (h1:br l1) (h2:br l2) (h3:br l3) (h4:br l4) (z1:cL l1) (z2:cL l2) (z3:cL l3) (z4:cL l4)
  (t1:l1.length≤200) (t2:l2.length≤200) (t3:l3.length≤200) (t4:l4.length≤200) :
  Calls Tryz.prog 119 #[va,vb] w fun e w'=>(∃ v',e=.returned v'∧sW w' v' (dU (s1,nv l1,nv l2) (s2,nv l3,nv l4)).1 (lim (dU (s1,nv l1,nv l2) (s2,nv l3,nv l4)).2.1) (lim (dU (s1,nv l1,nv l2) (s2,nv l3,nv l4)).2.2))∧Ext w w':=by
 obtain ⟨vn,vd,rfl,hrn,hrd⟩:=ha;obtain ⟨a1,c1,rfl⟩:=az hrn;obtain ⟨a2,c2,rfl⟩:=az hrd;obtain ⟨vn,vd,rfl,lg,hZ⟩:=hb;obtain ⟨a3,c3,rfl⟩:=az lg;obtain ⟨a4,c4,rfl⟩:=az hZ;have Aa:=kI (jm hrn hZ h1 h4 z1 z4 Z);have HC2:=kI (jm lg hrd h3 h2 z3 z2 Z);have Rn:=kI (jm hrd hZ h2 h4 z2 z4 Z);have k14:=yQ h1 h4;have k32:=yQ h3 h2;clear hrn hrd lg hZ h1 h2 h3 h4 z1 z2 z3 z4;obtain ⟨T,hT⟩:=gN (dU (s1,nv l1,nv l2) (s2,nv l3,nv l4));rw [← hT];unfold dU at hT;dsimp only at hT;obtain ⟨P,hP⟩:=gN (nv l1*nv l4);obtain ⟨Q,hQ⟩:=gN (nv l3*nv l2);obtain ⟨D,hD⟩:=gN (nv l2*nv l4);rw [← hP] at Aa hT k14;rw [← hQ] at HC2 hT k32;rw [← hD] at Rn hT;have HT:=kI hT;clear hP hQ hD hT;have sP:(lim P).length≤400:=Z
 have sQ:(lim Q).length≤400:=Z
 have hpl:=fun W va vb h1 h2=>zW va vb (lim P) (lim Q) W h1 h2 (aR _) (aR _);rw [zZ (k:=400) sP sQ Z] at hpl;have Tj:=fun W va vb h1 h2=>xG va vb (lim P) (lim Q) W h1 h2 (aR _) (aR _) (aX _) (aX _) Z Z;rw [aG,aG] at Tj;have nH:=kI hpl;have WR:=kI Tj;clear hpl Tj k14 k32;have b0:=((ag.new w #[.slice a1 l1.length c1,.slice a2 l2.length c2,.bool s1] 134).alloc (.cells #[.slice a3 l3.length c3,.slice a4 l4.length c4,.bool s2] 134)).alloc (.cells #[.slice none 0 0,.slice none 0 0,.bool false] 134);have b1:=(ag.new (w.alloc (.cells #[.slice a1 l1.length c1,.slice a2 l2.length c2,.bool s1] 134)) #[.slice a3 l3.length c3,.slice a4 l4.length c4,.bool s2] 134).alloc (.cells #[.slice none 0 0,.slice none 0 0,.bool false] 134);have b2:=ag.new ((w.alloc (.cells #[.slice a1 l1.length c1,.slice a2 l2.length c2,.bool s1] 134)).alloc (.cells #[.slice a3 l3.length c3,.slice a4 l4.length c4,.bool s2] 134)) #[.slice none 0 0,.slice none 0 0,.bool false] 134;rw [World.size_alloc] at b1;rw [World.size_alloc,World.size_alloc] at b2;have x0:Ext w (((w.alloc (.cells #[.slice a1 l1.length c1,.slice a2 l2.length c2,.bool s1] 134)).alloc (.cells #[.slice a3 l3.length c3,.slice a4 l4.length c4,.bool s2] 134)).alloc (.cells #[.slice none 0 0,.slice none 0 0,.bool false] 134)):=(((Ext.refl w).alloc _).alloc _).alloc _;have A0:=kI b0;have A1:=kI b1;have A2:=kI b2;have X0:=kI x0;clear b0 b1 b2;go_enter Tryz.func119,Tryz.ntmps119
 go_wp2_with fail;have hmx:Tryz.prog.follows .mixedOrders=true:=ax
 go_region_held3 (fun W=>(ag W w.heap.size #[.slice a1 l1.length c1,.slice a2 l2.length c2,.bool s1] 134∧W.cell? ⟨w.heap.size,0,none⟩=some (.slice a1 l1.length c1)∧W.cell? ⟨w.heap.size,1,none⟩=some (.slice a2 l2.length c2)∧W.cell? ⟨w.heap.size,2,none⟩=some (.bool s1))∧(ag W (w.heap.size+1) #[.slice a3 l3.length c3,.slice a4 l4.length c4,.bool s2] 134∧W.cell? ⟨w.heap.size+1,0,none⟩=some (.slice a3 l3.length c3)∧W.cell? ⟨w.heap.size+1,1,none⟩=some (.slice a4 l4.length c4)∧W.cell? ⟨w.heap.size+1,2,none⟩=some (.bool s2)))
  ((refine ⟨ag.s3 ?_,ag.s3 ?_⟩ <;> (repeat (first|exact A0.o|exact A1.o|exact k5|exact k6|exact k7|exact k8|refine ag.setOther ?_ au _|refine ag.alloc ?_ _|refine ag.drew ?_))))
  (first|(go_at_call_of 167 (Value.slice a1 l1.length c1);refine (Aa.o _ eX).mono ?_;rintro e W5 ⟨⟨v5,rfl,n5⟩,hx5⟩;obtain ⟨p5,q5,rfl⟩:=n5.shape;have N5:=kI n5;have z5:=hx5.size;have k5:=A0.o.ext (Ext.trans eX hx5);have k6:=A1.o.ext (Ext.trans eX hx5);have r5:=A2.o.ext (Ext.trans eX hx5);have x5:=Ext.trans x0 (Ext.trans eX hx5);clear n5)|(go_at_call_of 167 (Value.slice a3 l3.length c3);refine (HC2.o _ eX).mono ?_;rintro e W7 ⟨⟨v7,rfl,n7⟩,hx7⟩;obtain ⟨p7,q7,rfl⟩:=n7.shape;have N7:=kI n7;have z7:=hx7.size;have k7:=k5.ext hx7;have k8:=k6.ext hx7;have r7:=r5.ext hx7;have M5:=kI ((N5.o.ext hx7).from (Ext.trans x0 eX));have M7:=kI (N7.o.from x5);have x7:=x5.trans hx7;clear n7 hx7))
 have K7:=kI k7;have K8:=kI k8;have R7:=kI r7;have X7:=kI x7;clear k5 k6 r5 x5 N5 N7 hx5 z5 z7 k7 k8 r7 A0 A1 A2 X0 x0;have lt7:=R7.o.lt;go_wp2_with fail;have x7:=X7.o;go_region_held3 (fun W=>(ag W w.heap.size #[.slice a1 l1.length c1,.slice a2 l2.length c2,.bool s1] 134∧W.cell? ⟨w.heap.size,0,none⟩=some (.slice a1 l1.length c1)∧W.cell? ⟨w.heap.size,1,none⟩=some (.slice a2 l2.length c2)∧W.cell? ⟨w.heap.size,2,none⟩=some (.bool s1))∧(ag W (w.heap.size+1) #[.slice a3 l3.length c3,.slice a4 l4.length c4,.bool s2] 134∧W.cell? ⟨w.heap.size+1,0,none⟩=some (.slice a3 l3.length c3)∧W.cell? ⟨w.heap.size+1,1,none⟩=some (.slice a4 l4.length c4)∧W.cell? ⟨w.heap.size+1,2,none⟩=some (.bool s2)))
  ((refine ⟨ag.s3 ?_,ag.s3 ?_⟩ <;> (repeat (first|exact K7.o|exact K8.o|exact k5|exact k6|refine ag.setOther ?_ au _|refine ag.alloc ?_ _|refine ag.drew ?_))))
  (first|(go_at_call_of 167 (Value.slice a2 l2.length c2);refine (Rn.o _ eX).mono ?_;rintro e W8 ⟨⟨v8,rfl,n8⟩,xH⟩;obtain ⟨p8,q8,rfl⟩:=n8.shape;have N8:=kI n8;have z8:=xH.size;have e8:Ext W7 W8:=Ext.trans eX xH;have k5:=K7.o.ext e8;have k6:=K8.o.ext e8;have qc:=fun h=>(xH.cK (b:=W7.heap.size) h).1;have qf:=fun h=>(xH.cK (b:=W7.heap.size) h).2;(try simp only [World.size_alloc,World.size_drew] at qc qf z8);clear n8))
 ·have B9:Hid (ag (W8.alloc (.cells #[.slice none 0 0,.slice p8 (lim D).length q8,.bool s1] 134)) W8.heap.size #[.slice none 0 0,.slice p8 (lim D).length q8,.bool s1] 134):=kI (ag.new _ _ _);have y9:Ext W8 (W8.alloc (.cells #[.slice none 0 0,.slice p8 (lim D).length q8,.bool s1] 134)):=(Ext.refl W8).alloc _;have D9:=kI ((N8.o.from (Ext.trans x7 eX)).ext y9);have lt8:=e8.size;have hbx0:w.heap.size+1+1 < W8.heap.size:=Z
  have NW:=kI ((M5.o.ext e8).ext y9);have NY:=kI ((M7.o.ext e8).ext y9);have K9:=kI ((K7.o.ext e8).ext y9);have J9:=kI ((K8.o.ext e8).ext y9);have R9:=kI ((R7.o.ext e8).ext y9);have X9:=kI ((x7.trans e8).trans y9);clear xH qc qf N8 k5 k6 y9 M5 M7 K7 K8 R7;generalize hbx:W8.heap.size=bx at *
  generalize W8.alloc (.cells #[.slice none 0 0,.slice p8 (lim D).length q8,.bool s1] 134)=w9 at *
  clear hbx;have b9:=B9.o.cell;have NZ:=B9.o.free;have ZF:=B9.o.lt;have r9:=R9.o.cell;have N0:=R9.o.free;have ZG:=R9.o.lt;have k9:=K9.o.cell;have ZH:=K9.o.lt;have j9:=J9.o.cell;have ZJ:=J9.o.lt;have hs9:s1=s2∨¬ s1=s2:=Classical.em _;rcases hs9 with hs|hs
  ·have hsb:(s1 == s2)=true:=by simpa using hs
   have HS:=kI hs;clear hs;go_wp2_with fail;refine (nH.o w9 _ _ NW.o.rd NY.o.rd).mono ?_;rintro e w10 ⟨⟨v10,rfl,n10⟩,dN⟩;obtain ⟨p10,q10,rfl⟩:=n10.shape;have rG:=kI (n10.from X9.o);have B10:=kI (B9.o.ext dN);have R10:=kI (R9.o.ext dN);have Fz:=kI (D9.o.ext dN);have FA:=kI (X9.o.trans dN);clear dN n10 b9 NZ r9 N0 k9 j9;have b10:=B10.o.cell;have Jg:=B10.o.free;have Jh:=B10.o.lt;have r10:=R10.o.cell;have Ji:=R10.o.free;have Jj:=R10.o.lt;go_wp2_with fail;refine bodyPost_ret (v:=.agg #[.slice p10 (lim (P+Q)).length q10,.slice p8 (lim D).length q8,.bool s1]) Md rfl ⟨⟨_,rfl,.slice p10 (lim (P+Q)).length q10,.slice p8 (lim D).length q8,?_,?_,?_⟩,?_⟩
   ·rw [HT.o,if_pos HS.o]
   ·rw [HT.o,if_pos HS.o];exact (bZ.cM (bZ.cE rG.o B10.o ap 0 _) (R10.o.setOther au _) ap _ _ _).rd
   ·rw [HT.o,if_pos HS.o];exact (bZ.cM (bZ.cE Fz.o B10.o ap 0 _) (R10.o.setOther au _) ap _ _ _).rd
   ·have:=FA.o;exact eX
  ·have hsb:(s1 == s2)=false:=by simpa using hs
   have HS:=kI hs;clear hs;go_wp2_with fail;refine (WR.o w9 _ _ NW.o.rd NY.o.rd).mono ?_;rintro e w10 ⟨⟨v10,rfl,n10⟩,dN⟩;obtain ⟨U,hU⟩:=gN (if P < Q then Q - P else P - Q);rw [← hU] at n10;obtain ⟨p10,q10,rfl⟩:=n10.shape;have N6:=kI hU;clear hU;have rG:=kI (n10.from X9.o);have B10:=kI (B9.o.ext dN);have R10:=kI (R9.o.ext dN);have Fz:=kI (D9.o.ext dN);have FA:=kI (X9.o.trans dN);have Oa:=kI (J9.o.ext dN);clear dN n10 b9 NZ r9 N0 k9 j9;have b10:=B10.o.cell;have Jg:=B10.o.free;have Jh:=B10.o.lt;have r10:=R10.o.cell;have Ji:=R10.o.free;have Jj:=R10.o.lt;have j10:=Oa.o.cell;have Tk:=Oa.o.lt;by_cases hlt:P < Q
   ·rw [decide_eq_true hlt];have fb:=kI hlt;clear hlt;go_wp2_with fail;refine bodyPost_ret (v:=.agg #[.slice p10 (lim U).length q10,.slice p8 (lim D).length q8,.bool s2]) Md rfl ⟨⟨_,rfl,.slice p10 (lim U).length q10,.slice p8 (lim D).length q8,?_,?_,?_⟩,?_⟩
    ·rw [HT.o,if_neg HS.o,if_pos fb.o]
    ·rw [HT.o,if_neg HS.o,if_pos fb.o,show Q - P=U by rw [N6.o,if_pos fb.o]];exact (bZ.cM (bZ.cE (bZ.cE rG.o B10.o ap 0 _) (B10.o.set 0 _) ap 2 _) ((R10.o.setOther au _).setOther au _) ap _ _ _).rd
    ·rw [HT.o,if_neg HS.o,if_pos fb.o];exact (bZ.cM (bZ.cE (bZ.cE Fz.o B10.o ap 0 _) (B10.o.set 0 _) ap 2 _) ((R10.o.setOther au _).setOther au _) ap _ _ _).rd
    ·have:=FA.o;exact eX
   ·rw [decide_eq_false hlt];have fb:=kI hlt;clear hlt;go_wp2_with fail;refine bodyPost_ret (v:=.agg #[.slice p10 (lim U).length q10,.slice p8 (lim D).length q8,.bool s1]) Md rfl ⟨⟨_,rfl,.slice p10 (lim U).length q10,.slice p8 (lim D).length q8,?_,?_,?_⟩,?_⟩
    ·rw [HT.o,if_neg HS.o,if_neg fb.o]
    ·rw [HT.o,if_neg HS.o,if_neg fb.o,show P - Q=U by rw [N6.o,if_neg fb.o]];exact (bZ.cM (bZ.cE rG.o B10.o ap 0 _) (R10.o.setOther au _) ap _ _ _).rd
    ·rw [HT.o,if_neg HS.o,if_neg fb.o];exact (bZ.cM (bZ.cE Fz.o B10.o ap 0 _) (R10.o.setOther au _) ap _ _ _).rd
    ·have:=FA.o;exact eX
 ·have h1:=((ag.new W7 #[.slice none 0 0,.slice none 0 0,.bool false] 134).drew).ext xH;have B9:Hid (ag (((W8.setCell ⟨W7.heap.size,0,none⟩ (.slice none 0 0)).setCell ⟨W7.heap.size,1,none⟩ (.slice p8 (lim D).length q8)).setCell ⟨W7.heap.size,2,none⟩ (.bool s1)) W7.heap.size #[.slice none 0 0,.slice p8 (lim D).length q8,.bool s1] 134):=by
   have h2:=((h1.set 0 (.slice none 0 0)).set 1 (.slice p8 (lim D).length q8)).set 2 (.bool s1);exact kI yB
  have D9:=kI (bZ.cM (N8.o.from (w0:=w) (Ext.trans x7 eX)) h1 ap (.slice none 0 0) (.slice p8 (lim D).length q8) (.bool s1));have hbx0:w.heap.size+1+1 < W7.heap.size:=lt7;have NW:=kI (bZ.cM (M5.o.ext e8) h1 ap (.slice none 0 0) (.slice p8 (lim D).length q8) (.bool s1));have NY:=kI (bZ.cM (M7.o.ext e8) h1 ap (.slice none 0 0) (.slice p8 (lim D).length q8) (.bool s1));have K9:=kI ((((K7.o.ext e8).setOther (a:=⟨W7.heap.size,0,none⟩) au (.slice none 0 0)).setOther (a:=⟨W7.heap.size,1,none⟩) au (.slice p8 (lim D).length q8)).setOther (a:=⟨W7.heap.size,2,none⟩) au (.bool s1));have J9:=kI ((((K8.o.ext e8).setOther (a:=⟨W7.heap.size,0,none⟩) au (.slice none 0 0)).setOther (a:=⟨W7.heap.size,1,none⟩) au (.slice p8 (lim D).length q8)).setOther (a:=⟨W7.heap.size,2,none⟩) au (.bool s1));have R9:=kI ((((R7.o.ext e8).setOther (a:=⟨W7.heap.size,0,none⟩) au (.slice none 0 0)).setOther (a:=⟨W7.heap.size,1,none⟩) au (.slice p8 (lim D).length q8)).setOther (a:=⟨W7.heap.size,2,none⟩) au (.bool s1));have X9:=kI ((((x7.trans e8).set (p:=⟨W7.heap.size,0,none⟩) au (.slice none 0 0)).set (p:=⟨W7.heap.size,1,none⟩) au (.slice p8 (lim D).length q8)).set (p:=⟨W7.heap.size,2,none⟩) au (.bool s1));clear xH qc qf N8 k5 k6 h1 M5 M7 K7 K8 R7;generalize ((W8.setCell ⟨W7.heap.size,0,none⟩ (.slice none 0 0)).setCell ⟨W7.heap.size,1,none⟩ (.slice p8 (lim D).length q8)).setCell ⟨W7.heap.size,2,none⟩ (.bool s1)=w9 at *
  generalize hbx:W7.heap.size=bx at *
  clear hbx;have b9:=B9.o.cell;have NZ:=B9.o.free;have ZF:=B9.o.lt;have r9:=R9.o.cell;have N0:=R9.o.free;have ZG:=R9.o.lt;have k9:=K9.o.cell;have ZH:=K9.o.lt;have j9:=J9.o.cell;have ZJ:=J9.o.lt;have hs9:s1=s2∨¬ s1=s2:=Classical.em _;rcases hs9 with hs|hs
  ·have hsb:(s1 == s2)=true:=by simpa using hs
   have HS:=kI hs;clear hs;go_wp2_with fail;refine (nH.o w9 _ _ NW.o.rd NY.o.rd).mono ?_;rintro e w10 ⟨⟨v10,rfl,n10⟩,dN⟩;obtain ⟨p10,q10,rfl⟩:=n10.shape;have rG:=kI (n10.from X9.o);have B10:=kI (B9.o.ext dN);have R10:=kI (R9.o.ext dN);have Fz:=kI (D9.o.ext dN);have FA:=kI (X9.o.trans dN);clear dN n10 b9 NZ r9 N0 k9 j9;have b10:=B10.o.cell;have Jg:=B10.o.free;have Jh:=B10.o.lt;have r10:=R10.o.cell;have Ji:=R10.o.free;have Jj:=R10.o.lt;go_wp2_with fail;refine bodyPost_ret (v:=.agg #[.slice p10 (lim (P+Q)).length q10,.slice p8 (lim D).length q8,.bool s1]) Md rfl ⟨⟨_,rfl,.slice p10 (lim (P+Q)).length q10,.slice p8 (lim D).length q8,?_,?_,?_⟩,?_⟩
   ·rw [HT.o,if_pos HS.o]
   ·rw [HT.o,if_pos HS.o];exact (bZ.cM (bZ.cE rG.o B10.o ap 0 _) (R10.o.setOther au _) ap _ _ _).rd
   ·rw [HT.o,if_pos HS.o];exact (bZ.cM (bZ.cE Fz.o B10.o ap 0 _) (R10.o.setOther au _) ap _ _ _).rd
   ·have:=FA.o;exact eX
  ·have hsb:(s1 == s2)=false:=by simpa using hs
   have HS:=kI hs;clear hs;go_wp2_with fail;refine (WR.o w9 _ _ NW.o.rd NY.o.rd).mono ?_;rintro e w10 ⟨⟨v10,rfl,n10⟩,dN⟩;obtain ⟨U,hU⟩:=gN (if P < Q then Q - P else P - Q);rw [← hU] at n10;obtain ⟨p10,q10,rfl⟩:=n10.shape;have N6:=kI hU;clear hU;have rG:=kI (n10.from X9.o);have B10:=kI (B9.o.ext dN);have R10:=kI (R9.o.ext dN);have Fz:=kI (D9.o.ext dN);have FA:=kI (X9.o.trans dN);have Oa:=kI (J9.o.ext dN);clear dN n10 b9 NZ r9 N0 k9 j9;have b10:=B10.o.cell;have Jg:=B10.o.free;have Jh:=B10.o.lt;have r10:=R10.o.cell;have Ji:=R10.o.free;have Jj:=R10.o.lt;have j10:=Oa.o.cell;have Tk:=Oa.o.lt;by_cases hlt:P < Q
   ·rw [decide_eq_true hlt];have fb:=kI hlt;clear hlt;go_wp2_with fail;refine bodyPost_ret (v:=.agg #[.slice p10 (lim U).length q10,.slice p8 (lim D).length q8,.bool s2]) Md rfl ⟨⟨_,rfl,.slice p10 (lim U).length q10,.slice p8 (lim D).length q8,?_,?_,?_⟩,?_⟩
    ·rw [HT.o,if_neg HS.o,if_pos fb.o]
    ·rw [HT.o,if_neg HS.o,if_pos fb.o,show Q - P=U by rw [N6.o,if_pos fb.o]];exact (bZ.cM (bZ.cE (bZ.cE rG.o B10.o ap 0 _) (B10.o.set 0 _) ap 2 _) ((R10.o.setOther au _).setOther au _) ap _ _ _).rd
    ·rw [HT.o,if_neg HS.o,if_pos fb.o];exact (bZ.cM (bZ.cE (bZ.cE Fz.o B10.o ap 0 _) (B10.o.set 0 _) ap 2 _) ((R10.o.setOther au _).setOther au _) ap _ _ _).rd
    ·have:=FA.o;exact eX
   ·rw [decide_eq_false hlt];have fb:=kI hlt;clear hlt;go_wp2_with fail;refine bodyPost_ret (v:=.agg #[.slice p10 (lim U).length q10,.slice p8 (lim D).length q8,.bool s1]) Md rfl ⟨⟨_,rfl,.slice p10 (lim U).length q10,.slice p8 (lim D).length q8,?_,?_,?_⟩,?_⟩
    ·rw [HT.o,if_neg HS.o,if_neg fb.o]
    ·rw [HT.o,if_neg HS.o,if_neg fb.o,show P - Q=U by rw [N6.o,if_neg fb.o]];exact (bZ.cM (bZ.cE rG.o B10.o ap 0 _) (R10.o.setOther au _) ap _ _ _).rd
    ·rw [HT.o,if_neg HS.o,if_neg fb.o];exact (bZ.cM (bZ.cE Fz.o B10.o ap 0 _) (R10.o.setOther au _) ap _ _ _).rd
    ·have:=FA.o;exact eX
theorem mg (k:Int) (n:Nat) (w:World) (hn:n < 18446744073709551616) (hk:k=n) :
  Calls Tryz.prog 159 #[.int .u64 k] w fun e w'=>(∃ v,e=.returned v∧bM w w' v (lim n))∧Ext w w':=by
 subst hk;exact BE n w hn
theorem iH (n:Int) (w:World) (h0 : -9223372036854775808≤n) (h1:n≤9223372036854775807) :
  Calls Tryz.prog 140 #[.int .i64 n] w fun e w'=>(∃ v,e=.returned v∧bM w w' v (lim n.natAbs))∧Ext w w':=by
 by_cases hn:n < 0
 ·have hf:=fun k hk W=>mg k n.natAbs W Z hk;have HF:=kI hf;obtain ⟨m,hm⟩:=gN (n.natAbs);rw [← hm] at HF ⊢;have hmn:(m:Int) = -n:=Z
  clear hf hm;go_enter Tryz.func140,Tryz.ntmps140
  go_wp2_with fail;refine (HF.o _ (by first|omega|(simp [IntKind.wrap,IntKind.signed,IntKind.bits];omega)) _).mono ?_;rintro e w1 ⟨⟨v,rfl,n1⟩,hx1⟩;obtain ⟨a1,c1,rfl⟩:=n1.shape;have N1:=kI n1;have X1:=kI hx1;clear n1 hx1;go_wp2_with fail;go_ret;exact ⟨⟨_,rfl,N1.o⟩,X1.o⟩
 ·have hf:=fun k hk W=>mg k n.natAbs W Z hk;have HF:=kI hf;obtain ⟨m,hm⟩:=gN (n.natAbs);rw [← hm] at HF ⊢;have hmn:(m:Int)=n:=Z
  clear hf hm;go_enter Tryz.func140,Tryz.ntmps140
  go_wp2_with fail;refine (HF.o _ Z _).mono ?_;rintro e w1 ⟨⟨v,rfl,n1⟩,hx1⟩;obtain ⟨a1,c1,rfl⟩:=n1.shape;have N1:=kI n1;have X1:=kI hx1;clear n1 hx1;go_wp2_with fail;go_ret;exact ⟨⟨_,rfl,N1.o⟩,X1.o⟩
theorem FB (n:Int):rep (n:Rat)=⟨decide (n < 0),lim n.natAbs,[]⟩:=by
 unfold rep;rw [Rat.num_intCast,Rat.den_intCast,if_pos rfl]
theorem eV (n:Int) (w:World) (h0 : -9223372036854775808≤n) (h1:n≤9223372036854775807) :
  Calls Tryz.prog 83 #[.int .i64 n] w fun e w'=>(∃ v,e=.returned v∧aV w w' v (rep (n:Rat)))∧Ext w w':=by
 rw [FB];have b0:=ag.new w #[.bool false,.slice none 0 0,.slice none 0 0] 25;have B0:=kI b0;have X0:=kI ((Ext.refl w).alloc (.cells #[.bool false,.slice none 0 0,.slice none 0 0] 25));clear b0;go_enter Tryz.func83,Tryz.ntmps83
 go_wp2_with fail;refine (iH n _ h0 h1).mono ?_;rintro e w1 ⟨⟨v,rfl,n1⟩,hx1⟩;obtain ⟨a1,c1,rfl⟩:=n1.shape;have N1:=kI (n1.from X0.o);have X1:=kI (X0.o.trans hx1);have B1:=kI (B0.o.ext hx1);clear n1 hx1;obtain ⟨L,hL⟩:=gN (lim n.natAbs);rw [← hL] at N1 ⊢;have HL:=kI hL;clear hL;have c0:=B1.o.cell;have f0:=B1.o.free;have l0:=B1.o.lt;go_wp2_with fail;refine bodyPost_ret (v:=.agg #[.bool (decide (n < 0)),.slice a1 L.length c1,.slice none 0 0]) (by simp only [results,Tryz.results83];go_simp) rfl ⟨⟨_,rfl,_,_,rfl,?_,bM.nil _ _⟩,?_⟩
 ·rw [← HL.o];exact bZ.cM N1.o B1.o ap _ _ _
 ·have:=X1.o;exact eX
def mV (p q:Int):RR × Int:=if q=0 then (zR,14) else (rep (mkRat (sg (decide (p < 0) != decide (q < 0)) p.natAbs) q.natAbs),0)
def bU (w w':World) (e:Ending) (r:RR × Int):Prop:=∃ v,e=.returned (.tuple #[v,.int .i64 r.2])∧aV w w' v r.1
theorem bU.mk {w w':World} {v:Value} {l:RR} {x:Int} {r:RR × Int} (h:aV w w' v l) (e:r=(l,x)):bU w w' (.returned (.tuple #[v,.int .i64 x])) r:=by subst e;exact ⟨v,rfl,h⟩
theorem aV.shape {w w':World} {v:Value} {r:RR} (h:aV w w' v r):∃ a c a2 c2,v=.agg #[.bool r.neg,.slice a r.num.length c,.slice a2 r.den.length c2]:=by
 obtain ⟨vn,vd,rfl,h1,h2⟩:=h;obtain ⟨a,c,rfl⟩:=h1.shape;obtain ⟨a2,c2,rfl⟩:=h2.shape;exact ⟨_,_,_,_,rfl⟩
theorem bh.shape {w:World} {v:Value} {r:RR} (h:bh w v r):∃ a c a2 c2,v=.agg #[.bool r.neg,.slice a r.num.length c,.slice a2 r.den.length c2]:=by
 obtain ⟨vn,vd,rfl,h1,h2⟩:=h;obtain ⟨a,c,rfl⟩:=az h1;obtain ⟨a2,c2,rfl⟩:=az h2;exact ⟨_,_,_,_,rfl⟩
theorem aV.cM {w A:World} {v:Value} {r:RR} (h:aV w A v r) {bx:Nat} {c:Array Value} {t:TypeId} (hb:ag A bx c t) (ht:t≠157) (x y z:Value) :
  aV w (((A.setCell ⟨bx,0,none⟩ x).setCell ⟨bx,1,none⟩ y).setCell ⟨bx,2,none⟩ z) v r:=by
 obtain ⟨vn,vd,rfl,h1,h2⟩:=h;exact ⟨_,_,rfl,bZ.cM h1 hb ht x y z,bZ.cM h2 hb ht x y z⟩
theorem nI {n:Nat} (h:n < 18446744073709551616):(lim n).length≤2:=aL.2 (Nat.lt_of_lt_of_le h ap)
theorem Ci (p q:Int) (w:World) (h0 : -9223372036854775808≤p) (h1:p≤9223372036854775807) (h2 : -9223372036854775808≤q) (h3:q≤9223372036854775807) :
  Calls Tryz.prog 143 #[.int .i64 p,.int .i64 q] w fun e w'=>bU w w' e (mV p q)∧Ext w w':=by
 have b0:=ag.new w #[.bool false,.slice none 0 0,.slice none 0 0] 25;have B0:=kI b0;have X0:=kI ((Ext.refl w).alloc (.cells #[.bool false,.slice none 0 0,.slice none 0 0] 25));clear b0;by_cases hq:q=0
 ·have e:mV p q=(zR,14):=by unfold mV;rw [if_pos hq]
  have E:=kI e;subst hq;clear e;go_enter Tryz.func143,Tryz.ntmps143
  go_wp2_with fail;exact bodyPost_ret (v:=.tuple #[.agg #[.bool false,.slice none 0 0,.slice none 0 0],.int .i64 14]) (by simp only [results,Tryz.results143];go_simp) rfl ⟨bU.mk (aV.zero _ _) E.o,eX⟩
 ·have e:mV p q=(rep (mkRat (sg (decide (p < 0) != decide (q < 0)) p.natAbs) q.natAbs),0):=by unfold mV;rw [if_neg hq]
  have hq':(q == 0)=false:=by simpa using hq
  have hnp:=fun W=>iH p W h0 h1;have hnq:=fun W=>iH q W h2 h3;have sp:=nI (n:=p.natAbs) Z;have sq:=nI (n:=q.natAbs) Z;have hz:q.natAbs≠0:=Z
  obtain ⟨P,hP⟩:=gN (p.natAbs);obtain ⟨Q,hQ⟩:=gN (q.natAbs);rw [← hP] at e hnp sp;rw [← hQ] at e hnq sq hz;obtain ⟨RS,hRS⟩:=gN (rep (mkRat (sg (decide (p < 0) != decide (q < 0)) P) Q));rw [← hRS] at e;have uq:=kI hRS;have E:=kI e;have Sv:=kI hnp;have ZK:=kI hnq;clear hP hQ hRS e hnp hnq hq;go_enter Tryz.func143,Tryz.ntmps143
  go_wp2_with fail;refine (Sv.o _).mono ?_;rintro e w1 ⟨⟨v,rfl,n1⟩,hx1⟩;obtain ⟨a1,c1,rfl⟩:=n1.shape;have N1:=kI n1.rd;have X1:=kI (X0.o.trans hx1);have B1:=kI (B0.o.ext hx1);clear n1 hx1;go_wp2_with fail;refine (ZK.o _).mono ?_;rintro e w2 ⟨⟨v,rfl,n2⟩,hx2⟩;obtain ⟨a2,c2,rfl⟩:=n2.shape;have N2:=kI n2.rd;have X2:=kI (X1.o.trans hx2);have B2:=kI (B1.o.ext hx2);have N1:=kI (N1.o.ext hx2);clear n2 hx2;go_wp2_with fail;have hlow:=yP (.agg #[.slice a1 (lim P).length c1,.slice a2 (lim Q).length c2,.bool (decide (p < 0) != decide (q < 0))]) (decide (p < 0) != decide (q < 0)) (lim P) (lim Q) w2 ⟨_,_,rfl,N1.o,N2.o⟩ (aR _) (aR _) (aX _) (aX _) Z Z (by rw [aG];exact hz);rw [aG,aG,← uq.o] at hlow;refine hlow.mono ?_;clear hlow;rintro e w3 ⟨⟨v,rfl,n3⟩,hx3⟩;obtain ⟨a3,c3,a4,c4,rfl⟩:=n3.shape;have N3:=kI (n3.from X2.o);have X3:=kI (X2.o.trans hx3);have B3:=kI (B2.o.ext hx3);clear n3 hx3;have c0:=B3.o.cell;have f0:=B3.o.free;have l0:=B3.o.lt;go_wp2_with fail;refine bodyPost_ret (v:=.tuple #[.agg #[.bool RS.neg,.slice a3 RS.num.length c3,.slice a4 RS.den.length c4],.int .i64 0]) (by simp only [results,Tryz.results143];go_simp) rfl ⟨bU.mk (aV.cM N3.o B3.o ap _ _ _) E.o,?_⟩;have:=X3.o;exact eX
theorem dq {A:World} {v:Value} {l:List Int} (h:bj .u32 A v l) {bx:Nat} {c:Array Value} {t:TypeId} (hb:ag A bx c t) (ht:∀ x ∈ c,∀ n,x≠.int .u32 n) (x y z:Value) (hx:∀ n,x≠.int .u32 n) (hy:∀ n,y≠.int .u32 n) :
  bj .u32 (((A.setCell ⟨bx,0,none⟩ x).setCell ⟨bx,1,none⟩ y).setCell ⟨bx,2,none⟩ z) v l:=by
 have hc1:∀ u ∈ c.setIfInBounds 0 x,∀ n,u≠.int .u32 n:=fun u hu=>by
  rcases Array.mem_or_eq_of_mem_setIfInBounds hu with hu|rfl
  ·exact ht u hu
  ·exact hx
 have hc2:∀ u ∈ (c.setIfInBounds 0 x).setIfInBounds 1 y,∀ n,u≠.int .u32 n:=fun u hu=>by
  rcases Array.mem_or_eq_of_mem_setIfInBounds hu with hu|rfl
  ·exact hc1 u hu
  ·exact hy
 exact dB (dB (dB h hb ht 0 x) (hb.set 0 x) hc1 1 y) ((hb.set 0 x).set 1 y) hc2 2 z
theorem Ac (va vb:Value) (s1 s2:Bool) (l1 l2 l3 l4:List Int) (w:World) (ha:sW w va s1 l1 l2) (hb:sW w vb s2 l3 l4) (h1:br l1) (h2:br l2) (h3:br l3) (h4:br l4) (z1:cL l1) (z2:cL l2) (z3:cL l3) (z4:cL l4)
  (t1:l1.length≤200) (t2:l2.length≤200) (t3:l3.length≤200) (t4:l4.length≤200) :
  Calls Tryz.prog 123 #[va,vb] w fun e w'=>(∃ v',e=.returned v'∧sW w' v' (dU (s1,nv l1,nv l2) (!s2,nv l3,nv l4)).1 (lim (dU (s1,nv l1,nv l2) (!s2,nv l3,nv l4)).2.1) (lim (dU (s1,nv l1,nv l2) (!s2,nv l3,nv l4)).2.2))∧Ext w w':=by
 obtain ⟨vn,vd,rfl,hrn,hrd⟩:=ha;obtain ⟨a1,c1,rfl⟩:=az hrn;obtain ⟨a2,c2,rfl⟩:=az hrd;obtain ⟨vn,vd,rfl,lg,hZ⟩:=hb;obtain ⟨a3,c3,rfl⟩:=az lg;obtain ⟨a4,c4,rfl⟩:=az hZ;have hs:=fun W (x:Ext w W)=>pr (.agg #[.slice a1 l1.length c1,.slice a2 l2.length c2,.bool s1]) (.agg #[.slice a3 l3.length c3,.slice a4 l4.length c4,.bool (!s2)]) s1 (!s2) l1 l2 l3 l4 W ⟨_,_,rfl,hrn.ext x,hrd.ext x⟩ ⟨_,_,rfl,lg.ext x,hZ.ext x⟩ h1 h2 h3 h4 z1 z2 z3 z4 t1 t2 t3 t4;obtain ⟨T,hT⟩:=gN (dU (s1,nv l1,nv l2) (!s2,nv l3,nv l4));rw [← hT] at hs ⊢;have HS:=kI hs;clear hs hT hrn hrd lg hZ h1 h2 h3 h4 z1 z2 z3 z4;have b2:=ag.new ((w.alloc (.cells #[.slice a1 l1.length c1,.slice a2 l2.length c2,.bool s1] 134)).alloc (.cells #[.slice a3 l3.length c3,.slice a4 l4.length c4,.bool (!s2)] 134)) #[.slice none 0 0,.slice none 0 0,.bool false] 134;rw [World.size_alloc,World.size_alloc] at b2;have B2:=kI b2;have X0:=kI (show Ext w (((w.alloc (.cells #[.slice a1 l1.length c1,.slice a2 l2.length c2,.bool s1] 134)).alloc (.cells #[.slice a3 l3.length c3,.slice a4 l4.length c4,.bool (!s2)] 134)).alloc (.cells #[.slice none 0 0,.slice none 0 0,.bool false] 134)) from (((Ext.refl w).alloc _).alloc _).alloc _);clear b2;go_enter Tryz.func123,Tryz.ntmps123
 go_wp2_with fail;refine (HS.o _ X0.o).mono ?_;rintro e w1 ⟨⟨v1,rfl,vn,vd,rfl,hn,hd⟩,hx1⟩;obtain ⟨a5,c5,rfl⟩:=az hn;obtain ⟨a6,c6,rfl⟩:=az hd;have B1:=kI (B2.o.ext hx1);have X1:=kI (X0.o.trans hx1);have HN:=kI hn;have HD:=kI hd;clear hx1 hn hd;have c0:=B1.o.cell;have f0:=B1.o.free;have l0:=B1.o.lt;obtain ⟨T1,T2,T3⟩:=T;dsimp only at *;go_wp2_with fail;refine bodyPost_ret (v:=.agg #[.slice a5 (lim T2).length c5,.slice a6 (lim T3).length c6,.bool T1]) (by simp only [results,Tryz.results123];go_simp) rfl ⟨⟨_,rfl,_,_,rfl,?_,?_⟩,by have:=X1.o;exact eX⟩
 ·exact dq HN.o B1.o M6 _ _ _ Id Id
 ·exact dq HD.o B1.o M6 _ _ _ Id Id
theorem Ad (va vb:Value) (s1 s2:Bool) (l1 l2 l3 l4:List Int) (w:World) (ha:sW w va s1 l1 l2) (hb:sW w vb s2 l3 l4) (h1:br l1) (h2:br l2) (h3:br l3) (h4:br l4) (z1:cL l1) (z2:cL l2) (z3:cL l3) (z4:cL l4)
  (t1:l1.length≤200) (t2:l2.length≤200) (t3:l3.length≤200) (t4:l4.length≤200) :
  Calls Tryz.prog 154 #[va,vb] w fun e w'=>(∃ v',e=.returned v'∧sW w' v' (s1 != s2) (lim (nv l1*nv l4)) (lim (nv l2*nv l3)))∧Ext w w':=by
 obtain ⟨vn,vd,rfl,hrn,hrd⟩:=ha;obtain ⟨a1,c1,rfl⟩:=az hrn;obtain ⟨a2,c2,rfl⟩:=az hrd;obtain ⟨vn,vd,rfl,lg,hZ⟩:=hb;obtain ⟨a3,c3,rfl⟩:=az lg;obtain ⟨a4,c4,rfl⟩:=az hZ;have hs:=fun W (x:Ext w W)=>mf (.agg #[.slice a1 l1.length c1,.slice a2 l2.length c2,.bool s1]) (.agg #[.slice a4 l4.length c4,.slice a3 l3.length c3,.bool s2]) s1 s2 l1 l2 l4 l3 W ⟨_,_,rfl,hrn.ext x,hrd.ext x⟩ ⟨_,_,rfl,hZ.ext x,lg.ext x⟩ h1 h2 h4 h3 z1 z2 z4 z3 t1 t2 t4 t3;obtain ⟨T2,hT2⟩:=gN (nv l1*nv l4);obtain ⟨T3,WS⟩:=gN (nv l2*nv l3);rw [← hT2,← WS] at hs ⊢;have HS:=kI hs;clear hs hT2 WS hrn hrd lg hZ h1 h2 h3 h4 z1 z2 z3 z4;have b2:=ag.new ((w.alloc (.cells #[.slice a1 l1.length c1,.slice a2 l2.length c2,.bool s1] 134)).alloc (.cells #[.slice a4 l4.length c4,.slice a3 l3.length c3,.bool s2] 134)) #[.slice none 0 0,.slice none 0 0,.bool false] 134;rw [World.size_alloc,World.size_alloc] at b2;have B2:=kI b2;have X0:=kI (show Ext w (((w.alloc (.cells #[.slice a1 l1.length c1,.slice a2 l2.length c2,.bool s1] 134)).alloc (.cells #[.slice a4 l4.length c4,.slice a3 l3.length c3,.bool s2] 134)).alloc (.cells #[.slice none 0 0,.slice none 0 0,.bool false] 134)) from (((Ext.refl w).alloc _).alloc _).alloc _);clear b2;go_enter Tryz.func154,Tryz.ntmps154
 go_wp2_with fail;refine (HS.o _ X0.o).mono ?_;rintro e w1 ⟨⟨v1,rfl,vn,vd,rfl,hn,hd⟩,hx1⟩;obtain ⟨a5,c5,rfl⟩:=az hn;obtain ⟨a6,c6,rfl⟩:=az hd;have B1:=kI (B2.o.ext hx1);have X1:=kI (X0.o.trans hx1);have HN:=kI hn;have HD:=kI hd;clear hx1 hn hd;have c0:=B1.o.cell;have f0:=B1.o.free;have l0:=B1.o.lt;go_wp2_with fail;refine bodyPost_ret (v:=.agg #[.slice a5 (lim T2).length c5,.slice a6 (lim T3).length c6,.bool (s1 != s2)]) (by simp only [results,Tryz.results154];go_simp) rfl ⟨⟨_,rfl,_,_,rfl,?_,?_⟩,by have:=X1.o;exact eX⟩
 ·exact dq HN.o B1.o M6 _ _ _ Id Id
 ·exact dq HD.o B1.o M6 _ _ _ Id Id
end Go.Proofs.YtnnjbaijcaiohaaGreat
