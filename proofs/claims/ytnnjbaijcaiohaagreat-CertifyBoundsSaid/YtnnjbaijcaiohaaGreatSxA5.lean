/- Walks and lemmas. -/
import Derived.Test.YtnnjbaijcaiohaaGreatSxA4
set_option linter.unusedVariables false
set_option linter.unusedSimpArgs false
set_option maxRecDepth 100000
set_option maxHeartbeats 16000000
namespace Go.Proofs.YtnnjbaijcaiohaaGreat
open Go.RowKit
structure RR where
 neg:Bool
 num:List Int
 den:List Int
deriving DecidableEq
def zR:RR:=⟨false,[],[]⟩
def au (r:RR):Prop:=bh r.num∧bh r.den
def am (r:RR):Int:=
 if 128 < r.num.length∨128 < r.den.length then 4
 else if dH r.num≠0∨dH r.den≠0∨r.den=[1]∨(r.num=[]∧(r.neg=true∨r.den≠[])) then 2
 else if r.den≠[]∧Nat.gcd (nv r.num) (nv r.den)≠1 then 2
 else 0
def eu (l:List Int):Nat:=if l=[] then 1 else nv l
def sg (b:Bool) (n:Nat):Int:=if b=true then -(n:Int) else n
theorem oD (b:Bool) (n:Nat):(sg b n).natAbs=n:=by unfold sg;split <;> omega
theorem AM {b:Bool} {n:Nat} (h:n≠0):decide (sg b n < 0)=b:=by
 unfold sg;cases b
 ·simp
 ·simp;omega
def qv (r:RR):Rat:=mkRat (sg r.neg (nv r.num)) (eu r.den)
def rep (q:Rat):RR:=⟨decide (q.num < 0),lim q.num.natAbs,if q.den=1 then [] else lim q.den⟩
theorem cJ (q:Rat):au (rep q):=by
 refine ⟨aK _,?_⟩;unfold rep;split
 ·intro x hx;cases hx
 ·exact aK _
theorem AO:rep 0=zR:=rfl
theorem rW {r:RR} (hl:au r) (h:am r=0):r.num.length≤128∧r.den.length≤128∧cD r.num∧cD r.den∧r.den≠[1]∧(r.num=[]→r.neg=false∧r.den=[])∧(r.den≠[]→Nat.gcd (nv r.num) (nv r.den)=1):=by
 unfold am at h;by_cases h1:128 < r.num.length∨128 < r.den.length
 ·rw [if_pos h1] at h;exact absurd h (by decide)
 ·rw [if_neg h1] at h;by_cases h2:dH r.num≠0∨dH r.den≠0∨r.den=[1]∨(r.num=[]∧(r.neg=true∨r.den≠[]))
  ·rw [if_pos h2] at h;exact absurd h (by decide)
  ·rw [if_neg h2] at h;by_cases h3:r.den≠[]∧Nat.gcd (nv r.num) (nv r.den)≠1
   ·rw [if_pos h3] at h;exact absurd h (by decide)
   ·have a1:dH r.num=0:=Classical.byContradiction fun e=>h2 (.inl e);have a2:dH r.den=0:=Classical.byContradiction fun e=>h2 (.inr (.inl e));refine ⟨by omega,by omega,(ol a1).2,(ol a2).2,fun e=>h2 (.inr (.inr (.inl e))),fun e=>⟨?_,?_⟩,fun e=>Classical.byContradiction fun g=>h3 ⟨e,g⟩⟩
    ·cases hb:r.neg
     ·rfl
     ·exact absurd (.inr (.inr (.inr ⟨e,.inl hb⟩))) h2
    ·exact Classical.byContradiction fun g=>h2 (.inr (.inr (.inr ⟨e,.inr g⟩)))
theorem xG {l:List Int} (hl:bh l) (hz:cD l) (h:l≠[]):nv l≠0:=fun e=>h (List.length_eq_zero_iff.1 ((cm hl hz).1 e))
theorem dW {r:RR} (hl:au r) (h:am r=0):(qv r).num=sg r.neg (nv r.num)∧(qv r).den=eu r.den∧rep (qv r)=r:=by
 obtain ⟨h1,h2,h3,h4,h5,h6,h7⟩:=rW hl h;have hd:eu r.den≠0:=by
  unfold eu;split
  ·decide
  ·rename_i hne;exact xG hl.2 h4 hne
 have hg:(sg r.neg (nv r.num)).natAbs.Coprime (eu r.den):=by
  rw [oD];unfold eu;split
  ·exact Nat.coprime_one_right _
  ·rename_i hne;exact h7 hne
 have e:qv r=⟨sg r.neg (nv r.num),eu r.den,hd,hg⟩:=by
  unfold qv;rw [Rat.mk_eq_mkRat]
 rw [e];refine ⟨rfl,rfl,?_⟩;unfold rep;dsimp only;have e1:decide (sg r.neg (nv r.num) < 0)=r.neg:=by
  by_cases hn:r.num=[]
  ·rw [hn,(h6 hn).1];rfl
  ·exact AM (xG hl.1 h3 hn)
 have e2:(if eu r.den=1 then [] else lim (eu r.den))=r.den:=by
  unfold eu;by_cases hn:r.den=[]
  ·rw [if_pos hn,if_pos rfl,hn]
  ·rw [if_neg hn];have:nv r.den≠1:=fun e=>h5 (by rw [← dm hl.2 h4,e];rfl);rw [if_neg this,dm hl.2 h4]
 rw [e1,oD,dm hl.1 h3,e2]
theorem rX (q:Rat):eu (rep q).den=q.den:=by
 unfold rep eu;dsimp only;by_cases h:q.den=1
 ·rw [if_pos h,if_pos rfl,h]
 ·rw [if_neg h];have:lim q.den≠[]:=fun e=>by have:=aB q.den;rw [e] at this;exact q.den_nz this.symm
  rw [if_neg this,aB]
theorem DZ (q:Rat):sg (rep q).neg (nv (rep q).num)=q.num:=by
 unfold rep sg;dsimp only;rw [aB];by_cases h:q.num < 0
 ·rw [if_pos (by simpa using h)];omega
 ·rw [if_neg (by simpa using h)];omega
theorem iZ (q:Rat):qv (rep q)=q:=by
 unfold qv;rw [rX,DZ,Rat.mkRat_self]
def small (q:Rat):Prop:=(rep q).num.length≤128∧(rep q).den.length≤128
instance (q:Rat):Decidable (small q):=inferInstanceAs (Decidable (_∧_))
theorem tJ {l:List Int} (h1:l.length≤512) (h2:cD l):dH l=0:=by
 have h:=fu h1 h2 h1 h2;unfold cF vz at h;by_cases h0:dH l=0
 ·exact h0
 ·simp [h0] at h
theorem D4 (q:Rat):cD (rep q).num∧cD (rep q).den:=by
 refine ⟨aP _,?_⟩;unfold rep;split
 ·simp [cD]
 ·exact aP _
theorem xH {q:Rat} (h:small q):am (rep q)=0:=by
 obtain ⟨h1,h2⟩:=h;obtain ⟨z1,z2⟩:=D4 q;unfold am;rw [if_neg (by omega),if_neg,if_neg]
 ·rintro ⟨hd,hg⟩;apply hg;have hd1:eu (rep q).den=nv (rep q).den:=by unfold eu;rw [if_neg hd]
  rw [← hd1,rX];have:nv (rep q).num=q.num.natAbs:=aB _;rw [this];exact q.reduced
 ·rintro (h|h|h|⟨h,h3⟩)
  ·exact h (tJ (by omega) z1)
  ·exact h (tJ (by omega) z2)
  ·have e:=rX q;rw [h] at e;have:q.den=1:=by rw [← e];rfl
   unfold rep at h;rw [this] at h;simp at h
  ·have hn:q.num.natAbs=0:=by
    have:nv (rep q).num=q.num.natAbs:=aB _;rw [← this,h];rfl
   have h0:q.num=0:=by omega
   have hq:q=0:=Rat.num_eq_zero.1 h0;subst hq;rcases h3 with h3|h3
   ·exact absurd h3 (by decide)
   ·exact h3 rfl
def dB (q:Rat):RR × Int:=if small q then (rep q,0) else (zR,4)
theorem kW {q:Rat} (h:small q):dB q=(rep q,0):=by unfold dB;rw [if_pos h]
theorem cZ {q:Rat} (h:¬ small q):dB q=(zR,4):=by unfold dB;rw [if_neg h]
def cK (a b:RR):Int:=vz (am a) (am b)
def iS (a b:RR) (x:RR × Int):RR × Int:=if cK a b=0 then x else (zR,cK a b)
def cE (a b:RR):RR × Int:=iS a b (dB (qv a+qv b))
def bR (a b:RR):RR × Int:=iS a b (dB (qv a - qv b))
def mulR (a b:RR):RR × Int:=iS a b (dB (qv a*qv b))
def bD (a b:RR):RR × Int:=iS a b (if b.num=[] then (zR,14) else dB (qv a / qv b))
def dX (x y:Rat):Int:=if x < y then -1 else if x=y then 0 else 1
def cj (a b:RR):Int × Int:=if cK a b=0 then (dX (qv a) (qv b),0) else (0,cK a b)
theorem bA {a b:RR} (h:cK a b=0):am a=0∧am b=0:=by
 unfold cK vz at h;by_cases h0:am a=0
 ·rw [if_pos h0] at h;exact ⟨h0,h⟩
 ·rw [if_neg h0] at h;exact absurd h h0
theorem dt {a b:RR} (h1:am a=0) (h2:am b=0):cK a b=0:=by unfold cK vz;rw [if_pos h1,h2]
theorem tK (b:Bool) {n d:Nat} (hn:n≠0) (hd:d≠0) :
  rep (mkRat (sg b n) d)=⟨b,lim (n / Nat.gcd n d),if d / Nat.gcd n d=1 then [] else lim (d / Nat.gcd n d)⟩:=by
 have hg:0 < Nat.gcd n d:=Nat.gcd_pos_of_pos_left _ (by omega);have e1:(mkRat (sg b n) d).num=sg b n / (Nat.gcd n d:Int):=by
  rw [Rat.num_mkRat,if_neg hd,oD,Nat.gcd_comm]
 have e2:(mkRat (sg b n) d).den=d / Nat.gcd n d:=by
  rw [Rat.den_mkRat,if_neg hd,oD,Nat.gcd_comm]
 have hdv:=Nat.gcd_dvd_left n d;have e3:sg b n / (Nat.gcd n d:Int)=sg b (n / Nat.gcd n d):=by
  obtain ⟨k,hk⟩:=hdv;have hk2:n / Nat.gcd n d=k:=by
   conv=>lhs;lhs;rw [hk]
   exact Nat.mul_div_cancel_left _ hg
  rw [hk2];have:sg b n=(Nat.gcd n d:Int)*sg b k:=by
   unfold sg;conv=>lhs;rw [hk]
   cases b
   ·simp
   ·simp [Int.mul_neg]
  rw [this];exact Int.mul_ediv_cancel_left _ (by omega)
 have hq:n / Nat.gcd n d≠0:=by
  have:=Nat.div_gcd_pos_of_pos_left d (Nat.pos_of_ne_zero hn);omega
 unfold rep;rw [e1,e2,e3,oD,AM hq]
theorem AQ (b:Bool) (d:Nat):rep (mkRat (sg b 0) d)=zR:=by
 have:sg b 0=0:=by cases b <;> rfl
 rw [this,Rat.zero_mkRat];rfl
def vq (x:Bool × Nat × Nat):Rat:=mkRat (sg x.1 x.2.1) x.2.2
def dI (a b:Bool × Nat × Nat):Bool × Nat × Nat:=
 if a.1=b.1 then (a.1,a.2.1*b.2.2+b.2.1*a.2.2,a.2.2*b.2.2)
 else if a.2.1*b.2.2 < b.2.1*a.2.2 then (b.1,b.2.1*a.2.2 - a.2.1*b.2.2,a.2.2*b.2.2)
 else (a.1,a.2.1*b.2.2 - b.2.1*a.2.2,a.2.2*b.2.2)
def qJ (a b:Bool × Nat × Nat):Bool × Nat × Nat:=(a.1 != b.1,a.2.1*b.2.1,a.2.2*b.2.2)
theorem vP {a b:Bool × Nat × Nat} (ha:a.2.2≠0) (hb:b.2.2≠0):vq (dI a b)=vq a+vq b:=by
 obtain ⟨sa,na,da⟩:=a;obtain ⟨sb,nb,db⟩:=b;unfold vq;dsimp only at ha hb ⊢;rw [Rat.mkRat_add_mkRat _ _ ha hb];have e:sg (dI (sa,na,da) (sb,nb,db)).1 (dI (sa,na,da) (sb,nb,db)).2.1=sg sa na*db+sg sb nb*da∧(dI (sa,na,da) (sb,nb,db)).2.2=da*db:=by
  unfold dI;dsimp only;have p1:((na*db:Nat):Int)=(na:Int)*db:=by simp
  have p2:((nb*da:Nat):Int)=(nb:Int)*da:=by simp
  cases sa <;> cases sb <;> simp only [if_true,Bool.true_eq_false,Bool.false_eq_true,if_false]
  ·refine ⟨?_,trivial⟩;unfold sg;simp
  ·split
   ·refine ⟨?_,rfl⟩;unfold sg;simp [Int.neg_mul];omega
   ·refine ⟨?_,rfl⟩;unfold sg;simp [Int.neg_mul];omega
  ·split
   ·refine ⟨?_,rfl⟩;unfold sg;simp [Int.neg_mul];omega
   ·refine ⟨?_,rfl⟩;unfold sg;simp [Int.neg_mul];omega
  ·refine ⟨?_,trivial⟩;unfold sg;simp [Int.neg_mul];omega
 rw [e.1,e.2]
theorem xI (a b:Bool × Nat × Nat):vq (qJ a b)=vq a*vq b:=by
 obtain ⟨sa,na,da⟩:=a;obtain ⟨sb,nb,db⟩:=b;unfold vq qJ;dsimp only;rw [Rat.mkRat_mul_mkRat];congr 1
 unfold sg;cases sa <;> cases sb <;> simp [Int.neg_mul,Int.mul_neg]
def Gg (r:RR):Bool × Nat × Nat:=(r.neg,nv r.num,eu r.den)
theorem i1 (r:RR):vq (Gg r)=qv r:=rfl
theorem nI {r:RR} (hl:au r) (h:am r=0):(Gg r).2.2≠0:=by
 rw [show (Gg r).2.2=eu r.den from rfl,← (dW hl h).2.1];exact (qv r).den_nz
def aX (w:World) (v:Value) (r:RR):Prop:=∃ vn vd,v=.agg #[.bool r.neg,vn,vd]∧aV .u32 w vn r.num∧aV .u32 w vd r.den
def aO (w w':World) (v:Value) (r:RR):Prop:=∃ vn vd,v=.agg #[.bool r.neg,vn,vd]∧bK w w' vn r.num∧bK w w' vd r.den
theorem aX.ext {w w':World} {v:Value} {r:RR} (h:aX w v r) (e:Ext w w'):aX w' v r:=by
 obtain ⟨vn,vd,h1,h2,h3⟩:=h;exact ⟨vn,vd,h1,h2.ext e,h3.ext e⟩
theorem aO.rd {w w':World} {v:Value} {r:RR} (h:aO w w' v r):aX w' v r:=by
 obtain ⟨vn,vd,h1,h2,h3⟩:=h;exact ⟨vn,vd,h1,h2.rd,h3.rd⟩
theorem aO.from {w0 w w':World} {v:Value} {r:RR} (h:aO w w' v r) (x:Ext w0 w):aO w0 w' v r:=by
 obtain ⟨vn,vd,h1,h2,h3⟩:=h;exact ⟨vn,vd,h1,h2.from x,h3.from x⟩
theorem aO.ext {w w' w2:World} {v:Value} {r:RR} (h:aO w w' v r) (x:Ext w' w2):aO w w2 v r:=by
 obtain ⟨vn,vd,h1,h2,h3⟩:=h;exact ⟨vn,vd,h1,h2.ext x,h3.ext x⟩
theorem aO.zero (w w':World):aO w w' (.agg #[.bool false,.slice none 0 0,.slice none 0 0]) zR:=⟨_,_,rfl,bK.nil _ _,bK.nil _ _⟩
theorem aj {w:World} {v:Value} {l:List Int} (h:aV .u32 w v l):∃ a c,v=.slice a l.length c:=by
 obtain ⟨a,c,rfl,_⟩:=kc h;exact ⟨a,c,rfl⟩
theorem vQ (va vb:Value) (la lb:List Int) (w:World) (ha:aV .u32 w va la) (hb:aV .u32 w vb lb) (hla:bh la) (hlb:bh lb) :
  Calls Tryz.prog 167 #[va,vb] w fun e w'=>(∃ v,e=.returned v∧bK w w' v (mulS la lb).1)∧Ext w w':=by
 have h:=kT va vb la lb w ha hb hla hlb;obtain ⟨aa,ca,rfl⟩:=aj ha;obtain ⟨ab,cb,rfl⟩:=aj hb;have H:=kI h;clear h ha hb;go_enter Tryz.func167,Tryz.ntmps167
 go_wp2_with fail;refine H.o.mono ?_;rintro e w2 ⟨⟨v,rfl,n2⟩,hx2⟩;obtain ⟨a2,c2,rfl⟩:=n2.shape;have N2:=kI n2;have X2:=kI hx2;clear n2 hx2;go_wp2_with fail;go_ret;exact ⟨⟨_,rfl,N2.o⟩,X2.o⟩
theorem yQ (va vb:Value) (la lb:List Int) (w:World) (ha:aV .u32 w va la) (hb:aV .u32 w vb lb) (hla:bh la) (hlb:bh lb) :
  Calls Tryz.prog 168 #[va,vb] w fun e w'=>(∃ v,e=.returned v∧bK w w' v (tt la lb).1)∧Ext w w':=by
 have h:=Au va vb la lb w ha hb hla hlb;obtain ⟨aa,ca,rfl⟩:=aj ha;obtain ⟨ab,cb,rfl⟩:=aj hb;have H:=kI h;clear h ha hb;go_enter Tryz.func168,Tryz.ntmps168
 go_wp2_with fail;refine H.o.mono ?_;rintro e w2 ⟨⟨v,rfl,n2⟩,hx2⟩;obtain ⟨a2,c2,rfl⟩:=n2.shape;have N2:=kI n2;have X2:=kI hx2;clear n2 hx2;go_wp2_with fail;go_ret;exact ⟨⟨_,rfl,N2.o⟩,X2.o⟩
theorem vR (va vb:Value) (la lb:List Int) (w:World) (ha:aV .u32 w va la) (hb:aV .u32 w vb lb) (hla:bh la) (hlb:bh lb) (za:cD la) (zb:cD lb) (sa:la.length≤512) (sb:lb.length≤512) :
  Calls Tryz.prog 169 #[va,vb] w fun e w'=>(∃ v,e=.returned (.tuple #[v,.bool (decide (nv la < nv lb))])∧bK w w' v (lim (if nv la < nv lb then nv lb - nv la else nv la - nv lb)))∧Ext w w':=by
 have HA:=kI ha;have HB:=kI hb;have hc:=fu sa za sb zb;have hc2:=fu sb zb sa za;have h1:=fun W h1 h2=>tx va vb la lb W h1 h2 hla hlb;have h2:=fun W h1 h2=>tx vb va lb la W h1 h2 hlb hla;obtain ⟨aa,ca,rfl⟩:=aj ha;obtain ⟨ab,cb,rfl⟩:=aj hb;clear ha hb;by_cases hlt:nv la < nv lb
 ·have e1:m6 la lb=([],7):=by unfold m6;rw [fj hc,if_pos hlt]
  have e2:m6 lb la=(lim (nv lb - nv la),0):=by unfold m6;rw [fj hc2,if_neg (by omega)]
  rw [e1] at h1;rw [e2] at h2;rw [decide_eq_true hlt,if_pos hlt];have H1:=kI h1;have H2:=kI h2;clear h1 h2 e1 e2 hlt;go_enter Tryz.func169,Tryz.ntmps169
  go_wp2_with fail;refine (H1.o _ HA.o HB.o).mono ?_;rintro e w2 ⟨⟨v,rfl,n2⟩,hx2⟩;obtain ⟨a2,c2,rfl⟩:=n2.shape;have X2:=kI hx2;clear n2 hx2;go_wp2_with fail;refine (H2.o _ (HB.o.ext X2.o) (HA.o.ext X2.o)).mono ?_;rintro e w3 ⟨⟨v,rfl,n3⟩,hx3⟩;obtain ⟨a3,c3,rfl⟩:=n3.shape;have N3:=kI n3;have X3:=kI (X2.o.trans hx3);have X2':=X2;clear n3 hx3;go_wp2_with fail;go_ret2
  exact ⟨⟨_,rfl,N3.o.from X2.o⟩,X3.o⟩
 ·have e1:m6 la lb=(lim (nv la - nv lb),0):=by unfold m6;rw [fj hc,if_neg hlt]
  rw [e1] at h1;rw [decide_eq_false hlt,if_neg hlt];have H1:=kI h1;clear h1 h2 e1 hlt;go_enter Tryz.func169,Tryz.ntmps169
  go_wp2_with fail;refine (H1.o _ HA.o HB.o).mono ?_;rintro e w2 ⟨⟨v,rfl,n2⟩,hx2⟩;obtain ⟨a2,c2,rfl⟩:=n2.shape;have N2:=kI n2;have X2:=kI hx2;clear n2 hx2;go_wp2_with fail;go_ret2
  exact ⟨⟨_,rfl,N2.o⟩,X2.o⟩
theorem eH (v:Value) (l:List Int) (w:World) (h:aV .u32 w v l) :
  Calls Tryz.prog 156 #[v] w fun e w'=>e=.returned (.bool (decide (l=[1])))∧Ext w w':=by
 obtain ⟨a,c,rfl,hc,hm,hr⟩:=kc h;clear h;by_cases h1:l.length=1
 ·obtain ⟨x,rfl⟩:=List.length_eq_one_iff.1 h1;obtain ⟨b,off,rfl,hb,hx⟩:=hr 0 (by simp);have hx':w.cell? ⟨b,off,none⟩=some (.int .u32 x):=hx;have e:decide ([x]=[1])=(x == 1):=by
   by_cases h:x=1 <;> simp [h]
  rw [e];clear hr hx h1 e;go_enter Tryz.func156,Tryz.ntmps156
  go_wp2_with fail;all_goals
   go_ret;exact ⟨cI (by simp_all),eX⟩
 ·have e:decide (l=[1])=false:=decide_eq_false (by rintro rfl;exact h1 rfl);rw [e];have h1':((l.length:Int) == 1)=false:=by simpa using (by omega:¬ (l.length:Int)=1)
  clear hr e;go_enter Tryz.func156,Tryz.ntmps156
  go_wp2_with fail;go_ret;exact ⟨rfl,eX⟩
def dl (l:List Int):List Int:=if l=[] then [1] else l
theorem AR (l:List Int):nv (dl l)=eu l:=by unfold dl eu;split <;> rfl
theorem Hj {l:List Int} (h:bh l):bh (dl l):=by
 unfold dl;split
 ·intro x hx;rw [List.mem_singleton.1 hx];omega
 ·exact h
theorem Hk {l:List Int} (h:cD l):cD (dl l):=by
 unfold dl;split
 ·simp [cD]
 ·exact h
theorem Hl {l:List Int} {k:Nat} (h:l.length≤k) (hk:1≤k):(dl l).length≤k:=by
 unfold dl;split
 ·exact hk
 ·exact h
def rY (w:World) (v:Value) (b:Bool) (ln ld:List Int):Prop:=∃ vn vd,v=.agg #[vn,vd,.bool b]∧aV .u32 w vn ln∧aV .u32 w vd ld
theorem nJ (v:Value) (r:RR) (w:World) (h:aX w v r) :
  Calls Tryz.prog 122 #[v] w fun e w'=>(∃ v',e=.returned v'∧rY w' v' r.neg r.num (dl r.den))∧Ext w w':=by
 obtain ⟨vn,vd,rfl,hn,hd⟩:=h;obtain ⟨an,cn,rfl⟩:=aj hn;obtain ⟨ad,cd,rfl⟩:=aj hd;have HN:=kI hn;have HD:=kI hd;clear hn hd;obtain ⟨b,ln,ld⟩:=r;dsimp only at *;by_cases h0:ld=[]
 ·subst h0;go_enter Tryz.func122,Tryz.ntmps122
  go_wp2_with fail;refine bodyPost_ret (v:=.agg #[.slice an ln.length cn,.slice (some ⟨w.heap.size+1+1+1,0,none⟩) 1 1,.bool b]) (by simp only [results,Tryz.results122];go_simp) rfl ⟨⟨_,rfl,_,_,rfl,HN.o.ext eX,?_⟩,eX⟩;have h1:=DW ((((w.alloc (.cells #[.bool b,.slice an ln.length cn,.slice ad 0 cd] 25)).alloc (.cells #[.slice an ln.length cn,.slice (some ⟨w.heap.size+1+1+1,0,none⟩) 1 1,.bool b] 134)).alloc (.cells #[.slice an ln.length cn,.slice (some ⟨w.heap.size+1+1+1,0,none⟩) 1 1,.bool b] 134))) [1] (by simp);simp only [World.size_alloc] at h1;exact h1
 ·have hl:¬ ld.length=0:=fun e=>h0 (List.length_eq_zero_iff.1 e);have e:dl ld=ld:=by unfold dl;rw [if_neg h0]
  rw [e];have hl':((ld.length:Int) == 0)=false:=by simpa using hl
  clear h0 e;go_enter Tryz.func122,Tryz.ntmps122
  go_wp2_with fail;exact bodyPost_ret (v:=.agg #[.slice an ln.length cn,.slice ad ld.length cd,.bool b]) (by simp only [results,Tryz.results122];go_simp) rfl ⟨⟨_,rfl,_,_,rfl,HN.o.ext eX,HD.o.ext eX⟩,eX⟩
theorem bX.cx {A:World} {B:Nat} {v:Value} {l:List Int} (h:bX A B v l) {bx:Nat} {c:Array Value} {t:TypeId} (hb:af A bx c t) (ht:t≠157) (o:Nat) (u:Value):bX (A.setCell ⟨bx,o,none⟩ u) B v l:=by
 obtain ⟨q,h1,h2⟩:=h;refine ⟨q,?_,h2⟩;rcases h1 with h|⟨g,cap,ho,hv,hr⟩
 ·exact .inl h
 ·refine .inr ⟨g,cap,ho,hv,hr.setOther ?_ u⟩;intro e;obtain ⟨cur,h3,_⟩:=hr.blk;have e2:g=bx:=by first|exact e|exact Eq.symm e
  rw [e2] at h3;unfold af at hb h3;rw [hb] at h3;injection h3 with h3
  injection h3 with _ h4
  exact ht h4
theorem du {A:World} {v:Value} {l:List Int} (h:aV .u32 A v l) {bx:Nat} {c:Array Value} {t:TypeId} (hb:af A bx c t) (ht:∀ x ∈ c,∀ n,x≠.int .u32 n) (o:Nat) (u:Value):aV .u32 (A.setCell ⟨bx,o,none⟩ u) v l:=by
 obtain ⟨a,cap,rfl,h1,h2,h3⟩:=kc h;refine mF.to (p:=fun _=>True) ⟨a,cap,rfl,h1,h2,fun i hi=>?_⟩;obtain ⟨b,off,e1,e2,e3⟩:=h3 i hi;have hne:b≠bx:=by
  intro e;rw [e,hb.cell] at e3;exact ht _ (Array.mem_of_getElem? e3) _ rfl
 refine ⟨b,off,e1,trivial,by simpa [World.setCell] using e2,?_⟩;rw [← e3];exact World.cell?_of_block (Below.heap_setCell _ _ _ _ hne)
def S3 (b:Nat) (x y z:Value) (t:TypeId) (W:World):Prop:=af W b #[x,y,z] t∧W.cell? ⟨b,0,none⟩=some x∧W.cell? ⟨b,1,none⟩=some y∧W.cell? ⟨b,2,none⟩=some z
theorem af.s3 {b:Nat} {x y z:Value} {t:TypeId} {W:World} (h:af W b #[x,y,z] t):af W b #[x,y,z] t∧W.cell? ⟨b,0,none⟩=some x∧W.cell? ⟨b,1,none⟩=some y∧W.cell? ⟨b,2,none⟩=some z:=
 ⟨h,by simpa using h.cell 0,by simpa using h.cell 1,by simpa using h.cell 2⟩
theorem xJ (v:Value) (b:Bool) (ln ld:List Int) (w:World) (h:rY w v b ln ld) (hn:bh ln) (hd:bh ld) (zn:cD ln) (zd:cD ld) (sn:ln.length≤512) (sd:ld.length≤512) (h0:nv ld≠0) :
  Calls Tryz.prog 166 #[v] w fun e w'=>(∃ v',e=.returned v'∧aO w w' v' (rep (mkRat (sg b (nv ln)) (nv ld))))∧Ext w w':=by
 obtain ⟨vn,vd,rfl,hrn,hrd⟩:=h;obtain ⟨an,cn,rfl⟩:=aj hrn;obtain ⟨ad,cd,rfl⟩:=aj hrd;have HN:=kI hrn;have HD:=kI hrd;have LN:=kI hn;have LD:=kI hd;have ZN:=kI zn;have ZD:=kI zd;clear hrn hrd hn hd zn zd;by_cases hz:nv ln=0
 ·have hl:ln.length=0:=(cm LN.o ZN.o).1 hz;have e:rep (mkRat (sg b (nv ln)) (nv ld))=zR:=by rw [hz];exact AQ _ _
  rw [e];clear e hz;go_enter Tryz.func166,Tryz.ntmps166
  go_wp2_with fail;exact bodyPost_ret (v:=.agg #[.bool false,.slice none 0 0,.slice none 0 0]) (by simp only [results,Tryz.results166];go_simp) rfl ⟨⟨_,rfl,aO.zero _ _⟩,eX⟩
 ·have hl:¬ ln.length=0:=fun e=>hz ((cm LN.o ZN.o).2 e);have e:=tK b hz h0;rw [e];clear e;obtain ⟨g,hg⟩:=gN (Nat.gcd (nv ln) (nv ld));have TI:g≠0:=by rw [hg];exact Nat.ne_of_gt (Nat.gcd_pos_of_pos_left _ (Nat.pos_of_ne_zero hz))
  have hgl:g≤nv ln:=by rw [hg];exact Nat.gcd_le_left _ (Nat.pos_of_ne_zero hz)
  have hg5:(lim g).length≤512:=Nat.le_trans (aF.2 (Nat.lt_of_le_of_lt hgl (bQ LN.o))) sn;have hgs:vO ln ld=(lim g,0):=by unfold vO;rw [fj (fu sn ZN.o sd ZD.o),hg]
  rw [← hg];have hl':((ln.length:Int) == 0)=false:=by simpa using hl
  have Pw:=kI hgs;clear hg hgs;obtain ⟨RS,hRS⟩:=gN (RR.mk b (lim (nv ln / g)) (if nv ld / g=1 then [] else lim (nv ld / g)));rw [← hRS];have m8:=kI hRS;clear hRS;have b0:=(af.new w #[.slice an ln.length cn,.slice ad ld.length cd,.bool b] 134).alloc (.cells #[.bool false,.slice none 0 0,.slice none 0 0] 25);have b1:=af.new (w.alloc (.cells #[.slice an ln.length cn,.slice ad ld.length cd,.bool b] 134)) #[.bool false,.slice none 0 0,.slice none 0 0] 25;rw [World.size_alloc] at b1;have x0:Ext w ((w.alloc (.cells #[.slice an ln.length cn,.slice ad ld.length cd,.bool b] 134)).alloc (.cells #[.bool false,.slice none 0 0,.slice none 0 0] 25)):=((Ext.refl w).alloc _).alloc _;have B0:=kI b0;have B1:=kI b1;have X0:=kI x0;clear b0 b1 x0;go_enter Tryz.func166,Tryz.ntmps166
  go_wp2_with fail;refine (xD _ _ ln ld _ (HN.o.ext X0.o) (HD.o.ext X0.o) LN.o LD.o).mono ?_;rw [Pw.o];rintro e w2 ⟨⟨v2,rfl,n2⟩,hx2⟩;obtain ⟨a2,c2,rfl⟩:=n2.shape;have N2:=kI n2.rd;have X2:=kI (X0.o.trans hx2);have TJ:=kI (B0.o.ext hx2);have TK:=kI (B1.o.ext hx2);clear n2 hx2 B0 B1 X0;go_wp2_with fail;refine (eH _ (lim g) _ N2.o).mono ?_;by_cases hg1:g=1
  ·have e1:decide (lim g=[1])=true:=by rw [hg1];rfl
   have hrep:RR.mk b (lim (nv ln / g)) (if nv ld / g=1 then [] else lim (nv ld / g))=RR.mk b ln (if ld=[1] then [] else ld):=by
    rw [hg1,Nat.div_one,Nat.div_one,dm LN.o ZN.o,dm LD.o ZD.o];have:nv ld=1↔ld=[1]:=⟨fun e=>by rw [← dm LD.o ZD.o,e];rfl,fun e=>by rw [e];rfl⟩;simp only [this]
   rw [e1];have rZ:=kI (m8.o.trans hrep);rintro e w3 ⟨rfl,hx3⟩;have X3:=kI (X2.o.trans hx3);have P0:=kI (TJ.out.ext hx3);have P1:=kI (TK.out.ext hx3);clear hx3 e1 hrep;have c0:=P0.o.cell;have f0:=P0.o.free;have Le:=kI (HN.o.ext X3.o);have D5:=kI (HD.o.ext X3.o);go_wp2_with fail;have hmx:Tryz.prog.follows .mixedOrders=true:=by kernel_rfl
   have x3:=X3.o;have Px:=P0.o.lt;have Py:=P1.o.lt;go_region_held3 (fun W=>af W w.heap.size #[.slice an ln.length cn,.slice ad ld.length cd,.bool b] 134∧W.cell? ⟨w.heap.size,0,none⟩=some (.slice an ln.length cn)∧W.cell? ⟨w.heap.size,1,none⟩=some (.slice ad ld.length cd)∧W.cell? ⟨w.heap.size,2,none⟩=some (.bool b))
    ((refine af.s3 ?_;(repeat (first|exact P0.o|exact k4|refine af.setOther ?_ (by dsimp only;omega) _|refine af.alloc ?_ _|refine af.drew ?_))))
    (first|(go_at_call 177;refine (clone_any _ ln _ (Le.o.ext eX) (by omega)).mono ?_;rintro e w4 ⟨⟨v4,rfl,n4⟩,hx4⟩;obtain ⟨a4,c4,rfl⟩:=n4.shape;have N4:=kI n4;have z4:=hx4.size;have e4:Ext w3 w4:=Ext.trans eX hx4;have k4:=P0.o.ext e4;have qc:=fun h=>(hx4.cC (b:=w3.heap.size) h).1;have qf:=fun h=>(hx4.cC (b:=w3.heap.size) h).2;(try simp only [World.size_alloc,World.size_drew] at qc qf z4);clear n4))
   ·have B5:Hid (af (w4.alloc (.cells #[.bool b,.slice a4 ln.length c4,.slice none 0 0] 25)) w4.heap.size #[.bool b,.slice a4 ln.length c4,.slice none 0 0] 25):=kI (af.new _ _ _);have K5:=kI (k4.alloc (.cells #[.bool b,.slice a4 ln.length c4,.slice none 0 0] 25));have R5:=kI ((P1.o.ext e4).alloc (.cells #[.bool b,.slice a4 ln.length c4,.slice none 0 0] 25));have Y5:=kI (e4.alloc (.cells #[.bool b,.slice a4 ln.length c4,.slice none 0 0] 25));have X5:=kI ((x3.trans e4).alloc (.cells #[.bool b,.slice a4 ln.length c4,.slice none 0 0] 25));have V5:Hid (bX (w4.alloc (.cells #[.bool b,.slice a4 ln.length c4,.slice none 0 0] 25)) (w.heap.size+1+1) (.slice a4 ln.length c4) ln):=kI ((bX.mono N4.o (B':=w.heap.size+1+1) (by (try simp only [World.size_alloc,World.size_drew]);omega)).ext ((Ext.refl w4).alloc (.cells #[.bool b,.slice a4 ln.length c4,.slice none 0 0] 25)));clear hx4 qc qf N4 k4;generalize hbx:w4.heap.size=bx at *
    generalize w4.alloc (.cells #[.bool b,.slice a4 ln.length c4,.slice none 0 0] 25)=w5 at *
    have b5:=B5.o.cell;have Hm:=B5.o.free;have Pz:=B5.o.lt;have r5:=R5.o.cell;have Hn:=R5.o.free;have PE:=R5.o.lt;have k5:=K5.o.cell;have PF:=K5.o.lt;go_wp2_with fail;refine (eH _ ld w5 (D5.o.ext Y5.o)).mono ?_;clear b5 Hm r5 Hn k5;by_cases hu:ld=[1]
    ·rw [decide_eq_true hu];have HU:=kI hu;clear hu;rintro e w6 ⟨rfl,hx6⟩;have B6:=B5.o.ext hx6;have R6:=R5.o.ext hx6;have X6:=kI (X5.o.trans hx6);have V6:=kI (V5.o.ext hx6);have b6:=B6.cell;have PH:=B6.free;have Ho:=B6.lt;have r6:=R6.cell;have PI:=R6.free;have Hp:=R6.lt;clear hx6 B6 R6;go_wp2_with fail;exact bodyPost_ret (v:=.agg #[.bool b,.slice a4 ln.length c4,.slice none 0 0]) (by simp only [results,Tryz.results166];go_simp) rfl ⟨⟨_,rfl,by rw [rZ.o,if_pos HU.o];exact ⟨_,_,rfl,bX.mono (((V6.o.ap (by dsimp only;omega) _).ap (by dsimp only;omega) _).ap (by dsimp only;omega) _) (by omega),bK.nil _ _⟩⟩,by have:=X6.o;exact eX⟩
    ·rw [decide_eq_false hu];have HU:=kI hu;rintro e w6 ⟨rfl,hx6⟩;have B6:=kI (B5.o.ext hx6);have K6:=(K5.o.ext hx6);have R6:=kI (R5.o.ext hx6);have X6:=kI (X5.o.trans hx6);have Y6:=kI (Y5.o.trans hx6);have V6:=kI (V5.o.ext hx6);have k6:=K6.cell;have Hq:=K6.free;have PJ:=K6.lt;have Ho:=B6.o.lt;have Hp:=R6.o.lt;clear hx6 K6 hu;go_wp2_with fail;refine (clone_any _ ld w6 (D5.o.ext Y6.o) (by omega)).mono ?_;rintro e w7 ⟨⟨v7,rfl,n7⟩,hx7⟩;obtain ⟨a7,c7,rfl⟩:=n7.shape;have N7:Hid (bX w7 w6.heap.size (.slice a7 ld.length c7) ld):=kI n7;have B7:=B6.o.ext hx7;have Hr:=kI B7;have R7:=R6.o.ext hx7;have X7:=kI (X6.o.trans hx7);have V7:=kI (V6.o.ext hx7);have b7:=B7.cell;have PM:=B7.free;have PP:=B7.lt;have r7:=R7.cell;have NM:=R7.free;have NO:=R7.lt;clear hx7 B7 R7 k6 Hq n7;go_wp2_with fail;refine bodyPost_ret (v:=.agg #[.bool b,.slice a4 ln.length c4,.slice a7 ld.length c7]) (by simp only [results,Tryz.results166];go_simp) rfl ⟨⟨_,rfl,?_⟩,?_⟩
     ·rw [rZ.o,if_neg HU.o];exact ⟨_,_,rfl,bX.mono ((((V7.o.cx Hr.o (by decide) _ _).ap (by dsimp only;omega) _).ap (by dsimp only;omega) _).ap (by dsimp only;omega) _) (by omega),
       bX.mono ((((N7.o.ap (by dsimp only;omega) _).ap (by dsimp only;omega) _).ap (by dsimp only;omega) _).ap (by dsimp only;omega) _) (by omega)⟩
     ·have:=X7.o;exact eX
   ·have B5:Hid (af (((w4.setCell ⟨w3.heap.size,0,none⟩ (.bool b)).setCell ⟨w3.heap.size,1,none⟩ (.slice a4 ln.length c4)).setCell ⟨w3.heap.size,2,none⟩ (.slice none 0 0)) w3.heap.size #[.bool b,.slice a4 ln.length c4,.slice none 0 0] 25):=by
     have h1:=((af.new w3 #[.bool false,.slice none 0 0,.slice none 0 0] 25).drew).ext hx4;have h2:=((h1.set 0 (.bool b)).set 1 (.slice a4 ln.length c4)).set 2 (.slice none 0 0);exact kI (by simpa using h2)
    have K5:=kI (((k4.setOther (a:=⟨w3.heap.size,0,none⟩) (by dsimp only;omega) (.bool b)).setOther (a:=⟨w3.heap.size,1,none⟩) (by dsimp only;omega) (.slice a4 ln.length c4)).setOther (a:=⟨w3.heap.size,2,none⟩) (by dsimp only;omega) (.slice none 0 0));have R5:=kI ((((P1.o.ext e4).setOther (a:=⟨w3.heap.size,0,none⟩) (by dsimp only;omega) (.bool b)).setOther (a:=⟨w3.heap.size,1,none⟩) (by dsimp only;omega) (.slice a4 ln.length c4)).setOther (a:=⟨w3.heap.size,2,none⟩) (by dsimp only;omega) (.slice none 0 0));have Y5:=kI (((e4.set (p:=⟨w3.heap.size,0,none⟩) (Nat.le_refl _) (.bool b)).set (p:=⟨w3.heap.size,1,none⟩) (Nat.le_refl _) (.slice a4 ln.length c4)).set (p:=⟨w3.heap.size,2,none⟩) (Nat.le_refl _) (.slice none 0 0));have X5:=kI ((((x3.trans e4).set (p:=⟨w3.heap.size,0,none⟩) (by dsimp only;omega) (.bool b)).set (p:=⟨w3.heap.size,1,none⟩) (by dsimp only;omega) (.slice a4 ln.length c4)).set (p:=⟨w3.heap.size,2,none⟩) (by dsimp only;omega) (.slice none 0 0));have V5:=kI (((((bX.mono N4.o (B':=w3.heap.size+1) (by (try simp only [World.size_alloc,World.size_drew]);omega)).ap (p:=⟨w3.heap.size,0,none⟩) (by dsimp only;omega) (.bool b)).ap (p:=⟨w3.heap.size,1,none⟩) (by dsimp only;omega) (.slice a4 ln.length c4)).ap (p:=⟨w3.heap.size,2,none⟩) (by dsimp only;omega) (.slice none 0 0)).mono (B':=w.heap.size+1+1) (by omega));clear hx4 qc qf N4 k4;generalize ((w4.setCell ⟨w3.heap.size,0,none⟩ (.bool b)).setCell ⟨w3.heap.size,1,none⟩ (.slice a4 ln.length c4)).setCell ⟨w3.heap.size,2,none⟩ (.slice none 0 0)=w5 at *
    generalize hbx:w3.heap.size=bx at *
    have b5:=B5.o.cell;have Hm:=B5.o.free;have Pz:=B5.o.lt;have r5:=R5.o.cell;have Hn:=R5.o.free;have PE:=R5.o.lt;have k5:=K5.o.cell;have PF:=K5.o.lt;go_wp2_with fail;refine (eH _ ld w5 (D5.o.ext Y5.o)).mono ?_;clear b5 Hm r5 Hn k5;by_cases hu:ld=[1]
    ·rw [decide_eq_true hu];have HU:=kI hu;clear hu;rintro e w6 ⟨rfl,hx6⟩;have B6:=B5.o.ext hx6;have R6:=R5.o.ext hx6;have X6:=kI (X5.o.trans hx6);have V6:=kI (V5.o.ext hx6);have b6:=B6.cell;have PH:=B6.free;have Ho:=B6.lt;have r6:=R6.cell;have PI:=R6.free;have Hp:=R6.lt;clear hx6 B6 R6;go_wp2_with fail;exact bodyPost_ret (v:=.agg #[.bool b,.slice a4 ln.length c4,.slice none 0 0]) (by simp only [results,Tryz.results166];go_simp) rfl ⟨⟨_,rfl,by rw [rZ.o,if_pos HU.o];exact ⟨_,_,rfl,bX.mono (((V6.o.ap (by dsimp only;omega) _).ap (by dsimp only;omega) _).ap (by dsimp only;omega) _) (by omega),bK.nil _ _⟩⟩,by have:=X6.o;exact eX⟩
    ·rw [decide_eq_false hu];have HU:=kI hu;rintro e w6 ⟨rfl,hx6⟩;have B6:=kI (B5.o.ext hx6);have K6:=(K5.o.ext hx6);have R6:=kI (R5.o.ext hx6);have X6:=kI (X5.o.trans hx6);have Y6:=kI (Y5.o.trans hx6);have V6:=kI (V5.o.ext hx6);have k6:=K6.cell;have Hq:=K6.free;have PJ:=K6.lt;have Ho:=B6.o.lt;have Hp:=R6.o.lt;clear hx6 K6 hu;go_wp2_with fail;refine (clone_any _ ld w6 (D5.o.ext Y6.o) (by omega)).mono ?_;rintro e w7 ⟨⟨v7,rfl,n7⟩,hx7⟩;obtain ⟨a7,c7,rfl⟩:=n7.shape;have N7:Hid (bX w7 w6.heap.size (.slice a7 ld.length c7) ld):=kI n7;have B7:=B6.o.ext hx7;have Hr:=kI B7;have R7:=R6.o.ext hx7;have X7:=kI (X6.o.trans hx7);have V7:=kI (V6.o.ext hx7);have b7:=B7.cell;have PM:=B7.free;have PP:=B7.lt;have r7:=R7.cell;have NM:=R7.free;have NO:=R7.lt;clear hx7 B7 R7 k6 Hq n7;go_wp2_with fail;refine bodyPost_ret (v:=.agg #[.bool b,.slice a4 ln.length c4,.slice a7 ld.length c7]) (by simp only [results,Tryz.results166];go_simp) rfl ⟨⟨_,rfl,?_⟩,?_⟩
     ·rw [rZ.o,if_neg HU.o];exact ⟨_,_,rfl,bX.mono ((((V7.o.cx Hr.o (by decide) _ _).ap (by dsimp only;omega) _).ap (by dsimp only;omega) _).ap (by dsimp only;omega) _) (by omega),
       bX.mono ((((N7.o.ap (by dsimp only;omega) _).ap (by dsimp only;omega) _).ap (by dsimp only;omega) _).ap (by dsimp only;omega) _) (by omega)⟩
     ·have:=X7.o;exact eX
  ·have e1:decide (lim g=[1])=false:=decide_eq_false (fun e=>hg1 (by rw [← aB g,e];rfl));obtain ⟨l1,hl1⟩:=gN (lim (nv ln / g));obtain ⟨l2,hl2⟩:=gN (lim (nv ld / g));have hs1:l1.length≤512:=by rw [hl1];exact Nat.le_trans (aF.2 (Nat.lt_of_le_of_lt (Nat.div_le_self _ _) (bQ LN.o))) sn
   have hs2:l2.length≤512:=by rw [hl2];exact Nat.le_trans (aF.2 (Nat.lt_of_le_of_lt (Nat.div_le_self _ _) (bQ LD.o))) sd
   have hd1:oB ln (lim g)=(l1,lim (nv ln % g),0):=by rw [xE sn ZN.o hg5 (aP _) (by rw [aB];exact TI),aB,hl1]
   have hd2:oB ld (lim g)=(l2,lim (nv ld % g),0):=by rw [xE sd ZD.o hg5 (aP _) (by rw [aB];exact TI),aB,hl2]
   have hrep:RR.mk b (lim (nv ln / g)) (if nv ld / g=1 then [] else lim (nv ld / g))=RR.mk b l1 (if l2=[1] then [] else l2):=by
    have:nv ld / g=1↔l2=[1]:=⟨fun e=>by rw [hl2,e];rfl,fun e=>by rw [← aB (nv ld / g),← hl2,e];rfl⟩;rw [hl1,← hl2];simp only [this]
   have rZ:=kI (m8.o.trans hrep);have HD1:=kI hd1;have HD2:=kI hd2;clear hrep hl1 hl2 hd1 hd2;rw [e1];rintro e wa ⟨rfl,hxa⟩;have XA:=kI (X2.o.trans hxa);have PA:=kI (TJ.out.ext hxa);have TL:=kI (TK.out.ext hxa);have NA:=kI (N2.o.ext hxa);clear hxa e1;have c0:=PA.o.cell;have f0:=PA.o.free;have l0:=PA.o.lt;go_wp2_with fail;refine (oC _ _ ln (lim g) _ (HN.o.ext XA.o) NA.o LN.o (aK _)).mono ?_;rw [HD1.o];rintro e wb ⟨⟨vq,vr,rfl,nq,nr⟩,hxb⟩;obtain ⟨aq,cq,rfl⟩:=nq.shape;have hpb:=PA.o.ext hxb;have c1:=hpb.cell;have f1:=hpb.free;have Lk:=hpb.lt;have NQ:Hid (bX wb (w.heap.size+1+1) (.slice aq l1.length cq) l1):=kI (bX.mono nq (by have:=TL.out.lt;omega));have XB:=kI (XA.o.trans hxb);have QB:=kI (TL.out.ext hxb);have NB:=kI (NA.o.ext hxb);have PB:=kI hpb;clear nq nr hxb hpb c0 f0 l0;go_wp2_with fail;have hpc:af (wb.setCell ⟨w.heap.size,0,none⟩ (.slice aq l1.length cq)) w.heap.size #[.slice aq l1.length cq,.slice ad ld.length cd,.bool b] 134:=by
    have:=PB.o.set 0 (.slice aq l1.length cq);simpa using this
   have hqc:=QB.o.setOther (a:=⟨w.heap.size,0,none⟩) (by dsimp only;omega) (.slice aq l1.length cq);have hnc:aV .u32 (wb.setCell ⟨w.heap.size,0,none⟩ (.slice aq l1.length cq)) (.slice a2 (lim g).length c2) (lim g):=du NB.o PB.o (by intro x hx n;simp at hx;rcases hx with rfl|rfl|rfl <;> simp) 0 _;have yR:=NQ.o.ap (p:=⟨w.heap.size,0,none⟩) (by dsimp only;omega) (.slice aq l1.length cq);have hxc:=XB.o.set (p:=⟨w.heap.size,0,none⟩) (Nat.le_refl _) (.slice aq l1.length cq);have PC:=kI hpc;have QC:=kI hqc;have NC:=kI hnc;have VC:=kI yR;have XC:=kI hxc;clear hpc hqc hnc yR hxc PB QB NB NQ XB c1 f1 Lk;generalize wb.setCell ⟨w.heap.size,0,none⟩ (.slice aq l1.length cq)=wc at *
   have c0:=PC.o.cell;have f0:=PC.o.free;have l0:=PC.o.lt;go_wp2_with fail;refine (oC _ _ ld (lim g) _ (HD.o.ext XC.o) NC.o LD.o (aK _)).mono ?_;rw [HD2.o];rintro e wd ⟨⟨vq,vr,rfl,nq,nr⟩,hxd⟩;obtain ⟨ar,cr,rfl⟩:=nq.shape;have hpb:=PC.o.ext hxd;have c1:=hpb.cell;have f1:=hpb.free;have Lk:=hpb.lt;have ND:Hid (bX wd (w.heap.size+1+1) (.slice ar l2.length cr) l2):=kI (bX.mono nq (by have:=QC.o.lt;omega));have XD:=kI (XC.o.trans hxd);have QD:=kI (QC.o.ext hxd);have VD:=kI (VC.o.ext hxd);have PD:=kI hpb;clear nq nr hxd hpb c0 f0 l0;go_wp2_with fail;have hpc:af (wd.setCell ⟨w.heap.size,1,none⟩ (.slice ar l2.length cr)) w.heap.size #[.slice aq l1.length cq,.slice ar l2.length cr,.bool b] 134:=by
    have:=PD.o.set 1 (.slice ar l2.length cr);simpa using this
   have hqc:=QD.o.setOther (a:=⟨w.heap.size,1,none⟩) (by dsimp only;omega) (.slice ar l2.length cr);have hnc:=(ND.o.ap (p:=⟨w.heap.size,1,none⟩) (by dsimp only;omega) (.slice ar l2.length cr)).rd;have yR:=(VD.o.ap (p:=⟨w.heap.size,1,none⟩) (by dsimp only;omega) (.slice ar l2.length cr)).rd;have hxc:=XD.o.set (p:=⟨w.heap.size,1,none⟩) (Nat.le_refl _) (.slice ar l2.length cr);have P0:=kI hpc;have P1:=kI hqc;have D5:=kI hnc;have Le:=kI yR;have X3:=kI hxc;clear hpc hqc hnc yR hxc PD QD ND VD XD c1 f1 Lk;generalize wd.setCell ⟨w.heap.size,1,none⟩ (.slice ar l2.length cr)=w3 at *
   have c0:=P0.o.cell;have f0:=P0.o.free;go_wp2_with fail;have hmx:Tryz.prog.follows .mixedOrders=true:=by kernel_rfl
   have x3:=X3.o;have Px:=P0.o.lt;have Py:=P1.o.lt;go_region_held3 (fun W=>af W w.heap.size #[.slice aq l1.length cq,.slice ar l2.length cr,.bool b] 134∧W.cell? ⟨w.heap.size,0,none⟩=some (.slice aq l1.length cq)∧W.cell? ⟨w.heap.size,1,none⟩=some (.slice ar l2.length cr)∧W.cell? ⟨w.heap.size,2,none⟩=some (.bool b))
    ((refine af.s3 ?_;(repeat (first|exact P0.o|exact k4|refine af.setOther ?_ (by dsimp only;omega) _|refine af.alloc ?_ _|refine af.drew ?_))))
    (first|(go_at_call 177;refine (clone_any _ l1 _ (Le.o.ext eX) (by omega)).mono ?_;rintro e w4 ⟨⟨v4,rfl,n4⟩,hx4⟩;obtain ⟨a4,c4,rfl⟩:=n4.shape;have N4:=kI n4;have z4:=hx4.size;have e4:Ext w3 w4:=Ext.trans eX hx4;have k4:=P0.o.ext e4;have qc:=fun h=>(hx4.cC (b:=w3.heap.size) h).1;have qf:=fun h=>(hx4.cC (b:=w3.heap.size) h).2;(try simp only [World.size_alloc,World.size_drew] at qc qf z4);clear n4))
   ·have B5:Hid (af (w4.alloc (.cells #[.bool b,.slice a4 l1.length c4,.slice none 0 0] 25)) w4.heap.size #[.bool b,.slice a4 l1.length c4,.slice none 0 0] 25):=kI (af.new _ _ _);have K5:=kI (k4.alloc (.cells #[.bool b,.slice a4 l1.length c4,.slice none 0 0] 25));have R5:=kI ((P1.o.ext e4).alloc (.cells #[.bool b,.slice a4 l1.length c4,.slice none 0 0] 25));have Y5:=kI (e4.alloc (.cells #[.bool b,.slice a4 l1.length c4,.slice none 0 0] 25));have X5:=kI ((x3.trans e4).alloc (.cells #[.bool b,.slice a4 l1.length c4,.slice none 0 0] 25));have V5:Hid (bX (w4.alloc (.cells #[.bool b,.slice a4 l1.length c4,.slice none 0 0] 25)) (w.heap.size+1+1) (.slice a4 l1.length c4) l1):=kI ((bX.mono N4.o (B':=w.heap.size+1+1) (by (try simp only [World.size_alloc,World.size_drew]);omega)).ext ((Ext.refl w4).alloc (.cells #[.bool b,.slice a4 l1.length c4,.slice none 0 0] 25)));clear hx4 qc qf N4 k4;generalize hbx:w4.heap.size=bx at *
    generalize w4.alloc (.cells #[.bool b,.slice a4 l1.length c4,.slice none 0 0] 25)=w5 at *
    have b5:=B5.o.cell;have Hm:=B5.o.free;have Pz:=B5.o.lt;have r5:=R5.o.cell;have Hn:=R5.o.free;have PE:=R5.o.lt;have k5:=K5.o.cell;have PF:=K5.o.lt;go_wp2_with fail;refine (eH _ l2 w5 (D5.o.ext Y5.o)).mono ?_;clear b5 Hm r5 Hn k5;by_cases hu:l2=[1]
    ·rw [decide_eq_true hu];have HU:=kI hu;clear hu;rintro e w6 ⟨rfl,hx6⟩;have B6:=B5.o.ext hx6;have R6:=R5.o.ext hx6;have X6:=kI (X5.o.trans hx6);have V6:=kI (V5.o.ext hx6);have b6:=B6.cell;have PH:=B6.free;have Ho:=B6.lt;have r6:=R6.cell;have PI:=R6.free;have Hp:=R6.lt;clear hx6 B6 R6;go_wp2_with fail;exact bodyPost_ret (v:=.agg #[.bool b,.slice a4 l1.length c4,.slice none 0 0]) (by simp only [results,Tryz.results166];go_simp) rfl ⟨⟨_,rfl,by rw [rZ.o,if_pos HU.o];exact ⟨_,_,rfl,bX.mono (((V6.o.ap (by dsimp only;omega) _).ap (by dsimp only;omega) _).ap (by dsimp only;omega) _) (by omega),bK.nil _ _⟩⟩,by have:=X6.o;exact eX⟩
    ·rw [decide_eq_false hu];have HU:=kI hu;rintro e w6 ⟨rfl,hx6⟩;have B6:=kI (B5.o.ext hx6);have K6:=(K5.o.ext hx6);have R6:=kI (R5.o.ext hx6);have X6:=kI (X5.o.trans hx6);have Y6:=kI (Y5.o.trans hx6);have V6:=kI (V5.o.ext hx6);have k6:=K6.cell;have Hq:=K6.free;have PJ:=K6.lt;have Ho:=B6.o.lt;have Hp:=R6.o.lt;clear hx6 K6 hu;go_wp2_with fail;refine (clone_any _ l2 w6 (D5.o.ext Y6.o) (by omega)).mono ?_;rintro e w7 ⟨⟨v7,rfl,n7⟩,hx7⟩;obtain ⟨a7,c7,rfl⟩:=n7.shape;have N7:Hid (bX w7 w6.heap.size (.slice a7 l2.length c7) l2):=kI n7;have B7:=B6.o.ext hx7;have Hr:=kI B7;have R7:=R6.o.ext hx7;have X7:=kI (X6.o.trans hx7);have V7:=kI (V6.o.ext hx7);have b7:=B7.cell;have PM:=B7.free;have PP:=B7.lt;have r7:=R7.cell;have NM:=R7.free;have NO:=R7.lt;clear hx7 B7 R7 k6 Hq n7;go_wp2_with fail;refine bodyPost_ret (v:=.agg #[.bool b,.slice a4 l1.length c4,.slice a7 l2.length c7]) (by simp only [results,Tryz.results166];go_simp) rfl ⟨⟨_,rfl,?_⟩,?_⟩
     ·rw [rZ.o,if_neg HU.o];exact ⟨_,_,rfl,bX.mono ((((V7.o.cx Hr.o (by decide) _ _).ap (by dsimp only;omega) _).ap (by dsimp only;omega) _).ap (by dsimp only;omega) _) (by omega),
       bX.mono ((((N7.o.ap (by dsimp only;omega) _).ap (by dsimp only;omega) _).ap (by dsimp only;omega) _).ap (by dsimp only;omega) _) (by omega)⟩
     ·have:=X7.o;exact eX
   ·have B5:Hid (af (((w4.setCell ⟨w3.heap.size,0,none⟩ (.bool b)).setCell ⟨w3.heap.size,1,none⟩ (.slice a4 l1.length c4)).setCell ⟨w3.heap.size,2,none⟩ (.slice none 0 0)) w3.heap.size #[.bool b,.slice a4 l1.length c4,.slice none 0 0] 25):=by
     have h1:=((af.new w3 #[.bool false,.slice none 0 0,.slice none 0 0] 25).drew).ext hx4;have h2:=((h1.set 0 (.bool b)).set 1 (.slice a4 l1.length c4)).set 2 (.slice none 0 0);exact kI (by simpa using h2)
    have K5:=kI (((k4.setOther (a:=⟨w3.heap.size,0,none⟩) (by dsimp only;omega) (.bool b)).setOther (a:=⟨w3.heap.size,1,none⟩) (by dsimp only;omega) (.slice a4 l1.length c4)).setOther (a:=⟨w3.heap.size,2,none⟩) (by dsimp only;omega) (.slice none 0 0));have R5:=kI ((((P1.o.ext e4).setOther (a:=⟨w3.heap.size,0,none⟩) (by dsimp only;omega) (.bool b)).setOther (a:=⟨w3.heap.size,1,none⟩) (by dsimp only;omega) (.slice a4 l1.length c4)).setOther (a:=⟨w3.heap.size,2,none⟩) (by dsimp only;omega) (.slice none 0 0));have Y5:=kI (((e4.set (p:=⟨w3.heap.size,0,none⟩) (Nat.le_refl _) (.bool b)).set (p:=⟨w3.heap.size,1,none⟩) (Nat.le_refl _) (.slice a4 l1.length c4)).set (p:=⟨w3.heap.size,2,none⟩) (Nat.le_refl _) (.slice none 0 0));have X5:=kI ((((x3.trans e4).set (p:=⟨w3.heap.size,0,none⟩) (by dsimp only;omega) (.bool b)).set (p:=⟨w3.heap.size,1,none⟩) (by dsimp only;omega) (.slice a4 l1.length c4)).set (p:=⟨w3.heap.size,2,none⟩) (by dsimp only;omega) (.slice none 0 0));have V5:=kI (((((bX.mono N4.o (B':=w3.heap.size+1) (by (try simp only [World.size_alloc,World.size_drew]);omega)).ap (p:=⟨w3.heap.size,0,none⟩) (by dsimp only;omega) (.bool b)).ap (p:=⟨w3.heap.size,1,none⟩) (by dsimp only;omega) (.slice a4 l1.length c4)).ap (p:=⟨w3.heap.size,2,none⟩) (by dsimp only;omega) (.slice none 0 0)).mono (B':=w.heap.size+1+1) (by omega));clear hx4 qc qf N4 k4;generalize ((w4.setCell ⟨w3.heap.size,0,none⟩ (.bool b)).setCell ⟨w3.heap.size,1,none⟩ (.slice a4 l1.length c4)).setCell ⟨w3.heap.size,2,none⟩ (.slice none 0 0)=w5 at *
    generalize hbx:w3.heap.size=bx at *
    have b5:=B5.o.cell;have Hm:=B5.o.free;have Pz:=B5.o.lt;have r5:=R5.o.cell;have Hn:=R5.o.free;have PE:=R5.o.lt;have k5:=K5.o.cell;have PF:=K5.o.lt;go_wp2_with fail;refine (eH _ l2 w5 (D5.o.ext Y5.o)).mono ?_;clear b5 Hm r5 Hn k5;by_cases hu:l2=[1]
    ·rw [decide_eq_true hu];have HU:=kI hu;clear hu;rintro e w6 ⟨rfl,hx6⟩;have B6:=B5.o.ext hx6;have R6:=R5.o.ext hx6;have X6:=kI (X5.o.trans hx6);have V6:=kI (V5.o.ext hx6);have b6:=B6.cell;have PH:=B6.free;have Ho:=B6.lt;have r6:=R6.cell;have PI:=R6.free;have Hp:=R6.lt;clear hx6 B6 R6;go_wp2_with fail;exact bodyPost_ret (v:=.agg #[.bool b,.slice a4 l1.length c4,.slice none 0 0]) (by simp only [results,Tryz.results166];go_simp) rfl ⟨⟨_,rfl,by rw [rZ.o,if_pos HU.o];exact ⟨_,_,rfl,bX.mono (((V6.o.ap (by dsimp only;omega) _).ap (by dsimp only;omega) _).ap (by dsimp only;omega) _) (by omega),bK.nil _ _⟩⟩,by have:=X6.o;exact eX⟩
    ·rw [decide_eq_false hu];have HU:=kI hu;rintro e w6 ⟨rfl,hx6⟩;have B6:=kI (B5.o.ext hx6);have K6:=(K5.o.ext hx6);have R6:=kI (R5.o.ext hx6);have X6:=kI (X5.o.trans hx6);have Y6:=kI (Y5.o.trans hx6);have V6:=kI (V5.o.ext hx6);have k6:=K6.cell;have Hq:=K6.free;have PJ:=K6.lt;have Ho:=B6.o.lt;have Hp:=R6.o.lt;clear hx6 K6 hu;go_wp2_with fail;refine (clone_any _ l2 w6 (D5.o.ext Y6.o) (by omega)).mono ?_;rintro e w7 ⟨⟨v7,rfl,n7⟩,hx7⟩;obtain ⟨a7,c7,rfl⟩:=n7.shape;have N7:Hid (bX w7 w6.heap.size (.slice a7 l2.length c7) l2):=kI n7;have B7:=B6.o.ext hx7;have Hr:=kI B7;have R7:=R6.o.ext hx7;have X7:=kI (X6.o.trans hx7);have V7:=kI (V6.o.ext hx7);have b7:=B7.cell;have PM:=B7.free;have PP:=B7.lt;have r7:=R7.cell;have NM:=R7.free;have NO:=R7.lt;clear hx7 B7 R7 k6 Hq n7;go_wp2_with fail;refine bodyPost_ret (v:=.agg #[.bool b,.slice a4 l1.length c4,.slice a7 l2.length c7]) (by simp only [results,Tryz.results166];go_simp) rfl ⟨⟨_,rfl,?_⟩,?_⟩
     ·rw [rZ.o,if_neg HU.o];exact ⟨_,_,rfl,bX.mono ((((V7.o.cx Hr.o (by decide) _ _).ap (by dsimp only;omega) _).ap (by dsimp only;omega) _).ap (by dsimp only;omega) _) (by omega),
       bX.mono ((((N7.o.ap (by dsimp only;omega) _).ap (by dsimp only;omega) _).ap (by dsimp only;omega) _).ap (by dsimp only;omega) _) (by omega)⟩
     ·have:=X7.o;exact eX
theorem mI {l:List Int} (h:dH l=0):cD l:=(ol h).2
theorem dS (v:Value) (r:RR) (w:World) (h:aX w v r) (hl:au r) :
  Calls Tryz.prog 111 #[v] w fun e w'=>e=.returned (.int .i64 (am r))∧Ext w w':=by
 obtain ⟨vn,vd,rfl,hn,hd⟩:=h;obtain ⟨an,cn,rfl⟩:=aj hn;obtain ⟨ad,cd,rfl⟩:=aj hd;obtain ⟨b,ln,ld⟩:=r;obtain ⟨hl1,hl2⟩:=hl;dsimp only at hl1 hl2 hn hd ⊢;have HN:=kI hn;have HD:=kI hd;have L1:=kI hl1;have L2:=kI hl2;clear hn hd hl1 hl2;have hb0:=af.new w #[.bool b,.slice an ln.length cn,.slice ad ld.length cd] 25;have HB:=kI hb0;have HX:=kI ((Ext.refl w).alloc (.cells #[.bool b,.slice an ln.length cn,.slice ad ld.length cd] 25));clear hb0;by_cases h1:128 < ln.length∨128 < ld.length
 ·have e:am ⟨b,ln,ld⟩=4:=by unfold am;rw [if_pos h1]
  have E:=kI e;clear e;by_cases h2:128 < ln.length
  ·have q1:(128:Int) < (ln.length:Int):=by omega
   go_enter Tryz.func111,Tryz.ntmps111
   go_wp2_with fail;go_ret;exact ⟨by rw [E.o];rfl,eX⟩
  ·have q1:¬ (128:Int) < (ln.length:Int):=by omega
   have q2:(128:Int) < (ld.length:Int):=by omega
   go_enter Tryz.func111,Tryz.ntmps111
   go_wp2_with fail;go_ret;exact ⟨by rw [E.o];rfl,eX⟩
 ·have q1:¬ (128:Int) < (ln.length:Int):=by omega
  have q2:¬ (128:Int) < (ld.length:Int):=by omega
  have s1:ln.length≤128:=by omega
  have s2:ld.length≤128:=by omega
  by_cases hc:dH ln=0
  ·have hc1:=fun W h=>eF (.slice an ln.length cn) ln W h;rw [hc] at hc1;have C1:=kI hc1;clear hc1;by_cases hd0:dH ld=0
   ·have hc2:=fun W h=>eF (.slice ad ld.length cd) ld W h;rw [hd0] at hc2;have C2:=kI hc2;clear hc2;obtain ⟨E,hE⟩:=gN (am ⟨b,ln,ld⟩);rw [← hE];have HE:=kI hE;have HC:=kI hc;have TM:=kI hd0;have H1:=kI h1;clear hE hc hd0 h1;go_enter Tryz.func111,Tryz.ntmps111
    go_wp2_with fail;refine (C1.o _ (HN.o.ext HX.o)).mono ?_;rintro e w1 ⟨rfl,hx1⟩;have B1:=kI (HB.o.ext hx1);have X1:=kI (HX.o.trans hx1);clear hx1;have k1:=B1.o.cell;have f1:=B1.o.free;have l1:=B1.o.lt;go_wp2_with fail;refine (C2.o _ (HD.o.ext X1.o)).mono ?_;rintro e w2 ⟨rfl,hx2⟩;have B2:=kI (B1.o.ext hx2);have X2:=kI (X1.o.trans hx2);clear hx2 k1 f1 l1 B1 X1;have k2:=B2.o.cell;have f2:=B2.o.free;have l2:=B2.o.lt;go_wp2_with fail;refine (eH _ ld _ (HD.o.ext X2.o)).mono ?_;rintro e w3 ⟨rfl,hx3⟩;have B3:=kI (B2.o.ext hx3);have X3:=kI (X2.o.trans hx3);clear hx3 k2 f2 l2 B2 X2;have k3:=B3.o.cell;have f3:=B3.o.free;have l3:=B3.o.lt;by_cases hu:ld=[1]
    ·rw [decide_eq_true hu];have HU:=kI hu;clear hu;go_wp2_with fail;go_ret;refine ⟨?_,X3.o⟩;rw [HE.o];unfold am;rw [if_neg H1.o,if_pos (.inr (.inr (.inl HU.o)))];rfl
    ·rw [decide_eq_false hu];have HU:=kI hu;clear hu;by_cases hz:ln.length=0
     ·have hz':((ln.length:Int) == 0)=true:=by simpa using hz
      have hz2:ln=[]:=List.length_eq_zero_iff.1 hz;cases b
      ·by_cases hdz:ld.length=0
       ·have Lm:ld=[]:=List.length_eq_zero_iff.1 hdz;have q3:¬ (0:Int) < (ld.length:Int):=by omega
        have HZ:=kI hz2;have V0:=kI Lm;clear hz2 Lm;go_wp2_with fail;go_ret;refine ⟨?_,X3.o⟩;rw [HE.o,HZ.o,V0.o];rfl
       ·have q3:(0:Int) < (ld.length:Int):=by omega
        have HZ:=kI hz2;clear hz2;go_wp2_with fail;go_ret;refine ⟨?_,X3.o⟩;rw [HE.o];unfold am;rw [if_neg H1.o,if_pos (.inr (.inr (.inr ⟨HZ.o,.inr (fun e=>hdz (by rw [show ld=[] from e];rfl))⟩)))];rfl
      ·have HZ:=kI hz2;clear hz2;go_wp2_with fail;go_ret;refine ⟨?_,X3.o⟩;rw [HE.o];unfold am;rw [if_neg H1.o,if_pos (.inr (.inr (.inr ⟨HZ.o,.inl rfl⟩)))];rfl
     ·have hz':((ln.length:Int) == 0)=false:=by simpa using hz
      have h2:¬ (dH ln≠0∨dH ld≠0∨ld=[1]∨(ln=[]∧(b=true∨ld≠[]))):=by
       rintro (h|h|h|⟨h,_⟩)
       ·exact h HC.o
       ·exact h TM.o
       ·exact HU.o h
       ·exact hz (by rw [h];rfl)
      have H2:=kI h2;clear h2;by_cases hdz:ld.length=0
      ·have q3:¬ (0:Int) < (ld.length:Int):=by omega
       go_wp2_with fail;go_ret;refine ⟨?_,X3.o⟩;rw [HE.o];unfold am;rw [if_neg H1.o,if_neg H2.o,if_neg (fun h=>h.1 (List.length_eq_zero_iff.1 hdz))];rfl
      ·have q3:(0:Int) < (ld.length:Int):=by omega
       obtain ⟨g,hg⟩:=gN (Nat.gcd (nv ln) (nv ld));have hgs:vO ln ld=(lim g,0):=by unfold vO;rw [fj (fu (by omega) (mI HC.o) (by omega) (mI TM.o)),hg]
       have HG:=kI hg;have Pw:=kI hgs;clear hg hgs;go_wp2_with fail;refine (xD _ _ ln ld _ (HN.o.ext X3.o) (HD.o.ext X3.o) L1.o L2.o).mono ?_;rw [Pw.o];rintro e w4 ⟨⟨v4,rfl,n4⟩,hx4⟩;obtain ⟨a4,c4,rfl⟩:=n4.shape;have N4:=kI n4.rd;have X4:=kI (X3.o.trans hx4);clear n4 hx4;go_wp2_with fail;refine (eH _ (lim g) _ N4.o).mono ?_;rintro e w5 ⟨rfl,hx5⟩;have X5:=kI (X4.o.trans hx5);clear hx5;by_cases hg1:g=1
       ·have e1:decide (lim g=[1])=true:=by rw [hg1];rfl
        rw [e1];go_wp2_with fail;go_ret;refine ⟨?_,X5.o⟩;rw [HE.o];unfold am;rw [if_neg H1.o,if_neg H2.o,if_neg (fun h=>h.2 (HG.o.symm.trans hg1))];rfl
       ·have e1:decide (lim g=[1])=false:=decide_eq_false (fun e=>hg1 (by rw [← aB g,e];rfl));rw [e1];go_wp2_with fail;go_ret;refine ⟨?_,X5.o⟩;rw [HE.o];unfold am;rw [if_neg H1.o,if_neg H2.o,if_pos ⟨fun e=>hdz (by rw [show ld=[] from e];rfl),fun e=>hg1 (HG.o.trans e)⟩];rfl
   ·have e:am ⟨b,ln,ld⟩=2:=by unfold am;rw [if_neg h1,if_pos (.inr (.inl hd0))]
    obtain ⟨cc,hcc⟩:=gN (dH ld);have hc2:=fun W h=>eF (.slice ad ld.length cd) ld W h;rw [← hcc] at hc2 hd0;have hcb:(cc != 0)=true:=by simpa using hd0
    have C2:=kI hc2;have E:=kI e;clear hc2 e hcc h1;go_enter Tryz.func111,Tryz.ntmps111
    go_wp2_with fail;refine (C1.o _ (HN.o.ext HX.o)).mono ?_;rintro e w1 ⟨rfl,hx1⟩;have B1:=kI (HB.o.ext hx1);have X1:=kI (HX.o.trans hx1);clear hx1;have k1:=B1.o.cell;have f1:=B1.o.free;have l1:=B1.o.lt;go_wp2_with fail;refine (C2.o _ (HD.o.ext X1.o)).mono ?_;rintro e w2 ⟨rfl,hx2⟩;have X2:=kI (X1.o.trans hx2);clear hx2;go_wp2_with fail;go_ret;exact ⟨by rw [E.o];rfl,X2.o⟩
  ·have e:am ⟨b,ln,ld⟩=2:=by unfold am;rw [if_neg h1,if_pos (.inl hc)]
   obtain ⟨cc,hcc⟩:=gN (dH ln);have hc2:=fun W h=>eF (.slice an ln.length cn) ln W h;rw [← hcc] at hc2 hc;have hcb:(cc != 0)=true:=by simpa using hc
   have C2:=kI hc2;have E:=kI e;clear hc2 e hcc h1;go_enter Tryz.func111,Tryz.ntmps111
   go_wp2_with fail;refine (C2.o _ (HN.o.ext HX.o)).mono ?_;rintro e w2 ⟨rfl,hx2⟩;have B1:=kI (HB.o.ext hx2);have X2:=kI (HX.o.trans hx2);clear hx2;have k1:=B1.o.cell;have f1:=B1.o.free;have l1:=B1.o.lt;go_wp2_with fail;go_ret;exact ⟨by rw [E.o];rfl,X2.o⟩
theorem yS {la lb:List Int} (ha:bh la) (hb:bh lb) (za:cD la) (zb:cD lb) (h:la.length+lb.length≤512):mulS la lb=(lim (nv la*nv lb),0):=by
 refine nH (by omega) za (by omega) zb (gB (k:=la.length+lb.length) ?_ h);rw [Nat.pow_add];exact Nat.mul_lt_mul'' (bQ ha) (bQ hb)
theorem i4 {w:World} {va vb:Value} {la lb:List Int} (ha:aV .u32 w va la) (hb:aV .u32 w vb lb) (hla:bh la) (hlb:bh lb) (za:cD la) (zb:cD lb) (h:la.length+lb.length≤512) :
  ∀ W,Ext w W→Calls Tryz.prog 167 #[va,vb] W fun e w'=>(∃ v,e=.returned v∧bK W w' v (lim (nv la*nv lb)))∧Ext W w':=fun W x=>by
 have:=vQ va vb la lb W (ha.ext x) (hb.ext x) hla hlb;rwa [yS hla hlb za zb h] at this
theorem xK {la lb:List Int} (ha:bh la) (hb:bh lb):(lim (nv la*nv lb)).length≤la.length+lb.length:=by
 refine aF.2 ?_;rw [Nat.pow_add];exact Nat.mul_lt_mul'' (bQ ha) (bQ hb)
theorem yT {P Q k:Nat} (hP:(lim P).length≤k) (hQ:(lim Q).length≤k) (hk:k+1≤512):tt (lim P) (lim Q)=(lim (P+Q),0):=by
 rw [DX (by omega) (aP _) (by omega) (aP _) (by rw [aB,aB];exact gB (vF k k k (Nat.le_refl _) (Nat.le_refl _) (aF.1 hP) (aF.1 hQ)) hk),aB,aB]
theorem bX.cG {A:World} {B:Nat} {v:Value} {l:List Int} (h:bX A B v l) {bx:Nat} {c:Array Value} {t:TypeId} (hb:af A bx c t) (ht:t≠157) (x y z:Value) :
  bX (((A.setCell ⟨bx,0,none⟩ x).setCell ⟨bx,1,none⟩ y).setCell ⟨bx,2,none⟩ z) B v l:=
 ((h.cx hb ht 0 x).cx (hb.set 0 x) ht 1 y).cx ((hb.set 0 x).set 1 y) ht 2 z
theorem kX (va vb:Value) (s1 s2:Bool) (l1 l2 l3 l4:List Int) (w:World) (ha:rY w va s1 l1 l2) (hb:rY w vb s2 l3 l4) (h1:bh l1) (h2:bh l2) (h3:bh l3) (h4:bh l4) (z1:cD l1) (z2:cD l2) (z3:cD l3) (z4:cD l4)
  (t1:l1.length≤200) (t2:l2.length≤200) (t3:l3.length≤200) (t4:l4.length≤200) :
  Calls Tryz.prog 120 #[va,vb] w fun e w'=>(∃ v',e=.returned v'∧rY w' v' (s1 != s2) (lim (nv l1*nv l3)) (lim (nv l2*nv l4)))∧Ext w w':=by
 obtain ⟨vn,vd,rfl,hrn,hrd⟩:=ha;obtain ⟨a1,c1,rfl⟩:=aj hrn;obtain ⟨a2,c2,rfl⟩:=aj hrd;obtain ⟨vn,vd,rfl,kv,gR⟩:=hb;obtain ⟨a3,c3,rfl⟩:=aj kv;obtain ⟨a4,c4,rfl⟩:=aj gR;have yU:=kI (i4 hrn kv h1 h3 z1 z3 (by omega));have HC2:=kI (i4 hrd gR h2 h4 z2 z4 (by omega));clear hrn hrd kv gR h1 h2 h3 h4 z1 z2 z3 z4;obtain ⟨P,hP⟩:=gN (nv l1*nv l3);obtain ⟨D,hD⟩:=gN (nv l2*nv l4);rw [← hP] at yU ⊢;rw [← hD] at HC2 ⊢;clear hP hD;have b0:=((af.new w #[.slice a1 l1.length c1,.slice a2 l2.length c2,.bool s1] 134).alloc (.cells #[.slice a3 l3.length c3,.slice a4 l4.length c4,.bool s2] 134)).alloc (.cells #[.slice none 0 0,.slice none 0 0,.bool false] 134);have b1:=(af.new (w.alloc (.cells #[.slice a1 l1.length c1,.slice a2 l2.length c2,.bool s1] 134)) #[.slice a3 l3.length c3,.slice a4 l4.length c4,.bool s2] 134).alloc (.cells #[.slice none 0 0,.slice none 0 0,.bool false] 134);have b2:=af.new ((w.alloc (.cells #[.slice a1 l1.length c1,.slice a2 l2.length c2,.bool s1] 134)).alloc (.cells #[.slice a3 l3.length c3,.slice a4 l4.length c4,.bool s2] 134)) #[.slice none 0 0,.slice none 0 0,.bool false] 134;rw [World.size_alloc] at b1;rw [World.size_alloc,World.size_alloc] at b2;have x0:Ext w (((w.alloc (.cells #[.slice a1 l1.length c1,.slice a2 l2.length c2,.bool s1] 134)).alloc (.cells #[.slice a3 l3.length c3,.slice a4 l4.length c4,.bool s2] 134)).alloc (.cells #[.slice none 0 0,.slice none 0 0,.bool false] 134)):=(((Ext.refl w).alloc _).alloc _).alloc _;have A0:=kI b0;have A1:=kI b1;have A2:=kI b2;have X0:=kI x0;clear b0 b1 b2;go_enter Tryz.func120,Tryz.ntmps120
 go_wp2_with fail;have hmx:Tryz.prog.follows .mixedOrders=true:=by kernel_rfl
 go_region_held3 (fun W=>(af W w.heap.size #[.slice a1 l1.length c1,.slice a2 l2.length c2,.bool s1] 134∧W.cell? ⟨w.heap.size,0,none⟩=some (.slice a1 l1.length c1)∧W.cell? ⟨w.heap.size,1,none⟩=some (.slice a2 l2.length c2)∧W.cell? ⟨w.heap.size,2,none⟩=some (.bool s1))∧(af W (w.heap.size+1) #[.slice a3 l3.length c3,.slice a4 l4.length c4,.bool s2] 134∧W.cell? ⟨w.heap.size+1,0,none⟩=some (.slice a3 l3.length c3)∧W.cell? ⟨w.heap.size+1,1,none⟩=some (.slice a4 l4.length c4)∧W.cell? ⟨w.heap.size+1,2,none⟩=some (.bool s2)))
  ((refine ⟨af.s3 ?_,af.s3 ?_⟩ <;> (repeat (first|exact A0.o|exact A1.o|exact k5|exact k6|exact k7|exact k8|refine af.setOther ?_ (by dsimp only;omega) _|refine af.alloc ?_ _|refine af.drew ?_))))
  (first|(go_at_call_of 167 (Value.slice a1 l1.length c1);refine (yU.o _ eX).mono ?_;rintro e W5 ⟨⟨v5,rfl,n5⟩,hx5⟩;obtain ⟨p5,q5,rfl⟩:=n5.shape;have N5:=kI n5;have z5:=hx5.size;have k5:=A0.o.ext (Ext.trans eX hx5);have k6:=A1.o.ext (Ext.trans eX hx5);have r5:=A2.o.ext (Ext.trans eX hx5);have x5:=Ext.trans x0 (Ext.trans eX hx5);clear n5)|(go_at_call_of 167 (Value.slice a2 l2.length c2);refine (HC2.o _ eX).mono ?_;rintro e W7 ⟨⟨v7,rfl,n7⟩,hx7⟩;obtain ⟨p7,q7,rfl⟩:=n7.shape;have N7:=kI n7;have z7:=hx7.size;have k7:=k5.ext hx7;have k8:=k6.ext hx7;have r7:=(r5.ext hx7).cell;have NM:=(r5.ext hx7).free;have NO:=(r5.ext hx7).lt;have R7:=kI (r5.ext hx7);have M5:=kI (N5.o.ext hx7);have x7:=x5.trans hx7;clear n7 hx7))
 go_wp2_with fail;refine bodyPost_ret (v:=.agg #[.slice p5 (lim P).length q5,.slice p7 (lim D).length q7,.bool (s1 != s2)]) (by simp only [results,Tryz.results120];go_simp;first|done|(cases s1 <;> cases s2 <;> rfl)) rfl ⟨⟨_,rfl,_,_,rfl,?_,?_⟩,?_⟩
 ·exact (bX.cG M5.o R7.o (by decide) _ _ _).rd
 ·exact (bX.cG N7.o R7.o (by decide) _ _ _).rd
 ·exact eX
theorem oE (va vb:Value) (s1 s2:Bool) (l1 l2 l3 l4:List Int) (w:World) (ha:rY w va s1 l1 l2) (hb:rY w vb s2 l3 l4) (h1:bh l1) (h2:bh l2) (h3:bh l3) (h4:bh l4) (z1:cD l1) (z2:cD l2) (z3:cD l3) (z4:cD l4)
  (t1:l1.length≤200) (t2:l2.length≤200) (t3:l3.length≤200) (t4:l4.length≤200) :
  Calls Tryz.prog 119 #[va,vb] w fun e w'=>(∃ v',e=.returned v'∧rY w' v' (dI (s1,nv l1,nv l2) (s2,nv l3,nv l4)).1 (lim (dI (s1,nv l1,nv l2) (s2,nv l3,nv l4)).2.1) (lim (dI (s1,nv l1,nv l2) (s2,nv l3,nv l4)).2.2))∧Ext w w':=by
 obtain ⟨vn,vd,rfl,hrn,hrd⟩:=ha;obtain ⟨a1,c1,rfl⟩:=aj hrn;obtain ⟨a2,c2,rfl⟩:=aj hrd;obtain ⟨vn,vd,rfl,kv,gR⟩:=hb;obtain ⟨a3,c3,rfl⟩:=aj kv;obtain ⟨a4,c4,rfl⟩:=aj gR;have yU:=kI (i4 hrn gR h1 h4 z1 z4 (by omega));have HC2:=kI (i4 kv hrd h3 h2 z3 z2 (by omega));have NW:=kI (i4 hrd gR h2 h4 z2 z4 (by omega));have k14:=xK h1 h4;have k32:=xK h3 h2;clear hrn hrd kv gR h1 h2 h3 h4 z1 z2 z3 z4;obtain ⟨T,hT⟩:=gN (dI (s1,nv l1,nv l2) (s2,nv l3,nv l4));rw [← hT];unfold dI at hT;dsimp only at hT;obtain ⟨P,hP⟩:=gN (nv l1*nv l4);obtain ⟨Q,hQ⟩:=gN (nv l3*nv l2);obtain ⟨D,hD⟩:=gN (nv l2*nv l4);rw [← hP] at yU hT k14;rw [← hQ] at HC2 hT k32;rw [← hD] at NW hT;have HT:=kI hT;clear hP hQ hD hT;have sP:(lim P).length≤400:=by omega
 have sQ:(lim Q).length≤400:=by omega
 have hpl:=fun W va vb h1 h2=>yQ va vb (lim P) (lim Q) W h1 h2 (aK _) (aK _);rw [yT (k:=400) sP sQ (by omega)] at hpl;have PQ:=fun W va vb h1 h2=>vR va vb (lim P) (lim Q) W h1 h2 (aK _) (aK _) (aP _) (aP _) (by omega) (by omega);rw [aB,aB] at PQ;have mJ:=kI hpl;have TN:=kI PQ;clear hpl PQ k14 k32;have b0:=((af.new w #[.slice a1 l1.length c1,.slice a2 l2.length c2,.bool s1] 134).alloc (.cells #[.slice a3 l3.length c3,.slice a4 l4.length c4,.bool s2] 134)).alloc (.cells #[.slice none 0 0,.slice none 0 0,.bool false] 134);have b1:=(af.new (w.alloc (.cells #[.slice a1 l1.length c1,.slice a2 l2.length c2,.bool s1] 134)) #[.slice a3 l3.length c3,.slice a4 l4.length c4,.bool s2] 134).alloc (.cells #[.slice none 0 0,.slice none 0 0,.bool false] 134);have b2:=af.new ((w.alloc (.cells #[.slice a1 l1.length c1,.slice a2 l2.length c2,.bool s1] 134)).alloc (.cells #[.slice a3 l3.length c3,.slice a4 l4.length c4,.bool s2] 134)) #[.slice none 0 0,.slice none 0 0,.bool false] 134;rw [World.size_alloc] at b1;rw [World.size_alloc,World.size_alloc] at b2;have x0:Ext w (((w.alloc (.cells #[.slice a1 l1.length c1,.slice a2 l2.length c2,.bool s1] 134)).alloc (.cells #[.slice a3 l3.length c3,.slice a4 l4.length c4,.bool s2] 134)).alloc (.cells #[.slice none 0 0,.slice none 0 0,.bool false] 134)):=(((Ext.refl w).alloc _).alloc _).alloc _;have A0:=kI b0;have A1:=kI b1;have A2:=kI b2;have X0:=kI x0;clear b0 b1 b2;go_enter Tryz.func119,Tryz.ntmps119
 go_wp2_with fail;have hmx:Tryz.prog.follows .mixedOrders=true:=by kernel_rfl
 go_region_held3 (fun W=>(af W w.heap.size #[.slice a1 l1.length c1,.slice a2 l2.length c2,.bool s1] 134∧W.cell? ⟨w.heap.size,0,none⟩=some (.slice a1 l1.length c1)∧W.cell? ⟨w.heap.size,1,none⟩=some (.slice a2 l2.length c2)∧W.cell? ⟨w.heap.size,2,none⟩=some (.bool s1))∧(af W (w.heap.size+1) #[.slice a3 l3.length c3,.slice a4 l4.length c4,.bool s2] 134∧W.cell? ⟨w.heap.size+1,0,none⟩=some (.slice a3 l3.length c3)∧W.cell? ⟨w.heap.size+1,1,none⟩=some (.slice a4 l4.length c4)∧W.cell? ⟨w.heap.size+1,2,none⟩=some (.bool s2)))
  ((refine ⟨af.s3 ?_,af.s3 ?_⟩ <;> (repeat (first|exact A0.o|exact A1.o|exact k5|exact k6|exact k7|exact k8|refine af.setOther ?_ (by dsimp only;omega) _|refine af.alloc ?_ _|refine af.drew ?_))))
  (first|(go_at_call_of 167 (Value.slice a1 l1.length c1);refine (yU.o _ eX).mono ?_;rintro e W5 ⟨⟨v5,rfl,n5⟩,hx5⟩;obtain ⟨p5,q5,rfl⟩:=n5.shape;have N5:=kI n5;have z5:=hx5.size;have k5:=A0.o.ext (Ext.trans eX hx5);have k6:=A1.o.ext (Ext.trans eX hx5);have r5:=A2.o.ext (Ext.trans eX hx5);have x5:=Ext.trans x0 (Ext.trans eX hx5);clear n5)|(go_at_call_of 167 (Value.slice a3 l3.length c3);refine (HC2.o _ eX).mono ?_;rintro e W7 ⟨⟨v7,rfl,n7⟩,hx7⟩;obtain ⟨p7,q7,rfl⟩:=n7.shape;have N7:=kI n7;have z7:=hx7.size;have k7:=k5.ext hx7;have k8:=k6.ext hx7;have r7:=r5.ext hx7;have M5:=kI ((N5.o.ext hx7).from (Ext.trans x0 eX));have M7:=kI (N7.o.from x5);have x7:=x5.trans hx7;clear n7 hx7))
 have K7:=kI k7;have K8:=kI k8;have R7:=kI r7;have X7:=kI x7;clear k5 k6 r5 x5 N5 N7 hx5 z5 z7 k7 k8 r7 A0 A1 A2 X0 x0;have lt7:=R7.o.lt;go_wp2_with fail;have x7:=X7.o;go_region_held3 (fun W=>(af W w.heap.size #[.slice a1 l1.length c1,.slice a2 l2.length c2,.bool s1] 134∧W.cell? ⟨w.heap.size,0,none⟩=some (.slice a1 l1.length c1)∧W.cell? ⟨w.heap.size,1,none⟩=some (.slice a2 l2.length c2)∧W.cell? ⟨w.heap.size,2,none⟩=some (.bool s1))∧(af W (w.heap.size+1) #[.slice a3 l3.length c3,.slice a4 l4.length c4,.bool s2] 134∧W.cell? ⟨w.heap.size+1,0,none⟩=some (.slice a3 l3.length c3)∧W.cell? ⟨w.heap.size+1,1,none⟩=some (.slice a4 l4.length c4)∧W.cell? ⟨w.heap.size+1,2,none⟩=some (.bool s2)))
  ((refine ⟨af.s3 ?_,af.s3 ?_⟩ <;> (repeat (first|exact K7.o|exact K8.o|exact k5|exact k6|refine af.setOther ?_ (by dsimp only;omega) _|refine af.alloc ?_ _|refine af.drew ?_))))
  (first|(go_at_call_of 167 (Value.slice a2 l2.length c2);refine (NW.o _ eX).mono ?_;rintro e W8 ⟨⟨v8,rfl,n8⟩,vS⟩;obtain ⟨p8,q8,rfl⟩:=n8.shape;have N8:=kI n8;have z8:=vS.size;have e8:Ext W7 W8:=Ext.trans eX vS;have k5:=K7.o.ext e8;have k6:=K8.o.ext e8;have qc:=fun h=>(vS.cC (b:=W7.heap.size) h).1;have qf:=fun h=>(vS.cC (b:=W7.heap.size) h).2;(try simp only [World.size_alloc,World.size_drew] at qc qf z8);clear n8))
 ·have B9:Hid (af (W8.alloc (.cells #[.slice none 0 0,.slice p8 (lim D).length q8,.bool s1] 134)) W8.heap.size #[.slice none 0 0,.slice p8 (lim D).length q8,.bool s1] 134):=kI (af.new _ _ _);have y9:Ext W8 (W8.alloc (.cells #[.slice none 0 0,.slice p8 (lim D).length q8,.bool s1] 134)):=(Ext.refl W8).alloc _;have D9:=kI ((N8.o.from (Ext.trans x7 eX)).ext y9);have lt8:=e8.size;have hbx0:w.heap.size+1+1 < W8.heap.size:=by omega
  have Lo:=kI ((M5.o.ext e8).ext y9);have Lp:=kI ((M7.o.ext e8).ext y9);have K9:=kI ((K7.o.ext e8).ext y9);have J9:=kI ((K8.o.ext e8).ext y9);have R9:=kI ((R7.o.ext e8).ext y9);have X9:=kI ((x7.trans e8).trans y9);clear vS qc qf N8 k5 k6 y9 M5 M7 K7 K8 R7;generalize hbx:W8.heap.size=bx at *
  generalize W8.alloc (.cells #[.slice none 0 0,.slice p8 (lim D).length q8,.bool s1] 134)=w9 at *
  clear hbx;have b9:=B9.o.cell;have Lr:=B9.o.free;have V1:=B9.o.lt;have r9:=R9.o.cell;have Ls:=R9.o.free;have V2:=R9.o.lt;have k9:=K9.o.cell;have V3:=K9.o.lt;have j9:=J9.o.cell;have V8:=J9.o.lt;have hs9:s1=s2∨¬ s1=s2:=Classical.em _;rcases hs9 with hs|hs
  ·have hsb:(s1 == s2)=true:=by simpa using hs
   have HS:=kI hs;clear hs;go_wp2_with fail;refine (mJ.o w9 _ _ Lo.o.rd Lp.o.rd).mono ?_;rintro e w10 ⟨⟨v10,rfl,n10⟩,dE⟩;obtain ⟨p10,q10,rfl⟩:=n10.shape;have qK:=kI (n10.from X9.o);have B10:=kI (B9.o.ext dE);have R10:=kI (R9.o.ext dE);have D6:=kI (D9.o.ext dE);have D7:=kI (X9.o.trans dE);clear dE n10 b9 Lr r9 Ls k9 j9;have b10:=B10.o.cell;have Hs:=B10.o.free;have Ht:=B10.o.lt;have r10:=R10.o.cell;have Hu:=R10.o.free;have Hv:=R10.o.lt;go_wp2_with fail;refine bodyPost_ret (v:=.agg #[.slice p10 (lim (P+Q)).length q10,.slice p8 (lim D).length q8,.bool s1]) (by simp only [results,Tryz.results119];go_simp) rfl ⟨⟨_,rfl,.slice p10 (lim (P+Q)).length q10,.slice p8 (lim D).length q8,?_,?_,?_⟩,?_⟩
   ·rw [HT.o,if_pos HS.o]
   ·rw [HT.o,if_pos HS.o];exact (bX.cG (bX.cx qK.o B10.o (by decide) 0 _) (R10.o.setOther (by dsimp only;omega) _) (by decide) _ _ _).rd
   ·rw [HT.o,if_pos HS.o];exact (bX.cG (bX.cx D6.o B10.o (by decide) 0 _) (R10.o.setOther (by dsimp only;omega) _) (by decide) _ _ _).rd
   ·have:=D7.o;exact eX
  ·have hsb:(s1 == s2)=false:=by simpa using hs
   have HS:=kI hs;clear hs;go_wp2_with fail;refine (TN.o w9 _ _ Lo.o.rd Lp.o.rd).mono ?_;rintro e w10 ⟨⟨v10,rfl,n10⟩,dE⟩;obtain ⟨U,hU⟩:=gN (if P < Q then Q - P else P - Q);rw [← hU] at n10;obtain ⟨p10,q10,rfl⟩:=n10.shape;have Lt:=kI hU;clear hU;have qK:=kI (n10.from X9.o);have B10:=kI (B9.o.ext dE);have R10:=kI (R9.o.ext dE);have D6:=kI (D9.o.ext dE);have D7:=kI (X9.o.trans dE);have Lu:=kI (J9.o.ext dE);clear dE n10 b9 Lr r9 Ls k9 j9;have b10:=B10.o.cell;have Hs:=B10.o.free;have Ht:=B10.o.lt;have r10:=R10.o.cell;have Hu:=R10.o.free;have Hv:=R10.o.lt;have j10:=Lu.o.cell;have PR:=Lu.o.lt;by_cases hlt:P < Q
   ·rw [decide_eq_true hlt];have dQ:=kI hlt;clear hlt;go_wp2_with fail;refine bodyPost_ret (v:=.agg #[.slice p10 (lim U).length q10,.slice p8 (lim D).length q8,.bool s2]) (by simp only [results,Tryz.results119];go_simp) rfl ⟨⟨_,rfl,.slice p10 (lim U).length q10,.slice p8 (lim D).length q8,?_,?_,?_⟩,?_⟩
    ·rw [HT.o,if_neg HS.o,if_pos dQ.o]
    ·rw [HT.o,if_neg HS.o,if_pos dQ.o,show Q - P=U by rw [Lt.o,if_pos dQ.o]];exact (bX.cG (bX.cx (bX.cx qK.o B10.o (by decide) 0 _) (B10.o.set 0 _) (by decide) 2 _) ((R10.o.setOther (by dsimp only;omega) _).setOther (by dsimp only;omega) _) (by decide) _ _ _).rd
    ·rw [HT.o,if_neg HS.o,if_pos dQ.o];exact (bX.cG (bX.cx (bX.cx D6.o B10.o (by decide) 0 _) (B10.o.set 0 _) (by decide) 2 _) ((R10.o.setOther (by dsimp only;omega) _).setOther (by dsimp only;omega) _) (by decide) _ _ _).rd
    ·have:=D7.o;exact eX
   ·rw [decide_eq_false hlt];have dQ:=kI hlt;clear hlt;go_wp2_with fail;refine bodyPost_ret (v:=.agg #[.slice p10 (lim U).length q10,.slice p8 (lim D).length q8,.bool s1]) (by simp only [results,Tryz.results119];go_simp) rfl ⟨⟨_,rfl,.slice p10 (lim U).length q10,.slice p8 (lim D).length q8,?_,?_,?_⟩,?_⟩
    ·rw [HT.o,if_neg HS.o,if_neg dQ.o]
    ·rw [HT.o,if_neg HS.o,if_neg dQ.o,show P - Q=U by rw [Lt.o,if_neg dQ.o]];exact (bX.cG (bX.cx qK.o B10.o (by decide) 0 _) (R10.o.setOther (by dsimp only;omega) _) (by decide) _ _ _).rd
    ·rw [HT.o,if_neg HS.o,if_neg dQ.o];exact (bX.cG (bX.cx D6.o B10.o (by decide) 0 _) (R10.o.setOther (by dsimp only;omega) _) (by decide) _ _ _).rd
    ·have:=D7.o;exact eX
 ·have h1:=((af.new W7 #[.slice none 0 0,.slice none 0 0,.bool false] 134).drew).ext vS;have B9:Hid (af (((W8.setCell ⟨W7.heap.size,0,none⟩ (.slice none 0 0)).setCell ⟨W7.heap.size,1,none⟩ (.slice p8 (lim D).length q8)).setCell ⟨W7.heap.size,2,none⟩ (.bool s1)) W7.heap.size #[.slice none 0 0,.slice p8 (lim D).length q8,.bool s1] 134):=by
   have h2:=((h1.set 0 (.slice none 0 0)).set 1 (.slice p8 (lim D).length q8)).set 2 (.bool s1);exact kI (by simpa using h2)
  have D9:=kI (bX.cG (N8.o.from (w0:=w) (Ext.trans x7 eX)) h1 (by decide) (.slice none 0 0) (.slice p8 (lim D).length q8) (.bool s1));have hbx0:w.heap.size+1+1 < W7.heap.size:=lt7;have Lo:=kI (bX.cG (M5.o.ext e8) h1 (by decide) (.slice none 0 0) (.slice p8 (lim D).length q8) (.bool s1));have Lp:=kI (bX.cG (M7.o.ext e8) h1 (by decide) (.slice none 0 0) (.slice p8 (lim D).length q8) (.bool s1));have K9:=kI ((((K7.o.ext e8).setOther (a:=⟨W7.heap.size,0,none⟩) (by dsimp only;omega) (.slice none 0 0)).setOther (a:=⟨W7.heap.size,1,none⟩) (by dsimp only;omega) (.slice p8 (lim D).length q8)).setOther (a:=⟨W7.heap.size,2,none⟩) (by dsimp only;omega) (.bool s1));have J9:=kI ((((K8.o.ext e8).setOther (a:=⟨W7.heap.size,0,none⟩) (by dsimp only;omega) (.slice none 0 0)).setOther (a:=⟨W7.heap.size,1,none⟩) (by dsimp only;omega) (.slice p8 (lim D).length q8)).setOther (a:=⟨W7.heap.size,2,none⟩) (by dsimp only;omega) (.bool s1));have R9:=kI ((((R7.o.ext e8).setOther (a:=⟨W7.heap.size,0,none⟩) (by dsimp only;omega) (.slice none 0 0)).setOther (a:=⟨W7.heap.size,1,none⟩) (by dsimp only;omega) (.slice p8 (lim D).length q8)).setOther (a:=⟨W7.heap.size,2,none⟩) (by dsimp only;omega) (.bool s1));have X9:=kI ((((x7.trans e8).set (p:=⟨W7.heap.size,0,none⟩) (by dsimp only;omega) (.slice none 0 0)).set (p:=⟨W7.heap.size,1,none⟩) (by dsimp only;omega) (.slice p8 (lim D).length q8)).set (p:=⟨W7.heap.size,2,none⟩) (by dsimp only;omega) (.bool s1));clear vS qc qf N8 k5 k6 h1 M5 M7 K7 K8 R7;generalize ((W8.setCell ⟨W7.heap.size,0,none⟩ (.slice none 0 0)).setCell ⟨W7.heap.size,1,none⟩ (.slice p8 (lim D).length q8)).setCell ⟨W7.heap.size,2,none⟩ (.bool s1)=w9 at *
  generalize hbx:W7.heap.size=bx at *
  clear hbx;have b9:=B9.o.cell;have Lr:=B9.o.free;have V1:=B9.o.lt;have r9:=R9.o.cell;have Ls:=R9.o.free;have V2:=R9.o.lt;have k9:=K9.o.cell;have V3:=K9.o.lt;have j9:=J9.o.cell;have V8:=J9.o.lt;have hs9:s1=s2∨¬ s1=s2:=Classical.em _;rcases hs9 with hs|hs
  ·have hsb:(s1 == s2)=true:=by simpa using hs
   have HS:=kI hs;clear hs;go_wp2_with fail;refine (mJ.o w9 _ _ Lo.o.rd Lp.o.rd).mono ?_;rintro e w10 ⟨⟨v10,rfl,n10⟩,dE⟩;obtain ⟨p10,q10,rfl⟩:=n10.shape;have qK:=kI (n10.from X9.o);have B10:=kI (B9.o.ext dE);have R10:=kI (R9.o.ext dE);have D6:=kI (D9.o.ext dE);have D7:=kI (X9.o.trans dE);clear dE n10 b9 Lr r9 Ls k9 j9;have b10:=B10.o.cell;have Hs:=B10.o.free;have Ht:=B10.o.lt;have r10:=R10.o.cell;have Hu:=R10.o.free;have Hv:=R10.o.lt;go_wp2_with fail;refine bodyPost_ret (v:=.agg #[.slice p10 (lim (P+Q)).length q10,.slice p8 (lim D).length q8,.bool s1]) (by simp only [results,Tryz.results119];go_simp) rfl ⟨⟨_,rfl,.slice p10 (lim (P+Q)).length q10,.slice p8 (lim D).length q8,?_,?_,?_⟩,?_⟩
   ·rw [HT.o,if_pos HS.o]
   ·rw [HT.o,if_pos HS.o];exact (bX.cG (bX.cx qK.o B10.o (by decide) 0 _) (R10.o.setOther (by dsimp only;omega) _) (by decide) _ _ _).rd
   ·rw [HT.o,if_pos HS.o];exact (bX.cG (bX.cx D6.o B10.o (by decide) 0 _) (R10.o.setOther (by dsimp only;omega) _) (by decide) _ _ _).rd
   ·have:=D7.o;exact eX
  ·have hsb:(s1 == s2)=false:=by simpa using hs
   have HS:=kI hs;clear hs;go_wp2_with fail;refine (TN.o w9 _ _ Lo.o.rd Lp.o.rd).mono ?_;rintro e w10 ⟨⟨v10,rfl,n10⟩,dE⟩;obtain ⟨U,hU⟩:=gN (if P < Q then Q - P else P - Q);rw [← hU] at n10;obtain ⟨p10,q10,rfl⟩:=n10.shape;have Lt:=kI hU;clear hU;have qK:=kI (n10.from X9.o);have B10:=kI (B9.o.ext dE);have R10:=kI (R9.o.ext dE);have D6:=kI (D9.o.ext dE);have D7:=kI (X9.o.trans dE);have Lu:=kI (J9.o.ext dE);clear dE n10 b9 Lr r9 Ls k9 j9;have b10:=B10.o.cell;have Hs:=B10.o.free;have Ht:=B10.o.lt;have r10:=R10.o.cell;have Hu:=R10.o.free;have Hv:=R10.o.lt;have j10:=Lu.o.cell;have PR:=Lu.o.lt;by_cases hlt:P < Q
   ·rw [decide_eq_true hlt];have dQ:=kI hlt;clear hlt;go_wp2_with fail;refine bodyPost_ret (v:=.agg #[.slice p10 (lim U).length q10,.slice p8 (lim D).length q8,.bool s2]) (by simp only [results,Tryz.results119];go_simp) rfl ⟨⟨_,rfl,.slice p10 (lim U).length q10,.slice p8 (lim D).length q8,?_,?_,?_⟩,?_⟩
    ·rw [HT.o,if_neg HS.o,if_pos dQ.o]
    ·rw [HT.o,if_neg HS.o,if_pos dQ.o,show Q - P=U by rw [Lt.o,if_pos dQ.o]];exact (bX.cG (bX.cx (bX.cx qK.o B10.o (by decide) 0 _) (B10.o.set 0 _) (by decide) 2 _) ((R10.o.setOther (by dsimp only;omega) _).setOther (by dsimp only;omega) _) (by decide) _ _ _).rd
    ·rw [HT.o,if_neg HS.o,if_pos dQ.o];exact (bX.cG (bX.cx (bX.cx D6.o B10.o (by decide) 0 _) (B10.o.set 0 _) (by decide) 2 _) ((R10.o.setOther (by dsimp only;omega) _).setOther (by dsimp only;omega) _) (by decide) _ _ _).rd
    ·have:=D7.o;exact eX
   ·rw [decide_eq_false hlt];have dQ:=kI hlt;clear hlt;go_wp2_with fail;refine bodyPost_ret (v:=.agg #[.slice p10 (lim U).length q10,.slice p8 (lim D).length q8,.bool s1]) (by simp only [results,Tryz.results119];go_simp) rfl ⟨⟨_,rfl,.slice p10 (lim U).length q10,.slice p8 (lim D).length q8,?_,?_,?_⟩,?_⟩
    ·rw [HT.o,if_neg HS.o,if_neg dQ.o]
    ·rw [HT.o,if_neg HS.o,if_neg dQ.o,show P - Q=U by rw [Lt.o,if_neg dQ.o]];exact (bX.cG (bX.cx qK.o B10.o (by decide) 0 _) (R10.o.setOther (by dsimp only;omega) _) (by decide) _ _ _).rd
    ·rw [HT.o,if_neg HS.o,if_neg dQ.o];exact (bX.cG (bX.cx D6.o B10.o (by decide) 0 _) (R10.o.setOther (by dsimp only;omega) _) (by decide) _ _ _).rd
    ·have:=D7.o;exact eX
theorem kY (k:Int) (n:Nat) (w:World) (hn:n < 18446744073709551616) (hk:k=n) :
  Calls Tryz.prog 159 #[.int .u64 k] w fun e w'=>(∃ v,e=.returned v∧bK w w' v (lim n))∧Ext w w':=by
 subst hk;exact At n w hn
theorem iv (n:Int) (w:World) (h0 : -9223372036854775808≤n) (h1:n≤9223372036854775807) :
  Calls Tryz.prog 140 #[.int .i64 n] w fun e w'=>(∃ v,e=.returned v∧bK w w' v (lim n.natAbs))∧Ext w w':=by
 by_cases hn:n < 0
 ·have hf:=fun k hk W=>kY k n.natAbs W (by omega) hk;have HF:=kI hf;obtain ⟨m,hm⟩:=gN (n.natAbs);rw [← hm] at HF ⊢;have hmn:(m:Int) = -n:=by omega
  clear hf hm;go_enter Tryz.func140,Tryz.ntmps140
  go_wp2_with fail;refine (HF.o _ (by first|omega|(simp [IntKind.wrap,IntKind.signed,IntKind.bits];omega)) _).mono ?_;rintro e w1 ⟨⟨v,rfl,n1⟩,hx1⟩;obtain ⟨a1,c1,rfl⟩:=n1.shape;have N1:=kI n1;have X1:=kI hx1;clear n1 hx1;go_wp2_with fail;go_ret;exact ⟨⟨_,rfl,N1.o⟩,X1.o⟩
 ·have hf:=fun k hk W=>kY k n.natAbs W (by omega) hk;have HF:=kI hf;obtain ⟨m,hm⟩:=gN (n.natAbs);rw [← hm] at HF ⊢;have hmn:(m:Int)=n:=by omega
  clear hf hm;go_enter Tryz.func140,Tryz.ntmps140
  go_wp2_with fail;refine (HF.o _ (by omega) _).mono ?_;rintro e w1 ⟨⟨v,rfl,n1⟩,hx1⟩;obtain ⟨a1,c1,rfl⟩:=n1.shape;have N1:=kI n1;have X1:=kI hx1;clear n1 hx1;go_wp2_with fail;go_ret;exact ⟨⟨_,rfl,N1.o⟩,X1.o⟩
theorem D8 (n:Int):rep (n:Rat)=⟨decide (n < 0),lim n.natAbs,[]⟩:=by
 unfold rep;rw [Rat.num_intCast,Rat.den_intCast,if_pos rfl]
theorem eI (n:Int) (w:World) (h0 : -9223372036854775808≤n) (h1:n≤9223372036854775807) :
  Calls Tryz.prog 83 #[.int .i64 n] w fun e w'=>(∃ v,e=.returned v∧aO w w' v (rep (n:Rat)))∧Ext w w':=by
 rw [D8];have b0:=af.new w #[.bool false,.slice none 0 0,.slice none 0 0] 25;have B0:=kI b0;have X0:=kI ((Ext.refl w).alloc (.cells #[.bool false,.slice none 0 0,.slice none 0 0] 25));clear b0;go_enter Tryz.func83,Tryz.ntmps83
 go_wp2_with fail;refine (iv n _ h0 h1).mono ?_;rintro e w1 ⟨⟨v,rfl,n1⟩,hx1⟩;obtain ⟨a1,c1,rfl⟩:=n1.shape;have N1:=kI (n1.from X0.o);have X1:=kI (X0.o.trans hx1);have B1:=kI (B0.o.ext hx1);clear n1 hx1;obtain ⟨L,hL⟩:=gN (lim n.natAbs);rw [← hL] at N1 ⊢;have HL:=kI hL;clear hL;have c0:=B1.o.cell;have f0:=B1.o.free;have l0:=B1.o.lt;go_wp2_with fail;refine bodyPost_ret (v:=.agg #[.bool (decide (n < 0)),.slice a1 L.length c1,.slice none 0 0]) (by simp only [results,Tryz.results83];go_simp) rfl ⟨⟨_,rfl,_,_,rfl,?_,bK.nil _ _⟩,?_⟩
 ·rw [← HL.o];exact bX.cG N1.o B1.o (by decide) _ _ _
 ·have:=X1.o;exact eX
def mf (p q:Int):RR × Int:=if q=0 then (zR,14) else (rep (mkRat (sg (decide (p < 0) != decide (q < 0)) p.natAbs) q.natAbs),0)
def bO (w w':World) (e:Ending) (r:RR × Int):Prop:=∃ v,e=.returned (.tuple #[v,.int .i64 r.2])∧aO w w' v r.1
theorem bO.mk {w w':World} {v:Value} {l:RR} {x:Int} {r:RR × Int} (h:aO w w' v l) (e:r=(l,x)):bO w w' (.returned (.tuple #[v,.int .i64 x])) r:=by subst e;exact ⟨v,rfl,h⟩
theorem aO.shape {w w':World} {v:Value} {r:RR} (h:aO w w' v r):∃ a c a2 c2,v=.agg #[.bool r.neg,.slice a r.num.length c,.slice a2 r.den.length c2]:=by
 obtain ⟨vn,vd,rfl,h1,h2⟩:=h;obtain ⟨a,c,rfl⟩:=h1.shape;obtain ⟨a2,c2,rfl⟩:=h2.shape;exact ⟨_,_,_,_,rfl⟩
theorem aX.shape {w:World} {v:Value} {r:RR} (h:aX w v r):∃ a c a2 c2,v=.agg #[.bool r.neg,.slice a r.num.length c,.slice a2 r.den.length c2]:=by
 obtain ⟨vn,vd,rfl,h1,h2⟩:=h;obtain ⟨a,c,rfl⟩:=aj h1;obtain ⟨a2,c2,rfl⟩:=aj h2;exact ⟨_,_,_,_,rfl⟩
theorem aO.cG {w A:World} {v:Value} {r:RR} (h:aO w A v r) {bx:Nat} {c:Array Value} {t:TypeId} (hb:af A bx c t) (ht:t≠157) (x y z:Value) :
  aO w (((A.setCell ⟨bx,0,none⟩ x).setCell ⟨bx,1,none⟩ y).setCell ⟨bx,2,none⟩ z) v r:=by
 obtain ⟨vn,vd,rfl,h1,h2⟩:=h;exact ⟨_,_,rfl,bX.cG h1 hb ht x y z,bX.cG h2 hb ht x y z⟩
theorem mK {n:Nat} (h:n < 18446744073709551616):(lim n).length≤2:=aF.2 (Nat.lt_of_lt_of_le h (by decide))
theorem AS (p q:Int) (w:World) (h0 : -9223372036854775808≤p) (h1:p≤9223372036854775807) (h2 : -9223372036854775808≤q) (h3:q≤9223372036854775807) :
  Calls Tryz.prog 143 #[.int .i64 p,.int .i64 q] w fun e w'=>bO w w' e (mf p q)∧Ext w w':=by
 have b0:=af.new w #[.bool false,.slice none 0 0,.slice none 0 0] 25;have B0:=kI b0;have X0:=kI ((Ext.refl w).alloc (.cells #[.bool false,.slice none 0 0,.slice none 0 0] 25));clear b0;by_cases hq:q=0
 ·have e:mf p q=(zR,14):=by unfold mf;rw [if_pos hq]
  have E:=kI e;subst hq;clear e;go_enter Tryz.func143,Tryz.ntmps143
  go_wp2_with fail;exact bodyPost_ret (v:=.tuple #[.agg #[.bool false,.slice none 0 0,.slice none 0 0],.int .i64 14]) (by simp only [results,Tryz.results143];go_simp) rfl ⟨bO.mk (aO.zero _ _) E.o,eX⟩
 ·have e:mf p q=(rep (mkRat (sg (decide (p < 0) != decide (q < 0)) p.natAbs) q.natAbs),0):=by unfold mf;rw [if_neg hq]
  have hq':(q == 0)=false:=by simpa using hq
  have hnp:=fun W=>iv p W h0 h1;have hnq:=fun W=>iv q W h2 h3;have sp:=mK (n:=p.natAbs) (by omega);have sq:=mK (n:=q.natAbs) (by omega);have hz:q.natAbs≠0:=by omega
  obtain ⟨P,hP⟩:=gN (p.natAbs);obtain ⟨Q,hQ⟩:=gN (q.natAbs);rw [← hP] at e hnp sp;rw [← hQ] at e hnq sq hz;obtain ⟨RS,hRS⟩:=gN (rep (mkRat (sg (decide (p < 0) != decide (q < 0)) P) Q));rw [← hRS] at e;have m8:=kI hRS;have E:=kI e;have Gh:=kI hnp;have V9:=kI hnq;clear hP hQ hRS e hnp hnq hq;go_enter Tryz.func143,Tryz.ntmps143
  go_wp2_with fail;refine (Gh.o _).mono ?_;rintro e w1 ⟨⟨v,rfl,n1⟩,hx1⟩;obtain ⟨a1,c1,rfl⟩:=n1.shape;have N1:=kI n1.rd;have X1:=kI (X0.o.trans hx1);have B1:=kI (B0.o.ext hx1);clear n1 hx1;go_wp2_with fail;refine (V9.o _).mono ?_;rintro e w2 ⟨⟨v,rfl,n2⟩,hx2⟩;obtain ⟨a2,c2,rfl⟩:=n2.shape;have N2:=kI n2.rd;have X2:=kI (X1.o.trans hx2);have B2:=kI (B1.o.ext hx2);have N1:=kI (N1.o.ext hx2);clear n2 hx2;go_wp2_with fail;have hlow:=xJ (.agg #[.slice a1 (lim P).length c1,.slice a2 (lim Q).length c2,.bool (decide (p < 0) != decide (q < 0))]) (decide (p < 0) != decide (q < 0)) (lim P) (lim Q) w2 ⟨_,_,rfl,N1.o,N2.o⟩ (aK _) (aK _) (aP _) (aP _) (by omega) (by omega) (by rw [aB];exact hz);rw [aB,aB,← m8.o] at hlow;refine hlow.mono ?_;clear hlow;rintro e w3 ⟨⟨v,rfl,n3⟩,hx3⟩;obtain ⟨a3,c3,a4,c4,rfl⟩:=n3.shape;have N3:=kI (n3.from X2.o);have X3:=kI (X2.o.trans hx3);have B3:=kI (B2.o.ext hx3);clear n3 hx3;have c0:=B3.o.cell;have f0:=B3.o.free;have l0:=B3.o.lt;go_wp2_with fail;refine bodyPost_ret (v:=.tuple #[.agg #[.bool RS.neg,.slice a3 RS.num.length c3,.slice a4 RS.den.length c4],.int .i64 0]) (by simp only [results,Tryz.results143];go_simp) rfl ⟨bO.mk (aO.cG N3.o B3.o (by decide) _ _ _) E.o,?_⟩;have:=X3.o;exact eX
theorem cW {A:World} {v:Value} {l:List Int} (h:aV .u32 A v l) {bx:Nat} {c:Array Value} {t:TypeId} (hb:af A bx c t) (ht:∀ x ∈ c,∀ n,x≠.int .u32 n) (x y z:Value) (hx:∀ n,x≠.int .u32 n) (hy:∀ n,y≠.int .u32 n) :
  aV .u32 (((A.setCell ⟨bx,0,none⟩ x).setCell ⟨bx,1,none⟩ y).setCell ⟨bx,2,none⟩ z) v l:=by
 have hc1:∀ u ∈ c.setIfInBounds 0 x,∀ n,u≠.int .u32 n:=fun u hu=>by
  rcases Array.mem_or_eq_of_mem_setIfInBounds hu with hu|rfl
  ·exact ht u hu
  ·exact hx
 have hc2:∀ u ∈ (c.setIfInBounds 0 x).setIfInBounds 1 y,∀ n,u≠.int .u32 n:=fun u hu=>by
  rcases Array.mem_or_eq_of_mem_setIfInBounds hu with hu|rfl
  ·exact hc1 u hu
  ·exact hy
 exact du (du (du h hb ht 0 x) (hb.set 0 x) hc1 1 y) ((hb.set 0 x).set 1 y) hc2 2 z
theorem yV (va vb:Value) (s1 s2:Bool) (l1 l2 l3 l4:List Int) (w:World) (ha:rY w va s1 l1 l2) (hb:rY w vb s2 l3 l4) (h1:bh l1) (h2:bh l2) (h3:bh l3) (h4:bh l4) (z1:cD l1) (z2:cD l2) (z3:cD l3) (z4:cD l4)
  (t1:l1.length≤200) (t2:l2.length≤200) (t3:l3.length≤200) (t4:l4.length≤200) :
  Calls Tryz.prog 123 #[va,vb] w fun e w'=>(∃ v',e=.returned v'∧rY w' v' (dI (s1,nv l1,nv l2) (!s2,nv l3,nv l4)).1 (lim (dI (s1,nv l1,nv l2) (!s2,nv l3,nv l4)).2.1) (lim (dI (s1,nv l1,nv l2) (!s2,nv l3,nv l4)).2.2))∧Ext w w':=by
 obtain ⟨vn,vd,rfl,hrn,hrd⟩:=ha;obtain ⟨a1,c1,rfl⟩:=aj hrn;obtain ⟨a2,c2,rfl⟩:=aj hrd;obtain ⟨vn,vd,rfl,kv,gR⟩:=hb;obtain ⟨a3,c3,rfl⟩:=aj kv;obtain ⟨a4,c4,rfl⟩:=aj gR;have hs:=fun W (x:Ext w W)=>oE (.agg #[.slice a1 l1.length c1,.slice a2 l2.length c2,.bool s1]) (.agg #[.slice a3 l3.length c3,.slice a4 l4.length c4,.bool (!s2)]) s1 (!s2) l1 l2 l3 l4 W ⟨_,_,rfl,hrn.ext x,hrd.ext x⟩ ⟨_,_,rfl,kv.ext x,gR.ext x⟩ h1 h2 h3 h4 z1 z2 z3 z4 t1 t2 t3 t4;obtain ⟨T,hT⟩:=gN (dI (s1,nv l1,nv l2) (!s2,nv l3,nv l4));rw [← hT] at hs ⊢;have HS:=kI hs;clear hs hT hrn hrd kv gR h1 h2 h3 h4 z1 z2 z3 z4;have b2:=af.new ((w.alloc (.cells #[.slice a1 l1.length c1,.slice a2 l2.length c2,.bool s1] 134)).alloc (.cells #[.slice a3 l3.length c3,.slice a4 l4.length c4,.bool (!s2)] 134)) #[.slice none 0 0,.slice none 0 0,.bool false] 134;rw [World.size_alloc,World.size_alloc] at b2;have B2:=kI b2;have X0:=kI (show Ext w (((w.alloc (.cells #[.slice a1 l1.length c1,.slice a2 l2.length c2,.bool s1] 134)).alloc (.cells #[.slice a3 l3.length c3,.slice a4 l4.length c4,.bool (!s2)] 134)).alloc (.cells #[.slice none 0 0,.slice none 0 0,.bool false] 134)) from (((Ext.refl w).alloc _).alloc _).alloc _);clear b2;go_enter Tryz.func123,Tryz.ntmps123
 go_wp2_with fail;refine (HS.o _ X0.o).mono ?_;rintro e w1 ⟨⟨v1,rfl,vn,vd,rfl,hn,hd⟩,hx1⟩;obtain ⟨a5,c5,rfl⟩:=aj hn;obtain ⟨a6,c6,rfl⟩:=aj hd;have B1:=kI (B2.o.ext hx1);have X1:=kI (X0.o.trans hx1);have HN:=kI hn;have HD:=kI hd;clear hx1 hn hd;have c0:=B1.o.cell;have f0:=B1.o.free;have l0:=B1.o.lt;obtain ⟨T1,T2,T3⟩:=T;dsimp only at *;go_wp2_with fail;refine bodyPost_ret (v:=.agg #[.slice a5 (lim T2).length c5,.slice a6 (lim T3).length c6,.bool T1]) (by simp only [results,Tryz.results123];go_simp) rfl ⟨⟨_,rfl,_,_,rfl,?_,?_⟩,by have:=X1.o;exact eX⟩
 ·exact cW HN.o B1.o (by intro x hx n;simp at hx;rcases hx with rfl|rfl|rfl <;> simp) _ _ _ (by intro n;simp) (by intro n;simp)
 ·exact cW HD.o B1.o (by intro x hx n;simp at hx;rcases hx with rfl|rfl|rfl <;> simp) _ _ _ (by intro n;simp) (by intro n;simp)
theorem yW (va vb:Value) (s1 s2:Bool) (l1 l2 l3 l4:List Int) (w:World) (ha:rY w va s1 l1 l2) (hb:rY w vb s2 l3 l4) (h1:bh l1) (h2:bh l2) (h3:bh l3) (h4:bh l4) (z1:cD l1) (z2:cD l2) (z3:cD l3) (z4:cD l4)
  (t1:l1.length≤200) (t2:l2.length≤200) (t3:l3.length≤200) (t4:l4.length≤200) :
  Calls Tryz.prog 154 #[va,vb] w fun e w'=>(∃ v',e=.returned v'∧rY w' v' (s1 != s2) (lim (nv l1*nv l4)) (lim (nv l2*nv l3)))∧Ext w w':=by
 obtain ⟨vn,vd,rfl,hrn,hrd⟩:=ha;obtain ⟨a1,c1,rfl⟩:=aj hrn;obtain ⟨a2,c2,rfl⟩:=aj hrd;obtain ⟨vn,vd,rfl,kv,gR⟩:=hb;obtain ⟨a3,c3,rfl⟩:=aj kv;obtain ⟨a4,c4,rfl⟩:=aj gR;have hs:=fun W (x:Ext w W)=>kX (.agg #[.slice a1 l1.length c1,.slice a2 l2.length c2,.bool s1]) (.agg #[.slice a4 l4.length c4,.slice a3 l3.length c3,.bool s2]) s1 s2 l1 l2 l4 l3 W ⟨_,_,rfl,hrn.ext x,hrd.ext x⟩ ⟨_,_,rfl,gR.ext x,kv.ext x⟩ h1 h2 h4 h3 z1 z2 z4 z3 t1 t2 t4 t3;obtain ⟨T2,hT2⟩:=gN (nv l1*nv l4);obtain ⟨T3,TO⟩:=gN (nv l2*nv l3);rw [← hT2,← TO] at hs ⊢;have HS:=kI hs;clear hs hT2 TO hrn hrd kv gR h1 h2 h3 h4 z1 z2 z3 z4;have b2:=af.new ((w.alloc (.cells #[.slice a1 l1.length c1,.slice a2 l2.length c2,.bool s1] 134)).alloc (.cells #[.slice a4 l4.length c4,.slice a3 l3.length c3,.bool s2] 134)) #[.slice none 0 0,.slice none 0 0,.bool false] 134;rw [World.size_alloc,World.size_alloc] at b2;have B2:=kI b2;have X0:=kI (show Ext w (((w.alloc (.cells #[.slice a1 l1.length c1,.slice a2 l2.length c2,.bool s1] 134)).alloc (.cells #[.slice a4 l4.length c4,.slice a3 l3.length c3,.bool s2] 134)).alloc (.cells #[.slice none 0 0,.slice none 0 0,.bool false] 134)) from (((Ext.refl w).alloc _).alloc _).alloc _);clear b2;go_enter Tryz.func154,Tryz.ntmps154
 go_wp2_with fail;refine (HS.o _ X0.o).mono ?_;rintro e w1 ⟨⟨v1,rfl,vn,vd,rfl,hn,hd⟩,hx1⟩;obtain ⟨a5,c5,rfl⟩:=aj hn;obtain ⟨a6,c6,rfl⟩:=aj hd;have B1:=kI (B2.o.ext hx1);have X1:=kI (X0.o.trans hx1);have HN:=kI hn;have HD:=kI hd;clear hx1 hn hd;have c0:=B1.o.cell;have f0:=B1.o.free;have l0:=B1.o.lt;go_wp2_with fail;refine bodyPost_ret (v:=.agg #[.slice a5 (lim T2).length c5,.slice a6 (lim T3).length c6,.bool (s1 != s2)]) (by simp only [results,Tryz.results154];go_simp) rfl ⟨⟨_,rfl,_,_,rfl,?_,?_⟩,by have:=X1.o;exact eX⟩
 ·exact cW HN.o B1.o (by intro x hx n;simp at hx;rcases hx with rfl|rfl|rfl <;> simp) _ _ _ (by intro n;simp) (by intro n;simp)
 ·exact cW HD.o B1.o (by intro x hx n;simp at hx;rcases hx with rfl|rfl|rfl <;> simp) _ _ _ (by intro n;simp) (by intro n;simp)
end Go.Proofs.YtnnjbaijcaiohaaGreat
