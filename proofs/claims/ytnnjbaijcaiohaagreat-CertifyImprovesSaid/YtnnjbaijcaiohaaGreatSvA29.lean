/- Walks and lemmas. -/
import Derived.Test.YtnnjbaijcaiohaaGreatSvA27
import Derived.Test.YtnnjbaijcaiohaaGreatSvA7
import Derived.Test.YtnnjbaijcaiohaaGreatSvA26
set_option linter.unusedVariables false
set_option linter.unusedSimpArgs false
set_option maxRecDepth 100000
set_option maxHeartbeats 16000000
namespace Go.Proofs.YtnnjbaijcaiohaaGreat
open Go.RowKit
section
structure M0 (m:MD) (V:List RR) (C:lL) (x:List RR) (f:RR):Prop where
 v:C.1=V
 Bt:am m V=(x,C.2.1,0)
 dst:bP V x=(C.2.2.1,0)
 En:gK m=(f,0)
 div:bJ C.2.2.1 f=(C.2.2.2,0)
theorem Be {m:MD} {V:List RR} {C:lL} (h:fJ m V=(C,0)):∃ x f,M0 m V C x f:=by
 obtain ⟨x,g,c,hB⟩:∃ x g c,am m V=(x,g,c):=⟨_,_,_,rfl⟩;by_cases h1:c=0
 ·subst h1;obtain ⟨d,c2,hD⟩:∃ d c,bP V x=(d,c):=⟨_,_,rfl⟩;by_cases h2:c2=0
  ·subst h2;obtain ⟨f,c3,hF⟩:∃ d c,gK m=(d,c):=⟨_,_,rfl⟩;by_cases h3:c3=0
   ·subst h3;obtain ⟨b,c4,hV⟩:∃ b c,bJ d f=(b,c):=⟨_,_,rfl⟩;by_cases h4:c4=0
    ·subst h4;rw [tW hB hD hF hV] at h;injection h with e _
     subst e;exact ⟨x,f,rfl,hB,hD,hF,hV⟩
    ·rw [tV hB hD hF (by rw [hV]) h4] at h;injection h with _ k;exact absurd k h4
   ·rw [zy hB hD (by rw [hF]) h3] at h;injection h with _ k;exact absurd k h3
  ·rw [tU hB (by rw [hD]) h2] at h;injection h with _ k;exact absurd k h2
 ·rw [tT (by rw [hB]) h1] at h;injection h with _ k;exact absurd k h1
theorem Bf {m:MD} {V:List RR} {C:lL} {c:Int} (h:fJ m V=(C,c)) (hc:c≠0):C=zC:=by
 unfold fJ at h;split at h
 ·injection h with e _;exact e.symm
 ·split at h
  ·injection h with e _;exact e.symm
  ·split at h
   ·injection h with e _;exact e.symm
   ·split at h
    ·injection h with e _;exact e.symm
    ·injection h with _ e;exact absurd e.symm hc
theorem Et {m:MD} {k:Int} {C:lL} {c:Int} (h:dX m k=(C,c)) (hc:c≠0):C=zC:=by
 by_cases h1:gG m=0
 ·by_cases h2:k < 0∨24 < k
  ·rw [yj h1 h2] at h;injection h with e _;exact e.symm
  ·by_cases h3:(bE m (eL m) k).2.2=0
   ·rw [tS h1 h2 h3] at h;exact Bf h hc
   ·rw [tR h1 h2 rfl h3] at h;injection h with e _;exact e.symm
 ·rw [yh rfl h1] at h;injection h with e _;exact e.symm
theorem mN {m:MD} {k:Int} {C:lL} (h:dX m k=(C,0)):gG m=0∧¬ (k < 0∨24 < k)∧kv m (eL m) k.toNat=0∧∃ x f,M0 m (aP m (eL m) k.toNat) C x f:=by
 by_cases h1:gG m=0
 ·by_cases h2:k < 0∨24 < k
  ·rw [yj h1 h2] at h;injection h with _ e;cases e
  ·by_cases h3:(bE m (eL m) k).2.2=0
   ·rw [tS h1 h2 h3] at h;exact ⟨h1,h2,(rX h3).2.2.2,Be h⟩
   ·rw [tR h1 h2 rfl h3] at h;injection h with _ e;exact absurd e h3
 ·rw [yh rfl h1] at h;injection h with _ e;exact absurd e h1
theorem LS (m:MD):(eL m).length=m.states.length:=by simp [eL]
theorem IJ (m:MD) (i:Nat):(eL m).getD i zR=zR:=by
 unfold eL;rw [List.getD_eq_getElem?_getD,List.getElem?_map];cases (List.range m.states.length)[i]? <;> rfl
theorem wD {m:MD} (h:fs m=0):gJ m (eL m)=0:=by unfold gJ;rw [if_neg (fun z=>z h),if_neg (fun z=>z (LS m))]
theorem LT (m:MD):dm (eL m):=fun i _=>by rw [IJ];exact aT
theorem qy {m:MD} {k:Nat} (h:kv m (eL m) k=0):∀ i,i < (aP m (eL m) k).length→aA ((aP m (eL m) k).getD i zR)=0:=by
 rcases Nat.eq_zero_or_pos k with e|e
 ·subst e;intro i _;rw [show aP m (eL m) 0=eL m from rfl,IJ];rfl
 ·exact C3 h e
theorem Eu {d:RR} (h:aA d=0):cA d d=(0,0):=by
 unfold cA;rw [if_pos (dz h h)];unfold eu;rw [if_neg Rat.lt_irrefl,if_pos rfl]
theorem M0.mul {m:MD} {V x:List RR} {C:lL} {f:RR} (hm:fs m=0) (hg:qv m.ah < 1) (h:M0 m V C x f):qv C.2.2.2*qv f=qv C.2.2.1∧aA C.2.2.2=0∧aC C.2.2.2∧0≤qv C.2.2.2∧qv f=1 - qv m.ah∧0 < qv f:=by
 obtain ⟨f1,f2,f3,f4,f5⟩:=mM hg h.En;have D:=gF h.dst;have e:(bJ C.2.2.1 f).2=0:=by rw [h.div]
 obtain ⟨_,d2,d3,_⟩:=qh e;have l:=mC C.2.2.1 f;rw [h.div] at d2 d3 l;have d2:qv C.2.2.2=qv C.2.2.1 / qv f:=d2;have k:qv C.2.2.2*qv f=qv C.2.2.1:=by rw [d2];exact Rat.div_mul_cancel (fun z=>by rw [z] at f2;exact absurd f2 Rat.lt_irrefl)
 refine ⟨k,d3,l,?_,f1,f2⟩;refine Rat.not_lt.1 (fun z=>?_);have a:=Rat.mul_lt_mul_of_pos_right z f2;rw [k,Rat.zero_mul] at a;exact Rat.not_le.2 a D.pos
theorem M0.chk {m:MD} {k:Nat} {x:List RR} {C:lL} {f:RR} (hc:gG m=0) (hs:kv m (eL m) k=0) (h:M0 m (aP m (eL m) k) C x f):Y0 m C x C.2.2.1 f:=by
 obtain ⟨hm,b⟩:=kW hc;have hg:=sw hm b;have D:=gF h.dst;obtain ⟨k1,k2,k3,k4,k5,k6⟩:=h.mul hm hg;obtain ⟨f1,f2,f3,f4,f5⟩:=mM hg h.En;have hb:(am m (aP m (eL m) k)).2.2=0:=by rw [h.Bt]
 have IE:=iT hb;refine ⟨hc,hm,hg,by rw [h.v];exact mI (wD hm) hs,⟨?_,fun u hu=>?_⟩,by rw [h.v];exact h.Bt,by rw [h.v];exact h.dst,h.En,D.chk,k2,by rw [Eu D.chk],?_⟩
 ·have:=IE.2.1;rw [h.Bt] at this;exact this
 ·have:=jR hb hu;rw [h.Bt] at this;exact ⟨this.1,this.2.1⟩
 ·exact (tZ k3 f4 D.lim k2 f3 D.chk f5 D.iW).2 ⟨(zA k3 k2).2 k4,by rw [k1];exact Rat.le_refl⟩
theorem Hw {m:MD} {k:Nat} (hm:fs m=0):kv m (eL m) k=0∨kv m (eL m) k=4
 :=by
 induction k with
 | zero=>exact .inl rfl
 | succ k ih=>
  rcases ih with e|e
  ·have hl:=mI (wD hm) e;have hb:=ww hm hl (qy e);have k1:kv m (eL m) (k+1)=(am m (aP m (eL m) k)).2.2:=by
    show bG _ (k+1)=_;unfold bG;rw [if_neg (fun z=>z e)]
   rw [k1];exact hb
  ·right;show bG _ (k+1)=_;unfold bG;have e':bG (fun j=>(am m (aP m (eL m) j)).2.2) k=4:=e;rw [if_pos (by rw [e'];decide)];exact e'
theorem Ev {m:MD} {k:Nat} (hc:gG m=0) (hk:k≤24) {f:RR} (hf:gK m=(f,0)):(dX m (k:Int)).2=0∨(dX m (k:Int)).2=4:=by
 obtain ⟨hm,b⟩:=kW hc;have hg:=sw hm b;obtain ⟨f1,f2,f3,f4,f5⟩:=mM hg hf;have h2:¬ ((k:Int) < 0∨24 < (k:Int)):=Z
 rcases Hw (k:=k) hm with e|e
 ·have hst:=rW (wD hm) (show (0:Int)≤(k:Int) by omega) (show (k:Int)≤24 by omega) (by rw [Int.toNat_natCast];exact e);rw [tS hc h2 (by rw [hst]),Int.toNat_natCast];have hl:=mI (wD hm) e;have hv:=qy e;obtain ⟨x,g,c,hB⟩:∃ x g c,am m (aP m (eL m) k)=(x,g,c):=⟨_,_,_,rfl⟩;have hb:=ww hm hl hv;rw [hB] at hb;rcases hb with h1|h1
  ·have h1:c=0:=h1;subst h1;have IE:=iT (m:=m) (vs:=aP m (eL m) k) (by rw [hB]);rw [hB] at IE;obtain ⟨o1,_,_,o4⟩:=IE;obtain ⟨d,c2,hD⟩:∃ d c,bP (aP m (eL m) k) x=(d,c):=⟨_,_,rfl⟩;have hd:=Em (a:=aP m (eL m) k) (b:=x) (hl.trans o1.symm) hv (fun s hs=>o4 s Z);rw [hD] at hd;rcases hd with h3|h3
   ·have h3:c2=0:=h3;subst h3;have D:=gF hD;obtain ⟨b,c4,hV⟩:∃ b c,bJ d f=(b,c):=⟨_,_,rfl⟩;have he:=DM D.chk f3 (fun z=>by rw [z] at f2;exact absurd f2 Rat.lt_irrefl);rw [hV] at he;rcases he with h4|h4
    ·have h4:c4=0:=h4;subst h4;rw [tW hB hD hf hV];exact .inl rfl
    ·have h4:c4=4:=h4;rw [tV (c:=4) hB hD hf (by rw [hV];exact h4) ap];exact .inr rfl
   ·have h3:c2=4:=h3;rw [tU (c:=4) hB (by rw [hD];exact h3) ap];exact .inr rfl
  ·have h1:c=4:=h1;rw [tT (c:=4) (by rw [hB];exact h1) ap];exact .inr rfl
 ·have h3:(bE m (eL m) (k:Int)).2.2=4:=by
   unfold bE;rw [if_neg (fun z=>z (wD hm)),if_neg h2,Int.toNat_natCast,if_pos Mp];exact e
  rw [tR hc h2 h3 ap];exact .inr rfl
theorem LU {m:MD} {V x x2:List RR} {g g2:List Int} {d d2:RR} (hm:fs m=0) (h1:am m V=(x,g,0)) (h2:bP V x=(d,0)) (h3:am m x=(x2,g2,0)) (h4:bP x x2=(d2,0)):qv d2≤qv m.ah*qv d:=by
 have D:=gF h2;have D2:=gF h4;have hb1:(am m V).2.2=0:=by rw [h1]
 have hb2:(am m x).2.2=0:=by rw [h3]
 have l1:=(iT hb1).1;rw [h1] at l1;have l1:x.length=m.states.length:=l1;have h0:=(gS hm).1;have key:∀ (a b xa xb:List RR) (ga:List Int),am m a=(xa,ga,0)→(am m b).2.2=0→(am m b).1=xb→(∀ s,s < m.states.length→qv (b.getD s zR) - qv (a.getD s zR)≤qv d)→∀ s,s < m.states.length→qv (xb.getD s zR) - qv (xa.getD s zR)≤qv m.ah*qv d:=by
  intro a b xa xb ga ha hb hxb hd s hs;have hba:(am m a).2.2=0:=by rw [ha]
  obtain ⟨v1,v2,v3⟩:=jR hba hs;have hp:lE m ga:=⟨by have:=(iT hba).2.1;rw [ha] at this;exact this,fun u hu=>by have:=jR hba hu;rw [ha] at this;exact ⟨this.1,this.2.1⟩⟩;rw [ha] at v3;have v3:qv (xa.getD s zR)=qv (cJ m ga s).cost+qv m.ah*cO (cJ m ga s).next (fun t=>qv (a.getD t zR)):=v3;have hlt:(ga.getD s 0).toNat < (m.states.getD s []).length:=by have:=hp.2 s hs;omega
  obtain ⟨j1,j2⟩:=Pg hb hs hlt;have j3:=rZ j1;rw [tK] at j3;rw [hxb,j3] at j2;have j2:qv (xb.getD s zR)≤qv (cJ m ga s).cost+qv m.ah*cO (cJ m ga s).next (fun t=>qv (b.getD t zR)):=j2;have hO:=tL hm hp hs;have q:=oN (M:=qv d) (f:=fun t=>qv (b.getD t zR) - qv (a.getD t zR)) (l:=(cJ m ga s).next) (fun o ho=>gd (hO o ho).2.2.2) (fun o ho=>hd _ (by have:=hO o ho;omega));rw [mF,zu hm hp hs] at q;have q2:=iR h0 q;grind
 refine D2.lub _ (Rat.mul_nonneg h0 D.pos) (fun s hs=>⟨?_,?_⟩)
 ·exact key x V x2 x g2 h3 hb1 (by rw [h1]) (fun s hs=>D.le1 s (by have:=D.len;omega)) s Z
 ·exact key V x x x2 g h1 hb2 (by rw [h3]) (fun s hs=>D.le2 s (by have:=D.len;omega)) s Z
theorem L6 {b f d:RR} (lb:aC b) (lf:aC f) (ld:aC d) (cb:aA b=0) (cf:aA f=0) (cd:aA d=0) (hf:f.neg=false) (hd:d.neg=false) (h:qv b*qv f < qv d):mL b f d=false:=by
 cases e:mL b f d
 ·rfl
 ·exact absurd ((tZ lb lf ld cb cf cd hf hd).1 e).2 (Rat.not_le.2 h)
theorem Bg {m:MD} {n:Nat} (hn:n < 4) {C C2:lL} {e f g h:Int} {ls:RR} {o:Int} (hlm:aC m.ah) (h1:dX m (n:Int)=(C,e)) (h2:dX m ((n:Int)+1)=(C2,f)) (h3:mulR m.ah C.2.2.2=(ls,g)) (h4:cA C2.2.2.2 ls=(o,h)) :
  (e≠0→C=zC)∧(e=0→(f=0∨f=4)∧(g=0∨g=4)∧(f=0→g=0→h=0∧o≤0)∧dQ m C=0∧dm C.1∧aC C.2.2.1∧aC C.2.2.2∧aA C.2.2.1=0∧aA C.2.2.2=0∧C.1.length=m.states.length∧C.2.1.length=m.states.length∧m.states.length≤200∧
   (∀ y,aA y=0→0 < qv y→(∀ z,cz C.2.2.2 y=(z,0)→dQ m (C.1,C.2.1,C.2.2.1,z)=0)∧(∀ z,bR C.2.2.2 y=(z,0)→dQ m (C.1,C.2.1,C.2.2.1,z)=15)∧(∀ z,cz C.2.2.1 y=(z,0)→dQ m (C.1,C.2.1,z,C.2.2.2)=15))):=by
 refine ⟨Et h1,fun he=>?_⟩;subst he;obtain ⟨hc,hk,hs,x,fa,K⟩:=mN h1;rw [Int.toNat_natCast] at hs K;obtain ⟨hm,b⟩:=kW hc;have hg:=sw hm b;have D:=gF K.dst;obtain ⟨k1,k2,k3,k4,k5,k6⟩:=K.mul hm hg;obtain ⟨f1,f2,f3,f4,f5⟩:=mM hg K.En;have H:=K.chk hc hs;have hE:=Ev (k:=n+1) hc Z K.En;rw [show ((n+1:Nat):Int)=(n:Int)+1 by omega,h2] at hE;have hG:=pU (bF hm).1 k2;rw [h3] at hG;have lV:dm C.1:=by rw [K.v];exact pT (LT m) n
 refine ⟨hE,hG,fun hf0 hg0=>?_,zB H,lV,D.lim,k3,D.chk,k2,H.len,H.pol.1,(bF hm).2.2.1,fun y cy py=>⟨fun z hz=>?_,fun z hz=>?_,fun z hz=>?_⟩⟩
 ·subst hf0;subst hg0;obtain ⟨_,_,hs2,x2,fa2,K2⟩:=mN h2;rw [show ((n:Int)+1).toNat=n+1 by omega] at hs2 K2;have ef:fa2=fa:=by have:=K2.En;rw [K.En] at this;injection this with a _;exact a.symm
  subst ef;have hx:aP m (eL m) (n+1)=x:=by
   show (am m (aP m (eL m) n)).1=x;rw [K.Bt]
  obtain ⟨j1,j2,j3,j4,j5,j6⟩:=K2.mul hm hg;have hr:=LU hm K.Bt K.dst (by have:=K2.Bt;rw [hx] at this;exact this) (by have:=K2.dst;rw [hx] at this;exact this);obtain ⟨m1,m2⟩:=iz (show (mulR m.ah C.2.2.2).2=0 by rw [h3]);rw [h3] at m1 m2;have m1:qv ls=qv m.ah*qv C.2.2.2:=m1;have hle:qv C2.2.2.2≤qv ls:=by
   rw [qu f2,j1,m1,Rat.mul_assoc,k1];exact hr
  have ec:cA C2.2.2.2 ls=(eu (qv C2.2.2.2) (qv ls),0):=by unfold cA;rw [if_pos (dz j2 m2)]
  rw [ec] at h4;injection h4 with a b
  refine ⟨b.symm,?_⟩;rw [← a];unfold eu;rcases Rat.le_iff_lt_or_eq.1 hle with k|k
  ·rw [if_pos k];decide
  ·rw [k,if_neg Rat.lt_irrefl,if_pos rfl];decide
 ·obtain ⟨a1,a2⟩:=fo (show (cz C.2.2.2 y).2=0 by rw [hz]);have lz:=gz C.2.2.2 y;rw [hz] at a1 a2 lz;have a1:qv z=qv C.2.2.2+qv y:=a1;exact zB ⟨H.cw,H.md,H.lt,H.len,H.pol,H.Bt,H.dst,H.En,H.cR,a2,H.eqd,(tZ lz f4 D.lim a2 f3 D.chk f5 D.iW).2 ⟨(zA lz a2).2 (by rw [a1];grind),by
   have:=Rat.mul_pos py f2;rw [a1];grind⟩⟩
 ·obtain ⟨a1,a2⟩:=iA (show (bR C.2.2.2 y).2=0 by rw [hz]);have lz:=gC C.2.2.2 y;rw [hz] at a1 a2 lz;have a1:qv z=qv C.2.2.2 - qv y:=a1;have hn:=L6 lz f4 D.lim a2 f3 D.chk f5 D.iW (by
   have:=Rat.mul_pos py f2;rw [a1];grind)
  unfold dQ;dsimp only;rw [if_neg (fun z=>z H.cw),if_neg (fun z=>z H.len),if_neg (fun z=>z (oP H.pol)),if_neg (fun z=>z H.cR),if_neg (fun z=>z a2),H.Bt,if_neg (fun z=>z rfl)];dsimp only;rw [H.dst,if_neg SE,if_neg (fun z=>z H.eqd),H.En,if_neg (fun z=>z rfl)];dsimp only;rw [hn];rfl
 ·obtain ⟨a1,a2⟩:=fo (show (cz C.2.2.1 y).2=0 by rw [hz]);rw [hz] at a1 a2;have a1:qv z=qv C.2.2.1+qv y:=a1;have hne:(cA C.2.2.1 z).1≠0:=by
   unfold cA;rw [if_pos (dz D.chk a2)];unfold eu;rw [if_pos (by rw [a1];grind)];decide
  unfold dQ;dsimp only;rw [if_neg (fun z=>z H.cw),if_neg (fun z=>z H.len),if_neg (fun z=>z (oP H.pol)),if_neg (fun z=>z a2),if_neg (fun z=>z H.cB),H.Bt,if_neg (fun z=>z rfl)];dsimp only;rw [H.dst,if_neg SE,if_pos hne]
theorem ro (v:Value) (l:List RR) (w:World) (h:cH w v l) (hs:l.length≤1000000000) (hl:∀ i,i < l.length→(l.getD i zR).num.length≤1000000∧(l.getD i zR).den.length≤1000000) :
  Calls Tryz.prog 12 #[v] w fun e w'=>(∃ v',e=.returned v'∧bV w.heap.size w' v' l)∧Ext w w':=by
 obtain ⟨a,cap,rfl,hc,hm,f,hr⟩:=h.get;have HR:=kI hr;have HL:=kI hl;clear h hr hl;go_enter Tryz.func12,Tryz.ntmps12
 go_wp2_with fail;go_loopw [3,4] (fun v i wr=>∃ k:Nat,k≤l.length∧i=.int .i64 k∧bV w.heap.size wr v (l.take k)∧Ext w wr) (fun _ i _=>l.length - (intOf i).toNat)
 case atStart=>exact ⟨0,Nat.zero_le _,rfl,aD.nil _ _ _ _ _,Ext.refl w⟩
 case round=>
  obtain ⟨k,hk,rfl,hown,hext⟩:=hrel;by_cases hlt:k < l.length
  ·obtain ⟨b,off,rfl,hb,x0,x1,x2,hrd⟩:=HR.o k hlt;have y0:=(hext.cell (p:=⟨b,off+k*3,none⟩) hb).trans x0;have y1:=(hext.cell (p:=⟨b,off+k*3+1,none⟩) hb).trans x1;have y2:=(hext.cell (p:=⟨b,off+k*3+2,none⟩) hb).trans x2;have hcp:=jo _ _ wr (hrd.ext hext) (HL.o k hlt);have hts:=dC l k zR hlt;have hlk:=List.length_take_of_le (Nat.le_of_lt hlt);obtain ⟨r,hrr⟩:=gN (l.getD k zR);rw [← hrr] at y0 y1 y2 hcp hts;have HC:=kI hcp;have HO:=kI hown;have HX:=kI hext;have HT:=kI hts;have Y8:=kI hlk;have hz:=hext.size;have q1:(0:Int)≤(k:Int):=Z
   have q2:(k:Int) < (l.length:Int):=Z
   clear hcp hown hext hts hrd x0 x1 x2 hlk hrr;go_wp2_with fail;refine HC.o.mono ?_;rintro e w1 ⟨⟨v1,rfl,nn⟩,hx⟩;obtain ⟨n1,n2,n3,n4,rfl⟩:=nn.shape;have Nu:=kI (bV.ext' HO.o hx);have ME:=kI (HX.o.trans hx);have HE:=kI (bI.new (B:=w.heap.size) nn hz);have hz1:=ME.o.size;clear nn hx y0 y1 y2;go_wp2_with (at_builtin;(refine eC w1 rfl _ _ 29 rfl w.heap.size 25 (.agg #[.bool false,.slice none 0 0,.slice none 0 0]) 3 56 Tryz.underlying29 Tryz.fH rfl ap (bI.keeps ap) _ _ Nu.o rfl [.bool r.neg,.slice n1 r.num.length n2,.slice n3 r.den.length n4] rfl mQ r HE.o rfl (by have:=Y8.o;omega) (by have:=Y8.o;omega) hz1 ?_))
   intro g cap2 w2 hown2 hk2;have Tr:=kI hown2;have Bz:=kI (Below.trans ME.o (hk2.below hz1));clear hown2 hk2;go_wp2
   go_roundw
   case rel=>
    refine ⟨k+1,by omega,by go_num,?_,Bz.o⟩;rw [HT.o];exact Tr.o
   case measure=>simp [intOf];omega
  ·rw [List.take_of_length_le Z] at hown;have HO:=kI hown;have HX:=kI hext;clear hown hext;go_wp2
   go_ret;exact ⟨⟨_,rfl,HO.o⟩,HX.o⟩
theorem cQ.ofI {B:Nat} {w:World} {v:Value} {l:List Int} (h:w.ownsRow B 3 1 v l.length (l.map (Value.int .i64))):cQ B w v l:=by
 refine ⟨l.map (fun x=>[Value.int .i64 x]),?_,by simp,fun h hh=>by obtain ⟨x,_,rfl⟩:=List.mem_map.1 hh;rfl,fun i x hi=>⟨[.int .i64 x],by rw [List.getElem?_map,hi];rfl,rfl⟩⟩;have e:∀ l:List Int,(l.map (fun x=>[Value.int .i64 x])).flatten=l.map (Value.int .i64):=fun l=>by
  induction l with
  | nil=>rfl
  | cons x r ih=>rw [List.map_cons,List.flatten_cons,List.map_cons,ih];rfl
 rw [e];exact h
theorem cx.keeps {B C:Nat} {t:TypeId} {W W':World} {c:Array Value} {r:lL} (h:cx B W c r) (k:Keeps C t W W') (h1:25≠t) (h2:157≠t) (h3:3≠t):cx B W' c r:=by
 obtain ⟨va,pa,s1,s2,s3,s4,t1,t2,t3,t4,e,k1,k2,k3,k4⟩:=h;exact ⟨va,pa,s1,s2,s3,s4,t1,t2,t3,t4,e,k1.keeps k h1 h2,k2.keeps k h3,bI.keeps h2 _ _ _ _ k3 k,bI.keeps h2 _ _ _ _ k4 k⟩
theorem cx.mono {B C:Nat} {W:World} {c:Array Value} {r:lL} (h:cx B W c r) (hB:C≤B):cx C W c r:=by
 obtain ⟨va,pa,s1,s2,s3,s4,t1,t2,t3,t4,e,k1,k2,k3,k4⟩:=h;exact ⟨va,pa,s1,s2,s3,s4,t1,t2,t3,t4,e,k1.mono hB,k2.mono hB,bI.mono k3 hB,bI.mono k4 hB⟩
def QF (c:lL):Prop:=c.1.length≤1000000000∧(∀ i,i < c.1.length→(c.1.getD i zR).num.length≤1000000∧(c.1.getD i zR).den.length≤1000000)∧c.2.1.length≤1000000000∧
 (c.2.2.1.num.length≤1000000∧c.2.2.1.den.length≤1000000)∧(c.2.2.2.num.length≤1000000∧c.2.2.2.den.length≤1000000)
def L7 (Nb:Nat) (V:List RR) (P:List Int) (R B:RR) (a1 a2:Option Addr) (vl pl c1 c2:Nat) (s1 s3 t1 t3:Option Addr) (s2 s4 t2 t4:Nat) (C:Nat) (j:Nat) (v:Value) (W:World):Prop:=
 match j with
 | 0=>v=.pointer (some ⟨Nb,0,none⟩)
 | 1=>v=.slice a1 vl c1
 | 2=>bV C W v V
 | 3=>v=.pointer (some ⟨Nb,1,none⟩)
 | 4=>v=.slice a2 pl c2
 | 5=>cQ C W v P
 | 6=>v=.pointer (some ⟨Nb,2,none⟩)
 | 7=>v=.agg #[.bool R.neg,.slice s1 R.num.length s2,.slice s3 R.den.length s4]
 | 8=>∃ z1 z2 z3 z4,v=.agg #[.bool R.neg,.slice z1 R.num.length z2,.slice z3 R.den.length z4]∧cD C W (.slice z1 R.num.length z2) R.num∧cD C W (.slice z3 R.den.length z4) R.den
 | 9=>v=.pointer (some ⟨Nb,5,none⟩)
 | 10=>v=.agg #[.bool B.neg,.slice t1 B.num.length t2,.slice t3 B.den.length t4]
 | 11=>∃ z1 z2 z3 z4,v=.agg #[.bool B.neg,.slice z1 B.num.length z2,.slice z3 B.den.length z4]∧cD C W (.slice z1 B.num.length z2) B.num∧cD C W (.slice z3 B.den.length z4) B.den
 | 12=>∃ c,v=.agg c∧cx C W c (V,P,R,B)
 | _=>True
theorem Ew {Nb:Nat} {V:List RR} {P:List Int} {R B:RR} {a1 a2:Option Addr} {vl pl c1 c2:Nat} {s1 s3 t1 t3:Option Addr} {s2 s4 t2 t4:Nat} {C:Nat} {j:Nat} {v:Value} {W W':World} (h:L7 Nb V P R B a1 a2 vl pl c1 c2 s1 s3 t1 t3 s2 s4 t2 t4 C j v W) (xx:Ext W W'):L7 Nb V P R B a1 a2 vl pl c1 c2 s1 s3 t1 t3 s2 s4 t2 t4 C j v W':=by
 match j,h with
 | 0,h=>exact h
 | 1,h=>exact h
 | 2,h1=>exact h1.ext' xx
 | 3,h=>exact h
 | 4,h=>exact h
 | 5,h1=>exact h1.ext' xx
 | 6,h=>exact h
 | 7,h=>exact h
 | 8,⟨z1,z2,z3,z4,h0,h1,h2⟩=>exact ⟨z1,z2,z3,z4,h0,h1.ext xx,h2.ext xx⟩
 | 9,h=>exact h
 | 10,h=>exact h
 | 11,⟨z1,z2,z3,z4,h0,h1,h2⟩=>exact ⟨z1,z2,z3,z4,h0,h1.ext xx,h2.ext xx⟩
 | 12,⟨c,h0,h1⟩=>exact ⟨c,h0,h1.ext xx⟩
 | _+13,_=>trivial
theorem iV (cv:Value) (c:lL) (w:World) (h:D7 w cv c) (hl:QF c) :
  Calls Tryz.prog 43 #[cv] w fun e w'=>(∃ x,e=.returned (.agg x)∧cx w.heap.size w' x c)∧Ext w w':=by
 obtain ⟨V,P,R,B⟩:=c;obtain ⟨l1,l2,l3,l4,l5⟩:=hl;obtain ⟨a1,c1,a2,c2,s1,s2,s3,s4,t1,t2,t3,t4,rfl,h1,h2,h3,h4⟩:=h;dsimp only at h1 h2 h3 h4 l1 l2 l3 l4 l5 ⊢;have HV:=kI h1;have HP:=kI h2;have HR:=kI h3;have HB:=kI h4;have L1:=kI l1;have L2:=kI l2;have L3:=kI l3;have L4:=kI l4;have L5:=kI l5;obtain ⟨vl,hvl⟩:=gN (V.length);obtain ⟨pl,hpl⟩:=gN (P.length);rw [← hvl] at HV ⊢;rw [← hpl] at HP ⊢;clear h1 h2 h3 h4 l1 l2 l3 l4 l5 hvl hpl;have bb0:=((ag.new w #[.slice a1 vl c1,.slice a2 pl c2,.bool R.neg,.slice s1 R.num.length s2,.slice s3 R.den.length s4,.bool B.neg,.slice t1 B.num.length t2,.slice t3 B.den.length t4] 67).alloc (.cells #[.slice none 0 0,.slice none 0 0,.bool false,.slice none 0 0,.slice none 0 0,.bool false,.slice none 0 0,.slice none 0 0] 67));have bb1:=(ag.new (w.alloc (.cells #[.slice a1 vl c1,.slice a2 pl c2,.bool R.neg,.slice s1 R.num.length s2,.slice s3 R.den.length s4,.bool B.neg,.slice t1 B.num.length t2,.slice t3 B.den.length t4] 67)) #[.slice none 0 0,.slice none 0 0,.bool false,.slice none 0 0,.slice none 0 0,.bool false,.slice none 0 0,.slice none 0 0] 67);rw [World.size_alloc] at bb1;have x0:Ext w ((w.alloc (.cells #[.slice a1 vl c1,.slice a2 pl c2,.bool R.neg,.slice s1 R.num.length s2,.slice s3 R.den.length s4,.bool B.neg,.slice t1 B.num.length t2,.slice t3 B.den.length t4] 67)).alloc (.cells #[.slice none 0 0,.slice none 0 0,.bool false,.slice none 0 0,.slice none 0 0,.bool false,.slice none 0 0,.slice none 0 0] 67)):=(((Ext.refl w).alloc _).alloc _);have A0:=kI bb0;have A1:=kI bb1;have X:=kI x0;clear x0 bb0 bb1;replace HV:=kI (HV.o.ext X.o);replace HP:=kI (Rd.ext HP.o X.o);replace HR:=kI (HR.o.ext X.o);replace HB:=kI (HB.o.ext X.o);obtain ⟨wo,hwo⟩:=gN (((w.alloc (.cells #[.slice a1 vl c1,.slice a2 pl c2,.bool R.neg,.slice s1 R.num.length s2,.slice s3 R.den.length s4,.bool B.neg,.slice t1 B.num.length t2,.slice t3 B.den.length t4] 67)).alloc (.cells #[.slice none 0 0,.slice none 0 0,.bool false,.slice none 0 0,.slice none 0 0,.bool false,.slice none 0 0,.slice none 0 0] 67)))
 rw [← hwo] at A0 A1 X HV HP HR HB;have qF:=kI hwo;clear hwo;go_enter Tryz.func43,Tryz.ntmps43
 have q0:=A0.o.cell;have q1:=A0.o.lt;have q2:=A1.o.cell;have q3:=A1.o.lt;have q4:=A1.o.free;go_wp2_with fail;rw [← qF.o];clear q0 q1 q2 q3 q4 qF;refine cm 13 (L7 w.heap.size V P R B a1 a2 vl pl c1 c2 s1 s3 t1 t3 s2 s4 t2 t4 w.heap.size) ax ax ax (fun _ _ _ _ h x=>Ew h x) ?_ ?_
 ·refine ⟨?_,?_,?_,?_,?_,?_,?_,?_,?_,?_,?_,?_,?_,trivial⟩
  ·intro a W hW hB hD K hK;have b1:=hB 1 rfl;simp only [sB] at b1;go_simp;exact hK _ _ (Ext.refl _) rfl
  ·intro a W hW hB hD K hK;obtain ⟨v3,e3,h3⟩:=aE (hD 0 _ 3 rfl rfl ax);obtain rfl:=h3;have q9:=(A0.o.ext hW).cell;have l9:=(A0.o.ext hW).lt;go_simp;exact hK _ _ (Ext.refl _) rfl
  ·intro a W hW hB hD K hK;obtain ⟨v4,e4,h4⟩:=aE (hD 1 _ 4 rfl rfl ax);obtain rfl:=h4;go_simp;refine (ro _ V W (HV.o.ext hW) L1.o L2.o).mono ?_;rintro e w9 ⟨⟨v,rfl,ov⟩,hx⟩;exact hK _ _ hx (ov.mono (Nat.le_trans X.o.size hW.size))
  ·intro a W hW hB hD K hK;have b1:=hB 1 rfl;simp only [sB] at b1;go_simp;exact hK _ _ (Ext.refl _) rfl
  ·intro a W hW hB hD K hK;obtain ⟨v6,e6,h6⟩:=aE (hD 3 _ 6 rfl rfl ax);obtain rfl:=h6;have q9:=(A0.o.ext hW).cell;have l9:=(A0.o.ext hW).lt;go_simp;exact hK _ _ (Ext.refl _) rfl
  ·intro a W hW hB hD K hK;obtain ⟨v7,e7,h7⟩:=aE (hD 4 _ 7 rfl rfl ax);obtain rfl:=h7;go_simp;refine (tC _ P W (Rd.ext HP.o hW) L3.o).mono ?_;rintro e w9 ⟨v,rfl,ov,hx⟩;exact hK _ _ hx (cQ.mono (cQ.ofI ov) (Nat.le_trans X.o.size hW.size))
  ·intro a W hW hB hD K hK;have b1:=hB 1 rfl;simp only [sB] at b1;go_simp;exact hK _ _ (Ext.refl _) rfl
  ·intro a W hW hB hD K hK;obtain ⟨v9,e9,h9⟩:=aE (hD 6 _ 9 rfl rfl ax);obtain rfl:=h9;have q9:=(A0.o.ext hW).cell;have l9:=(A0.o.ext hW).lt;go_simp;exact hK _ _ (Ext.refl _) rfl
  ·intro a W hW hB hD K hK;obtain ⟨v10,e10,h10⟩:=aE (hD 7 _ 10 rfl rfl ax);obtain rfl:=h10;go_simp;refine (jo _ R W (HR.o.ext hW) L4.o).mono ?_;rintro e w9 ⟨⟨v,rfl,nn⟩,hx⟩;obtain ⟨z1,z2,z3,z4,rfl⟩:=nn.shape;obtain ⟨hs1,hs2⟩:=nn.sf (B:=w.heap.size) (Nat.le_trans X.o.size hW.size);exact hK _ _ hx ⟨_,_,_,_,rfl,hs1,hs2⟩
  ·intro a W hW hB hD K hK;have b1:=hB 1 rfl;simp only [sB] at b1;go_simp;exact hK _ _ (Ext.refl _) rfl
  ·intro a W hW hB hD K hK;obtain ⟨v12,e12,h12⟩:=aE (hD 9 _ 12 rfl rfl ax);obtain rfl:=h12;have q9:=(A0.o.ext hW).cell;have l9:=(A0.o.ext hW).lt;go_simp;exact hK _ _ (Ext.refl _) rfl
  ·intro a W hW hB hD K hK;obtain ⟨v13,e13,h13⟩:=aE (hD 10 _ 13 rfl rfl ax);obtain rfl:=h13;go_simp;refine (jo _ B W (HB.o.ext hW) L5.o).mono ?_;rintro e w9 ⟨⟨v,rfl,nn⟩,hx⟩;obtain ⟨z1,z2,z3,z4,rfl⟩:=nn.shape;obtain ⟨hs1,hs2⟩:=nn.sf (B:=w.heap.size) (Nat.le_trans X.o.size hW.size);exact hK _ _ hx ⟨_,_,_,_,rfl,hs1,hs2⟩
  ·intro a W hW hB hD K hK;obtain ⟨v5,e5,h5⟩:=aE (hD 2 _ 5 rfl rfl ax);obtain ⟨v8,e8,h8⟩:=aE (hD 5 _ 8 rfl rfl ax);obtain ⟨v11,e11,h11⟩:=aE (hD 8 _ 11 rfl rfl ax);obtain ⟨x1,x2,x3,x4,rfl,xq,xr⟩:=h11;obtain ⟨v14,e14,EP⟩:=aE (hD 11 _ 14 rfl rfl ax);obtain ⟨y1,y2,y3,y4,rfl,yq,yr⟩:=EP;have Y9:bV w.heap.size W v5 V:=h5;have Za:cQ w.heap.size W v8 P:=h8;obtain ⟨va,vc,rfl⟩:=Y9.shape;obtain ⟨pa,pc,rfl⟩:=Za.shape;go_simp;exact hK _ _ (Ext.refl _) ⟨_,rfl,_,_,_,_,_,_,_,_,_,_,rfl,Y9,Za,⟨_,_,_,_,rfl,xq,xr⟩,⟨_,_,_,_,rfl,yq,yr⟩⟩
 intro w7 hx;simp only [cW,List.take_succ_cons,List.take_zero,List.drop_succ_cons,List.drop_zero];rintro u0 - u1 - u2 - u3 - u4 - u5 - u6 - u7 - u8 - u9 - u10 - u11 - u12 h12;obtain ⟨cc,rfl,hcc⟩:=h12;obtain ⟨va,pa,r1,r2,r3,r4,z1,z2,z3,z4,rfl,o1,o2,o3,o4⟩:=hcc;simp only [Act.put,List.setIfInBounds_toArray,List.set_cons_zero,List.set_cons_succ];obtain ⟨v1,v2,rfl⟩:=o1.shape;obtain ⟨p1,p2,rfl⟩:=o2.shape;dsimp only at o1 o2 o3 o4 ⊢;have A7:=kI (A1.o.ext hx);have X7:=kI (show Ext w w7 from X.o.trans hx);have O1:=kI o1;have O2:=kI o2;have O3:=kI o3;have O4:=kI o4;clear hx o1 o2 o3 o4;have q0:=A7.o.cell;have q1:=A7.o.lt;have q2:=A7.o.free;go_wp2_with fail;refine bodyPost_ret (v:=.agg #[.slice v1 V.length v2,.slice p1 P.length p2,.bool R.neg,.slice r1 R.num.length r2,.slice r3 R.den.length r4,.bool B.neg,.slice z1 B.num.length z2,.slice z3 B.den.length z4]) (by simp only [results,Tryz.results43];go_simp) rfl ?_;have kk:=((((((((ay A7.o 0 (.slice v1 V.length v2)).trans (ay (A7.o.set 0 (.slice v1 V.length v2)) 1 (.slice p1 P.length p2))).trans (ay ((A7.o.set 0 (.slice v1 V.length v2)).set 1 (.slice p1 P.length p2)) 2 (.bool R.neg))).trans (ay (((A7.o.set 0 (.slice v1 V.length v2)).set 1 (.slice p1 P.length p2)).set 2 (.bool R.neg)) 3 (.slice r1 R.num.length r2))).trans (ay ((((A7.o.set 0 (.slice v1 V.length v2)).set 1 (.slice p1 P.length p2)).set 2 (.bool R.neg)).set 3 (.slice r1 R.num.length r2)) 4 (.slice r3 R.den.length r4))).trans (ay (((((A7.o.set 0 (.slice v1 V.length v2)).set 1 (.slice p1 P.length p2)).set 2 (.bool R.neg)).set 3 (.slice r1 R.num.length r2)).set 4 (.slice r3 R.den.length r4)) 5 (.bool B.neg))).trans (ay ((((((A7.o.set 0 (.slice v1 V.length v2)).set 1 (.slice p1 P.length p2)).set 2 (.bool R.neg)).set 3 (.slice r1 R.num.length r2)).set 4 (.slice r3 R.den.length r4)).set 5 (.bool B.neg)) 6 (.slice z1 B.num.length z2))).trans (ay (((((((A7.o.set 0 (.slice v1 V.length v2)).set 1 (.slice p1 P.length p2)).set 2 (.bool R.neg)).set 3 (.slice r1 R.num.length r2)).set 4 (.slice r3 R.den.length r4)).set 5 (.bool B.neg)).set 6 (.slice z1 B.num.length z2)) 7 (.slice z3 B.den.length z4)))
 exact ⟨⟨_,rfl,cx.keeps ⟨_,_,_,_,_,_,_,_,_,_,rfl,O1.o,O2.o,O3.o,O4.o⟩ kk ap ap ap⟩,(Below.setCell (Below.setCell (Below.setCell (Below.setCell (Below.setCell (Below.setCell (Below.setCell (Below.setCell X7.o au _) au _) au _) au _) au _) au _) au _) au _)⟩
def ud:Value→Nat
 | .pointer (some a)=>a.block
 | _=>0
section
variable {P:Program} {l:List Oper} {n:Nat} {Q:Exit→Act→World→Prop} {J:Nat→Value→World→Prop} {A:List Nat}
def sA (P:Program) (l:List Oper) (n:Nat) (Q:Exit→Act→World→Prop) (J:Nat→Value→World→Prop) (A:List Nat) (a0:Act) (w:World) (j:Nat) (o:Oper):Prop:=
 ∀ (a:Act) (W:World),Ext w W→(∀ i,(fills (l.take n)).contains i=false→a.tmps.getD i undef=a0.tmps.getD i undef)→
  (∀ (e:Nat) (oe:Oper) (d:Tmp),l[e]?=some oe→oe.dst=some d→((waits o).contains e && decide (e < n))=true→J e (a.tmps.getD d undef) W)→
  ∀ K:Act→World→Prop,(∀ v W',Ext W W'→J j v W'→(A.contains j=true→W.heap.size≤ud v)→K (a.put o.dst v) W')→if Region.wanted o (yielded l.toArray a.tmps)=true then Oper.wp P o a W K Q else K (a.put o.dst undef) W
def ep (P:Program) (l:List Oper) (n:Nat) (Q:Exit→Act→World→Prop) (J:Nat→Value→World→Prop) (A:List Nat) (a0:Act) (w:World):Nat→List Oper→Prop
 | _,[]=>True
 | k,o :: r=>sA P l n Q J A a0 w k o∧ep P l n Q J A a0 w (k+1) r
theorem ep.get {a0:Act} {w:World}:∀ (r:List Oper) (k:Nat),ep P l n Q J A a0 w k r→∀ (j:Nat) (o:Oper),r[j]?=some o→sA P l n Q J A a0 w (k+j) o
 | [],_,_,_,_,h=>by simp at h
 | o :: r,k,h,0,o',hj=>by
  simp only [List.getElem?_cons_zero,Option.some.injEq] at hj;subst hj;exact h.1
 | o :: r,k,h,j+1,o',hj=>by
  have:=ep.get r (k+1) h.2 j o' Bu;rwa [show k+(j+1)=k+1+j by omega]
def Bh (A:List Nat) (r:List Oper) (listed:Array Bool) (a:Act):Prop:=
 ∀ (i j:Nat) (oi oj:Oper) (di dj:Tmp),A.contains i=true→A.contains j=true→i≠j→r[i]?=some oi→r[j]?=some oj→oi.dst=some di→oj.dst=some dj→listed.getD i false=true→listed.getD j false=true→ud (a.tmps.getD di undef)≠ud (a.tmps.getD dj undef)
theorem Bh.step {a0 a:Act} {w W:World} {listed:Array Bool} {j:Nat} {o:Oper} (hA:∀ j v W,A.contains j=true→J j v W→ud v < W.heap.size) (hB:fI 0 (l.take n) []=true) (hR:∀ d ∈ fills (l.take n),d < a0.tmps.size) (inv:bW l n J a0 w listed a W) (L8:Bh A (l.take n) listed a)
  (hj':(l.take n)[j]?=some o) {v:Value} (hv:A.contains j=true→W.heap.size≤ud v):Bh A (l.take n) (listed.setIfInBounds j true) (a.put o.dst v):=by
 obtain ⟨hw,Oe,Jo⟩:=gx (l.take n) 0 [] hB;have far:∀ (i:Nat) (oi:Oper) (di:Tmp),(l.take n)[i]?=some oi→oi.dst=some di→i≠j→(a.put o.dst v).tmps.getD di undef=a.tmps.getD di undef:=by
  intro i oi di hi hdi hne;cases hd:o.dst with
  | none=>rfl
  | some d=>
   have:d≠di:=fun e=>hne (Jo i j oi o d hi hj' (e ▸ hdi) hd);simp only [Act.put];exact fN this
 have self:∀ (di:Tmp),o.dst=some di→(a.put o.dst v).tmps.getD di undef=v:=by
  intro di hdi;rw [hdi];simp only [Act.put];exact ig (by rw [inv.size];exact hR di (List.mem_filterMap.2 ⟨o,List.mem_of_getElem? hj',hdi⟩))
 intro i k oi ok di dk ai ak hne hi hk hdi hdk li lk;by_cases e1:i=j
 ·subst e1;rw [hj'] at hi;cases hi;rw [getD_set_ne false hne] at lk;rw [self di hdi,far k ok dk hk hdk (fun e=>hne e.symm)];have:=hA k _ W ak (inv.done k ok dk hk hdk lk);have:=hv ai;omega
 ·rw [getD_set_ne false (fun e=>e1 e.symm)] at li;by_cases e2:k=j
  ·subst e2;rw [hj'] at hk;cases hk;rw [self dk hdk,far i oi di hi hdi e1];have:=hA i _ W ai (inv.done i oi di hi hdi li);have:=hv ak;omega
  ·rw [getD_set_ne false (fun e=>e2 e.symm)] at lk;rw [far i oi di hi hdi e1,far k ok dk hk hdk e2];exact L8 i k oi ok di dk ai ak hne hi hk hdi hdk li lk
theorem wE {a0:Act} {w:World} {g:Nat} (hn:n≤l.length) (hA:∀ j v W,A.contains j=true→J j v W→ud v < W.heap.size) (hB:fI 0 (l.take n) []=true) (hR:∀ d ∈ fills (l.take n),d < a0.tmps.size) (hJ:∀ j v W W',J j v W→Ext W W'→J j v W') (hS:ep P l n Q J A a0 w 0 (l.take n))
  (pA:∀ listed,HeadInv .any l.toArray n listed→∀ i,i < n→listed.getD i true=false→∀ j ∈ Region.ready .any l.toArray listed,j < n)
  (hfin:∀ listed a W,bW l n J a0 w listed a W→Bh A (l.take n) listed a→(∀ j,j < n→listed.getD j false=true)→wpAny P .any l.toArray Q g listed a W):∀ (k:Nat) (listed:Array Bool) (a:Act) (W:World),(still n listed).length=k→bW l n J a0 w listed a W→Bh A (l.take n) listed a→wpAny P .any l.toArray Q (k+g) listed a W:=by
 intro k;induction k with
 | zero=>
  intro listed a W hf inv L8;rw [Nat.zero_add];refine hfin listed a W inv L8 (dD hn hB Bm fun j hj hm=>?_);have h1:=(mem_ready.1 hm).1;have h3:j ∈ still n listed:=List.mem_filter.2 ⟨List.mem_range.2 hj,by rw [h1];rfl⟩;rw [List.length_eq_zero_iff.1 hf] at h3;cases h3
 | succ k ih=>
  intro listed a W hf inv L8;rw [show k+1+g=(k+g)+1 by omega];obtain ⟨i,hi,hiu⟩:∃ i,i < n∧listed.getD i true=false:=by
   have hne:still n listed≠[]:=fun e=>by rw [e] at hf;cases hf
   obtain ⟨i,hi⟩:=List.exists_mem_of_ne_nil _ hne;obtain ⟨h1,h2⟩:=List.mem_filter.1 hi;exact ⟨i,List.mem_range.1 h1,by simpa using h2⟩
  refine ⟨fun hr=>?_,fun j hj=>?_⟩
  ·exfalso
   have:=dD hn hB Bm (fun j _ hm=>by rw [hr] at hm;cases hm) i hi;rw [getD_both hiu] at this;cases this
  ·have hjn:=pA listed inv.head i hi hiu j hj;obtain ⟨h1,o,h2,h3⟩:=mem_ready.1 hj;have h2':l[j]?=some o:=by simpa using h2
   have hst:=ep.get (l.take n) 0 hS j o Nd;rw [Nat.zero_add] at hst;refine wpOp_step h2 fun K' hK=>hst a W inv.ext inv.base (fun e oe d he hd hwt=>?_) K' fun v W' hx hv hfr=>hK _ _ (ih _ _ _ ?_ (inv.step hB hR hJ hjn h2' hj hx hv) (Bh.step hA hB hR inv L8 Nd hfr))
   ·simp only [Bool.and_eq_true,decide_eq_true_eq] at hwt;obtain ⟨eg,k1,k2,k3⟩:=jr Ng;exact inv.done e oe d Nc hd QY
   ·have:=iq hjn Mg h1;omega
def yA (A:List Nat) (r:List Oper) (a:Act):Prop:=
 ∀ (i j:Nat) (oi oj:Oper) (di dj:Tmp),A.contains i=true→A.contains j=true→i≠j→r[i]?=some oi→r[j]?=some oj→oi.dst=some di→oj.dst=some dj→ud (a.tmps.getD di undef)≠ud (a.tmps.getD dj undef)
theorem jX {id:Nat} {a0:Act} {w:World} (n:Nat) (A:List Nat) (J:Nat→Value→World→Prop) (hA:∀ j v W,A.contains j=true→J j v W→ud v < W.heap.size) (hm:P.follows .mixedOrders=true) (hT:fU l n=true) (hR0:(fills (l.take n)).all (fun d=>decide (d < a0.tmps.size))=true) (hJ:∀ j v W W',J j v W→Ext W W'→J j v W')
  (hS:ep P l n Q J A a0 w 0 (l.take n)) (hend:∀ W,Ext w W→cW J W (fun a=>yA A (l.take n) a→wpList P l.toArray Q (l.drop n) a W) 0 (l.take n) a0):(Code.region id l.toArray true).wp P Q a0 w:=by
 have hR:∀ d ∈ fills (l.take n),d < a0.tmps.size:=fun d hd=>by simpa using List.all_eq_true.1 hR0 d hd
 simp only [fU,Bool.and_eq_true,decide_eq_true_eq] at hT;obtain ⟨⟨⟨⟨hn,hs⟩,hc⟩,hq⟩,hB⟩:=hT;have h:=wE (P:=P) (l:=l) (n:=n) (Q:=Q) (J:=J) (A:=A) (a0:=a0) (w:=w) (g:=l.length - n) Z hA hB hR hJ hS
  (fun listed hi i hin hun j hj=>Nat.lt_of_not_le fun hge=>tail_waits hs hc (by simpa using hn) hi _ i rfl hin hun j hge hj)
  (fun listed a W inv L8 hall=>by
   have hd:yA A (l.take n) a:=fun i j oi oj di dj ai aj hne hi hj hdi hdj=>L8 i j oi oj di dj ai aj hne hi hj hdi hdj
    (hall i (by have:=(List.getElem?_eq_some_iff.1 hi).1;rw [List.length_take] at this;omega)) (hall j (by have:=(List.getElem?_eq_some_iff.1 hj).1;rw [List.length_take] at this;omega))
   have he:=gP (l:=l) Z Bm hall (fun t h1 h2=>inv.head.tail t h1 yB);subst he;have:=wpAny_of_seq (md:=.any) (Q':=Q) (l.drop n) n (dE n l.length) a W (fun j=>by simp [List.getElem?_drop]) QX ((inv.fin (G:=fun a=>yA A (l.take n) a→wpList P l.toArray Q (l.drop n) a W) Z hall (hend W inv.ext)) hd);rwa [List.length_drop] at this) n _ _ _ (er Z) (bW.start a0 w)
  (fun i j oi oj di dj _ _ _ _ _ _ _ li _=>absurd li Na)
 rw [show n+(l.length - n)=l.toArray.size by simp;omega] at h;exact wp_region_any hm h
end
end
end Go.Proofs.YtnnjbaijcaiohaaGreat
