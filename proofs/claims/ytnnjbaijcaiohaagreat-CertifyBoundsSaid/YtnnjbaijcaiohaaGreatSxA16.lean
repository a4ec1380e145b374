/- Walks and lemmas. -/
import Derived.Test.YtnnjbaijcaiohaaGreatSxA15
import Derived.Test.YtnnjbaijcaiohaaGreatSxA13
import Derived.Test.YtnnjbaijcaiohaaGreatSxA9
import Derived.Test.YtnnjbaijcaiohaaGreatSxA0
import Derived.Test.YtnnjbaijcaiohaaGreatSxA7
import Derived.Test.YtnnjbaijcaiohaaGreatSxA10
import Derived.WalkMore
import Derived.Test.YtnnjbaijcaiohaaGreatSxA11
set_option linter.unusedVariables false
set_option linter.unusedSimpArgs false
set_option maxRecDepth 100000
set_option maxHeartbeats 16000000
namespace Go.Proofs.YtnnjbaijcaiohaaGreat
open Go.RowKit
theorem sF {m:MD} {v:List RR} {k:Nat} (h:k < m.states.length):(mN m v).getD k zR=(dM m v (m.states.getD k [])).getD (jh (dM m v (m.states.getD k []))) zR:=by
 unfold mN;rw [List.getD_eq_getElem?_getD,List.getElem?_map,List.getD_eq_getElem?_getD (l:=m.states),List.getElem?_eq_getElem h];rfl
theorem EJ (m:MD) (v:List RR):bY (mN m v):=fun i hi=>by
 rw [eP] at hi;rw [sF hi];by_cases h0:0 < (dM m v (m.states.getD i [])).length
 ·exact uj _ _ _ _ (jl _ _ _ (Nat.le_refl _) h0)
 ·rw [List.getD_eq_getElem?_getD,List.getElem?_eq_none (by omega)];exact aM
theorem o6 (m:MD) (v:List RR):bY (ah m v).1:=by
 unfold ah;split
 ·intro i hi;cases hi
 ·split
  ·intro i hi;cases hi
  ·exact EJ m v
theorem ii {m:MD} {v:List RR} (h:(ah m v).2.2=0):gw m v=0∧Ei m v=0∧(ah m v).1=mN m v∧(ah m v).2.1=mM m v:=by
 unfold ah at h ⊢;split at h
 ·rename_i h1;exact absurd h h1
 ·rename_i h1;rw [if_neg h1];split at h
  ·rename_i h2;exact absurd h h2
  ·rename_i h2;rw [if_neg h2];exact ⟨by simpa using h1,by simpa using h2,rfl,rfl⟩
theorem yf {m:MD} {v:List RR} (h1:gw m v=0) (h2:Ei m v=0):∀ i,i < (mN m v).length→am ((mN m v).getD i zR)=0:=fun i hi=>by
 rw [eP] at hi;rw [sF hi];obtain ⟨_,_,_,h3⟩:=bu (ee h1).1;have h4:=(gd (h3 i hi)).1;have h5:pZ m v (m.states.getD i [])=0:=bm h2 i hi;have hb:jh (dM m v (m.states.getD i [])) < (m.states.getD i []).length:=by
  exact Nat.lt_of_lt_of_eq (jl (dM m v (m.states.getD i [])) _ _ (Nat.le_refl _) (show 0 < (dM m v (m.states.getD i [])).length by rw [dx];omega)) (dx _ _ _)
 rw [jT hb];exact mq (bm h5 _ hb)
theorem um {m:MD} {v:List RR} (h:bY v):∀ j,bY (aZ m v j)
 | 0=>h
 | j+1=>o6 m _
theorem BA {r:RR} (h:am r=0):r.num.length≤1000000∧r.den.length≤1000000:=by
 unfold am at h;split at h
 ·cases h
 ·omega
theorem BB {m:MD} {v:List RR} (h1:gw m v=0) (h2:Ei m v=0):wm (mN m v):=fun i hi=>BA (yf h1 h2 i hi)
theorem ww (m:MD) (m1:Option Addr) (n1:Nat) (m2:Option Addr) (n2:Nat) (m3:Option Addr) (n3:Nat) (a:Option Addr) (n c:Nat) (k:Int) (w:World) :
  Calls Tryz.prog 74 #[.agg (ui m m1 n1 m2 n2 m3 n3),.slice a n c,.int .i64 k] w fun e w'=>e=.returned (.func (.func 134) #[] (Gs w.heap.size))∧w'=((w.alloc (.cells (ui m m1 n1 m2 n2 m3 n3) 28)).alloc (.cells #[.slice a n c] 29)).alloc (.cells #[.int .i64 k] 3):=by
 go_enter Tryz.func74,Tryz.ntmps74
 go_wp2
 go_ret;exact ⟨rfl,rfl⟩
theorem wx {m:MD} {p:List Int} {v:List RR} (h:(d6 m p v).2=0):gw m v=0∧p.length=m.states.length∧(∀ j,j < p.length→Ah m p v j=0)∧(d6 m p v).1=vV m p v:=by
 unfold d6 at h ⊢;by_cases h1:gw m v=0
 ·rw [if_neg (by simpa using h1)] at h ⊢;by_cases h2:p.length=m.states.length
  ·rw [if_neg (by simpa using h2)] at h ⊢;by_cases h3:bF (Ah m p v) p.length=0
   ·rw [if_neg (by simpa using h3)];exact ⟨h1,h2,bm h3,rfl⟩
   ·rw [if_pos h3] at h;exact absurd h h3
  ·rw [if_pos h2] at h;cases h
 ·rw [if_pos h1] at h;exact absurd h h1
theorem zs {m:MD} {v:List RR} {k:Int} (h:gw m v=0) (h0:0≤k) (qS:k≤24) (hE:tU m v k.toNat=0) :
  bP m v k=((List.range (k.toNat+1)).map (aZ m v),(List.range k.toNat).map (fun j=>(ah m (aZ m v j)).2.1),0):=by
 unfold bP;rw [if_neg (by simpa using h),if_neg (by omega),if_neg (by simpa using hE)]
theorem zu {m:MD} {v:List RR} {k:Int} (h:(bP m v k).2.2=0):gw m v=0∧0≤k∧k≤24∧tU m v k.toNat=0:=by
 unfold bP at h;by_cases h1:gw m v=0
 ·rw [if_neg (by simpa using h1)] at h;by_cases h2:k < 0∨24 < k
  ·rw [if_pos h2] at h;cases h
  ·rw [if_neg h2] at h;by_cases h3:tU m v k.toNat=0
   ·exact ⟨h1,by omega,by omega,h3⟩
   ·rw [if_pos h3] at h;exact absurd h h3
 ·rw [if_pos h1] at h;exact absurd h h1
theorem greedy {m:MD} {u:List RR} (h:(ah m u).2.2=0):d6 m (ah m u).2.1 u=((ah m u).1,0):=by
 obtain ⟨h1,h2,h3,h4⟩:=ii h;rw [h3,h4];have hlen:(mM m u).length=m.states.length:=lE m u;obtain ⟨_,_,_,hst⟩:=bu (ee h1).1;have hat:∀ s,s < m.states.length→(mM m u).getD s 0=(jh (dM m u (m.states.getD s [])):Int):=fun s hs=>by
  unfold mM;rw [List.getD_eq_getElem?_getD,List.getElem?_map,List.getD_eq_getElem?_getD (l:=m.states),List.getElem?_eq_getElem hs];rfl
 have hb:∀ s,s < m.states.length→jh (dM m u (m.states.getD s [])) < (m.states.getD s []).length:=fun s hs=>by
  have h5:=(gd (hst s hs)).1;exact Nat.lt_of_lt_of_eq (jl (dM m u (m.states.getD s [])) _ _ (Nat.le_refl _) (show 0 < (dM m u (m.states.getD s [])).length by rw [dx];omega)) (dx _ _ _)
 have hun:∀ s,s < (mM m u).length→Ah m (mM m u) u s=0:=fun s hs=>by
  rw [hlen] at hs;have h6:=hb s hs;unfold Ah;have h7:ia m (mM m u) s=0:=by
   unfold ia;rw [hat s hs,if_neg (by omega)]
  rw [h7,if_neg (fun h=>h rfl),hat s hs,Int.toNat_natCast];exact bm (f:=fun a=>(aL m u ((m.states.getD s []).getD a dA)).2) (bm h2 s hs) _ h6
 rw [Ew h1 hlen hun];refine congrArg (fun x=>(x,(0:Int))) (List.ext_getElem (by rw [nN,hlen,eP]) (fun i h5 h6=>?_));have hi:i < m.states.length:=by rw [nN,hlen] at h5;exact h5
 have e1:(mN m u)[i]=(mN m u).getD i zR:=by rw [List.getD_eq_getElem?_getD,List.getElem?_eq_getElem h6];rfl
 rw [e1,sF hi,jT (hb i hi)];have e2:(vV m (mM m u) u)[i]=(vV m (mM m u) u).getD i zR:=by rw [List.getD_eq_getElem?_getD,List.getElem?_eq_getElem h5];rfl
 rw [e2];unfold vV;rw [List.getD_eq_getElem?_getD,List.getElem?_map,List.getElem?_range (by omega)];show (aL m u (m.act i ((mM m u).getD i 0).toNat)).1=_;rw [hat i hi,Int.toNat_natCast];rfl
theorem lG {q:Rat} (h:(dB q).2=0):qv (dB q).1=q∧am (dB q).1=0:=by
 unfold dB at h ⊢;by_cases h1:small q
 ·rw [if_pos h1];exact ⟨iZ q,xH h1⟩
 ·rw [if_neg h1] at h;cases h
theorem wA {a b:RR} {x:RR × Int} (h:(iS a b x).2=0):iS a b x=x∧x.2=0:=by
 unfold iS at h ⊢;by_cases h1:cK a b=0
 ·rw [if_pos h1] at h ⊢;exact ⟨rfl,h⟩
 ·rw [if_neg h1] at h;exact absurd h h1
theorem gg {a b:RR} (h:(cE a b).2=0):qv (cE a b).1=qv a+qv b∧am (cE a b).1=0:=by
 unfold cE at h ⊢;obtain ⟨e1,e2⟩:=wA h;rw [e1];exact lG e2
theorem ij {a b:RR} (h:(mulR a b).2=0):qv (mulR a b).1=qv a*qv b∧am (mulR a b).1=0:=by
 unfold mulR at h ⊢;obtain ⟨e1,e2⟩:=wA h;rw [e1];exact lG e2
theorem lH:qv zR=0:=by rw [← AO,iZ]
theorem un (s x:RR):cN zR [s,x]=if (cE zR s).2=0 then (if (cE (cE zR s).1 x).2=0 then ((cE (cE zR s).1 x).1,0) else (zR,(cE (cE zR s).1 x).2)) else (zR,(cE zR s).2):=rfl
theorem rf {s x:RR} (h:(cN zR [s,x]).2=0):qv (cN zR [s,x]).1=qv s+qv x∧am (cN zR [s,x]).1=0:=by
 rw [un] at h ⊢;by_cases h1:(cE zR s).2=0
 ·rw [if_pos h1] at h ⊢;by_cases h2:(cE (cE zR s).1 x).2=0
  ·rw [if_pos h2];have e1:=gg h1;have e2:=gg h2;refine ⟨?_,e2.2⟩;rw [e2.1,e1.1,lH,Rat.zero_add]
  ·rw [if_neg h2] at h;exact absurd h h2
 ·rw [if_neg h1] at h;exact absurd h h1
def uo:List RR→List RR→Rat
 | a :: la,b :: bs=>qv a*qv b+uo la bs
 | _,_=>0
theorem uq:∀ (a b:List RR) (s:RR),am s=0→(gT s a b).2=0→qv (gT s a b).1=qv s+uo a b∧am (gT s a b).1=0
 | [],b,s,hs,_=>by
  rw [lp];exact ⟨by unfold uo;rw [Rat.add_zero],hs⟩
 | a :: la,[],s,hs,_=>by
  unfold gT uo;exact ⟨by rw [Rat.add_zero],hs⟩
 | a :: la,b :: bs,s,hs,h=>by
  unfold gT at h ⊢;by_cases h1:(mulR a b).2=0
  ·rw [if_pos h1] at h ⊢;by_cases h2:(cN zR [s,(mulR a b).1]).2=0
   ·rw [if_pos h2] at h ⊢;have e1:=ij h1;have e2:=rf h2;obtain ⟨e3,e4⟩:=uq la bs _ e2.2 h;refine ⟨?_,e4⟩;rw [e3,e2.1,e1.1,Rat.add_assoc];rfl
   ·rw [if_neg h2] at h;exact absurd h h2
  ·rw [if_neg h1] at h;exact absurd h h1
theorem nQ:am zR=0:=rfl
theorem ur {a b:List RR} (h:(fX a b).2=0):qv (fX a b).1=uo a b∧am (fX a b).1=0:=by
 unfold fX at h ⊢;by_cases h1:a.length=b.length
 ·rw [if_pos h1] at h ⊢;have:=uq a b zR nQ h;rw [lH,Rat.zero_add] at this;exact this
 ·rw [if_neg h1] at h;cases h
theorem fJ {m:MD} {v:List RR} {x:aU} (h:(aL m v x).2=0):qv (aL m v x).1=qv x.cost+qv m.ag*uo (eV x.next) (jg v x.next):=by
 unfold aL at h ⊢;by_cases h1:(fX (eV x.next) (jg v x.next)).2=0
 ·rw [if_neg (by simpa using h1)] at h ⊢;by_cases h2:(mulR m.ag (fX (eV x.next) (jg v x.next)).1).2=0
  ·rw [if_neg (by simpa using h2)] at h ⊢;rw [(gg h).1,(ij h2).1,(ur h1).1]
  ·rw [if_pos h2] at h;exact absurd h h2
 ·rw [if_pos h1] at h;exact absurd h h1
theorem fK {r:RR} (h:r.neg=false):0≤qv r:=by
 by_cases h0:eu r.den=0
 ·unfold qv;rw [h0,Rat.mkRat_zero];exact Rat.le_refl
 ·have hs:=xN (x:=Gg r) h0;show 0≤vq (Gg r);by_cases hn:(Gg r).2.1=0
  ·rw [hs.1 hn];exact Rat.le_refl
  ·exact Rat.le_of_lt ((hs.2 hn).2 h)
theorem iG {a b c:Rat} (h:0≤a) (k:b≤c):a*b≤a*c:=Rat.mul_le_mul_of_nonneg_left k h
theorem ms {l:List RR}:∀ {k i:Nat},i < k→qv (l.getD (hZ l k) zR)≤qv (l.getD i zR)
 | 0,_,h=>by omega
 | k+1,i,h=>by
  unfold hZ;split
  ·rename_i h1;by_cases e:i=k
   ·subst e;exact Rat.le_refl
   ·exact Rat.le_trans (Rat.le_of_lt h1) (ms (by omega))
  ·rename_i h1;by_cases e:i=k
   ·subst e;exact Rat.not_lt.1 h1
   ·exact ms (by omega)
theorem sG {n:Nat} {l:List Out} (h:∀ i,i < l.length→dU n l i=0):∀ o ∈ l,0≤o.1∧o.1 < n∧am o.2=0∧o.2.neg=false:=fun o ho=>by
 obtain ⟨i,hi,e⟩:=List.mem_iff_getElem.1 ho;have:=qV (h i hi);rw [List.getD_eq_getElem?_getD,List.getElem?_eq_getElem hi,e] at this;exact this
theorem mt {m:MD} (h:ew m=0) {s a:Nat} (hs:s < m.states.length) (ha:a < (m.states.getD s []).length):ex m.states.length (m.act s a)=0:=(gd ((bu h).2.2.2 s hs)).2.2 a ha
theorem cP {m:MD} (h:ew m=0):0≤qv m.ag∧qv m.ag≤1:=by
 unfold ew at h;by_cases h1:am m.ag=0
 ·rw [if_neg (by simpa using h1)] at h;by_cases h2:m.ag.neg=true∨1 < qv m.ag
  ·rw [if_pos h2] at h;cases h
  ·exact ⟨fK (by cases e:m.ag.neg with|false=>rfl|true=>exact absurd (.inl e) h2),Rat.not_lt.1 (fun e=>h2 (.inr e))⟩
 ·rw [if_pos h1] at h;exact absurd h h1
theorem yg {m:MD} {u:List RR} (h:(ah m u).2.2=0) {s a:Nat} (hs:s < m.states.length) (ha:a < (m.states.getD s []).length):(aL m u (m.act s a)).2=0∧qv ((ah m u).1.getD s zR)≤qv (aL m u (m.act s a)).1:=by
 obtain ⟨h1,h2,h3,h4⟩:=ii h;rw [h3,sF hs];refine ⟨bm (f:=fun a=>(aL m u ((m.states.getD s []).getD a dA)).2) (bm h2 s hs) _ ha,?_⟩;have:=ms (l:=dM m u (m.states.getD s [])) (k:=(dM m u (m.states.getD s [])).length) (i:=a) (by rw [dx];exact ha);rw [jT ha] at this;exact this
theorem wD {m:MD} {p:List Int} {u:List RR} {s:Nat} (h:Ah m p u s=0):0≤p.getD s 0∧p.getD s 0 < ((m.states.getD s []).length:Int)∧(aL m u (m.act s (p.getD s 0).toNat)).2=0:=by
 unfold Ah at h;by_cases h1:ia m p s=0
 ·rw [h1,if_neg (fun h=>h rfl)] at h;unfold ia at h1;by_cases h2:p.getD s 0 < 0∨((m.states.getD s []).length:Int)≤p.getD s 0
  ·rw [if_pos h2] at h1;cases h1
  ·exact ⟨by omega,by omega,h⟩
 ·rw [if_pos h1] at h;exact absurd h h1
theorem wE {m:MD} {p:List Int} {u:List RR} {s:Nat} (h:s < p.length):(vV m p u).getD s zR=(aL m u (m.act s (p.getD s 0).toNat)).1:=by
 unfold vV;rw [List.getD_eq_getElem?_getD,List.getElem?_map,List.getElem?_range h];rfl
theorem lI (q:Rat):(dB q).2=0∨(dB q).2=4:=by
 unfold dB;split
 ·exact .inl rfl
 ·exact .inr rfl
theorem o7 {a b:RR} (h1:am a=0) (h2:am b=0):(mulR a b).2=0∨(mulR a b).2=4:=by
 unfold mulR iS;rw [if_pos (dt h1 h2)];exact lI _
theorem lJ {a b:RR} (h1:am a=0) (h2:am b=0):(cE a b).2=0∨(cE a b).2=4:=by
 unfold cE iS;rw [if_pos (dt h1 h2)];exact lI _
theorem zv {s x:RR} (h1:am s=0) (h2:am x=0):(cN zR [s,x]).2=0∨(cN zR [s,x]).2=4:=by
 rw [un];rcases lJ nQ h1 with e|e
 ·rw [if_pos e];rcases lJ (gg e).2 h2 with e2|e2
  ·rw [if_pos e2];exact .inl rfl
  ·rw [if_neg (by rw [e2];decide)];exact .inr e2
 ·rw [if_neg (by rw [e];decide)];exact .inr e
theorem ut:∀ (a b:List RR) (s:RR),(∀ x ∈ a,am x=0)→(∀ x ∈ b,am x=0)→am s=0→(gT s a b).2=0∨(gT s a b).2=4
 | [],b,s,_,_,_=>by rw [lp];exact .inl rfl
 | a :: la,[],s,_,_,_=>by unfold gT;exact .inl rfl
 | a :: la,b :: bs,s,h1,h2,hs=>by
  unfold gT;rcases o7 (h1 a (by simp)) (h2 b (by simp)) with e|e
  ·rw [if_pos e];rcases zv hs (ij e).2 with e2|e2
   ·rw [if_pos e2];exact ut la bs _ (fun x hx=>h1 x (by simp [hx])) (fun x hx=>h2 x (by simp [hx])) (rf e2).2
   ·rw [if_neg (by rw [e2];decide)];exact .inr e2
  ·rw [if_neg (by rw [e];decide)];exact .inr e
theorem rg {m:MD} {v:List RR} {x:aU} {n:Nat} (hm:am m.ag=0) (hx:ex n x=0) (hn:n≤v.length) (hv:∀ i,i < v.length→am (v.getD i zR)=0):(aL m v x).2=0∨(aL m v x).2=4:=by
 obtain ⟨x1,x2,x3,x4,x5⟩:=eL hx;have hv2:=sG x4;unfold aL;have hd:(fX (eV x.next) (jg v x.next)).2=0∨(fX (eV x.next) (jg v x.next)).2=4:=by
  unfold fX;rw [if_pos (by rw [iD,jR])];refine ut _ _ _ (fun y hy=>?_) (fun y hy=>?_) nQ
  ·obtain ⟨o,ho,rfl⟩:=List.mem_map.1 hy;exact (hv2 o ho).2.2.1
  ·obtain ⟨o,ho,rfl⟩:=List.mem_map.1 hy;exact hv _ (by have:=hv2 o ho;omega)
 rcases hd with e|e
 ·rw [if_neg (by simpa using e)];rcases o7 hm (ur e).2 with e2|e2
  ·rw [if_neg (by simpa using e2)];exact lJ x1 (ij e2).2
  ·rw [if_pos (by rw [e2];decide)];exact .inr e2
 ·rw [if_pos (by rw [e];decide)];exact .inr e
theorem EK {m:MD} {p:List Int} {u:List RR} (h:(d6 m p u).2=0):∀ i,i < (d6 m p u).1.length→am ((d6 m p u).1.getD i zR)=0:=fun i hi=>by
 obtain ⟨k1,k2,k3,k4⟩:=wx h;rw [k4] at hi ⊢;rw [nN] at hi;rw [wE hi];exact mq (wD (k3 i hi)).2.2
theorem kl (v1 v2:Value) (l1 l2:List Int) (w:World) (h1:aV .i64 w v1 l1) (h2:aV .i64 w v2 l2) :
  Calls Tryz.prog 36 #[v1,v2] w fun e w'=>e=.returned (.bool (decide (l1=l2)))∧Ext w w':=by
 obtain ⟨a1,c1,rfl,hc1,hm1,hr1⟩:=h1.get;obtain ⟨a2,c2,rfl,hc2,hm2,hr2⟩:=h2.get;clear h1 h2;by_cases hlen:l1.length=l2.length
 ·have H1:=kI hr1;clear hr1;have H2:=kI hr2;clear hr2;rw [← hlen];rw [← hlen] at H2 hc2;have HL:=kI hlen;clear hlen;go_enter Tryz.func36,Tryz.ntmps36
  go_wp2
  go_loopw [5] (fun i wr=>∃ k:Nat,k≤l1.length∧i=.int .i64 k∧l1.take k=l2.take k∧∃ n,wr=w.drewN n)
   (fun i _=>l1.length - (intOf i).toNat)
  case atStart=>exact ⟨0,Nat.zero_le _,rfl,rfl,0,rfl⟩
  case round=>
   obtain ⟨k,hk,rfl,htake,n,rfl⟩:=hrel;have HT:=kI htake;clear htake;by_cases hlt:k < l1.length
   ·obtain ⟨b1,o1,rfl,hb1,hx1⟩:=H1.o k hlt;obtain ⟨b2,o2,rfl,hb2,hx2⟩:=H2.o k hlt;go_wp2_with fail;go_quiet (fail)
    go_wp2
    ·have hne:(l1[k] != l2[k]?.getD 0)=true:=by assumption
     go_ret;refine ⟨cI ?_,((Ext.refl w).drewN _).drewN _⟩;rw [eq_comm,decide_eq_false_iff_not];rintro rfl;simp [hlt] at hne
    ·have he:(l1[k] != l2[k]?.getD 0)=false:=by assumption
     have hlt2:k < l2.length:=HL.o ▸ hlt;go_roundw
     case rel=>exact ⟨k+1,by omega,by go_num,ip HT.o hlt hlt2 (by simpa [hlt2] using he),_,rfl⟩
     case measure=>simp [intOf];omega
   ·go_wp2
    go_ret;refine ⟨cI ?_,(Ext.refl w).drewN _⟩;have:=HT.o;rw [List.take_of_length_le (by omega),List.take_of_length_le (by have:=HL.o;omega)] at this;simp [this]
 ·have hb:(l1.length != l2.length)=true:=by simpa using hlen
  go_enter Tryz.func36,Tryz.ntmps36
  go_wp2
  go_ret;refine ⟨cI ?_,Ext.refl w⟩;rw [eq_comm,decide_eq_false_iff_not];rintro rfl;exact hlen rfl
abbrev Xk (w:World) (B:Nat) (v:Value) (l:List Int):Prop:=w.ownsRow B 3 1 v l.length (l.map (Value.int .i64))
theorem wF {B C size n:Nat} {e t:TypeId} {w w':World} {v:Value} {xs:List Value} (h:w.ownsRow B e size v n xs) (k:Keeps C t w w') (ht:e≠t):w'.ownsRow B e size v n xs:=by
 refine ⟨h.1,?_⟩;rcases h.2 with hn|⟨g,cap,cur,rfl,hb,hg,rest⟩
 ·exact .inl hn
 ·exact .inr ⟨g,cap,cur,rfl,hb,af.keeps (show af w g cur e from hg) k ht,rest⟩
def kC (B:Nat) (w:World) (h:List Value) (l:List Int):Prop:=∃ a c,h=[.slice a l.length c]∧Xk w B (.slice a l.length c) l
theorem kC.keeps {B C:Nat} {t:TypeId} (ht:3≠t) (w w':World) (h:List Value) (l:List Int) (e:kC B w h l) (k:Keeps C t w w'):kC B w' h l:=by
 obtain ⟨a,c,rfl,h1⟩:=e;exact ⟨a,c,rfl,wF h1 k ht⟩
theorem kC.ext {B:Nat} {w w':World} {h:List Value} {l:List Int} (e:kC B w h l) (x:Ext w w'):kC B w' h l:=by
 obtain ⟨a,c,rfl,h1⟩:=e;exact ⟨a,c,rfl,xm h1 x⟩
abbrev cO (B:Nat) (w:World) (v:Value) (g:List (List Int)):Prop:=ay 53 1 (kC B) B w v g
theorem cO.ext' {B:Nat} {w w':World} {v:Value} {g:List (List Int)} (h:cO B w v g) (x:Ext w w'):cO B w' v g:=ay.ext h x (fun _ _ e=>e.ext x)
theorem Tryz.o8:(Tryz.prog.info? 53).map (fun i=>(i.zero,i.size,i.bytes))=some (some (.slice none 0 0),1,24):=by kernel_rfl
def sH (A B:World):Prop:=∀ (i:Nat) (c:Array Value) (t:TypeId),(t=25∨t=157)→af A i c t→af B i c t
theorem sH.ext {A B:World} (h:Ext A B):sH A B:=fun _ _ _ _ b=>b.ext h
theorem sH.trans {A B C:World} (h:sH A B) (k:sH B C):sH A C:=fun i c t ht b=>k i c t ht (h i c t ht b)
theorem sH.kq {m:Nat} {A B:World} (h:Kq m A B):sH A B:=fun i c t _ b=>h.blk i c t b
theorem sH.keeps {B:Nat} {t:TypeId} {A C:World} (k:Keeps B t A C) (h1:25≠t) (h2:157≠t):sH A C:=fun i c u hu b=>b.keeps k (by rcases hu with rfl|rfl;exact h1;exact h2)
theorem cA.ty {B:Nat} {w w':World} {v:Value} {l:List Int} (h:cA B w v l) (k:sH w w'):cA B w' v l:=by
 obtain ⟨⟨a,cap,rfl,h1,h2,h3⟩,h4⟩:=h;refine ⟨⟨a,cap,rfl,h1,h2,fun i hi=>?_⟩,h4.imp id fun ⟨g,c,cur,e,hb,hs,hB⟩=>⟨g,c,cur,e,k g cur _ (.inr rfl) hb,hs,hB⟩⟩;obtain ⟨b,off,e1,e2,e3,e4⟩:=h3 i hi;rcases e4 with e4|⟨cur,e4⟩
 ·omega
 ·have hb:=k b cur _ (.inr rfl) e4;have he:w'.heap[b]?=w.heap[b]?:=by unfold af at hb e4;rw [hb,e4]
  exact ⟨b,off,e1,hb.lt,(World.cell?_of_block (a:=⟨b,off+i,none⟩) he).trans e3,.inr ⟨cur,hb⟩⟩
theorem dg.ty {B:Nat} {w w':World} {h:List Value} {r:RR} (e:dg B w h r) (k:sH w w'):dg B w' h r:=by
 obtain ⟨a1,c1,a2,c2,rfl,h1,h2⟩:=e;exact ⟨a1,c1,a2,c2,rfl,h1.ty k,h2.ty k⟩
theorem bT.ty {B:Nat} {w w':World} {v:Value} {l:List RR} (h:bT B w v l) (k:sH w w'):bT B w' v l:=by
 obtain ⟨hs,h1,h2,h3,h4⟩:=h;refine ⟨hs,⟨h1.1,?_⟩,h2,h3,fun i y hi=>by obtain ⟨h,e1,e2⟩:=h4 i y hi;exact ⟨h,e1,e2.ty k⟩⟩;rcases h1.2 with hn|⟨g,cap,cur,rfl,hb,hg,rest⟩
 ·exact .inl hn
 ·exact .inr ⟨g,cap,cur,rfl,hb,k g cur _ (.inl rfl) hg,rest⟩
structure rh (n:Nat) (X:Nat→Prop) (A B:World):Prop where
 kp:gG n X A B
 ty:sH A B
theorem rh.refl (n:Nat) (X:Nat→Prop) (A:World):rh n X A A:=⟨gG.refl _ _ _,fun _ _ _ _ b=>b⟩
theorem rh.trans {n:Nat} {X:Nat→Prop} {A B C:World} (h:rh n X A B) (k:rh n X B C):rh n X A C:=⟨h.kp.trans k.kp,h.ty.trans k.ty⟩
theorem rh.ext {n:Nat} {X:Nat→Prop} {A B:World} (h:Ext A B):rh n X A B:=⟨.ext h,.ext h⟩
def Iz (w0:World) (m:MD) (vals:List RR) (k:Nat) (pre:List (Value × Value)) (x:Value × Value) (W:World):Prop:=
 pre.length < k∧(ah m (aZ m vals pre.length)).2.2=0∧bT w0.heap.size W x.1 (aZ m vals (pre.length+1))∧cS w0.heap.size W x.2 (ah m (aZ m vals pre.length)).2.1
def Ml (m:MD) (vals:List RR) (k:Nat) (pre:List (Value × Value)) (ch:List PanicEntry):Prop:=
 pre.length < k∧(ah m (aZ m vals pre.length)).2.2≠0∧ch=[aY (ah m (aZ m vals pre.length)).2.2]
structure fg (o:Nat) (A B:World):Prop where
 zero:Below 0 A B
 block:∀ i,i < A.heap.size→i≠o→B.heap[i]?=A.heap[i]?
theorem fg.ext {o:Nat} {A B:World} (h:Ext A B):fg o A B:=⟨h.mono (Nat.zero_le _),fun i hi _=>h.block i hi⟩
theorem fg.set {o:Nat} {A B:World} (h:fg o A B) (p:Nat) (v:Value):fg o A (B.setCell ⟨o,p,none⟩ v):=⟨h.zero.setCell (Nat.zero_le _) v,fun i hi hn=>(Below.heap_setCell B ⟨o,p,none⟩ v i hn).trans (h.block i hi hn)⟩
theorem fg.trans {o:Nat} {A B C:World} (h:fg o A B) (k:fg o B C):fg o A C:=⟨h.zero.trans k.zero,fun i hi hn=>(k.block i (Nat.lt_of_lt_of_le hi h.zero.size) hn).trans (h.block i hi hn)⟩
structure IC (o:Nat) (A B:World):Prop where
 o:fg o A B
 k:Keeps 0 29 A B
theorem IC.ext {o:Nat} {A B:World} (h:Ext A B):IC o A B:=⟨.ext h,Keeps.ext h⟩
theorem cS.mono {B C:Nat} {w:World} {v:Value} {l:List Int} (h:cS B w v l) (hB:C≤B):cS C w v l:=by
 obtain ⟨hs,h1,h2,h3,h4⟩:=h;exact ⟨hs,iU h1 hB,h2,h3,h4⟩
theorem uu (n:Nat) (hn:1≤n) (m:MD) (m1:Option Addr) (n1:Nat) (m2:Option Addr) (n2:Nat) (m3:Option Addr) (n3:Nat) (a:Option Addr) (c:Nat) (vals:List RR) (k H N lb:Nat) (X:Nat→Prop) (w0 W1:World)
  (hm:eK w0 (.agg (ui m m1 n1 m2 n2 m3 n3)) m) (hv:ct w0 (.slice a vals.length c) vals) (hlm:iO m) (hlv:bY vals) (hk:k≤24)
  (hx:Ext w0 W1) (hX:∀ i,X i→w0.heap.size≤i∧i < H) (Ub:w0.heap.size≤H) (hH:H+2 < N) (hN:N≤W1.heap.size)
  (hb0:af W1 H (ui m m1 n1 m2 n2 m3 n3) 28) (hb1:af W1 (H+1) #[.slice a vals.length c] 29) (hb2:af W1 (H+2) #[.int .i64 k] 3) :
  oZ Fence.wide n Tryz.prog 134 (Gs H) (rh N X) (IC (H+1)) (fun x:Value × Value=>#[x.1,x.2]) (Iz w0 m vals k) (fun xs=>xs.length=k) (Ml m vals k) lb W1:=by
 intro J Jx hJ hY h0;have hbk:=fun W vv l (x:Ext w0 W) (h:ct W vv l) (hl:bY l)=>iF _ vv m l W (hm.ext x) h hlm hl;have hsl:=fun j=>um (m:=m) (v:=vals) hlv j;have EN:=kI hbk;have HSL:=kI hsl;have HV:=kI hv;have HB0:=kI hb0;have HX:=kI hx;have Oc:=kI hJ;have HY:=kI hY;have hw0:w0.heap.size≤W1.heap.size:=HX.o.size;have HB1:=kI hb1;clear hm hv hbk hsl hx hlm hlv hJ hY hb0 hb1;refine callsIn_of_wp Tryz.func134 rfl trivial ?_ rfl;simp only [Tryz.ntmps134,List.size_toArray,List.length_cons,List.length_nil,Nat.reduceAdd,Nat.reduceSub,Array.replicate_succ,Array.replicate_zero,List.push_toArray,List.append_toArray,List.nil_append,List.cons_append];have d0:=hb2.cell;have d1:=hb2.lt;gi_wp2_with fail;clear d0 d1 hb2;gi_loopw [9] (fun i wr=>∃ (j:Nat) (pre:List (Value × Value)) (vv:Value),j≤k∧i=.int .i64 j∧pre.length=j∧J pre wr∧Ext w0 wr∧N≤wr.heap.size∧af wr H (ui m m1 n1 m2 n2 m3 n3) 28∧af wr (H+1) #[vv] 29∧ct wr vv (aZ m vals j)∧rh N (fun i=>X i∨i=H+1) W1 wr) (fun i _=>k - (intOf i).toNat)
 case atStart=>exact ⟨0,[],_,by omega,rfl,rfl,h0,HX.o,hN,HB0.o,HB1.o,HV.o.ext HX.o,rh.refl _ _ _⟩
 case round=>
  obtain ⟨wk,hwk⟩:=gN (wr);subst hwk;obtain ⟨j,pre,vv,hjk,rfl,hpl,hj,hxk,Xl,b0,b1,hrd,hst⟩:=hrel;have XK:=kI hxk;have HJ:=kI hj;have mJ:=kI hpl;have B0:=kI b0;have B1:=kI b1;have RD:=kI hrd;have ST:=kI hst;clear hxk hj hpl b0 b1 hrd hst;by_cases hlt:j < k
  ·obtain ⟨av,cv,rfl,-,-,-⟩:=RD.o.get;have hr:=fun W (x:Ext wk W)=>EN.o W _ _ (XK.o.trans x) (RD.o.ext x) (HSL.o j);obtain ⟨R,hR⟩:=gN (ah m (aZ m vals j));rw [← hR] at hr;have HR:=kI hR;obtain ⟨vs,Xm,e⟩:=R;have Q0:=kI hr;have QF:=B0.o.cell;have ud:=B1.o.cell;have kb2:=B0.o.lt;have QG:=B1.o.lt;obtain ⟨sl,hsl⟩:=gN ((aZ m vals j).length);clear hr hR;clear hsl;gi_wp2_with fail;refine ⟨trivial,(callsIn_wide.2 (Q0.o wk (Ext.refl _))).mono ?_⟩;rintro e9 w2 ⟨⟨v,aw,rfl,ov,oz⟩,hx2⟩;dsimp only at ov oz;have X2:=kI hx2;have OV:=kI (bT.mono ov XK.o.size);have OZ:=kI oz;have Xn:Hid (Ext w0 w2):=kI (XK.o.trans hx2);have HE:Hid ((ah m (aZ m vals j)).2.2=e):=kI (by rw [← HR.o]);have Q4:Hid (aZ m vals (j+1)=vs):=kI (by show (ah m (aZ m vals j)).1=vs;rw [← HR.o]);have HAS:Hid ((ah m (aZ m vals j)).2.1=Xm):=kI (by rw [← HR.o]);have b1:=B1.o.ext hx2;have c1:=b1.cell;have f1:=b1.free;have l1:=b1.lt;obtain ⟨x1,x2,rfl⟩:=OV.o.shape;clear ov oz hx2 QF ud kb2 QG b1;by_cases he:e=0
   ·subst he;gi_wp2_with fail;refine ⟨trivial,(callsIn_wide.2 (xV w2)).mono ?_⟩;rintro e9 w3 ⟨rfl,rfl⟩;have Uo:=kI (B1.o.ext X2.o);have Xo:=kI (B0.o.ext X2.o);gi_wp2_with fail;obtain ⟨ws,hws⟩:=gN (w3.setCell ⟨H+1,0,none⟩ (.slice x1 vs.length x2));have hks:Keeps 0 29 w3 ws:=by rw [hws];exact aT Uo.o 0 _
    have hos:fg (H+1) wk ws:=by rw [hws];exact (fg.ext X2.o).set 0 _
    have hps:gG N (fun i=>X i∨i=H+1) wk ws:=by rw [hws];exact (gG.ext X2.o).set (.inl (.inr rfl)) 0 _
    have hxs:Ext w0 ws:=by rw [hws];exact Below.setCell Xn.o (by dsimp only;omega) _
    have Up:af ws H (ui m m1 n1 m2 n2 m3 n3) 28:=by rw [hws];exact Xo.o.setOther (a:=⟨H+1,0,none⟩) (by dsimp only;omega) _
    have Uq:af ws (H+1) #[.slice x1 vs.length x2] 29:=by rw [hws];exact Uo.o.set 0 _
    have hsz:wk.heap.size≤ws.heap.size:=hos.zero.size;rw [← hws];have xU:=kI hos;have Xp:=kI hps;have Ur:=kI hxs;have Xq:=kI Up;have Xr:=kI Uq;have Us:=kI hks;have Md:=kI hsz;have Ut:=kI (bT.keeps OV.o hks (by decide) (by decide));have Xs:=kI (cS.keeps OZ.o hks (by decide));have hok:=ii HE.o;have hvs:vs=mN m (aZ m vals j):=Q4.o.symm.trans hok.2.2.1;have hlen:wm vs:=by rw [hvs];exact BB hok.1 hok.2.1
    have Gu:vs.length≤1000000:=by
     rw [hvs,eP];have:=(bu (ee hok.1).1).2.2.1;omega
    have HLEN:=kI hlen;have HL2:=kI Gu;clear hws hos hps hxs Up Uq hks hsz hok hvs hlen Gu c1 f1 l1;refine ⟨trivial,(callsIn_wide.2 (xT _ vs ws Ut.o.rd HL2.o HLEN.o)).mono ?_⟩;rintro e9 w4 ⟨⟨v4,rfl,ow⟩,hx4⟩;have X4:=kI hx4;have hw4:w0.heap.size≤ws.heap.size:=Ur.o.size;have Xt:Hid (bT w0.heap.size w4 v4 (aZ m vals (j+1))):=kI (by rw [Q4.o];exact bT.mono ow hw4);have Xu:Hid (cS w0.heap.size w4 aw (ah m (aZ m vals j)).2.1):=kI (by rw [HAS.o];exact cS.mono (cS.ext' Xs.o hx4) XK.o.size);obtain ⟨fn,tmps,assign,body,hy,hR⟩:=HY.o pre (v4,aw) w4 (Oc.o _ _ _ HJ.o ⟨xU.o.trans (.ext hx4),((Keeps.ext X2.o).trans Us.o).trans (Keeps.ext hx4)⟩) ⟨by rw [mJ.o];exact hlt,by rw [mJ.o];exact HE.o,by rw [mJ.o];exact Xt.o,by rw [mJ.o];exact Xu.o⟩;have HRR:=kI hR;dsimp only at hy HRR;clear hR ow hx4;gi_wp2_with fail;refine HRR.o.mono ?_;rintro e9 W5 ⟨hb5,(⟨rfl,Mm⟩|⟨rfl,Mm⟩)⟩
    ·have Q5:=kI Mm;have Xv:=kI hb5;clear Mm hb5 hy HRR;gi_wp2_with fail;go_roundw
     case rel=>
      have Mn:Ext w0 w4:=Ur.o.trans X4.o;have h5:=Xv.o;refine ⟨j+1,_,_,by omega,by go_num,by have:=mJ.o;simp [this],Q5.o,Below.trans Mn (h5.kp.below (fun i h=>(hX i h).1) (by omega) Mn.size),Nat.le_trans Xl (Nat.le_trans (Nat.le_trans Md.o X4.o.size) h5.kp.zero.size),(Xq.o.ext X4.o).wn h5.kp (by omega) (fun h=>by have:=(hX _ h).2;omega),(Xr.o.ext X4.o).wn h5.kp (by omega) (fun h=>by have:=(hX _ h).2;omega),?_,?_⟩
      ·rw [Q4.o];exact ((bT.ext' Ut.o X4.o).ty h5.ty).rd
      ·exact (ST.o.trans ⟨Xp.o.trans (.ext X4.o),(sH.ext X2.o).trans ((sH.keeps Us.o (by decide) (by decide)).trans (.ext X4.o))⟩).trans ⟨h5.kp.mono (fun i h=>.inl h),h5.ty⟩
     case measure=>simp [intOf];omega
    ·have Q5:=kI Mm;clear Mm hb5 hy HRR;gi_wp2_with fail;refine bodyPost_ret (v:=.tuple #[]) ?_ rfl (.inl ⟨⟨_,rfl⟩,.inr ⟨_,Q5.o⟩⟩);first|rfl|(simp only [results,Tryz.results134];go_simp)
   ·gi_wp2_with fail;refine ⟨trivial,(callsIn_wide.2 (jk he w2)).mono ?_⟩;rintro e9 w3 ⟨rfl,rfl⟩;simp +zetaDelta only [Exit.then,Exit.inBlock];exact aA rfl (.inr ⟨_,pre,rfl,⟨by rw [mJ.o];exact hlt,by rw [mJ.o,HE.o];exact he,by rw [mJ.o,HE.o]⟩,Oc.o _ _ _ HJ.o (.ext X2.o)⟩)
  ·obtain rfl:j=k:=by omega
   have q6:¬ (j:Int) < (j:Int):=by omega
   gi_wp2_with fail;go_end0
   exact .inl ⟨⟨_,rfl⟩,.inl ⟨_,mJ.o,HJ.o⟩⟩
def vk (B:Nat) (w:World) (h:List Value) (l:List RR):Prop:=∃ a c,h=[.slice a l.length c]∧bT B w (.slice a l.length c) l
theorem vk.keeps {B C:Nat} {t:TypeId} (ht:25≠t) (hu:157≠t) (w w':World) (h:List Value) (l:List RR) (e:vk B w h l) (k:Keeps C t w w'):vk B w' h l:=by
 obtain ⟨a,c,rfl,h1⟩:=e;exact ⟨a,c,rfl,h1.keeps k ht hu⟩
theorem vk.ext {B:Nat} {w w':World} {h:List Value} {l:List RR} (e:vk B w h l) (x:Ext w w'):vk B w' h l:=by
 obtain ⟨a,c,rfl,h1⟩:=e;exact ⟨a,c,rfl,bT.ext' h1 x⟩
theorem vk.of {B:Nat} {w:World} {v:Value} {l:List RR} (h:bT B w v l):vk B w [v] l:=by
 obtain ⟨a,c,rfl⟩:=h.shape;exact ⟨a,c,rfl,h⟩
abbrev cg (B:Nat) (w:World) (v:Value) (g:List (List RR)):Prop:=ay 29 1 (vk B) B w v g
theorem cg.nil (B:Nat) (w:World):cg B w (.slice none 0 0) []:=ay.nil _ _ _ _ _
theorem cg.ext' {B:Nat} {w w':World} {v:Value} {g:List (List RR)} (h:cg B w v g) (x:Ext w w'):cg B w' v g:=ay.ext h x (fun _ _ e=>e.ext x)
theorem cg.keeps {B C:Nat} {t:TypeId} {w w':World} {v:Value} {g:List (List RR)} (h:cg B w v g) (k:Keeps C t w w') (ht:29≠t) (hr:25≠t) (hu:157≠t):cg B w' v g:=ay.o5 h k ht (fun _ _ e=>e.keeps hr hu _ _ _ _ k)
theorem cg.shape {B:Nat} {w:World} {v:Value} {g:List (List RR)} (h:cg B w v g):∃ a c,v=.slice a g.length c:=by
 obtain ⟨a,c,h,_⟩:=ay.vi h;exact ⟨a,c,h⟩
theorem cg.mono {B C:Nat} {w:World} {v:Value} {g:List (List RR)} (h:cg B w v g) (hB:C≤B):cg C w v g:=by
 obtain ⟨hs,h1,h2,h3,h4⟩:=h;exact ⟨hs,iU h1 hB,h2,h3,fun i y hi=>by obtain ⟨h,e1,a,c,e2,e3⟩:=h4 i y hi;exact ⟨h,e1,a,c,e2,e3.mono hB⟩⟩
theorem cO.mono {B C:Nat} {w:World} {v:Value} {g:List (List Int)} (h:cO B w v g) (hB:C≤B):cO C w v g:=by
 obtain ⟨hs,h1,h2,h3,h4⟩:=h;exact ⟨hs,iU h1 hB,h2,h3,fun i y hi=>by obtain ⟨h,e1,a,c,e2,e3⟩:=h4 i y hi;exact ⟨h,e1,a,c,e2,iU e3 hB⟩⟩
theorem cg.Mo {B o:Nat} {w w':World} {v:Value} {g:List (List RR)} (h:cg B w v g) (k:IC o w w') (hne:v.ownBlock≠some o):cg B w' v g:=by
 obtain ⟨hs,h1,h2,h3,h4⟩:=h;refine ⟨hs,⟨h1.1,?_⟩,h2,h3,fun i y hi=>by obtain ⟨h,e1,e2⟩:=h4 i y hi;exact ⟨h,e1,e2.keeps (by decide) (by decide) _ _ _ _ k.k⟩⟩;rcases h1.2 with hn|⟨q,cap,cur,rfl,hb,hg,rest⟩
 ·exact .inl hn
 ·have hq:q≠o:=fun e=>hne (by rw [e];rfl);have hlt:q < w.heap.size:=(Array.getElem?_eq_some_iff.1 hg).1;exact .inr ⟨q,cap,cur,rfl,hb,(k.o.block q hlt hq).trans hg,rest⟩
theorem cO.keeps {B C:Nat} {t:TypeId} {w w':World} {v:Value} {g:List (List Int)} (h:cO B w v g) (k:Keeps C t w w') (ht:53≠t) (hi:3≠t):cO B w' v g:=ay.o5 h k ht (fun _ _ e=>e.keeps hi _ _ _ _ k)
theorem cO.nil (B:Nat) (w:World):cO B w (.slice none 0 0) []:=ay.nil _ _ _ _ _
theorem cO.shape {B:Nat} {w:World} {v:Value} {g:List (List Int)} (h:cO B w v g):∃ a c,v=.slice a g.length c:=by
 obtain ⟨a,c,h,_⟩:=ay.vi h;exact ⟨a,c,h⟩
theorem kC.of {B:Nat} {w:World} {v:Value} {l:List Int} (h:cS B w v l):kC B w [v] l:=by
 obtain ⟨a,c,rfl⟩:=h.shape;exact ⟨a,c,rfl,h.WQ⟩
def Aside (v:Value) (H N:Nat):Prop:=∀ q,v.ownBlock=some q→q < H∨N≤q
theorem Tryz.lK:(Tryz.prog.info? 29).map (fun i=>(i.zero,i.size,i.bytes))=some (some (.slice none 0 0),1,24):=by kernel_rfl
theorem ay.jp {α:Type} {e:TypeId} {size:Nat} {El:World→List Value→α→Prop} {B:Nat} {w:World} {v:Value} {l:List α} (h:ay e size El B w v l) {q:Nat} (hq:v.ownBlock=some q):(∃ cur,af w q cur e)∧B≤q∧q < w.heap.size:=by
 obtain ⟨hs,h1,_⟩:=h;rcases h1.2 with ⟨rfl,_⟩|⟨g,cap,cur,rfl,hb,hg,_⟩
 ·cases hq
 ·injection hq with hq
  dsimp only at hq;subst hq;exact ⟨⟨cur,hg⟩,hb,(Array.getElem?_eq_some_iff.1 hg).1⟩
theorem ay.jq {α:Type} {e:TypeId} {size:Nat} {El:World→List Value→α→Prop} {B:Nat} {w w':World} {v:Value} {l:List α} (h:ay e size El B w v l) (hg:w.grownBy w' v.ownBlock):Keeps B e w w':=
 ⟨⟨hg.os,hg.tape,hg.output,hg.size,fun i hi=>by omega⟩,fun i hi ho=>hg.block i hi (fun e9=>by
  obtain ⟨⟨cur,hb⟩,hq,_⟩:=h.jp e9.symm;rcases ho with ho|⟨c2,u,h5,h6⟩
  ·omega
  ·unfold af at hb h5;rw [hb] at h5;injection h5 with h5
   injection h5 with _ h7
   exact h6 h7.symm)⟩
def wG (w w':World) (e:Ending) (r:List (List RR) × List (List Int) × Int):Prop:=∃ v p,e=.returned (.tuple #[v,p,.int .i64 r.2.2])∧cg w.heap.size w' v r.1∧cO w.heap.size w' p r.2.1
theorem wG.mk {w w':World} {v p:Value} {g:List (List RR)} {q:List (List Int)} {x:Int} {r:List (List RR) × List (List Int) × Int} (h:cg w.heap.size w' v g) (k:cO w.heap.size w' p q) (e:r=(g,q,x)):wG w w' (.returned (.tuple #[v,p,.int .i64 x])) r:=by subst e;exact ⟨v,p,rfl,h,k⟩
theorem dg.mono {B C:Nat} {w:World} {h:List Value} {r:RR} (e:dg B w h r) (hB:C≤B):dg C w h r:=by
 obtain ⟨a1,c1,a2,c2,e2,s1,s2⟩:=e;exact ⟨a1,c1,a2,c2,e2,s1.mono hB,s2.mono hB⟩
def fh (x f y:RR):RR × Int:=if (mulR f y).2≠0 then (zR,(mulR f y).2) else bR x (mulR f y).1
theorem nR {x f y:RR} {c:Int} (h:(mulR f y).2=c) (hc:c≠0):fh x f y=(zR,c):=by unfold fh;rw [h,if_pos hc]
theorem jr {x f y p:RR} (h:mulR f y=(p,0)):fh x f y=bR x p:=by unfold fh;rw [h,if_neg (fun h=>h rfl)]
def bU {α:Type} (f:Nat→α) (t:Nat) (x:α):Nat→α:=fun i=>if i=t then x else f i
theorem aW {α:Type} (f:Nat→α) (t:Nat) (x:α):bU f t x t=x:=if_pos rfl
theorem bS {α:Type} {f:Nat→α} {t:Nat} {x:α} {i:Nat} (h:i≠t):bU f t x i=f i:=if_neg h
structure Sys where
 M:Nat→Nat→RR
 S:Nat→RR
 V:Nat→RR
def iH (r:Nat→RR) (f:RR) (o:Nat→RR) (k:Nat):Nat→RR:=fun i=>if i < k then (fh (r i) f (o i)).1 else r i
def nm (r:Nat→RR) (f:RR) (o:Nat→RR) (k:Nat):Int:=bF (fun i=>(fh (r i) f (o i)).2) k
def eY (n s t:Nat) (y:Sys):Sys × Int:=
 if (bD (y.M t s) (y.M s s)).2≠0 then (y,(bD (y.M t s) (y.M s s)).2)
 else if nm (y.M t) (bD (y.M t s) (y.M s s)).1 (y.M s) n≠0 then (y,nm (y.M t) (bD (y.M t s) (y.M s s)).1 (y.M s) n)
 else if (fh (y.S t) (bD (y.M t s) (y.M s s)).1 (y.S s)).2≠0 then (y,(fh (y.S t) (bD (y.M t s) (y.M s s)).1 (y.S s)).2)
 else (⟨bU y.M t (iH (y.M t) (bD (y.M t s) (y.M s s)).1 (y.M s) n),bU y.S t (fh (y.S t) (bD (y.M t s) (y.M s s)).1 (y.S s)).1,y.V⟩,0)
def bV (n s:Nat) (y:Sys):Nat→Sys × Int
 | 0=>(y,0)
 | k+1=>if (bV n s y k).2≠0 then bV n s y k else eY n s (s+1+k) (bV n s y k).1
def cT (s:Nat) (y:Sys):Nat→RR × Int
 | 0=>(y.S s,0)
 | k+1=>if (cT s y k).2≠0 then cT s y k else fh (cT s y k).1 (y.M s (s+1+k)) (y.V (s+1+k))
def bG (n:Nat):Nat→Nat→Sys→Sys × Int
 | 0,_,y=>(y,0)
 | k+1,s,y=>
  if (bV n s y (n - (s+1))).2≠0 then bV n s y (n - (s+1))
  else if (bG n k (s+1) (bV n s y (n - (s+1))).1).2≠0 then bG n k (s+1) (bV n s y (n - (s+1))).1
  else if (cT s (bG n k (s+1) (bV n s y (n - (s+1))).1).1 (n - (s+1))).2≠0 then ((bG n k (s+1) (bV n s y (n - (s+1))).1).1,(cT s (bG n k (s+1) (bV n s y (n - (s+1))).1).1 (n - (s+1))).2)
  else if (bD (cT s (bG n k (s+1) (bV n s y (n - (s+1))).1).1 (n - (s+1))).1 ((bG n k (s+1) (bV n s y (n - (s+1))).1).1.M s s)).2≠0 then ((bG n k (s+1) (bV n s y (n - (s+1))).1).1,(bD (cT s (bG n k (s+1) (bV n s y (n - (s+1))).1).1 (n - (s+1))).1 ((bG n k (s+1) (bV n s y (n - (s+1))).1).1.M s s)).2)
  else ({ (bG n k (s+1) (bV n s y (n - (s+1))).1).1 with V:=bU (bG n k (s+1) (bV n s y (n - (s+1))).1).1.V s (bD (cT s (bG n k (s+1) (bV n s y (n - (s+1))).1).1 (n - (s+1))).1 ((bG n k (s+1) (bV n s y (n - (s+1))).1).1.M s s)).1 },0)
def di (d:RR) (l:List Out) (s:Nat):Nat→(Nat→RR) × Int
 | 0=>(bU (fun _=>zR) s (rep ((1:Int):Rat)),0)
 | k+1=>if (di d l s k).2≠0 then di d l s k
  else if (fh ((di d l s k).1 (l.getD k dO).1.toNat) d (l.getD k dO).2).2≠0 then ((di d l s k).1,(fh ((di d l s k).1 (l.getD k dO).1.toNat) d (l.getD k dO).2).2)
  else (bU (di d l s k).1 (l.getD k dO).1.toNat (fh ((di d l s k).1 (l.getD k dO).1.toNat) d (l.getD k dO).2).1,0)
def bl (m:MD) (p:List Int) (s:Nat):aU:=m.act s (p.getD s 0).toNat
def dY (m:MD) (p:List Int) (s:Nat):(Nat→RR) × Int:=di m.ag (bl m p s).next s (bl m p s).next.length
def js (m:MD) (p:List Int):Sys:=⟨fun s=>(dY m p s).1,fun s=>(bl m p s).cost,fun _=>zR⟩
def ax (m:MD) (p:List Int):List RR × Int:=
 if bF (fun s=>(dY m p s).2) p.length≠0 then ([],bF (fun s=>(dY m p s).2) p.length)
 else if (bG p.length p.length 0 (js m p)).2≠0 then ([],(bG p.length p.length 0 (js m p)).2)
 else ((List.range p.length).map (bG p.length p.length 0 (js m p)).1.V,0)
def fL (m:MD):Int:=if ew m≠0 then ew m else if qv m.ag=1 then 1 else 0
def kD (m:MD) (p:List Int):Int:=if p.length≠m.states.length then 16 else bF (ia m p) p.length
def ej (m:MD) (p:List Int):List RR × Int:=
 if fL m≠0 then ([],fL m) else if 8 < m.states.length then ([],4) else if kD m p≠0 then ([],kD m p) else ax m p
theorem bI (b:Bool) (a1 a2:Option Addr) (x1 c1 x2 c2:Nat) (w:World):Calls Tryz.prog 95 #[.agg #[.bool b,.slice a1 x1 c1,.slice a2 x2 c2],.int .i64 0] w fun e w'=>e=.returned (.agg #[.bool b,.slice a1 x1 c1,.slice a2 x2 c2])∧Ext w w':=by
 have bb0:=((af.new w #[.bool b,.slice a1 x1 c1,.slice a2 x2 c2] 25).alloc (.cells #[.bool false,.slice none 0 0,.slice none 0 0] 25));have bb1:=(af.new (w.alloc (.cells #[.bool b,.slice a1 x1 c1,.slice a2 x2 c2] 25)) #[.bool false,.slice none 0 0,.slice none 0 0] 25);rw [World.size_alloc] at bb1;have x0:Ext w ((w.alloc (.cells #[.bool b,.slice a1 x1 c1,.slice a2 x2 c2] 25)).alloc (.cells #[.bool false,.slice none 0 0,.slice none 0 0] 25)):=(((Ext.refl w).alloc _).alloc _);have A0:=kI bb0;have A1:=kI bb1;have X:=kI x0;clear x0 bb0 bb1;go_enter Tryz.func95,Tryz.ntmps95
 obtain ⟨aE,fA0,aC⟩:=A0.o.q3;obtain ⟨aQ,aR,lA1⟩:=A1.o.q3;go_wp2_with fail;refine bodyPost_ret (v:=.agg #[.bool b,.slice a1 x1 c1,.slice a2 x2 c2]) (by simp only [results,Tryz.results95];go_simp) rfl ?_;refine ⟨rfl,?_⟩;exact ((Ext.refl _).alloc _).alloc _
theorem bp (v:Value) (b:Bool) (a1 a2:Option Addr) (x1 c1 x2 c2:Nat) (hv:v=.agg #[.bool b,.slice a1 x1 c1,.slice a2 x2 c2]) {c:Int} (hc:c≠0) (w:World):Calls Tryz.prog 95 #[v,.int .i64 c] w fun e w'=>e=.panicked [aY c]∧Ext w w':=by
 subst hv;have q1:(c != 0)=true:=by simpa using hc
 have bb0:=((af.new w #[.bool b,.slice a1 x1 c1,.slice a2 x2 c2] 25).alloc (.cells #[.bool false,.slice none 0 0,.slice none 0 0] 25));have bb1:=(af.new (w.alloc (.cells #[.bool b,.slice a1 x1 c1,.slice a2 x2 c2] 25)) #[.bool false,.slice none 0 0,.slice none 0 0] 25);rw [World.size_alloc] at bb1;have x0:Ext w ((w.alloc (.cells #[.bool b,.slice a1 x1 c1,.slice a2 x2 c2] 25)).alloc (.cells #[.bool false,.slice none 0 0,.slice none 0 0] 25)):=(((Ext.refl w).alloc _).alloc _);have A0:=kI bb0;have A1:=kI bb1;have X:=kI x0;clear x0 bb0 bb1;go_enter Tryz.func95,Tryz.ntmps95
 obtain ⟨aE,fA0,aC⟩:=A0.o.q3;obtain ⟨aQ,aR,lA1⟩:=A1.o.q3;go_wp2_with fail;exact aA rfl ⟨rfl,X.o⟩
theorem cQ (e:Int) (w:World):Calls Tryz.prog 89 #[.nilIface,.int .i64 e] w fun en w'=>en=.returned (.int .i64 e)∧w'=w:=by
 go_enter Tryz.func89,Tryz.ntmps89
 go_wp2
 go_ret;exact ⟨rfl,rfl⟩
theorem gI (c e:Int) (w:World):Calls Tryz.prog 89 #[.iface 37 (.int .i64 c),.int .i64 e] w fun en w'=>en=.returned (.int .i64 c)∧w'=w:=by
 have hta:∀ w,(Instr.typeAssert (.iface 37 (.int .i64 c)) 20 37 true).run Tryz.prog w=.ok (.tuple #[.int .i64 c,.bool true]) w:=fun _=>by first|rfl|kernel_rfl
 go_enter Tryz.func89,Tryz.ntmps89
 go_wp2
 go_ret;exact ⟨rfl,rfl⟩
def Q6 (d:RR) (An:Nat) (r:Int × Int) (j:Nat) (v:Value) (W:World):Prop:=
 match j with
 | 0=>v=.pointer (some ⟨An,0,none⟩)
 | 1=>∃ s1 s2 s3 s4,v=.agg #[.bool d.neg,.slice s1 d.num.length s2,.slice s3 d.den.length s4]∧aX W (.agg #[.bool d.neg,.slice s1 d.num.length s2,.slice s3 d.den.length s4]) d
 | 2=>∃ v',v=v'∧aX W v' (rep ((1:Int):Rat))
 | 3=>v=.tuple #[.int .i64 r.1,.int .i64 r.2]
 | 4=>v=.tuple #[.int .i64 r.1,.int .i64 r.2]
 | 5=>v=.int .i64 r.1
 | 6=>v=.int .i64 r.2
 | _=>True
theorem EP {d:RR} {An:Nat} {r:Int × Int} {j:Nat} {v:Value} {W W':World} (h:Q6 d An r j v W) (x:Ext W W'):Q6 d An r j v W':=by
 match j,h with
 | 0,h=>exact h
 | 1,⟨s1,s2,s3,s4,h1,h2⟩=>exact ⟨s1,s2,s3,s4,h1,h2.ext x⟩
 | 2,⟨v9,h1,h2⟩=>exact ⟨v9,h1,h2.ext x⟩
 | 3,h=>exact h
 | 4,h=>exact h
 | 5,h=>exact h
 | 6,h=>exact h
 | _+7,_=>trivial
theorem BC (d:RR) (h:am d=0):cj d (rep ((1:Int):Rat))=(dX (qv d) 1,0):=by
 unfold cj cK;rw [h,show am (rep ((1:Int):Rat))=0 by decide,iZ];rfl
theorem iI (mv:Value) (m:MD) (w:World) (hm:eK w mv m) (hl:iO m) :
  Calls Tryz.prog 90 #[mv] w fun e w'=>e=.returned (.int .i64 (fL m))∧Ext w w':=by
 have hck:=fun W mv (h:eK W mv m)=>ji mv m W h hl;have HM:=kI hm;have HC:=kI hck;have HL:=kI hl;obtain ⟨m1,n1,m2,n2,m3,n3,rfl,hr,-⟩:=hm;have HD:=kI hr;clear hl hck hr;have bb0:=(af.new w #[.bool m.ag.neg,.slice m1 m.ag.num.length n1,.slice m2 m.ag.den.length n2,.slice m3 m.states.length n3] 28);have x0:Ext w (w.alloc (.cells #[.bool m.ag.neg,.slice m1 m.ag.num.length n1,.slice m2 m.ag.den.length n2,.slice m3 m.states.length n3] 28)):=((Ext.refl w).alloc _);have A0:=kI bb0;have X:=kI x0;clear x0 bb0;replace HM:=kI (HM.o.ext X.o);replace HD:=kI (HD.o.ext X.o);go_enter Tryz.func90,Tryz.ntmps90
 obtain ⟨aE,fA0,aC⟩:=A0.o.q3;go_wp2_with fail;refine (HC.o _ _ HM.o).mono ?_;rintro e w1 ⟨rfl,hx⟩;clear aE fA0 aC;replace HM:=kI (HM.o.ext hx);replace HD:=kI (HD.o.ext hx);replace A0:=kI (A0.o.ext hx);replace X:=kI (X.o.trans hx);clear hx HC;by_cases h1:ew m=0
 rotate_left
 ·have E:fL m=ew m:=by unfold fL;rw [if_pos h1]
  obtain ⟨c,hc⟩:=gN (ew m);rw [← hc] at h1 E ⊢;have q1:(c != 0)=true:=by simpa using h1
  have E9:=kI E;clear h1 hc E;go_wp2_with fail;go_ret;exact ⟨by rw [E9.o] <;> rfl,X.o⟩
 have hdv:=(bu h1).1;have E:fL m=if qv m.ag=1 then 1 else 0:=by unfold fL;rw [if_neg (fun h=>h h1)]
 rw [h1];have E9:=kI E;clear E h1;have HCM:=kI (fun W va vb (h:aX W va m.ag) (k:aX W vb (rep ((1:Int):Rat)))=>fZ va vb m.ag (rep ((1:Int):Rat)) W h k HL.o.1 (cJ _));have HV:=kI hdv;clear hdv;go_wp2_with fail;have Oi:=X;obtain ⟨wB,hwB⟩:=gN (w1);subst hwB;replace X:=kI (Ext.refl wB);refine dw 7 6 (Q6 m.ag w.heap.size (cj m.ag (rep ((1:Int):Rat)))) rfl (by kernel_rfl) (by kernel_rfl) (by kernel_rfl) (fun _ _ _ _ h x=>EP h x) (fun _ _ d _ _ h=>by cases d <;> exact h) ?_ ?_ ?_
 ·refine ⟨?_,?_,?_,?_,?_,?_,?_,trivial⟩
  ·intro a W hW hB hD K hK;have b1:=hB 1 rfl;simp only [sB] at b1;go_simp;exact hK _ _ (Ext.refl _) rfl
  ·intro a W hW hB hD K hK;obtain ⟨v12,e12,h12⟩:=az (hD 0 _ 12 rfl rfl (by kernel_rfl));obtain rfl:=h12;have q9:=(A0.o.ext hW).cell;have l9:=(A0.o.ext hW).lt;go_simp;exact hK _ _ (Ext.refl _) ⟨_,_,_,_,rfl,HD.o.ext hW⟩
  ·intro a W hW hB hD K hK;go_simp;refine (eI 1 W (by decide) (by decide)).mono ?_;rintro e w9 ⟨⟨v,rfl,nn⟩,hx⟩;exact hK _ _ hx ⟨_,rfl,nn.rd⟩
  ·intro a W hW hB hD K hK;obtain ⟨v13,e13,h13⟩:=az (hD 1 _ 13 rfl rfl (by kernel_rfl));obtain ⟨x91,eZ,x93,fb,rfl,qi⟩:=h13;obtain ⟨v14,e14,Gv⟩:=az (hD 2 _ 14 rfl rfl (by kernel_rfl));obtain ⟨y9,rfl,qj⟩:=Gv;go_simp;refine (HCM.o W _ _ qi qj).mono ?_;rintro e w9 ⟨rfl,hx⟩;exact hK _ _ hx rfl
  ·intro a W hW hB hD K hK;obtain ⟨v15,e15,h15⟩:=az (hD 3 _ 15 rfl rfl (by kernel_rfl));obtain rfl:=h15;go_simp;exact hK _ _ (Ext.refl _) rfl
  ·intro a W hW hB hD K hK;obtain ⟨v11,e11,h11⟩:=az (hD 4 _ 11 rfl rfl (by kernel_rfl));obtain rfl:=h11;go_simp;exact hK _ _ (Ext.refl _) rfl
  ·intro a W hW hB hD K hK;obtain ⟨v11,e11,h11⟩:=az (hD 4 _ 11 rfl rfl (by kernel_rfl));obtain rfl:=h11;go_simp;exact hK _ _ (Ext.refl _) rfl
 ·intro a W hW hB hD;have h11:=hD 4 _ 11 rfl rfl (by kernel_rfl);obtain ⟨v11,e11⟩:∃ x,a.tmps.getD 11 undef=x:=⟨_,rfl⟩;rw [e11] at h11;obtain rfl:=h11;exact ⟨.int .i64 (cj m.ag (rep ((1:Int):Rat))).2,fun w9=>iC e11 rfl rfl w9,rfl⟩
 intro w5 hx;simp only [cX,List.take_succ_cons,List.take_zero,List.drop_succ_cons,List.drop_zero];rintro u0 - u1 - u2 - u3 - u4 - u5 h5 u6 h6;obtain rfl:=h5;obtain rfl:=h6;simp only [Act.put,List.setIfInBounds_toArray,List.set_cons_zero,List.set_cons_succ];have X5:=kI (Oi.o.trans hx);rw [BC _ HV.o];dsimp only;by_cases h2:qv m.ag=1
 ·have E:=kI (E9.o.trans (if_pos h2));rw [h2,show dX 1 1=0 by decide];clear E9;go_wp2_with fail;go_ret;exact ⟨by rw [E.o] <;> rfl,X5.o⟩
 have E:=kI (E9.o.trans (if_neg h2));have h3:dX (qv m.ag) 1≠0:=by
  unfold dX;split <;> first|decide|(rw [if_neg h2];decide)
 obtain ⟨c,hc⟩:=gN (dX (qv m.ag) 1);rw [← hc] at h3 ⊢;have q3:(c == 0)=false:=by simpa using h3
 clear h2 hc;go_wp2_with fail;go_ret;exact ⟨by rw [E.o] <;> rfl,X5.o⟩
theorem mR (mv pv:Value) (m:MD) (p:List Int) (w:World) (hm:eK w mv m) (hp:aV .i64 w pv p) :
  Calls Tryz.prog 91 #[mv,pv] w fun e w'=>e=.returned (.int .i64 (kD m p))∧Ext w w':=by
 have HM:=kI hm;have HP:=kI hp;obtain ⟨m1,n1,m2,n2,m3,n3,rfl,-,hs⟩:=hm;have HS:=kI hs;obtain ⟨pa,pc,rfl,hpc,hpm,-⟩:=hp.get;have hpl:p.length≤9223372036854775807:=by omega
 clear hs hp hpc hpm;have bb0:=(af.new w #[.bool m.ag.neg,.slice m1 m.ag.num.length n1,.slice m2 m.ag.den.length n2,.slice m3 m.states.length n3] 28);have x0:Ext w (w.alloc (.cells #[.bool m.ag.neg,.slice m1 m.ag.num.length n1,.slice m2 m.ag.den.length n2,.slice m3 m.states.length n3] 28)):=((Ext.refl w).alloc _);have A0:=kI bb0;have X:=kI x0;clear x0 bb0;replace HS:=kI (HS.o.ext X.o);replace HP:=kI (HP.o.ext X.o);go_enter Tryz.func91,Tryz.ntmps91
 by_cases h1:p.length=m.states.length
 rotate_left
 ·have E:kD m p=16:=by unfold kD;rw [if_pos h1]
  have E9:=kI E;have q1:((p.length:Int) != (m.states.length:Int))=true:=bne_iff_ne.2 (by omega);clear h1 E;obtain ⟨aE,fA0,aC⟩:=A0.o.q3;go_wp2_with fail;go_ret;exact ⟨by rw [E9.o] <;> rfl,X.o⟩
 have H1:=kI h1;have E:kD m p=bF (ia m p) p.length:=by unfold kD;rw [if_neg (fun h=>h h1)]
 have E9:=kI E;have q1:((p.length:Int) != (m.states.length:Int))=false:=by simp [h1]
 clear h1 E;obtain ⟨aE,fA0,aC⟩:=A0.o.q3;go_wp2_with fail;clear aE fA0 aC;clear q1;obtain ⟨w1,hw1⟩:=gN ((w.alloc (.cells #[.bool m.ag.neg,.slice m1 m.ag.num.length n1,.slice m2 m.ag.den.length n2,.slice m3 m.states.length n3] 28)));rw [← hw1] at HS HP A0 X ⊢;clear hw1;go_loopw [15] (fun i wr=>∃ u:Nat,u≤p.length∧i=.int .i64 u∧(∀ t,t < u→ia m p t=0)∧Ext w1 wr) (fun i _=>p.length - (intOf i).toNat)
 case atStart=>exact ⟨0,Nat.zero_le _,rfl,fun t h=>by omega,Ext.refl _⟩
 case round=>
  obtain ⟨wk,hwk⟩:=gN (wr);subst hwk;obtain ⟨u,hu,rfl,hpo,hxk⟩:=hrel;have PO:=kI hpo;have XK:=kI hxk;have AK:=kI (A0.o.ext hxk);clear hpo hxk;by_cases Q7:u < p.length
  ·obtain ⟨xb,xo,rfl,t0,t1⟩:=xS (HP.o.ext XK.o) Q7;obtain ⟨pk,hpk⟩:=gN (p.getD u 0);rw [← hpk] at t1;have Mp:=kI hpk;clear hpk;have hun:u < m.states.length:=by rw [← H1.o];exact Q7
   obtain ⟨sb,so,ai,ci,rfl,s0,s1,-⟩:=(HS.o.ext XK.o).at hun;obtain ⟨al,hal⟩:=gN ((m.states.getD u []).length);have ER:=kI hal;rw [← hal] at s1;clear hal;have FAIL:Hid ((pk < 0∨(al:Int)≤pk)→bF (ia m p) p.length=8):=kI (fun h=>by
    have e:ia m p u=8:=by unfold ia;rw [← Mp.o,← ER.o,if_pos h]
    exact (dv (f:=ia m p) PO.o (by rw [e];decide) Q7).trans e)
   have q3:(0:Int)≤(u:Int):=by omega
   have q4:(u:Int) < (p.length:Int):=by omega
   have q5:(u:Int) < (m.states.length:Int):=by omega
   by_cases d1:pk < 0
   ·have E:=kI (E9.o.trans (FAIL.o (.inl d1)));obtain ⟨Uu,Uv,Uw⟩:=AK.o.q3;go_wp2_with fail;go_ret;exact ⟨by rw [E.o] <;> rfl,X.o.trans XK.o⟩
   by_cases d2:(al:Int)≤pk
   ·have E:=kI (E9.o.trans (FAIL.o (.inr d2)));obtain ⟨Uu,Uv,Uw⟩:=AK.o.q3;go_wp2_with fail;go_ret;exact ⟨by rw [E.o] <;> rfl,X.o.trans XK.o⟩
   obtain ⟨Uu,Uv,Uw⟩:=AK.o.q3;go_wp2_with fail;go_roundw
   case rel=>
    refine ⟨u+1,by omega,by go_num,fun t ht=>?_,XK.o⟩;by_cases e:t=u
    ·subst e;unfold ia;rw [← Mp.o,← ER.o,if_neg (by omega)]
    ·exact PO.o t (by omega)
   case measure=>first|(simp [intOf];done)|(simp [intOf];omega)
  ·obtain rfl:u=p.length:=by omega
   have q6:¬ (p.length:Int) < (p.length:Int):=by omega
   have E:=kI (E9.o.trans (bE PO.o));go_wp2_with fail;go_ret;exact ⟨by rw [E.o] <;> rfl,X.o.trans XK.o⟩
end Go.Proofs.YtnnjbaijcaiohaaGreat
