/- Walks and lemmas. -/
import Derived.Test.YtnnjbaijcaiohaaGreatSvA15
import Derived.Test.YtnnjbaijcaiohaaGreatSvA13
import Derived.Test.YtnnjbaijcaiohaaGreatSvA9
import Derived.Test.YtnnjbaijcaiohaaGreatSvA0
import Derived.Test.YtnnjbaijcaiohaaGreatSvA7
import Derived.Test.YtnnjbaijcaiohaaGreatSvA10
import Derived.WalkMore
set_option linter.unusedVariables false
set_option linter.unusedSimpArgs false
set_option maxRecDepth 100000
set_option maxHeartbeats 16000000
namespace Go.Proofs.YtnnjbaijcaiohaaGreat
open Go.RowKit
theorem ts {m:MD} {v:List RR} {k:Nat} (h:k < m.states.length):(nL m v).getD k zR=(dW m v (m.states.getD k [])).getD (jB (dW m v (m.states.getD k []))) zR:=by
 unfold nL;rw [List.getD_eq_getElem?_getD,List.getElem?_map,List.getD_eq_getElem?_getD (l:=m.states),List.getElem?_eq_getElem h];rfl
theorem Gd (m:MD) (v:List RR):dm (nL m v):=fun i hi=>by
 rw [fe] at hi;rw [ts hi];by_cases h0:0 < (dW m v (m.states.getD i [])).length
 ·exact vm _ _ _ _ (jG _ _ _ (Nat.le_refl _) h0)
 ·rw [List.getD_eq_getElem?_getD,List.getElem?_eq_none Z];exact aT
theorem pS (m:MD) (v:List RR):dm (am m v).1:=by
 unfold am;split
 ·intro i hi;cases hi
 ·split
  ·intro i hi;cases hi
  ·exact Gd m v
theorem fZ {m:MD} {v:List RR} (h:(am m v).2.2=0):gJ m v=0∧FM m v=0∧(am m v).1=nL m v∧(am m v).2.1=nK m v:=by
 unfold am at h ⊢;split at h
 ·rename_i h1;exact absurd h h1
 ·rename_i h1;rw [if_neg h1];split at h
  ·rename_i h2;exact absurd h h2
  ·rename_i h2;rw [if_neg h2];exact ⟨by simpa using h1,by simpa using h2,rfl,rfl⟩
theorem tt {m:MD} {v:List RR} (h1:gJ m v=0) (h2:FM m v=0):∀ i,i < (nL m v).length→aA ((nL m v).getD i zR)=0:=fun i hi=>by
 rw [fe] at hi;rw [ts hi];obtain ⟨_,_,_,h3⟩:=bF (eG h1).1;have h4:=(gB (h3 i hi)).1;have h5:qN m v (m.states.getD i [])=0:=bK h2 i hi;have hb:jB (dW m v (m.states.getD i [])) < (m.states.getD i []).length:=by
  exact Nat.lt_of_lt_of_eq (jG (dW m v (m.states.getD i [])) _ _ (Nat.le_refl _) (show 0 < (dW m v (m.states.getD i [])).length by rw [dH];omega)) (dH _ _ _)
 rw [ki hb];exact rV (bK h5 _ hb)
theorem pT {m:MD} {v:List RR} (h:dm v):∀ j,dm (aP m v j)
 | 0=>h
 | j+1=>pS m _
theorem mw {r:RR} (h:aA r=0):r.num.length≤1000000∧r.den.length≤1000000:=by
 unfold aA at h;split at h
 ·cases h
 ·omega
theorem C0 {m:MD} {v:List RR} (h1:gJ m v=0) (h2:FM m v=0):xP (nL m v):=fun i hi=>mw (tt h1 h2 i hi)
theorem xS (m:MD) (m1:Option Addr) (n1:Nat) (m2:Option Addr) (n2:Nat) (m3:Option Addr) (n3:Nat) (a:Option Addr) (n c:Nat) (k:Int) (w:World) :
  Calls Tryz.prog 74 #[.agg (vk m m1 n1 m2 n2 m3 n3),.slice a n c,.int .i64 k] w fun e w'=>e=.returned (.func (.func 134) #[] (It w.heap.size))∧w'=((w.alloc (.cells (vk m m1 n1 m2 n2 m3 n3) 28)).alloc (.cells #[.slice a n c] 29)).alloc (.cells #[.int .i64 k] 3):=by
 go_enter Tryz.func74,Tryz.ntmps74
 go_wp2
 go_ret;exact ⟨rfl,rfl⟩
theorem JT {m:MD} {p:List Int} {v:List RR} (h:(m5 m p v).2=0):gJ m v=0∧p.length=m.states.length∧(∀ j,j < p.length→FN m p v j=0)∧(m5 m p v).1=Cu m p v:=by
 unfold m5 at h ⊢;by_cases h1:gJ m v=0
 ·rw [if_neg Ib] at h ⊢;by_cases h2:p.length=m.states.length
  ·rw [if_neg yB] at h ⊢;by_cases h3:bG (FN m p v) p.length=0
   ·rw [if_neg (by simpa using h3)];exact ⟨h1,h2,bK h3,rfl⟩
   ·rw [if_pos h3] at h;exact absurd h h3
  ·rw [if_pos h2] at h;cases h
 ·rw [if_pos h1] at h;exact absurd h h1
theorem rW {m:MD} {v:List RR} {k:Int} (h:gJ m v=0) (h0:0≤k) (rO:k≤24) (hE:kv m v k.toNat=0) :
  bE m v k=((List.range (k.toNat+1)).map (aP m v),(List.range k.toNat).map (fun j=>(am m (aP m v j)).2.1),0):=by
 unfold bE;rw [if_neg kN,if_neg Z,if_neg (by simpa using hE)]
theorem rX {m:MD} {v:List RR} {k:Int} (h:(bE m v k).2.2=0):gJ m v=0∧0≤k∧k≤24∧kv m v k.toNat=0:=by
 unfold bE at h;by_cases h1:gJ m v=0
 ·rw [if_neg Ib] at h;by_cases h2:k < 0∨24 < k
  ·rw [if_pos h2] at h;cases h
  ·rw [if_neg h2] at h;by_cases h3:kv m v k.toNat=0
   ·exact ⟨h1,by omega,by omega,h3⟩
   ·rw [if_pos h3] at h;exact absurd h h3
 ·rw [if_pos h1] at h;exact absurd h h1
theorem Ge {m:MD} {v:List RR} {k:Nat} (h:kv m v k=0) {j:Nat} (hj:j < k):(am m (aP m v j)).2.2=0:=bK h j hj
theorem greedy {m:MD} {u:List RR} (h:(am m u).2.2=0):m5 m (am m u).2.1 u=((am m u).1,0):=by
 obtain ⟨h1,h2,h3,h4⟩:=fZ h;rw [h3,h4];have hlen:(nK m u).length=m.states.length:=ms m u;obtain ⟨_,_,_,hst⟩:=bF (eG h1).1;have hat:∀ s,s < m.states.length→(nK m u).getD s 0=(jB (dW m u (m.states.getD s [])):Int):=fun s hs=>by
  unfold nK;rw [List.getD_eq_getElem?_getD,List.getElem?_map,List.getD_eq_getElem?_getD (l:=m.states),List.getElem?_eq_getElem hs];rfl
 have hb:∀ s,s < m.states.length→jB (dW m u (m.states.getD s [])) < (m.states.getD s []).length:=fun s hs=>by
  have h5:=(gB (hst s hs)).1;exact Nat.lt_of_lt_of_eq (jG (dW m u (m.states.getD s [])) _ _ (Nat.le_refl _) (show 0 < (dW m u (m.states.getD s [])).length by rw [dH];omega)) (dH _ _ _)
 have hun:∀ s,s < (nK m u).length→FN m (nK m u) u s=0:=fun s hs=>by
  rw [hlen] at hs;have h6:=hb s hs;unfold FN;have h7:jC m (nK m u) s=0:=by
   unfold jC;rw [hat s hs,if_neg Z]
  rw [h7,if_neg (fun h=>h rfl),hat s hs,Int.toNat_natCast];exact bK (f:=fun a=>(aU m u ((m.states.getD s []).getD a dA)).2) (bK h2 s hs) _ h6
 rw [F8 h1 hlen hun];refine congrArg (fun x=>(x,(0:Int))) (List.ext_getElem (by rw [zf,hlen,fe]) (fun i h5 h6=>?_));have hi:i < m.states.length:=by rw [zf,hlen] at h5;exact h5
 have e1:(nL m u)[i]=(nL m u).getD i zR:=by rw [List.getD_eq_getElem?_getD,List.getElem?_eq_getElem h6];rfl
 rw [e1,ts hi,ki (hb i hi)];have e2:(Cu m (nK m u) u)[i]=(Cu m (nK m u) u).getD i zR:=by rw [List.getD_eq_getElem?_getD,List.getElem?_eq_getElem h5];rfl
 rw [e2];unfold Cu;rw [List.getD_eq_getElem?_getD,List.getElem?_map,List.getElem?_range Z];show (aU m u (m.act i ((nK m u).getD i 0).toNat)).1=_;rw [hat i hi,Int.toNat_natCast];rfl
theorem mx {q:Rat} (h:(dK q).2=0):qv (dK q).1=q∧aA (dK q).1=0:=by
 unfold dK at h ⊢;by_cases h1:small q
 ·rw [if_pos h1];exact ⟨jk q,yN h1⟩
 ·rw [if_neg h1] at h;cases h
theorem xT {a b:RR} {x:RR × Int} (h:(i9 a b x).2=0):i9 a b x=x∧x.2=0:=by
 unfold i9 at h ⊢;by_cases h1:cP a b=0
 ·rw [if_pos h1] at h ⊢;exact ⟨rfl,h⟩
 ·rw [if_neg h1] at h;exact absurd h h1
theorem fo {a b:RR} (h:(cz a b).2=0):qv (cz a b).1=qv a+qv b∧aA (cz a b).1=0:=by
 unfold cz at h ⊢;obtain ⟨e1,e2⟩:=xT h;rw [e1];exact mx e2
theorem iz {a b:RR} (h:(mulR a b).2=0):qv (mulR a b).1=qv a*qv b∧aA (mulR a b).1=0:=by
 unfold mulR at h ⊢;obtain ⟨e1,e2⟩:=xT h;rw [e1];exact mx e2
theorem my:qv zR=0:=by rw [← Cf,jk]
theorem vt (s x:RR):cZ zR [s,x]=if (cz zR s).2=0 then (if (cz (cz zR s).1 x).2=0 then ((cz (cz zR s).1 x).1,0) else (zR,(cz (cz zR s).1 x).2)) else (zR,(cz zR s).2):=rfl
theorem rY {s x:RR} (h:(cZ zR [s,x]).2=0):qv (cZ zR [s,x]).1=qv s+qv x∧aA (cZ zR [s,x]).1=0:=by
 rw [vt] at h ⊢;by_cases h1:(cz zR s).2=0
 ·rw [if_pos h1] at h ⊢;by_cases h2:(cz (cz zR s).1 x).2=0
  ·rw [if_pos h2];have e1:=fo h1;have e2:=fo h2;refine ⟨?_,e2.2⟩;rw [e2.1,e1.1,my,Rat.zero_add]
  ·rw [if_neg h2] at h;exact absurd h h2
 ·rw [if_neg h1] at h;exact absurd h h1
def vu:List RR→List RR→Rat
 | a :: la,b :: bs=>qv a*qv b+vu la bs
 | _,_=>0
theorem vw:∀ (a b:List RR) (s:RR),aA s=0→(ii s a b).2=0→qv (ii s a b).1=qv s+vu a b∧aA (ii s a b).1=0
 | [],b,s,hs,_=>by
  rw [mo];exact ⟨by unfold vu;rw [Rat.add_zero],hs⟩
 | a :: la,[],s,hs,_=>by
  unfold ii vu;exact ⟨by rw [Rat.add_zero],hs⟩
 | a :: la,b :: bs,s,hs,h=>by
  unfold ii at h ⊢;by_cases h1:(mulR a b).2=0
  ·rw [if_pos h1] at h ⊢;by_cases h2:(cZ zR [s,(mulR a b).1]).2=0
   ·rw [if_pos h2] at h ⊢;have e1:=iz h1;have e2:=rY h2;obtain ⟨e3,e4⟩:=vw la bs _ e2.2 h;refine ⟨?_,e4⟩;rw [e3,e2.1,e1.1,Rat.add_assoc];rfl
   ·rw [if_neg h2] at h;exact absurd h h2
  ·rw [if_neg h1] at h;exact absurd h h1
theorem tu:aA zR=0:=rfl
theorem vz {a b:List RR} (h:(gA a b).2=0):qv (gA a b).1=vu a b∧aA (gA a b).1=0:=by
 unfold gA at h ⊢;by_cases h1:a.length=b.length
 ·rw [if_pos h1] at h ⊢;have:=vw a b zR tu h;rw [my,Rat.zero_add] at this;exact this
 ·rw [if_neg h1] at h;cases h
theorem rZ {m:MD} {v:List RR} {x:bg} (h:(aU m v x).2=0):qv (aU m v x).1=qv x.cost+qv m.ah*vu (fj x.next) (jA v x.next):=by
 unfold aU at h ⊢;by_cases h1:(gA (fj x.next) (jA v x.next)).2=0
 ·rw [if_neg Ib] at h ⊢;by_cases h2:(mulR m.ah (gA (fj x.next) (jA v x.next)).1).2=0
  ·rw [if_neg yB] at h ⊢;rw [(fo h).1,(iz h2).1,(vz h1).1]
  ·rw [if_pos h2] at h;exact absurd h h2
 ·rw [if_pos h1] at h;exact absurd h h1
theorem gd {r:RR} (h:r.neg=false):0≤qv r:=by
 by_cases h0:eJ r.den=0
 ·unfold qv;rw [h0,Rat.mkRat_zero];exact Rat.le_refl
 ·have hs:=yT (x:=Ij r) h0;show 0≤vq (Ij r);by_cases hn:(Ij r).2.1=0
  ·rw [hs.1 hn];exact Rat.le_refl
  ·exact Rat.le_of_lt ((hs.2 hn).2 h)
theorem iR {a b c:Rat} (h:0≤a) (k:b≤c):a*b≤a*c:=Rat.mul_le_mul_of_nonneg_left k h
theorem ng {l:List RR}:∀ {k i:Nat},i < k→qv (l.getD (it l k) zR)≤qv (l.getD i zR)
 | 0,_,h=>by omega
 | k+1,i,h=>by
  unfold it;split
  ·rename_i h1;by_cases e:i=k
   ·subst e;exact Rat.le_refl
   ·exact Rat.le_trans (Rat.le_of_lt h1) (ng Z)
  ·rename_i h1;by_cases e:i=k
   ·subst e;exact Rat.not_lt.1 h1
   ·exact ng Z
theorem tx {n:Nat} {l:List Out} (h:∀ i,i < l.length→ej n l i=0):∀ o ∈ l,0≤o.1∧o.1 < n∧aA o.2=0∧o.2.neg=false:=fun o ho=>by
 obtain ⟨i,hi,e⟩:=List.mem_iff_getElem.1 ho;have:=rR (h i hi);rw [List.getD_eq_getElem?_getD,List.getElem?_eq_getElem hi,e] at this;exact this
theorem tz {m:MD} (h:fs m=0) {s a:Nat} (hs:s < m.states.length) (ha:a < (m.states.getD s []).length):eW m.states.length (m.act s a)=0:=(gB ((bF h).2.2.2 s hs)).2.2 a ha
theorem gS {m:MD} (h:fs m=0):0≤qv m.ah∧qv m.ah≤1:=by
 unfold fs at h;by_cases h1:aA m.ah=0
 ·rw [if_neg Ib] at h;by_cases h2:m.ah.neg=true∨1 < qv m.ah
  ·rw [if_pos h2] at h;cases h
  ·exact ⟨gd (by cases e:m.ah.neg with|false=>rfl|true=>exact absurd (.inl e) h2),Rat.not_lt.1 (fun e=>h2 (.inr e))⟩
 ·rw [if_pos h1] at h;exact absurd h h1
theorem Pg {m:MD} {u:List RR} (h:(am m u).2.2=0) {s a:Nat} (hs:s < m.states.length) (ha:a < (m.states.getD s []).length):(aU m u (m.act s a)).2=0∧qv ((am m u).1.getD s zR)≤qv (aU m u (m.act s a)).1:=by
 obtain ⟨h1,h2,h3,h4⟩:=fZ h;rw [h3,ts hs];refine ⟨bK (f:=fun a=>(aU m u ((m.states.getD s []).getD a dA)).2) (bK h2 s hs) _ ha,?_⟩;have:=ng (l:=dW m u (m.states.getD s [])) (k:=(dW m u (m.states.getD s [])).length) (i:=a) (by rw [dH];exact ha);rw [ki ha] at this;exact this
theorem JU {m:MD} {p:List Int} {u:List RR} {s:Nat} (h:FN m p u s=0):0≤p.getD s 0∧p.getD s 0 < ((m.states.getD s []).length:Int)∧(aU m u (m.act s (p.getD s 0).toNat)).2=0:=by
 unfold FN at h;by_cases h1:jC m p s=0
 ·rw [h1,if_neg (fun h=>h rfl)] at h;unfold jC at h1;by_cases h2:p.getD s 0 < 0∨((m.states.getD s []).length:Int)≤p.getD s 0
  ·rw [if_pos h2] at h1;cases h1
  ·exact ⟨by omega,by omega,h⟩
 ·rw [if_pos h1] at h;exact absurd h h1
theorem JW {m:MD} {p:List Int} {u:List RR} {s:Nat} (h:s < p.length):(Cu m p u).getD s zR=(aU m u (m.act s (p.getD s 0).toNat)).1:=by
 unfold Cu;rw [List.getD_eq_getElem?_getD,List.getElem?_map,List.getElem?_range h];rfl
theorem mz (q:Rat):(dK q).2=0∨(dK q).2=4:=by
 unfold dK;split
 ·exact .inl rfl
 ·exact .inr rfl
theorem pU {a b:RR} (h1:aA a=0) (h2:aA b=0):(mulR a b).2=0∨(mulR a b).2=4:=by
 unfold mulR i9;rw [if_pos (dz h1 h2)];exact mz _
theorem jJ {a b:RR} (h1:aA a=0) (h2:aA b=0):(cz a b).2=0∨(cz a b).2=4:=by
 unfold cz i9;rw [if_pos (dz h1 h2)];exact mz _
theorem Aw {s x:RR} (h1:aA s=0) (h2:aA x=0):(cZ zR [s,x]).2=0∨(cZ zR [s,x]).2=4:=by
 rw [vt];rcases jJ tu h1 with e|e
 ·rw [if_pos e];rcases jJ (fo e).2 h2 with e2|e2
  ·rw [if_pos e2];exact .inl rfl
  ·rw [if_neg (by rw [e2];decide)];exact .inr e2
 ·rw [if_neg Mp];exact .inr e
theorem vA:∀ (a b:List RR) (s:RR),(∀ x ∈ a,aA x=0)→(∀ x ∈ b,aA x=0)→aA s=0→(ii s a b).2=0∨(ii s a b).2=4
 | [],b,s,_,_,_=>by rw [mo];exact .inl rfl
 | a :: la,[],s,_,_,_=>by unfold ii;exact .inl rfl
 | a :: la,b :: bs,s,h1,h2,hs=>by
  unfold ii;rcases pU (h1 a cp) (h2 b cp) with e|e
  ·rw [if_pos e];rcases Aw hs (iz e).2 with e2|e2
   ·rw [if_pos e2];exact vA la bs _ (fun x hx=>h1 x Nj) (fun x hx=>h2 x Nj) (rY e2).2
   ·rw [if_neg (by rw [e2];decide)];exact .inr e2
  ·rw [if_neg Mp];exact .inr e
theorem Ay {m:MD} {v:List RR} {x:bg} {n:Nat} (hm:aA m.ah=0) (hx:eW n x=0) (hn:n≤v.length) (hv:∀ i,i < v.length→aA (v.getD i zR)=0):(aU m v x).2=0∨(aU m v x).2=4:=by
 obtain ⟨x1,x2,x3,x4,x5⟩:=fW hx;have hv2:=tx x4;unfold aU;have hd:(gA (fj x.next) (jA v x.next)).2=0∨(gA (fj x.next) (jA v x.next)).2=4:=by
  unfold gA;rw [if_pos (by rw [iN,kg])];refine vA _ _ _ (fun y hy=>?_) (fun y hy=>?_) tu
  ·obtain ⟨o,ho,rfl⟩:=List.mem_map.1 hy;exact (hv2 o ho).2.2.1
  ·obtain ⟨o,ho,rfl⟩:=List.mem_map.1 hy;exact hv _ (by have:=hv2 o ho;omega)
 rcases hd with e|e
 ·rw [if_neg (by simpa using e)];rcases pU hm (vz e).2 with e2|e2
  ·rw [if_neg (by simpa using e2)];exact jJ x1 (iz e2).2
  ·rw [if_pos (by rw [e2];decide)];exact .inr e2
 ·rw [if_pos Mp];exact .inr e
theorem C3 {m:MD} {v:List RR} {k:Nat} (h:kv m v k=0) (hk:0 < k):∀ i,i < (aP m v k).length→aA ((aP m v k).getD i zR)=0:=by
 obtain ⟨j,rfl⟩:∃ j,k=j+1:=⟨k - 1,by omega⟩;have h1:=Ge h (Nat.lt_succ_self j);obtain ⟨k1,k2,k3,k4⟩:=fZ h1;show ∀ i,i < (am m (aP m v j)).1.length→aA ((am m (aP m v j)).1.getD i zR)=0;rw [k3];exact tt k1 k2
theorem kT (v1 v2:Value) (l1 l2:List Int) (w:World) (h1:bj .i64 w v1 l1) (h2:bj .i64 w v2 l2) :
  Calls Tryz.prog 36 #[v1,v2] w fun e w'=>e=.returned (.bool (decide (l1=l2)))∧Ext w w':=by
 obtain ⟨a1,c1,rfl,hc1,hm1,hr1⟩:=h1.get;obtain ⟨a2,c2,rfl,hc2,hm2,hr2⟩:=h2.get;clear h1 h2;by_cases hlen:l1.length=l2.length
 ·have H1:=kI hr1;clear hr1;have H2:=kI hr2;clear hr2;rw [← hlen];rw [← hlen] at H2 hc2;have HL:=kI hlen;clear hlen;go_enter Tryz.func36,Tryz.ntmps36
  go_wp2
  go_loopw [5] (fun i wr=>∃ k:Nat,k≤l1.length∧i=.int .i64 k∧l1.take k=l2.take k∧∃ n,wr=w.drewN n)
   (fun i _=>l1.length - (intOf i).toNat)
  case atStart=>exact ⟨0,Nat.zero_le _,rfl,rfl,0,rfl⟩
  case round=>
   obtain ⟨k,hk,rfl,htake,n,rfl⟩:=hrel;have HT:=kI htake;clear htake;by_cases hlt:k < l1.length
   ·obtain ⟨b1,o1,rfl,hb1,hx1⟩:=H1.o k hlt;obtain ⟨b2,o2,rfl,hb2,hx2⟩:=H2.o k hlt;go_wp2_with fail;go_quiet (fail)
    go_wp2
    ·have hne:(l1[k] != l2[k]?.getD 0)=true:=by assumption
     go_ret;refine ⟨cT ?_,((Ext.refl w).drewN _).drewN _⟩;rw [eq_comm,decide_eq_false_iff_not];rintro rfl;simp [hlt] at hne
    ·have he:(l1[k] != l2[k]?.getD 0)=false:=by assumption
     have hlt2:k < l2.length:=HL.o ▸ hlt;go_roundw
     case rel=>exact ⟨k+1,by omega,by go_num,iC HT.o hlt hlt2 SF,_,rfl⟩
     case measure=>simp [intOf];omega
   ·go_wp2
    go_ret;refine ⟨cT ?_,(Ext.refl w).drewN _⟩;have:=HT.o;rw [List.take_of_length_le Z,List.take_of_length_le Q5] at this;simp [this]
 ·have hb:(l1.length != l2.length)=true:=by simpa using hlen
  go_enter Tryz.func36,Tryz.ntmps36
  go_wp2
  go_ret;refine ⟨cT ?_,Ext.refl w⟩;rw [eq_comm,decide_eq_false_iff_not];rintro rfl;exact hlen rfl
theorem qS {α β:Type} (f:α→β) (l:List α) (k:Nat) (h:k < l.length):(l.take (k+1)).map f=(l.take k).map f ++ [f l[k]]:=by
 rw [List.take_succ_eq_append_getElem h,List.map_append];rfl
abbrev Ph (w:World) (B:Nat) (v:Value) (l:List Int):Prop:=w.ownsRow B 3 1 v l.length (l.map (Value.int .i64))
theorem tC (v1:Value) (l1:List Int) (w:World) (h1:bj .i64 w v1 l1) (hs:l1.length≤1000000000) :
  Calls Tryz.prog 31 #[v1] w fun e w'=>∃ v,e=.returned v∧Ph w' w.heap.size v l1∧Ext w w':=by
 obtain ⟨a1,c1,rfl,hc1,hm1,hr1⟩:=h1.get;clear h1;have H1:=kI hr1;clear hr1;go_enter Tryz.func31,Tryz.ntmps31
 go_wp2
 go_loopw [3,4] (fun v i wr=>∃ k:Nat,k≤l1.length∧i=.int .i64 k∧Ph wr w.heap.size v (l1.take k)∧Ext w wr)
  (fun _ i _=>l1.length - (intOf i).toNat)
 case atStart=>exact ⟨0,Nat.zero_le _,rfl,World.ownsRow_nil _ _ _ _,Ext.refl w⟩
 case round=>
  obtain ⟨k,hk,rfl,hown,hext⟩:=hrel;by_cases hlt:k < l1.length
  ·obtain ⟨b1,o1,rfl,hb1,hx1⟩:=H1.o k hlt;have hx2:=(hext.cell (p:=⟨b1,o1+k,none⟩) hb1).trans hx1;clear hx1;have hz:=hext.size;have hl:=List.length_take_of_le (Nat.le_of_lt hlt);rw [Ph,hl] at hown;have HO:=kI hown;clear hown;have HE:=kI hext;clear hext;have HL:=kI hl;clear hl;go_wp2_with (at_builtin;(refine dv wr rfl _ _ 53 rfl w.heap.size 3 (.int .i64 0) 1 8 Tryz.underlying53 Tryz.mu rfl ap _ _ _ HO.o rfl [_] rfl mQ rfl Z Z hz ?_))
   intro g cap w1 hown1 hb1;have Nu:=kI hown1;clear hown1;have HB1:=kI hb1;clear hb1;go_wp2
   go_roundw
   case rel=>
    refine ⟨k+1,by omega,by go_num,?_,Below.trans HE.o HB1.o⟩;have:=Nu.o;rw [Ph,qS _ _ _ hlt,List.length_take_of_le Z];simpa [hlt] using this
   case measure=>simp [intOf];omega
  ·go_wp2
   go_ret;rw [List.take_of_length_le Z] at hown;exact ⟨_,rfl,hown,hext⟩
theorem xU {B C size n:Nat} {e t:TypeId} {w w':World} {v:Value} {xs:List Value} (h:w.ownsRow B e size v n xs) (k:Keeps C t w w') (ht:e≠t):w'.ownsRow B e size v n xs:=by
 refine ⟨h.1,?_⟩;rcases h.2 with hn|⟨g,cap,cur,rfl,hb,hg,rest⟩
 ·exact .inl hn
 ·exact .inr ⟨g,cap,cur,rfl,hb,ag.keeps (show ag w g cur e from hg) k ht,rest⟩
def lD (B:Nat) (w:World) (h:List Value) (l:List Int):Prop:=∃ a c,h=[.slice a l.length c]∧Ph w B (.slice a l.length c) l
theorem lD.keeps {B C:Nat} {t:TypeId} (ht:3≠t) (w w':World) (h:List Value) (l:List Int) (e:lD B w h l) (k:Keeps C t w w'):lD B w' h l:=by
 obtain ⟨a,c,rfl,h1⟩:=e;exact ⟨a,c,rfl,xU h1 k ht⟩
theorem lD.ext {B:Nat} {w w':World} {h:List Value} {l:List Int} (e:lD B w h l) (x:Ext w w'):lD B w' h l:=by
 obtain ⟨a,c,rfl,h1⟩:=e;exact ⟨a,c,rfl,yC h1 x⟩
abbrev dc (B:Nat) (w:World) (v:Value) (g:List (List Int)):Prop:=aD 53 1 (lD B) B w v g
theorem dc.ext' {B:Nat} {w w':World} {v:Value} {g:List (List Int)} (h:dc B w v g) (x:Ext w w'):dc B w' v g:=aD.ext h x (fun _ _ e=>e.ext x)
theorem Tryz.pV:(Tryz.prog.info? 53).map (fun i=>(i.zero,i.size,i.bytes))=some (some (.slice none 0 0),1,24):=ax
def tD (A B:World):Prop:=∀ (i:Nat) (c:Array Value) (t:TypeId),(t=25∨t=157)→ag A i c t→ag B i c t
theorem tD.ext {A B:World} (h:Ext A B):tD A B:=fun _ _ _ _ b=>b.ext h
theorem tD.trans {A B C:World} (h:tD A B) (k:tD B C):tD A C:=fun i c t ht b=>k i c t ht (h i c t ht b)
theorem tD.kq {m:Nat} {A B:World} (h:Kq m A B):tD A B:=fun i c t _ b=>h.blk i c t b
theorem tD.keeps {B:Nat} {t:TypeId} {A C:World} (k:Keeps B t A C) (h1:25≠t) (h2:157≠t):tD A C:=fun i c u hu b=>b.keeps k (by rcases hu with rfl|rfl;exact h1;exact h2)
theorem cD.ty {B:Nat} {w w':World} {v:Value} {l:List Int} (h:cD B w v l) (k:tD w w'):cD B w' v l:=by
 obtain ⟨⟨a,cap,rfl,h1,h2,h3⟩,h4⟩:=h;refine ⟨⟨a,cap,rfl,h1,h2,fun i hi=>?_⟩,h4.imp id fun ⟨g,c,cur,e,hb,hs,hB⟩=>⟨g,c,cur,e,k g cur _ (.inr rfl) hb,hs,hB⟩⟩;obtain ⟨b,off,e1,e2,e3,e4⟩:=h3 i hi;rcases e4 with e4|⟨cur,e4⟩
 ·omega
 ·have hb:=k b cur _ (.inr rfl) e4;have he:w'.heap[b]?=w.heap[b]?:=by unfold ag at hb e4;rw [hb,e4]
  exact ⟨b,off,e1,hb.lt,(World.cell?_of_block (a:=⟨b,off+i,none⟩) he).trans e3,.inr ⟨cur,hb⟩⟩
theorem bI.ty {B:Nat} {w w':World} {h:List Value} {r:RR} (e:bI B w h r) (k:tD w w'):bI B w' h r:=by
 obtain ⟨a1,c1,a2,c2,rfl,h1,h2⟩:=e;exact ⟨a1,c1,a2,c2,rfl,h1.ty k,h2.ty k⟩
theorem bV.ty {B:Nat} {w w':World} {v:Value} {l:List RR} (h:bV B w v l) (k:tD w w'):bV B w' v l:=by
 obtain ⟨hs,h1,h2,h3,h4⟩:=h;refine ⟨hs,⟨h1.1,?_⟩,h2,h3,fun i y hi=>by obtain ⟨h,e1,e2⟩:=h4 i y hi;exact ⟨h,e1,e2.ty k⟩⟩;rcases h1.2 with hn|⟨g,cap,cur,rfl,hb,hg,rest⟩
 ·exact .inl hn
 ·exact .inr ⟨g,cap,cur,rfl,hb,k g cur _ (.inl rfl) hg,rest⟩
structure r0 (n:Nat) (X:Nat→Prop) (A B:World):Prop where
 kp:gQ n X A B
 ty:tD A B
theorem r0.refl (n:Nat) (X:Nat→Prop) (A:World):r0 n X A A:=⟨gQ.refl _ _ _,fun _ _ _ _ b=>b⟩
theorem r0.trans {n:Nat} {X:Nat→Prop} {A B C:World} (h:r0 n X A B) (k:r0 n X B C):r0 n X A C:=⟨h.kp.trans k.kp,h.ty.trans k.ty⟩
theorem r0.ext {n:Nat} {X:Nat→Prop} {A B:World} (h:Ext A B):r0 n X A B:=⟨.ext h,.ext h⟩
def JX (w0:World) (m:MD) (vals:List RR) (k:Nat) (pre:List (Value × Value)) (x:Value × Value) (W:World):Prop:=
 pre.length < k∧(am m (aP m vals pre.length)).2.2=0∧bV w0.heap.size W x.1 (aP m vals (pre.length+1))∧cQ w0.heap.size W x.2 (am m (aP m vals pre.length)).2.1
def Pi (m:MD) (vals:List RR) (k:Nat) (pre:List (Value × Value)) (ch:List PanicEntry):Prop:=
 pre.length < k∧(am m (aP m vals pre.length)).2.2≠0∧ch=[bk (am m (aP m vals pre.length)).2.2]
structure ft (o:Nat) (A B:World):Prop where
 zero:Below 0 A B
 block:∀ i,i < A.heap.size→i≠o→B.heap[i]?=A.heap[i]?
theorem ft.ext {o:Nat} {A B:World} (h:Ext A B):ft o A B:=⟨h.mono (Nat.zero_le _),fun i hi _=>h.block i hi⟩
theorem ft.set {o:Nat} {A B:World} (h:ft o A B) (p:Nat) (v:Value):ft o A (B.setCell ⟨o,p,none⟩ v):=⟨h.zero.setCell (Nat.zero_le _) v,fun i hi hn=>(Below.heap_setCell B ⟨o,p,none⟩ v i hn).trans (h.block i hi hn)⟩
theorem ft.trans {o:Nat} {A B C:World} (h:ft o A B) (k:ft o B C):ft o A C:=⟨h.zero.trans k.zero,fun i hi hn=>(k.block i (Nat.lt_of_lt_of_le hi h.zero.size) hn).trans (h.block i hi hn)⟩
structure JY (o:Nat) (A B:World):Prop where
 o:ft o A B
 k:Keeps 0 29 A B
theorem JY.ext {o:Nat} {A B:World} (h:Ext A B):JY o A B:=⟨.ext h,Keeps.ext h⟩
theorem cQ.mono {B C:Nat} {w:World} {v:Value} {l:List Int} (h:cQ B w v l) (hB:C≤B):cQ C w v l:=by
 obtain ⟨hs,h1,h2,h3,h4⟩:=h;exact ⟨hs,jg h1 hB,h2,h3,h4⟩
theorem vB (n:Nat) (hn:1≤n) (m:MD) (m1:Option Addr) (n1:Nat) (m2:Option Addr) (n2:Nat) (m3:Option Addr) (n3:Nat) (a:Option Addr) (c:Nat) (vals:List RR) (k H N lb:Nat) (X:Nat→Prop) (w0 W1:World)
  (hm:eY w0 (.agg (vk m m1 n1 m2 n2 m3 n3)) m) (hv:cH w0 (.slice a vals.length c) vals) (hlm:iY m) (hlv:dm vals) (hk:k≤24)
  (hx:Ext w0 W1) (hX:∀ i,X i→w0.heap.size≤i∧i < H) (Xh:w0.heap.size≤H) (hH:H+2 < N) (hN:N≤W1.heap.size)
  (hb0:ag W1 H (vk m m1 n1 m2 n2 m3 n3) 28) (hb1:ag W1 (H+1) #[.slice a vals.length c] 29) (hb2:ag W1 (H+2) #[.int .i64 k] 3) :
  pP Fence.wide n Tryz.prog 134 (It H) (r0 N X) (JY (H+1)) (fun x:Value × Value=>#[x.1,x.2]) (JX w0 m vals k) (fun xs=>xs.length=k) (Pi m vals k) lb W1:=by
 intro J Jx hJ hY h0;have hbk:=fun W vv l (x:Ext w0 W) (h:cH W vv l) (hl:dm l)=>iP _ vv m l W (hm.ext x) h hlm hl;have hsl:=fun j=>pT (m:=m) (v:=vals) hlv j;have Gf:=kI hbk;have HSL:=kI hsl;have HV:=kI hv;have HB0:=kI hb0;have HX:=kI hx;have Rv:=kI hJ;have HY:=kI hY;have hw0:w0.heap.size≤W1.heap.size:=HX.o.size;have HB1:=kI hb1;clear hm hv hbk hsl hx hlm hlv hJ hY hb0 hb1;refine callsIn_of_wp Tryz.func134 rfl trivial ?_ rfl;simp only [Tryz.ntmps134,List.size_toArray,List.length_cons,List.length_nil,Nat.reduceAdd,Nat.reduceSub,Array.replicate_succ,Array.replicate_zero,List.push_toArray,List.append_toArray,List.nil_append,List.cons_append];have d0:=hb2.cell;have d1:=hb2.lt;gi_wp2_with fail;clear d0 d1 hb2;gi_loopw [9] (fun i wr=>∃ (j:Nat) (pre:List (Value × Value)) (vv:Value),j≤k∧i=.int .i64 j∧pre.length=j∧J pre wr∧Ext w0 wr∧N≤wr.heap.size∧ag wr H (vk m m1 n1 m2 n2 m3 n3) 28∧ag wr (H+1) #[vv] 29∧cH wr vv (aP m vals j)∧r0 N (fun i=>X i∨i=H+1) W1 wr) (fun i _=>k - (intOf i).toNat)
 case atStart=>exact ⟨0,[],_,by omega,rfl,rfl,h0,HX.o,hN,HB0.o,HB1.o,HV.o.ext HX.o,r0.refl _ _ _⟩
 case round=>
  obtain ⟨wk,hwk⟩:=gN (wr);subst hwk;obtain ⟨j,pre,vv,hjk,rfl,hpl,hj,hxk,hNk,b0,b1,hrd,hst⟩:=hrel;have XK:=kI hxk;have HJ:=kI hj;have nH:=kI hpl;have B0:=kI b0;have B1:=kI b1;have RD:=kI hrd;have ST:=kI hst;clear hxk hj hpl b0 b1 hrd hst;by_cases hlt:j < k
  ·obtain ⟨av,cv,rfl,-,-,-⟩:=RD.o.get;have hr:=fun W (x:Ext wk W)=>Gf.o W _ _ (XK.o.trans x) (RD.o.ext x) (HSL.o j);obtain ⟨R,hR⟩:=gN (am m (aP m vals j));rw [← hR] at hr;have HR:=kI hR;obtain ⟨vs,as2,e⟩:=R;have Uf:=kI hr;have TX:=B0.o.cell;have rS:=B1.o.cell;have kb2:=B0.o.lt;have MI:=B1.o.lt;obtain ⟨sl,hsl⟩:=gN ((aP m vals j).length);clear hr hR;clear hsl;gi_wp2_with fail;refine ⟨trivial,(callsIn_wide.2 (Uf.o wk (Ext.refl _))).mono ?_⟩;rintro e9 w2 ⟨⟨v,aw,rfl,ov,oz⟩,hx2⟩;dsimp only at ov oz;have X2:=kI hx2;have OV:=kI (bV.mono ov XK.o.size);have OZ:=kI oz;have XK2:Hid (Ext w0 w2):=kI (XK.o.trans hx2);have HE:Hid ((am m (aP m vals j)).2.2=e):=kI (by rw [← HR.o]);have Ug:Hid (aP m vals (j+1)=vs):=kI (by show (am m (aP m vals j)).1=vs;rw [← HR.o]);have HAS:Hid ((am m (aP m vals j)).2.1=as2):=kI (by rw [← HR.o]);have b1:=B1.o.ext hx2;have c1:=b1.cell;have f1:=b1.free;have l1:=b1.lt;obtain ⟨x1,x2,rfl⟩:=OV.o.shape;clear ov oz hx2 TX rS kb2 MI b1;by_cases he:e=0
   ·subst he;gi_wp2_with fail;refine ⟨trivial,(callsIn_wide.2 (zg w2)).mono ?_⟩;rintro e9 w3 ⟨rfl,rfl⟩;have Xu:=kI (B1.o.ext X2.o);have B03:=kI (B0.o.ext X2.o);gi_wp2_with fail;obtain ⟨ws,hws⟩:=gN (w3.setCell ⟨H+1,0,none⟩ (.slice x1 vs.length x2));have hks:Keeps 0 29 w3 ws:=by rw [hws];exact bf Xu.o 0 _
    have hos:ft (H+1) wk ws:=by rw [hws];exact (ft.ext X2.o).set 0 _
    have hps:gQ N (fun i=>X i∨i=H+1) wk ws:=by rw [hws];exact (gQ.ext X2.o).set (.inl (.inr rfl)) 0 _
    have hxs:Ext w0 ws:=by rw [hws];exact Below.setCell XK2.o au _
    have Xv:ag ws H (vk m m1 n1 m2 n2 m3 n3) 28:=by rw [hws];exact B03.o.setOther (a:=⟨H+1,0,none⟩) au _
    have Xw:ag ws (H+1) #[.slice x1 vs.length x2] 29:=by rw [hws];exact Xu.o.set 0 _
    have hsz:wk.heap.size≤ws.heap.size:=hos.zero.size;rw [← hws];have ze:=kI hos;have HPS:=kI hps;have Xx:=kI hxs;have B0S:=kI Xv;have B1S:=kI Xw;have Xy:=kI hks;have O0:=kI hsz;have Xz:=kI (bV.keeps OV.o hks ap ap);have OZS:=kI (cQ.keeps OZ.o hks ap);have hok:=fZ HE.o;have hvs:vs=nL m (aP m vals j):=Ug.o.symm.trans hok.2.2.1;have hlen:xP vs:=by rw [hvs];exact C0 hok.1 hok.2.1
    have Iv:vs.length≤1000000:=by
     rw [hvs,fe];have:=(bF (eG hok.1).1).2.2.1;omega
    have HLEN:=kI hlen;have HL2:=kI Iv;clear hws hos hps hxs Xv Xw hks hsz hok hvs hlen Iv c1 f1 l1;refine ⟨trivial,(callsIn_wide.2 (yZ _ vs ws Xz.o.rd HL2.o HLEN.o)).mono ?_⟩;rintro e9 w4 ⟨⟨v4,rfl,ow⟩,hx4⟩;have X4:=kI hx4;have hw4:w0.heap.size≤ws.heap.size:=Xx.o.size;have OW4:Hid (bV w0.heap.size w4 v4 (aP m vals (j+1))):=kI (by rw [Ug.o];exact bV.mono ow hw4);have OZ4:Hid (cQ w0.heap.size w4 aw (am m (aP m vals j)).2.1):=kI (by rw [HAS.o];exact cQ.mono (cQ.ext' OZS.o hx4) XK.o.size);obtain ⟨fn,tmps,assign,body,hy,hR⟩:=HY.o pre (v4,aw) w4 (Rv.o _ _ _ HJ.o ⟨ze.o.trans (.ext hx4),((Keeps.ext X2.o).trans Xy.o).trans (Keeps.ext hx4)⟩) ⟨by rw [nH.o];exact hlt,by rw [nH.o];exact HE.o,by rw [nH.o];exact OW4.o,by rw [nH.o];exact OZ4.o⟩;have HRR:=kI hR;dsimp only at hy HRR;clear hR ow hx4;gi_wp2_with fail;refine HRR.o.mono ?_;rintro e9 W5 ⟨hb5,(⟨rfl,Pj⟩|⟨rfl,Pj⟩)⟩
    ·have Uh:=kI Pj;have HB5:=kI hb5;clear Pj hb5 hy HRR;gi_wp2_with fail;go_roundw
     case rel=>
      have Pk:Ext w0 w4:=Xx.o.trans X4.o;have h5:=HB5.o;refine ⟨j+1,_,_,by omega,by go_num,by have:=nH.o;simp [this],Uh.o,Below.trans Pk (h5.kp.below (fun i h=>(hX i h).1) Z Pk.size),Nat.le_trans hNk (Nat.le_trans (Nat.le_trans O0.o X4.o.size) h5.kp.zero.size),(B0S.o.ext X4.o).xQ h5.kp Z (fun h=>by have:=(hX _ h).2;omega),(B1S.o.ext X4.o).xQ h5.kp Z (fun h=>by have:=(hX _ h).2;omega),?_,?_⟩
      ·rw [Ug.o];exact ((bV.ext' Xz.o X4.o).ty h5.ty).rd
      ·exact (ST.o.trans ⟨HPS.o.trans (.ext X4.o),(tD.ext X2.o).trans ((tD.keeps Xy.o ap ap).trans (.ext X4.o))⟩).trans ⟨h5.kp.mono (fun i h=>.inl h),h5.ty⟩
     case measure=>simp [intOf];omega
    ·have Uh:=kI Pj;clear Pj hb5 hy HRR;gi_wp2_with fail;refine bodyPost_ret (v:=.tuple #[]) ?_ rfl (.inl ⟨⟨_,rfl⟩,.inr ⟨_,Uh.o⟩⟩);first|rfl|(simp only [results,Tryz.results134];go_simp)
   ·gi_wp2_with fail;refine ⟨trivial,(callsIn_wide.2 (jF he w2)).mono ?_⟩;rintro e9 w3 ⟨rfl,rfl⟩;simp +zetaDelta only [Exit.then,Exit.inBlock];exact aF rfl (.inr ⟨_,pre,rfl,⟨by rw [nH.o];exact hlt,by rw [nH.o,HE.o];exact he,by rw [nH.o,HE.o]⟩,Rv.o _ _ _ HJ.o (.ext X2.o)⟩)
  ·obtain rfl:j=k:=Z
   have q6:¬ (j:Int) < (j:Int):=Z
   gi_wp2_with fail;go_end0
   exact .inl ⟨⟨_,rfl⟩,.inl ⟨_,nH.o,HJ.o⟩⟩
def wK (B:Nat) (w:World) (h:List Value) (l:List RR):Prop:=∃ a c,h=[.slice a l.length c]∧bV B w (.slice a l.length c) l
theorem wK.keeps {B C:Nat} {t:TypeId} (ht:25≠t) (hu:157≠t) (w w':World) (h:List Value) (l:List RR) (e:wK B w h l) (k:Keeps C t w w'):wK B w' h l:=by
 obtain ⟨a,c,rfl,h1⟩:=e;exact ⟨a,c,rfl,h1.keeps k ht hu⟩
theorem wK.ext {B:Nat} {w w':World} {h:List Value} {l:List RR} (e:wK B w h l) (x:Ext w w'):wK B w' h l:=by
 obtain ⟨a,c,rfl,h1⟩:=e;exact ⟨a,c,rfl,bV.ext' h1 x⟩
theorem wK.of {B:Nat} {w:World} {v:Value} {l:List RR} (h:bV B w v l):wK B w [v] l:=by
 obtain ⟨a,c,rfl⟩:=h.shape;exact ⟨a,c,rfl,h⟩
abbrev ck (B:Nat) (w:World) (v:Value) (g:List (List RR)):Prop:=aD 29 1 (wK B) B w v g
theorem ck.nil (B:Nat) (w:World):ck B w (.slice none 0 0) []:=aD.nil _ _ _ _ _
theorem ck.ext' {B:Nat} {w w':World} {v:Value} {g:List (List RR)} (h:ck B w v g) (x:Ext w w'):ck B w' v g:=aD.ext h x (fun _ _ e=>e.ext x)
theorem ck.keeps {B C:Nat} {t:TypeId} {w w':World} {v:Value} {g:List (List RR)} (h:ck B w v g) (k:Keeps C t w w') (ht:29≠t) (hr:25≠t) (hu:157≠t):ck B w' v g:=aD.pR h k ht (fun _ _ e=>e.keeps hr hu _ _ _ _ k)
theorem ck.shape {B:Nat} {w:World} {v:Value} {g:List (List RR)} (h:ck B w v g):∃ a c,v=.slice a g.length c:=by
 obtain ⟨a,c,h,_⟩:=aD.wI h;exact ⟨a,c,h⟩
theorem ck.mono {B C:Nat} {w:World} {v:Value} {g:List (List RR)} (h:ck B w v g) (hB:C≤B):ck C w v g:=by
 obtain ⟨hs,h1,h2,h3,h4⟩:=h;exact ⟨hs,jg h1 hB,h2,h3,fun i y hi=>by obtain ⟨h,e1,a,c,e2,e3⟩:=h4 i y hi;exact ⟨h,e1,a,c,e2,e3.mono hB⟩⟩
theorem dc.mono {B C:Nat} {w:World} {v:Value} {g:List (List Int)} (h:dc B w v g) (hB:C≤B):dc C w v g:=by
 obtain ⟨hs,h1,h2,h3,h4⟩:=h;exact ⟨hs,jg h1 hB,h2,h3,fun i y hi=>by obtain ⟨h,e1,a,c,e2,e3⟩:=h4 i y hi;exact ⟨h,e1,a,c,e2,jg e3 hB⟩⟩
theorem ck.Pm {B o:Nat} {w w':World} {v:Value} {g:List (List RR)} (h:ck B w v g) (k:JY o w w') (hne:v.ownBlock≠some o):ck B w' v g:=by
 obtain ⟨hs,h1,h2,h3,h4⟩:=h;refine ⟨hs,⟨h1.1,?_⟩,h2,h3,fun i y hi=>by obtain ⟨h,e1,e2⟩:=h4 i y hi;exact ⟨h,e1,e2.keeps ap ap _ _ _ _ k.k⟩⟩;rcases h1.2 with hn|⟨q,cap,cur,rfl,hb,hg,rest⟩
 ·exact .inl hn
 ·have hq:q≠o:=fun e=>hne (by rw [e];rfl);have hlt:q < w.heap.size:=(Array.getElem?_eq_some_iff.1 hg).1;exact .inr ⟨q,cap,cur,rfl,hb,(k.o.block q hlt hq).trans hg,rest⟩
theorem dc.keeps {B C:Nat} {t:TypeId} {w w':World} {v:Value} {g:List (List Int)} (h:dc B w v g) (k:Keeps C t w w') (ht:53≠t) (hi:3≠t):dc B w' v g:=aD.pR h k ht (fun _ _ e=>e.keeps hi _ _ _ _ k)
theorem dc.nil (B:Nat) (w:World):dc B w (.slice none 0 0) []:=aD.nil _ _ _ _ _
theorem dc.shape {B:Nat} {w:World} {v:Value} {g:List (List Int)} (h:dc B w v g):∃ a c,v=.slice a g.length c:=by
 obtain ⟨a,c,h,_⟩:=aD.wI h;exact ⟨a,c,h⟩
theorem lD.of {B:Nat} {w:World} {v:Value} {l:List Int} (h:cQ B w v l):lD B w [v] l:=by
 obtain ⟨a,c,rfl⟩:=h.shape;exact ⟨a,c,rfl,h.owI⟩
def Aside (v:Value) (H N:Nat):Prop:=∀ q,v.ownBlock=some q→q < H∨N≤q
theorem Tryz.mA:(Tryz.prog.info? 29).map (fun i=>(i.zero,i.size,i.bytes))=some (some (.slice none 0 0),1,24):=ax
theorem aD.jK {α:Type} {e:TypeId} {size:Nat} {El:World→List Value→α→Prop} {B:Nat} {w:World} {v:Value} {l:List α} (h:aD e size El B w v l) {q:Nat} (hq:v.ownBlock=some q):(∃ cur,ag w q cur e)∧B≤q∧q < w.heap.size:=by
 obtain ⟨hs,h1,_⟩:=h;rcases h1.2 with ⟨rfl,_⟩|⟨g,cap,cur,rfl,hb,hg,_⟩
 ·cases hq
 ·injection hq with hq
  dsimp only at hq;subst hq;exact ⟨⟨cur,hg⟩,hb,(Array.getElem?_eq_some_iff.1 hg).1⟩
theorem aD.jL {α:Type} {e:TypeId} {size:Nat} {El:World→List Value→α→Prop} {B:Nat} {w w':World} {v:Value} {l:List α} (h:aD e size El B w v l) (hg:w.grownBy w' v.ownBlock):Keeps B e w w':=
 ⟨⟨hg.os,hg.tape,hg.output,hg.size,fun i hi=>by omega⟩,fun i hi ho=>hg.block i hi (fun e9=>by
  obtain ⟨⟨cur,hb⟩,hq,_⟩:=h.jK e9.symm;rcases ho with ho|⟨c2,u,h5,h6⟩
  ·omega
  ·unfold ag at hb h5;rw [hb] at h5;injection h5 with h5
   injection h5 with _ h7
   exact h6 h7.symm)⟩
def xV (w w':World) (e:Ending) (r:List (List RR) × List (List Int) × Int):Prop:=∃ v p,e=.returned (.tuple #[v,p,.int .i64 r.2.2])∧ck w.heap.size w' v r.1∧dc w.heap.size w' p r.2.1
theorem xV.mk {w w':World} {v p:Value} {g:List (List RR)} {q:List (List Int)} {x:Int} {r:List (List RR) × List (List Int) × Int} (h:ck w.heap.size w' v g) (k:dc w.heap.size w' p q) (e:r=(g,q,x)):xV w w' (.returned (.tuple #[v,p,.int .i64 x])) r:=by subst e;exact ⟨v,p,rfl,h,k⟩
theorem bI.mono {B C:Nat} {w:World} {h:List Value} {r:RR} (e:bI B w h r) (hB:C≤B):bI C w h r:=by
 obtain ⟨a1,c1,a2,c2,e2,s1,s2⟩:=e;exact ⟨a1,c1,a2,c2,e2,s1.mono hB,s2.mono hB⟩
def gg (x f y:RR):RR × Int:=if (mulR f y).2≠0 then (zR,(mulR f y).2) else bR x (mulR f y).1
theorem EW {x f y:RR} {c:Int} (h:(mulR f y).2=c) (hc:c≠0):gg x f y=(zR,c):=by unfold gg;rw [h,if_pos hc]
theorem oQ {x f y p:RR} (h:mulR f y=(p,0)):gg x f y=bR x p:=by unfold gg;rw [h,if_neg (fun h=>h rfl)]
def cN {α:Type} (f:Nat→α) (t:Nat) (x:α):Nat→α:=fun i=>if i=t then x else f i
theorem bL {α:Type} (f:Nat→α) (t:Nat) (x:α):cN f t x t=x:=if_pos rfl
theorem cG {α:Type} {f:Nat→α} {t:Nat} {x:α} {i:Nat} (h:i≠t):cN f t x i=f i:=if_neg h
structure Sys where
 M:Nat→Nat→RR
 S:Nat→RR
 V:Nat→RR
def iZ (r:Nat→RR) (f:RR) (o:Nat→RR) (k:Nat):Nat→RR:=fun i=>if i < k then (gg (r i) f (o i)).1 else r i
def tE (r:Nat→RR) (f:RR) (o:Nat→RR) (k:Nat):Int:=bG (fun i=>(gg (r i) f (o i)).2) k
def jM (n s t:Nat) (y:Sys):Sys × Int:=
 if (bJ (y.M t s) (y.M s s)).2≠0 then (y,(bJ (y.M t s) (y.M s s)).2)
 else if tE (y.M t) (bJ (y.M t s) (y.M s s)).1 (y.M s) n≠0 then (y,tE (y.M t) (bJ (y.M t s) (y.M s s)).1 (y.M s) n)
 else if (gg (y.S t) (bJ (y.M t s) (y.M s s)).1 (y.S s)).2≠0 then (y,(gg (y.S t) (bJ (y.M t s) (y.M s s)).1 (y.S s)).2)
 else (⟨cN y.M t (iZ (y.M t) (bJ (y.M t s) (y.M s s)).1 (y.M s) n),cN y.S t (gg (y.S t) (bJ (y.M t s) (y.M s s)).1 (y.S s)).1,y.V⟩,0)
def cI (n s:Nat) (y:Sys):Nat→Sys × Int
 | 0=>(y,0)
 | k+1=>if (cI n s y k).2≠0 then cI n s y k else jM n s (s+1+k) (cI n s y k).1
def dP (s:Nat) (y:Sys):Nat→RR × Int
 | 0=>(y.S s,0)
 | k+1=>if (dP s y k).2≠0 then dP s y k else gg (dP s y k).1 (y.M s (s+1+k)) (y.V (s+1+k))
def bY (n:Nat):Nat→Nat→Sys→Sys × Int
 | 0,_,y=>(y,0)
 | k+1,s,y=>
  if (cI n s y (n - (s+1))).2≠0 then cI n s y (n - (s+1))
  else if (bY n k (s+1) (cI n s y (n - (s+1))).1).2≠0 then bY n k (s+1) (cI n s y (n - (s+1))).1
  else if (dP s (bY n k (s+1) (cI n s y (n - (s+1))).1).1 (n - (s+1))).2≠0 then ((bY n k (s+1) (cI n s y (n - (s+1))).1).1,(dP s (bY n k (s+1) (cI n s y (n - (s+1))).1).1 (n - (s+1))).2)
  else if (bJ (dP s (bY n k (s+1) (cI n s y (n - (s+1))).1).1 (n - (s+1))).1 ((bY n k (s+1) (cI n s y (n - (s+1))).1).1.M s s)).2≠0 then ((bY n k (s+1) (cI n s y (n - (s+1))).1).1,(bJ (dP s (bY n k (s+1) (cI n s y (n - (s+1))).1).1 (n - (s+1))).1 ((bY n k (s+1) (cI n s y (n - (s+1))).1).1.M s s)).2)
  else ({ (bY n k (s+1) (cI n s y (n - (s+1))).1).1 with V:=cN (bY n k (s+1) (cI n s y (n - (s+1))).1).1.V s (bJ (dP s (bY n k (s+1) (cI n s y (n - (s+1))).1).1 (n - (s+1))).1 ((bY n k (s+1) (cI n s y (n - (s+1))).1).1.M s s)).1 },0)
def eH (d:RR) (l:List Out) (s:Nat):Nat→(Nat→RR) × Int
 | 0=>(cN (fun _=>zR) s (rep ((1:Int):Rat)),0)
 | k+1=>if (eH d l s k).2≠0 then eH d l s k
  else if (gg ((eH d l s k).1 (l.getD k dO).1.toNat) d (l.getD k dO).2).2≠0 then ((eH d l s k).1,(gg ((eH d l s k).1 (l.getD k dO).1.toNat) d (l.getD k dO).2).2)
  else (cN (eH d l s k).1 (l.getD k dO).1.toNat (gg ((eH d l s k).1 (l.getD k dO).1.toNat) d (l.getD k dO).2).1,0)
def cJ (m:MD) (p:List Int) (s:Nat):bg:=m.act s (p.getD s 0).toNat
def fC (m:MD) (p:List Int) (s:Nat):(Nat→RR) × Int:=eH m.ah (cJ m p s).next s (cJ m p s).next.length
def mB (m:MD) (p:List Int):Sys:=⟨fun s=>(fC m p s).1,fun s=>(cJ m p s).cost,fun _=>zR⟩
def aH (m:MD) (p:List Int):List RR × Int:=
 if bG (fun s=>(fC m p s).2) p.length≠0 then ([],bG (fun s=>(fC m p s).2) p.length)
 else if (bY p.length p.length 0 (mB m p)).2≠0 then ([],(bY p.length p.length 0 (mB m p)).2)
 else ((List.range p.length).map (bY p.length p.length 0 (mB m p)).1.V,0)
def gG (m:MD):Int:=if fs m≠0 then fs m else if qv m.ah=1 then 1 else 0
def nP (m:MD) (p:List Int):Int:=if p.length≠m.states.length then 16 else bG (jC m p) p.length
def iX (m:MD) (p:List Int):List RR × Int:=
 if gG m≠0 then ([],gG m) else if 8 < m.states.length then ([],4) else if nP m p≠0 then ([],nP m p) else aH m p
end Go.Proofs.YtnnjbaijcaiohaaGreat
