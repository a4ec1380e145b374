/- Walks and lemmas. -/
import Derived.Test.YtnnjbaijcaiohaaSyA12
import Derived.Test.YtnnjbaijcaiohaaSyA7
import Derived.Test.YtnnjbaijcaiohaaSyA10
import Derived.Test.YtnnjbaijcaiohaaSyA0
import Derived.Recover
import Derived.Orders
import Derived.RangeFuncLeaves
import Derived.RangeFuncRecord
import Derived.Defers
set_option linter.unusedVariables false
set_option linter.unusedSimpArgs false
set_option maxRecDepth 100000
set_option maxHeartbeats 16000000
namespace Go.Proofs.Ytnnjbaijcaiohaa
open Go.RowKit
section
theorem md_valid {m:MD} (h:mdE m=0):chkR m.disc=0∧m.states.length≠0∧m.states.length≤200∧∀ s,s < m.states.length→stE m.states.length (m.states.getD s [])=0:=by
 unfold mdE at h;by_cases h1:chkR m.disc=0
 ·rw [if_neg (by simpa using h1)] at h;by_cases h2:m.disc.neg=true∨1 < qv m.disc
  ·rw [if_pos h2] at h;cases h
  ·rw [if_neg h2] at h;by_cases h3:m.states.length=0
   ·rw [if_pos h3] at h;cases h
   ·rw [if_neg h3] at h;by_cases h4:200 < m.states.length
    ·rw [if_pos h4] at h;cases h
    ·rw [if_neg h4] at h;exact ⟨h1,h3,by omega,frstE_all h⟩
 ·rw [if_pos h1] at h;exact absurd h h1
theorem st_valid {n:Nat} {ac:List DAct} (h:stE n ac=0):ac.length≠0∧ac.length≤6∧∀ a,a < ac.length→actE n (ac.getD a dA)=0:=by
 unfold stE at h;by_cases h1:ac.length=0
 ·rw [if_pos h1] at h;cases h
 ·rw [if_neg h1] at h;by_cases h2:6 < ac.length
  ·rw [if_pos h2] at h;cases h
  ·rw [if_neg h2] at h;exact ⟨h1,by omega,frstE_all h⟩
theorem act_valid {n:Nat} {x:DAct} (h:actE n x=0):chkR x.cost=0∧x.next.length≠0∧x.next.length≤64∧(∀ i,i < x.next.length→outE n x.next i=0)∧addL zR (prs x.next)=(rep 1,0):=by
 unfold actE at h;by_cases h1:chkR x.cost=0
 ·rw [if_neg (by simpa using h1)] at h;by_cases h2:x.next.length=0
  ·rw [if_pos h2] at h;cases h
  ·rw [if_neg h2] at h;by_cases h3:64 < x.next.length
   ·rw [if_pos h3] at h;cases h
   ·rw [if_neg h3] at h;by_cases h4:frstE (outE n x.next) x.next.length=0
    ·rw [if_neg (by simpa using h4)] at h;by_cases h5:(addL zR (prs x.next)).2=0
     ·rw [if_neg (by simpa using h5)] at h;by_cases h6:(addL zR (prs x.next)).1=rep 1
      ·exact ⟨h1,h2,by omega,frstE_all h4,Prod.ext h6 h5⟩
      ·rw [if_neg h6] at h;cases h
     ·rw [if_pos h5] at h;exact absurd h h5
    ·rw [if_pos h4] at h;exact absurd h h4
 ·rw [if_pos h1] at h;exact absurd h h1
theorem out_valid {n:Nat} {l:List Out} {i:Nat} (h:outE n l i=0):0≤(l.getD i dO).1∧(l.getD i dO).1 < n∧chkR (l.getD i dO).2=0∧(l.getD i dO).2.neg=false:=by
 unfold outE at h;by_cases h1:(l.getD i dO).1 < 0∨(n:Int)≤(l.getD i dO).1
 ·rw [if_pos h1] at h;cases h
 ·rw [if_neg h1] at h;by_cases h2:0 < i∧(l.getD i dO).1≤(l.getD (i - 1) dO).1
  ·rw [if_pos h2] at h;cases h
  ·rw [if_neg h2] at h;by_cases h3:chkR (l.getD i dO).2=0
   ·rw [if_neg (by simpa using h3)] at h;by_cases h4:(l.getD i dO).2.neg=true∨(l.getD i dO).2.num=[]
    ·rw [if_pos h4] at h;cases h
    ·refine ⟨by omega,by omega,h3,?_⟩;cases hh:(l.getD i dO).2.neg
     ·rfl
     ·exact absurd (.inl hh) h4
   ·rw [if_pos h3] at h;exact absurd h h3
theorem mv_valid {m:MD} {v:List RR} (h:mvE m v=0):mdE m=0∧v.length=m.states.length:=by
 unfold mvE at h;by_cases h1:mdE m=0
 ·rw [if_neg (by simpa using h1)] at h;by_cases h2:v.length=m.states.length
  ·exact ⟨h1,h2⟩
  ·rw [if_pos h2] at h;cases h
 ·rw [if_pos h1] at h;exact absurd h h1
theorem scoreOf_any (mv vv xv:Value) (m:MD) (vals:List RR) (s a:Nat) (w:World) (hm:RdM w mv m) (hv:RdRs w vv vals) (hx:RdAct w xv (m.act s a)) (hlm:LimM m) (hlv:LimL vals) (h:mvE m vals=0) (hs:s < m.states.length) (ha:a < (m.states.getD s []).length) :
  Calls Try.prog 30 #[mv,vv,xv] w fun e w'=>ResR w w' e (scoreS m vals (m.act s a))∧Ext w w':=by
 obtain ⟨h1,h2⟩:=mv_valid h;obtain ⟨_,_,_,h3⟩:=md_valid h1;obtain ⟨_,_,h4⟩:=st_valid (h3 s hs);obtain ⟨_,_,h5,h6,_⟩:=act_valid (h4 a ha);exact score_any mv vv xv m vals _ w hm hv hx hlm.1 hlv (hlm.2 s a) (fun i hi=>by
  obtain ⟨g1,g2,_⟩:=out_valid (h6 i hi);unfold MD.act;exact ⟨g1,by rw [h2];exact g2⟩) h5
theorem score_lim (m:MD) (v:List RR) (x:DAct):LimR (scoreS m v x).1:=by
 unfold scoreS;split
 ·exact zR_lim
 ·split
  ·exact zR_lim
  ·exact addR_lim _ _
theorem unV_len (m:MD) (p:List Int) (v:List RR):(unV m p v).length=p.length:=by simp [unV]
theorem unV_take {m:MD} {p:List Int} {v:List RR} {k:Nat} (h:k < p.length):(unV m p v).take (k+1)=(unV m p v).take k ++ [(scoreS m v (m.act k (p.getD k 0).toNat)).1]:=by
 rw [take_snocD _ k zR (by rw [unV_len];exact h)];congr 2
 unfold unV;rw [List.getD_eq_getElem?_getD,List.getElem?_map,List.getElem?_range h];rfl
theorem under_1 {m:MD} {p:List Int} {v:List RR} (h:mvE m v≠0):underS m p v=([],mvE m v):=if_pos h
theorem under_2 {m:MD} {p:List Int} {v:List RR} (h:mvE m v=0) (h2:p.length≠m.states.length):underS m p v=([],16):=by unfold underS;rw [if_neg (by simpa using h),if_pos h2]
theorem under_3 {m:MD} {p:List Int} {v:List RR} (h:mvE m v=0) (h2:p.length=m.states.length) {k:Nat} (hk:k < p.length) (h4:∀ j,j < k→unE m p v j=0) {c:Int} (h5:unE m p v k=c) (h6:c≠0):underS m p v=([],c):=by
 have e:=frstE_at h4 (by rw [h5];exact h6) hk;unfold underS;rw [if_neg (by simpa using h),if_neg (by simpa using h2),e,h5,if_pos h6]
theorem under_4 {m:MD} {p:List Int} {v:List RR} (h:mvE m v=0) (h2:p.length=m.states.length) (h4:∀ j,j < p.length→unE m p v j=0):underS m p v=(unV m p v,0):=by
 have e:=frstE_zero h4;unfold underS;rw [if_neg (by simpa using h),if_neg (by simpa using h2),e,if_neg (fun h=>h rfl)]
def mduJ (A:Nat) (mv lv sv av xv:Value) (k:Nat) (a:Nat) (sb so ab ao:Nat) (r:RR) (e:Int) (wB:World) (j:Nat) (v:Value) (W:World):Prop:=
 match j with
 | 0=>v=mv
 | 1=>v=lv
 | 2=>v=.pointer (some ⟨A,3,none⟩)
 | 3=>v=sv
 | 4=>v=.int .i64 (k:Nat)
 | 5=>v=.pointer (some ⟨sb,so+k,none⟩)
 | 6=>v=av
 | 7=>v=.int .i64 (a:Nat)
 | 8=>v=.pointer (some ⟨ab,ao+a*4,none⟩)
 | 9=>v=xv
 | 10=>∃ s1 s2 s3 s4,v=.tuple #[.agg #[.bool r.neg,.slice s1 r.num.length s2,.slice s3 r.den.length s4],.int .i64 e]∧NewR wB W (.agg #[.bool r.neg,.slice s1 r.num.length s2,.slice s3 r.den.length s4]) r
 | 11=>∃ s1 s2 s3 s4,v=.tuple #[.agg #[.bool r.neg,.slice s1 r.num.length s2,.slice s3 r.den.length s4],.int .i64 e]∧NewR wB W (.agg #[.bool r.neg,.slice s1 r.num.length s2,.slice s3 r.den.length s4]) r
 | 12=>∃ s1 s2 s3 s4,v=.agg #[.bool r.neg,.slice s1 r.num.length s2,.slice s3 r.den.length s4]∧NewR wB W (.agg #[.bool r.neg,.slice s1 r.num.length s2,.slice s3 r.den.length s4]) r
 | 13=>v=.int .i64 e
 | 14=>∃ b,v=.pointer (some ⟨b,0,none⟩)∧wB.heap.size≤b∧Blk W b #[.bool false,.slice none 0 0,.slice none 0 0] 25
 | _=>True
theorem mduJ_ext {A:Nat} {mv lv sv av xv:Value} {k:Nat} {a:Nat} {sb so ab ao:Nat} {r:RR} {e:Int} {wB:World} {j:Nat} {v:Value} {W W':World} (h:mduJ A mv lv sv av xv k a sb so ab ao r e wB j v W) (x:Ext W W'):mduJ A mv lv sv av xv k a sb so ab ao r e wB j v W':=by
 match j,h with
 | 0,h=>exact h
 | 1,h=>exact h
 | 2,h=>exact h
 | 3,h=>exact h
 | 4,h=>exact h
 | 5,h=>exact h
 | 6,h=>exact h
 | 7,h=>exact h
 | 8,h=>exact h
 | 9,h=>exact h
 | 10,⟨s1,s2,s3,s4,h1,h2⟩=>exact ⟨s1,s2,s3,s4,h1,h2.ext x⟩
 | 11,⟨s1,s2,s3,s4,h1,h2⟩=>exact ⟨s1,s2,s3,s4,h1,h2.ext x⟩
 | 12,⟨s1,s2,s3,s4,h1,h2⟩=>exact ⟨s1,s2,s3,s4,h1,h2.ext x⟩
 | 13,h=>exact h
 | 14,⟨b,h0,h1,h2⟩=>exact ⟨b,h0,h1,h2.ext x⟩
 | _+15,_=>trivial
theorem under_any (mv pv vv:Value) (m:MD) (p:List Int) (vals:List RR) (w:World) (hm:RdM w mv m) (hp:RdI .i64 w pv p) (hv:RdRs w vv vals) (hlm:LimM m) (hlv:LimL vals) :
  Calls Try.prog 11 #[mv,pv,vv] w fun e w'=>ResN w w' e (underS m p vals)∧Ext w w':=by
 have hck:=fun W mv vv (h:RdM W mv m) (k:RdRs W vv vals)=>mdcheck2_any mv vv m vals W h k hlm;have hsc:=fun W mv vv xv s a (h:RdM W mv m) (k:RdRs W vv vals) (hx:RdAct W xv (m.act s a))=>scoreOf_any mv vv xv m vals s a W h k hx hlm hlv;have hU1:=under_1 (m:=m) (p:=p) (v:=vals);have hU2:=under_2 (m:=m) (p:=p) (v:=vals);have hU3:=fun k=>under_3 (m:=m) (p:=p) (v:=vals) (k:=k);have hU4:=under_4 (m:=m) (p:=p) (v:=vals);have hul:=unV_len m p vals;have hut:=fun k=>unV_take (m:=m) (p:=p) (v:=vals) (k:=k);have HM:=kI hm;obtain ⟨m1,n1,m2,n2,m3,n3,rfl,hmd,hst⟩:=hm;have hsl:m.states.length≤9223372036854775807:=by obtain ⟨_,_,_,h⟩:=hst.shape;exact h
 obtain ⟨ap,cp,rfl,hpc,hpm,_⟩:=hp.get;have hpl:p.length≤9223372036854775807:=by omega
 obtain ⟨av,cv,rfl,hvc,hvm,fv,hvf⟩:=hv.get;have hvl:vals.length≤9223372036854775807:=by omega
 have HP:=kI hp;have HV:=kI hv;have HST:=kI hst;have HCK:=kI hck;have HSC:=kI hsc;have HU1:=kI hU1;have HU2:=kI hU2;have HU3:=kI hU3;have HU4:=kI hU4;have HUL:=kI hul;have HUT:=kI hut;clear hp hv hmd hst hck hsc hpc hpm hvc hvm fv hvf hU1 hU2 hU3 hU4 hul hut hlm hlv;have bb0:=(Blk.new w #[.bool m.disc.neg,.slice m1 m.disc.num.length n1,.slice m2 m.disc.den.length n2,.slice m3 m.states.length n3] 28);have x0:Ext w (w.alloc (.cells #[.bool m.disc.neg,.slice m1 m.disc.num.length n1,.slice m2 m.disc.den.length n2,.slice m3 m.states.length n3] 28)):=((Ext.refl w).alloc _);have A0:=kI bb0;have X:=kI x0;clear x0 bb0;replace HM:=kI (HM.o.ext X.o);replace HP:=kI (HP.o.ext X.o);replace HV:=kI (HV.o.ext X.o);replace HST:=kI (HST.o.ext X.o);go_enter Try.func11,Try.ntmps11
 obtain ⟨qA0,fA0,lA0⟩:=A0.o.q3;go_wp2_with fail;refine (HCK.o _ _ _ HM.o HV.o).mono ?_;rintro e w1 ⟨rfl,hx⟩;clear qA0 fA0 lA0;replace HM:=kI (HM.o.ext hx);replace HP:=kI (HP.o.ext hx);replace HV:=kI (HV.o.ext hx);replace HST:=kI (HST.o.ext hx);replace A0:=kI (A0.o.ext hx);replace X:=kI (X.o.trans hx);clear hx HCK;by_cases h1:mvE m vals=0
 rotate_left
 ·have E:=kI (HU1.o h1);obtain ⟨c,hc⟩:=gN (mvE m vals);rw [← hc] at E h1 ⊢;have q1:(c != 0)=true:=by simpa using h1
  clear h1 hc;go_wp2_with fail;go_ret2
  exact ⟨ResN.mk (OwN.nil _ _) E.o,X.o⟩
 rw [h1];by_cases h2:p.length=m.states.length
 rotate_left
 ·have E:=kI (HU2.o h1 h2);have q2:((p.length:Int) != (m.states.length:Int))=true:=bne_iff_ne.2 (by omega);clear h1 h2;obtain ⟨qA0,fA0,lA0⟩:=A0.o.q3;go_wp2_with fail;go_ret2
  exact ⟨ResN.mk (OwN.nil _ _) E.o,X.o⟩
 have q2:((p.length:Int) != (m.states.length:Int))=false:=by rw [h2];simp
 have H2:=kI h2;have H1:=kI h1;have P200:Hid (p.length≤200):=kI (by rw [h2];exact (md_valid (mv_valid h1).1).2.2.1);have HE:=kI (fun k=>HU3.o k h1 h2);have HI:=kI (HU4.o h1 h2);clear h1 h2 HU1 HU2 HU3 HU4;obtain ⟨qA0,fA0,lA0⟩:=A0.o.q3;go_wp2_with fail;clear qA0 fA0 lA0;clear q2;obtain ⟨wl,hwl⟩:=gN (w1);rw [← hwl] at HM HP HV HST A0 X ⊢;clear hwl;have WL:=kI X.o.size;obtain ⟨An,hAn⟩:=gN (w.heap.size);rw [← hAn] at A0 ⊢;clear hAn;go_loopw [6,29] (fun v i wr=>∃ k:Nat,k≤p.length∧i=.int .i64 k∧(∀ j,j < k→unE m p vals j=0)∧OwN wl.heap.size wr v ((unV m p vals).take k)∧Ext wl wr) (fun _ i _=>p.length - (intOf i).toNat)
 case atStart=>exact ⟨0,Nat.zero_le _,rfl,(fun j hj=>by omega),OwN.nil _ _,Ext.refl _⟩
 case round=>
  obtain ⟨wk,hwk⟩:=gN (wr);subst hwk;obtain ⟨k,hk,rfl,hok,hown,hx⟩:=hrel;have XK:=kI hx;have OW:=kI hown;have OK:=kI hok;replace HM:=kI (HM.o.ext hx);replace HP:=kI (HP.o.ext hx);replace HV:=kI (HV.o.ext hx);replace HST:=kI (HST.o.ext hx);replace A0:=kI (A0.o.ext hx);replace X:=kI (X.o.trans hx);have XS:=kI X.o.size;have XL:=kI XK.o.size;have OBL:=kI (fun q (hq:wk.heap.size≤q)=>OwN.own_lt OW.o hq);clear hx hown hok;by_cases hlt:k < p.length
  ·have hks:k < m.states.length:=by have:=H2.o;omega
   obtain ⟨bp,op,rfl,s1,s2⟩:=rdI_at0 HP.o hlt;obtain ⟨sb,so,ai,ci,rfl,t0,t1,t2⟩:=HST.o.at hks;have hact:m.act k (p.getD k 0).toNat=(m.states.getD k []).getD (p.getD k 0).toNat dA:=rfl;have hpe:polE m p k=if p.getD k 0 < 0∨((m.states.getD k []).length:Int)≤p.getD k 0 then 8 else 0:=rfl;have hun:unE m p vals k=if polE m p k≠0 then polE m p k else (scoreS m vals (m.act k (p.getD k 0).toNat)).2:=rfl;have hut:=HUT.o k hlt;obtain ⟨ac,hac⟩:=gN (m.states.getD k []);have HAC:=kI hac;obtain ⟨pk,hpk⟩:=gN (p.getD k 0);rw [← hac] at t1 t2 hact hpe;rw [← hpk] at s2 hact hpe hun hut;have hal:ac.length≤9223372036854775807:=by obtain ⟨_,_,_,h⟩:=t2.shape;exact h
   have RA:=kI t2;have q1:(0:Int)≤(k:Int):=by omega
   have q2:(k:Int) < (p.length:Int):=by omega
   have q3:(k:Int) < (m.states.length:Int):=by omega
   clear t2 hac hpk;by_cases d1:pk < 0
   ·have E:=kI (HE.o k hlt OK.o (c:=8) (by rw [hun,show polE m p k=8 from hpe.trans (if_pos (Or.inl d1))];exact if_pos (by decide)) (by decide));clear hun hpe hact hut;obtain ⟨qA0,fA0,lA0⟩:=A0.o.q3;go_wp2_with fail;go_ret2
    exact ⟨ResN.mk (OwN.nil _ _) E.o,X.o⟩
   by_cases d2:(ac.length:Int)≤pk
   ·have E:=kI (HE.o k hlt OK.o (c:=8) (by rw [hun,show polE m p k=8 from hpe.trans (if_pos (Or.inr d2))];exact if_pos (by decide)) (by decide));clear hun hpe hact hut;obtain ⟨qA0,fA0,lA0⟩:=A0.o.q3;go_wp2_with fail;go_ret2
    exact ⟨ResN.mk (OwN.nil _ _) E.o,X.o⟩
   rw [show polE m p k=0 from hpe.trans (if_neg (by omega))] at hun;replace hun:=hun.trans (if_neg (fun h=>h rfl));obtain ⟨ia,ha⟩:∃ n:Nat,pk=n:=⟨pk.toNat,by omega⟩;subst ha;rw [Int.toNat_natCast] at hun hact hut;have hal2:ia < ac.length:=by omega
   obtain ⟨ab,ao,p1,e1,p2,e2,p3,e3,rfl,zz⟩:=RA.o.at hal2;have hrd:=zz.rd;obtain ⟨⟨y0,y1,y2,y3,-⟩,y4,-⟩:=zz;have hsc:=fun W mv vv xv (h:RdM W mv m) (g:RdRs W vv vals) (hx:RdAct W xv (m.act k ia))=>HSC.o W mv vv xv k ia h g hx H1.o hks (by rw [← HAC.o];exact hal2);obtain ⟨x,hxx⟩:=gN (m.act k ia);rw [← hxx] at hun hact hut hsc;rw [← hact] at y1 y2 y3 y4 hrd;obtain ⟨R,hR⟩:=gN (scoreS m vals x);rw [← hR] at hun hut hsc;obtain ⟨r,e⟩:=R;unfold ResR at hsc;dsimp only at hun hut hsc;have HSC2:=kI hsc;have HUN:=kI hun;have HUT2:=kI hut;have RX:=kI hrd;have q4:(0:Int)≤(ia:Int):=by omega
   have q5:(ia:Int) < (ac.length:Int):=by omega
   clear hpe hun hact hut hsc hrd hxx hR hal2 HAC HSC;obtain ⟨qA0,fA0,lA0⟩:=A0.o.q3;go_wp2_with fail;clear qA0 fA0 lA0;refine wp_region_each_float 15 13 (mduJ An (.agg #[.bool m.disc.neg,.slice m1 m.disc.num.length n1,.slice m2 m.disc.den.length n2,.slice (some ⟨sb,so,none⟩) m.states.length n3]) (.slice av vals.length cv) (.slice (some ⟨sb,so,none⟩) m.states.length n3) (.slice (some ⟨ab,ao,none⟩) ac.length ci) (.agg #[.bool x.cost.neg,.slice p1 x.cost.num.length e1,.slice p2 x.cost.den.length e2,.slice p3 x.next.length e3]) k ia sb so ab ao r e wk) rfl (by kernel_rfl) (by kernel_rfl) (by kernel_rfl) (fun _ _ _ _ h x=>mduJ_ext h x) (fun _ _ d _ _ h=>by cases d <;> exact h) ?_ ?_ ?_
   ·refine ⟨?_,?_,?_,?_,?_,?_,?_,?_,?_,?_,?_,?_,?_,?_,?_,trivial⟩
    ·intro a W hW hB hD K hK;have b3:=hB 3 rfl;simp only [sB] at b3;have q9:=(A0.o.ext hW).cell;have l9:=(A0.o.ext hW).lt;go_simp;exact hK _ _ (Ext.refl _) rfl
    ·intro a W hW hB hD K hK;have b2:=hB 2 rfl;simp only [sB] at b2;go_simp;exact hK _ _ (Ext.refl _) rfl
    ·intro a W hW hB hD K hK;have b3:=hB 3 rfl;simp only [sB] at b3;go_simp;exact hK _ _ (Ext.refl _) rfl
    ·intro a W hW hB hD K hK;obtain ⟨v49,e49,h49⟩:=dpE (hD 2 _ 49 rfl rfl (by kernel_rfl));obtain rfl:=h49;have q9:=(A0.o.ext hW).cell;have l9:=(A0.o.ext hW).lt;go_simp;exact hK _ _ (Ext.refl _) rfl
    ·intro a W hW hB hD K hK;have b9:=hB 9 rfl;simp only [sB] at b9;go_simp;exact hK _ _ (Ext.refl _) rfl
    ·intro a W hW hB hD K hK;obtain ⟨v50,e50,h50⟩:=dpE (hD 3 _ 50 rfl rfl (by kernel_rfl));obtain rfl:=h50;obtain ⟨v51,e51,h51⟩:=dpE (hD 4 _ 51 rfl rfl (by kernel_rfl));obtain rfl:=h51;go_simp;exact hK _ _ (Ext.refl _) rfl
    ·intro a W hW hB hD K hK;obtain ⟨v52,e52,h52⟩:=dpE (hD 5 _ 52 rfl rfl (by kernel_rfl));obtain rfl:=h52;have q9:=(hW.cell (p:=⟨sb,so+k,none⟩) t0).trans t1;have l9:=Nat.lt_of_lt_of_le t0 hW.size;go_simp;exact hK _ _ (Ext.refl _) rfl
    ·intro a W hW hB hD K hK;have b10:=hB 10 rfl;simp only [sB] at b10;go_simp;exact hK _ _ (Ext.refl _) rfl
    ·intro a W hW hB hD K hK;obtain ⟨v53,e53,h53⟩:=dpE (hD 6 _ 53 rfl rfl (by kernel_rfl));obtain rfl:=h53;obtain ⟨v54,e54,h54⟩:=dpE (hD 7 _ 54 rfl rfl (by kernel_rfl));obtain rfl:=h54;go_simp;exact hK _ _ (Ext.refl _) rfl
    ·intro a W hW hB hD K hK;obtain ⟨v55,e55,h55⟩:=dpE (hD 8 _ 55 rfl rfl (by kernel_rfl));obtain rfl:=h55;have k1:=(hW.cell (p:=⟨ab,ao+ia*4,none⟩) y0).trans y1;have k2:=(hW.cell (p:=⟨ab,ao+ia*4+1,none⟩) y0).trans y2;have k3:=(hW.cell (p:=⟨ab,ao+ia*4+2,none⟩) y0).trans y3;have k4:=(hW.cell (p:=⟨ab,ao+ia*4+3,none⟩) y0).trans y4;have l9:=Nat.lt_of_lt_of_le y0 hW.size;go_simp;exact hK _ _ (Ext.refl _) rfl
    ·intro a W hW hB hD K hK;obtain ⟨v47,e47,h47⟩:=dpE (hD 0 _ 47 rfl rfl (by kernel_rfl));obtain rfl:=h47;obtain ⟨v48,e48,h48⟩:=dpE (hD 1 _ 48 rfl rfl (by kernel_rfl));obtain rfl:=h48;obtain ⟨v56,e56,h56⟩:=dpE (hD 9 _ 56 rfl rfl (by kernel_rfl));obtain rfl:=h56;go_simp;refine (HSC2.o _ _ _ _ (HM.o.ext hW) (HV.o.ext hW) (RX.o.ext hW)).mono ?_;rintro e9 w9 ⟨⟨v,rfl,nn⟩,hx⟩;obtain ⟨s1,s2,s3,s4,rfl⟩:=nn.shape;exact hK _ _ hx ⟨_,_,_,_,rfl,nn.from hW⟩
    ·intro a W hW hB hD K hK;obtain ⟨v57,e57,h57⟩:=dpE (hD 10 _ 57 rfl rfl (by kernel_rfl));obtain ⟨s1,s2,s3,s4,rfl,hn⟩:=h57;go_simp;exact hK _ _ (Ext.refl _) ⟨_,_,_,_,rfl,hn⟩
    ·intro a W hW hB hD K hK;obtain ⟨v46,e46,h46⟩:=dpE (hD 11 _ 46 rfl rfl (by kernel_rfl));obtain ⟨s1,s2,s3,s4,rfl,hn⟩:=h46;go_simp;exact hK _ _ (Ext.refl _) ⟨_,_,_,_,rfl,hn⟩
    ·intro a W hW hB hD K hK;obtain ⟨v46,e46,h46⟩:=dpE (hD 11 _ 46 rfl rfl (by kernel_rfl));obtain ⟨s1,s2,s3,s4,rfl,hn⟩:=h46;go_simp;exact hK _ _ (Ext.refl _) rfl
    ·intro a W hW hB hD K hK;go_simp;exact hK _ _ ((Ext.refl _).alloc _) ⟨_,rfl,hW.size,Blk.new _ _ _⟩
   ·intro a W hW hB hD;have h46:=hD 11 _ 46 rfl rfl (by kernel_rfl);obtain ⟨v46,e46⟩:∃ x,a.tmps.getD 46 undef=x:=⟨_,rfl⟩;rw [e46] at h46;obtain ⟨s1,s2,s3,s4,rfl,hn⟩:=h46;exact ⟨.int .i64 e,fun w9=>run_extract9 e46 rfl rfl w9,rfl⟩
   intro w9 hx;simp only [Vals,List.take_succ_cons,List.take_zero,List.drop_succ_cons,List.drop_zero];rintro u0 - u1 - u2 - u3 - u4 - u5 - u6 - u7 - u8 - u9 - u10 - u11 - u12 h12 u13 h13 u14 h14;obtain ⟨x1,x2,x3,x4,rfl,hn⟩:=h12;obtain rfl:u13=.int .i64 e:=h13;obtain ⟨bn,rfl,hbn,hbz⟩:=h14;simp only [Act.put,List.setIfInBounds_toArray,List.set_cons_zero,List.set_cons_succ];have NN:=kI hn;have HBN:=kI hbn;have BZ:=kI hbz;replace OW:=kI (OwN.ext' OW.o hx);replace XK:=kI (XK.o.trans hx);replace HM:=kI (HM.o.ext hx);replace HP:=kI (HP.o.ext hx);replace HV:=kI (HV.o.ext hx);replace HST:=kI (HST.o.ext hx);replace A0:=kI (A0.o.ext hx);replace X:=kI (X.o.trans hx);clear hx hn hbn hbz t0 t1 s1 s2 y0 y1 y2 y3 y4 RX RA;obtain ⟨qBZ,fBZ,lBZ⟩:=BZ.o.q3;by_cases he:e=0
   rotate_left
   ·have E:=kI (HE.o k hlt OK.o HUN.o he);have q6:(e != 0)=true:=by simpa using he
    have XW:Hid (w.heap.size≤bn):=kI (Nat.le_trans XS.o HBN.o);clear he;go_wp2_with fail;go_ret2
    exact ⟨ResN.mk (OwN.nil _ _) E.o,ext_put3 (o:=0) X.o XW.o⟩
   subst he;have hp:=Put3.of (q:=r.neg) (a1:=x1) (n1:=r.num.length) (c1:=x2) (a2:=x3) (n2:=r.den.length) (c2:=x4) (o:=0) BZ.o noU_3;have hb1:Blk (((w9.setCell ⟨bn,0,none⟩ (.bool r.neg)).setCell ⟨bn,1,none⟩ (.slice x1 r.num.length x2)).setCell ⟨bn,2,none⟩ (.slice x3 r.den.length x4)) bn #[.bool r.neg,.slice x1 r.num.length x2,.slice x3 r.den.length x4] 25:=BZ.o.all3 _ _ _;have hn1:NewR wk (((w9.setCell ⟨bn,0,none⟩ (.bool r.neg)).setCell ⟨bn,1,none⟩ (.slice x1 r.num.length x2)).setCell ⟨bn,2,none⟩ (.slice x3 r.den.length x4)) (.agg #[.bool r.neg,.slice x1 r.num.length x2,.slice x3 r.den.length x4]) r:=NN.o.set3b BZ.o (by decide) _ _ _;have hxk:Ext wl (((w9.setCell ⟨bn,0,none⟩ (.bool r.neg)).setCell ⟨bn,1,none⟩ (.slice x1 r.num.length x2)).setCell ⟨bn,2,none⟩ (.slice x3 r.den.length x4)):=ext_put3 (o:=0) XK.o (Nat.le_trans XL.o HBN.o);have how:=owN_put3 (o:=0) (x:=.bool r.neg) (y:=.slice x1 r.num.length x2) (z:=.slice x3 r.den.length x4) OW.o BZ.o (OBL.o bn HBN.o);have hOK:∀ j,j < k+1→unE m p vals j=0:=fun j hj=>by
    by_cases e:j=k
    ·rw [e];exact HUN.o
    ·exact OK.o j (by omega)
   have OK2:=kI hOK;have B2:=kI hb1;have N2:=kI hn1;have XK2:=kI hxk;have OW2:=kI how;clear hp hb1 hn1 hxk how hOK;have hlk:((unV m p vals).take k).length=k:=by rw [List.length_take,HUL.o];omega
   have HLK:=kI hlk;have HP2:=kI (show p.length≤200 from P200.o);clear hlk;have HE2:=kI (ElN.new N2.o XL.o);go_wp2_with (at_builtin;(refine wpList_append_row (((w9.setCell ⟨bn,0,none⟩ (.bool r.neg)).setCell ⟨bn,1,none⟩ (.slice x1 r.num.length x2)).setCell ⟨bn,2,none⟩ (.slice x3 r.den.length x4)) rfl _ _ 32 rfl wl.heap.size 25 (.agg #[.bool false,.slice none 0 0,.slice none 0 0]) 3 56 Try.underlying32 Try.infoR rfl (by decide) (ElN.keeps (by decide)) _ _ OW2.o rfl [.bool r.neg,.slice x1 r.num.length x2,.slice x3 r.den.length x4] rfl (by simp [Value.oneCell']) r HE2.o (by rw [World.size_setCell,World.size_setCell,World.size_setCell];rfl) (by have:=HLK.o;have:=HP2.o;omega) (by have:=HLK.o;have:=HP2.o;omega) XK2.o.size ?_))
   intro g9 cap9 w10 hown hkp;have O3:=kI hown;have X3:=kI (Below.trans XK2.o (hkp.below XK2.o.size));clear hown hkp;clear qBZ fBZ lBZ;go_wp2_with fail;go_roundw
   case rel=>exact ⟨k+1,by omega,by go_num,OK2.o,by rw [HUT2.o];exact O3.o,X3.o⟩
   case measure=>simp [intOf];omega
  ·obtain rfl:k=p.length:=by omega
   have q1:¬ (p.length:Int) < (p.length:Int):=by omega
   have hE:=HI.o OK.o;have hte:(unV m p vals).take p.length=unV m p vals:=List.take_of_length_le (by rw [HUL.o];exact Nat.le_refl _);rw [hte] at OW;have OWX:=kI (OW.o.mono WL.o);have E:=kI hE;clear hE hte;go_wp2_with fail;go_ret2
   exact ⟨ResN.mk OWX.o E.o,X.o⟩
section
variable {P:Program} {ops:Array Oper} {Q:Exit→Act→List Frame→World→Prop} {a:Act} {cs:List Frame} {w:World}
theorem wpS_region_draw {id:Nat} (h:∀ t,wpOpsS P ops Q (Region.schedule (P.follows .mixedOrders) ops t) a cs { w with drawn:=w.drawn+1 }):(Code.region id ops true).wpS P Q a cs w:=
 fun b k hb hr=>let ⟨e,a',cs',w',q,r⟩:=wp_opsS _ a cs _ (h _) b k hb hr;⟨e,a',cs',w',q,.of_steps (.one step_region_draw) r⟩
theorem lin_step {fuel t i:Nat} {listed:Array Bool} {acc r:List Nat} (hr:Region.ready .any ops listed=r) (hi:r[t % r.length]?=some i) :
  Region.linearise.go .any ops (fuel+1) t listed acc=Region.linearise.go .any ops fuel (t / r.length) (listed.setIfInBounds i true) (i :: acc):=by
 subst hr;simp only [Region.linearise.go];change (match (Region.ready .any ops listed)[t % (Region.ready .any ops listed).length]? with
  | some i=>Region.linearise.go .any ops fuel (t / (Region.ready .any ops listed).length) (listed.setIfInBounds i true) (i :: acc)
  | none=>acc.reverse)=_
 rw [hi]
theorem sched4 (h0:Region.ready .any ops #[false,false,false,false]=[0,1]) (h1:Region.ready .any ops #[true,false,false,false]=[1]) (h2:Region.ready .any ops #[false,true,false,false]=[0])
  (h3:Region.ready .any ops #[true,true,false,false]=[2]) (h4:Region.ready .any ops #[true,true,true,false]=[3]) (hs:ops.size=4) (t:Nat) :
  Region.linearise.go .any ops ops.size t (Array.replicate ops.size false) []=[0,1,2,3]∨Region.linearise.go .any ops ops.size t (Array.replicate ops.size false) []=[1,0,2,3]:=by
 rw [hs];have e0:(Array.replicate 4 false)=#[false,false,false,false]:=rfl;rw [e0];have hm:t % 2=0∨t % 2=1:=by omega
 have s1:∀ n,n % 1=0:=fun n=>Nat.mod_one n;rcases hm with hm|hm
 ·left;rw [lin_step h0 (i:=0) (by simp [hm]),show (#[false,false,false,false]:Array Bool).setIfInBounds 0 true=#[true,false,false,false] from rfl,
   lin_step h1 (i:=1) (by simp [s1]),show (#[true,false,false,false]:Array Bool).setIfInBounds 1 true=#[true,true,false,false] from rfl,
   lin_step h3 (i:=2) (by simp [s1]),show (#[true,true,false,false]:Array Bool).setIfInBounds 2 true=#[true,true,true,false] from rfl,
   lin_step h4 (i:=3) (by simp [s1])]
  rfl
 ·right;rw [lin_step h0 (i:=1) (by simp [hm]),show (#[false,false,false,false]:Array Bool).setIfInBounds 1 true=#[false,true,false,false] from rfl,
   lin_step h2 (i:=0) (by simp [s1]),show (#[false,true,false,false]:Array Bool).setIfInBounds 0 true=#[true,true,false,false] from rfl,
   lin_step h3 (i:=2) (by simp [s1]),show (#[true,true,false,false]:Array Bool).setIfInBounds 2 true=#[true,true,true,false] from rfl,
   lin_step h4 (i:=3) (by simp [s1])]
  rfl
theorem wpS_region_rec {id:Nat} (hm:P.follows .mixedOrders=true) (h0:Region.ready .any ops #[false,false,false,false]=[0,1]) (h1:Region.ready .any ops #[true,false,false,false]=[1]) (h2:Region.ready .any ops #[false,true,false,false]=[0])
  (h3:Region.ready .any ops #[true,true,false,false]=[2]) (h4:Region.ready .any ops #[true,true,true,false]=[3]) (hs:ops.size=4)
  (g1:wpOpsS P ops Q [0,1,2,3] a cs w.drew) (g2:wpOpsS P ops Q [1,0,2,3] a cs w.drew):(Code.region id ops true).wpS P Q a cs w:=by
 refine wpS_region_draw fun t=>?_;simp only [Region.schedule,hm,Bool.true_or,if_true];have hd:{ w with drawn:=w.drawn+1 }=w.drew:=rfl;rw [hd];rcases sched4 h0 h1 h2 h3 h4 hs t with h|h
 ·rw [show Region.linearise .any ops t=Region.linearise.go .any ops ops.size t (Array.replicate ops.size false) [] from rfl,h];exact g1
 ·rw [show Region.linearise .any ops t=Region.linearise.go .any ops ops.size t (Array.replicate ops.size false) [] from rfl,h];exact g2
end
def errP (c:Int):PanicEntry:={ v:=.iface 33 (.int .i64 c),recovered:=false }
theorem bodyPost_panic {P:Program} {fn:Func} {R:Ending→World→Prop} {ch:List PanicEntry} {a:Act} {w:World} (hd:a.defers=[]) (h:R (.panicked ch) w):bodyPost P fn R (.panic ch) a w:=⟨hd,h⟩
theorem must_any (c:Int) (w:World):Calls Try.prog 62 #[.int .i64 c] w fun e w'=>e=(if c=0 then .returned (.tuple #[]) else .panicked [errP c])∧w'=w:=by
 by_cases h:c=0
 ·subst h;go_enter Try.func62,Try.ntmps62
  go_wp2
  go_end0
  exact ⟨rfl,rfl⟩
 ·have q1:(c != 0)=true:=by simpa using h
  rw [if_neg h];go_enter Try.func62,Try.ntmps62
  go_wp2
  exact bodyPost_panic rfl ⟨rfl,rfl⟩
theorem caught_nil (e:Int) (w:World):Calls Try.prog 60 #[.nilIface,.int .i64 e] w fun en w'=>en=.returned (.int .i64 e)∧w'=w:=by
 go_enter Try.func60,Try.ntmps60
 go_wp2
 go_ret;exact ⟨rfl,rfl⟩
theorem caught_err (c e:Int) (w:World):Calls Try.prog 60 #[.iface 33 (.int .i64 c),.int .i64 e] w fun en w'=>en=.returned (.int .i64 c)∧w'=w:=by
 have hta:∀ w,(Instr.typeAssert (.iface 33 (.int .i64 c)) 20 33 true).run Try.prog w=.ok (.tuple #[.int .i64 c,.bool true]) w:=fun _=>by first|rfl|kernel_rfl
 go_enter Try.func60,Try.ntmps60
 go_wp2
 go_ret;exact ⟨rfl,rfl⟩
end
section
theorem callsDW_of_wpS {P:Program} {n:Nat} {f:FuncId} {fn:Func} {c:Code} {args:Array Value} {u:FrameMode} {w:World} {R:Ending→FrameMode→World→Prop}
  (hf:P.funcs[f]?=some fn) (hb:fn.body=some c)
  (h:∀ (c₀:Frame) (cs:List Frame),c₀.mode=u→
   c.wpS P (bodyPostS P fn c₀ cs R) { tmps:=args ++ Array.replicate (fn.ntmps - args.size) undef,defers:=[] } (c₀ :: cs) w) :
  CallsDIn Fence.wide n P f args u w R:=by
 refine ⟨trivial,fun c₀ cs hu _=>?_⟩;let b:Frame:={ (default:Frame) with fn:=f,kind:=.deferred }
 have henter:Frame.enter P f args .deferred =
   b.at { tmps:=args ++ Array.replicate (fn.ntmps - args.size) undef,defers:=[] } [.code c]:=by
  simp [Frame.enter,Frame.at,hf,hb,b]
 obtain ⟨e,a',cs',w',hq,harr⟩:=h c₀ cs hu b [] rfl rfl;rw [← henter] at harr;cases e with
 | normal=>
  obtain ⟨hd,u',rfl,v,hr,hR⟩:=hq;exact ⟨.returned v,u',w',_,hR,comesIn_wide.2 (Steps.trans harr (.one step_end)),rfl,rfl,rfl,hd,fn,hf,hr⟩
 | ret=>
  obtain ⟨hd,u',rfl,v,hr,hR⟩:=hq;obtain ⟨todo,hs⟩:=harr;exact ⟨.returned v,u',w',_,hR,comesIn_wide.2 hs,rfl,rfl,rfl,hd,fn,hf,hr⟩
 | panic chain=>
  obtain ⟨hd,u',rfl,hR⟩:=hq;obtain ⟨todo,hs⟩:=harr;exact ⟨.panicked chain,u',w',_,hR,comesIn_wide.2 hs,rfl,rfl,rfl,hd,fn,hf⟩
 | exit id=>exact hq.elim
 | goto l=>exact hq.elim
 | outgrown=>
  obtain ⟨u',hR⟩:=hq;exact ⟨.outgrown,u',w',b,hR,comesIn_wide.2 (harr.resolve_left (by simp [b])),rfl,rfl,trivial⟩
theorem callsD_of_W {P:Program} {n:Nat} {f:FuncId} {args:Array Value} {u:FrameMode} {w:World} {R:Ending→FrameMode→World→Prop} (h:CallsDIn Fence.wide n P f args u w R):CallsD P f args u w R:=
 fun c cs hu=>let ⟨e,u',w',fr,r,s,k,_,g⟩:=h.2 c cs hu (room_wide _);⟨e,u',w',fr,r,comesIn_wide.1 s,k,g⟩
section
variable {P:Program} {fn:Func} {R:Ending→World→Prop} {n:Nat}
theorem leavesM_tmps {tmps tmps':Array Value} (h:results fn tmps=results fn tmps'):∀ (ds:List Deferred) (u:FrameMode) (w:World),LeavesInM Fence.wide n P fn tmps R ds u w→LeavesInM Fence.wide n P fn tmps' R ds u w
 | [],u,w,hl=>by
  cases u with
  | run=>exact hl
  | returning=>obtain ⟨v,h1,h2⟩:=hl;exact ⟨v,h ▸ h1,h2⟩
  | panicking ch=>exact hl
 | d :: ds,u,w,hl=>by
  obtain ⟨hu,hl⟩:=hl;refine ⟨hu,?_⟩;rcases hl with ⟨r,w',h1,h2,h3⟩|⟨hn,fv,cap,f,args,h1,h2,h3,h4⟩
  ·exact .inl ⟨r,w',h1,h2,leavesM_tmps h ds u w' h3⟩
  ·refine .inr ⟨hn,fv,cap,f,args,h1,h2,h3,h4.mono ?_⟩;intro e u' w' he;cases e with
   | returned v=>exact leavesM_tmps h ds _ _ he
   | panicked ch=>exact leavesM_tmps h ds _ _ he
   | outgrown=>exact he
theorem leavesM_mark {tmps:Array Value} {ds:List Deferred} {u:FrameMode} {w:World} {r:Nat} (hu:u≠.run) (hk:w.heap[r]?=some (.deferred (some []))) (h:LeavesInM Fence.wide n P fn tmps R ds u (w.putObj r (.deferred none))) :
  LeavesInM Fence.wide n P fn tmps R ({ target:=.collected r,args:=#[] } :: ds) u w:=⟨hu,.inl ⟨r,_,rfl,run_takeDeferred hk,h⟩⟩
theorem leavesM_fn {tmps:Array Value} {fv:Fn} {cap dargs:Array Value} {ds:List Deferred} {u:FrameMode} {w:World} {f:FuncId} {args:Array Value} (hu:u≠.run) (hinv:(invoke (.fn fv cap) dargs).run P w=.ok (.enter f args) w)
  (h:CallsDIn Fence.wide (n - 1) P f args u w fun e u' w'=>match e with
   | .returned _=>LeavesInM Fence.wide n P fn tmps R ds (settle u') w'
   | .panicked chain=>LeavesInM Fence.wide n P fn tmps R ds (raised u' chain) w'
   | .outgrown=>R .outgrown w'):LeavesInM Fence.wide n P fn tmps R ({ target:=.fn fv cap,args:=dargs } :: ds) u w:=
 ⟨hu,.inr ⟨(fun h=>(by cases h)),fv,cap,f,args,rfl,hinv,fun _ _=>trivial,h.mono (fun e u' w' he=>by cases e <;> exact he)⟩⟩
theorem putObj_blk {w:World} {r:Nat} {o o2:Obj} (hk:w.heap[r]?=some o) (ho:∀ c t,o≠.cells c t):∀ (i:Nat) (c:Array Value) (t:TypeId),Blk w i c t→Blk (w.putObj r o2) i c t:=fun i c t b=>by
 have e:i≠r:=fun e=>by subst e;unfold Blk at b;rw [b] at hk;injection hk with hk;exact ho c t hk.symm
 exact (World.putObj_heap_other e).trans b
theorem putObj_ext {w0 w:World} {r:Nat} {o:Obj} (h:Ext w0 w) (hr:w0.heap.size≤r):Ext w0 (w.putObj r o):=
 ⟨h.os,h.tape,h.output,by have:=h.size;simpa using this,fun i hi=>(World.putObj_heap_other (by omega)).trans (h.block i hi)⟩
end
end
theorem stagesDefW_ret {nn:Nat} (be b1 b2:Nat) (w:World) (hbe:Blk w be #[.int .i64 0] 33) :
  CallsDIn Fence.wide nn Try.prog 59 #[.pointer (some ⟨be,0,none⟩),.pointer (some ⟨b1,0,none⟩),.pointer (some ⟨b2,0,none⟩)] .returning w fun e u' w'=>e=.returned (.tuple #[])∧u'=.returning∧w'=(w.setCell ⟨be,0,none⟩ (.int .i64 0)).drew:=by
 have he:=(hbe.cell 0);have hz:=hbe.free 0;simp only [List.getElem?_toArray,List.getElem?_cons_zero] at he;refine callsDW_of_wpS Try.func59 rfl fun c₀ cs hu=>?_;apply wpS_seq;refine wpS_region_rec (by kernel_rfl) (by kernel_rfl) (by kernel_rfl) (by kernel_rfl) (by kernel_rfl) (by kernel_rfl) rfl ?_ ?_;all_goals
  simp [wpOpsS,go_sem,recoverD,hu,Try.ntmps59,Exit.thenS,he,hz];refine (caught_nil 0 _).mono ?_;rintro e w1 ⟨rfl,rfl⟩;simp [wpOpsS,go_sem,recoverD,hu,Try.ntmps59,Exit.thenS,he,hz];refine wpS_of_wp ?_;go_wp2
  simp [bodyPostS,results,Try.results59,go_sem] <;> (cases c₀;simp_all)
theorem stagesDefW_err {nn:Nat} (be b1 b2:Nat) (c e0:Int) (hc:c≠0) (older:List PanicEntry) (w:World) (xb1 xb2:Value) (tb1 tb2:TypeId) (hbe:Blk w be #[.int .i64 e0] 33) (hb1:Blk w b1 #[xb1] tb1) (nb1:b1≠be) (hb2:Blk w b2 #[xb2] tb2) (nb2:b2≠be) (n12:b2≠b1) :
  CallsDIn Fence.wide nn Try.prog 59 #[.pointer (some ⟨be,0,none⟩),.pointer (some ⟨b1,0,none⟩),.pointer (some ⟨b2,0,none⟩)] (.panicking (errP c :: older)) w fun e u' w'=>e=.returned (.tuple #[])∧u'=.panicking ({ errP c with recovered:=true } :: older)∧w'=(((w.setCell ⟨be,0,none⟩ (.int .i64 c)).setCell ⟨b1,0,none⟩ (.slice none 0 0)).setCell ⟨b2,0,none⟩ (.slice none 0 0)).drew:=by
 have q1:(c != 0)=true:=by simpa using hc
 unfold errP;have he:=(hbe.cell 0);have hz:=hbe.free 0;simp only [List.getElem?_toArray,List.getElem?_cons_zero] at he;have kb1:=hb1.cell 0;have zb1:=hb1.free 0;have kb2:=hb2.cell 0;have zb2:=hb2.free 0;simp only [List.getElem?_toArray,List.getElem?_cons_zero] at kb1 kb2;refine callsDW_of_wpS Try.func59 rfl fun c₀ cs hu=>?_;apply wpS_seq;refine wpS_region_rec (by kernel_rfl) (by kernel_rfl) (by kernel_rfl) (by kernel_rfl) (by kernel_rfl) (by kernel_rfl) rfl ?_ ?_;all_goals
  simp [wpOpsS,go_sem,recoverD,hu,Try.ntmps59,Exit.thenS,he,hz];refine (caught_err c e0 _).mono ?_;rintro e w1 ⟨rfl,rfl⟩;simp [wpOpsS,go_sem,recoverD,hu,Try.ntmps59,Exit.thenS,he,hz];refine wpS_of_wp ?_;go_wp2
  simp [bodyPostS,results,Try.results59,go_sem] <;> (cases c₀;simp_all)
theorem must_ok (w:World):Calls Try.prog 62 #[.int .i64 0] w fun e w'=>e=.returned (.tuple #[])∧w'=w:=must_any 0 w
theorem must_bad {c:Int} (hc:c≠0) (w:World):Calls Try.prog 62 #[.int .i64 c] w fun e w'=>e=.panicked [errP c]∧w'=w:=by
 have:=must_any c w;rwa [if_neg hc] at this
def EndN (B:Nat) (w':World) (e:Ending) (c:Int) (l:List RR):Prop:=if c=0 then (∃ v',e=.returned v'∧OwN B w' v' l) else e=.panicked [errP c]
theorem EndN.ok {B:Nat} {w':World} {c:Int} {l:List RR} {v:Value} (h:c=0) (o:OwN B w' v l):EndN B w' (.returned v) c l:=by unfold EndN;rw [if_pos h];exact ⟨v,rfl,o⟩
theorem EndN.bad {B:Nat} {w':World} {c d:Int} {l:List RR} (h:d≠0) (e:c=d):EndN B w' (.panicked [errP d]) c l:=by unfold EndN;rw [e,if_neg h]
theorem EndN.get0 {B:Nat} {w':World} {e:Ending} {l:List RR} (h:EndN B w' e 0 l):∃ v',e=.returned v'∧OwN B w' v' l:=by unfold EndN at h;rwa [if_pos rfl] at h
theorem EndN.getE {B:Nat} {w':World} {e:Ending} {c:Int} {l:List RR} (h:EndN B w' e c l) (hc:c≠0):e=.panicked [errP c]:=by unfold EndN at h;rwa [if_neg hc] at h
def LenL (l:List RR):Prop:=∀ i,i < l.length→(l.getD i zR).num.length≤1000000∧(l.getD i zR).den.length≤1000000
theorem start_any (mv vv:Value) (m:MD) (vals:List RR) (w:World) (hm:RdM w mv m) (hv:RdRs w vv vals) (hlm:LimM m) (hln:LenL vals) :
  Calls Try.prog 61 #[mv,vv] w fun e w'=>EndN w.heap.size w' e (mvE m vals) vals∧Ext w w':=by
 have hck:=fun W mv (h:RdM W mv m)=>mdCheck_any mv m W h hlm;have HM:=kI hm;have HV:=kI hv;have HLN:=kI hln;obtain ⟨m1,n1,m2,n2,m3,n3,rfl,hmd,hst⟩:=hm;have hsl:m.states.length≤9223372036854775807:=by obtain ⟨_,_,_,h⟩:=hst.shape;exact h
 obtain ⟨av,cv,rfl,hvc,hvm,fv,hvf⟩:=hv.get;have hvl:vals.length≤9223372036854775807:=by omega
 have hmv:mvE m vals=if mdE m≠0 then mdE m else if vals.length≠m.states.length then 16 else 0:=rfl;have hvd:=fun h=>(md_valid (m:=m) h).2.2.1;obtain ⟨c,hc⟩:=gN (mdE m);rw [← hc] at hck hmv hvd;have HCK:=kI hck;have HMV:=kI hmv;have HVD:=kI hvd;clear hv hmd hst hck hmv hvd hvc hvm hvf fv hc;have bb0:=(Blk.new w #[.bool m.disc.neg,.slice m1 m.disc.num.length n1,.slice m2 m.disc.den.length n2,.slice m3 m.states.length n3] 28);have x0:Ext w (w.alloc (.cells #[.bool m.disc.neg,.slice m1 m.disc.num.length n1,.slice m2 m.disc.den.length n2,.slice m3 m.states.length n3] 28)):=((Ext.refl w).alloc _);have A0:=kI bb0;have X:=kI x0;clear x0 bb0;replace HM:=kI (HM.o.ext X.o);replace HV:=kI (HV.o.ext X.o);go_enter Try.func61,Try.ntmps61
 obtain ⟨qA0,fA0,lA0⟩:=A0.o.q3;go_wp2_with fail;refine (HCK.o _ _ HM.o).mono ?_;rintro e w1 ⟨rfl,hx⟩;clear qA0 fA0 lA0;replace HM:=kI (HM.o.ext hx);replace HV:=kI (HV.o.ext hx);replace A0:=kI (A0.o.ext hx);replace X:=kI (X.o.trans hx);clear hx HCK;by_cases h1:c=0
 rotate_left
 ·have E:=kI (HMV.o.trans (if_pos h1));go_wp2_with fail;refine (must_bad h1 _).mono ?_;rintro e w9 ⟨rfl,rfl⟩;exact bodyPost_panic rfl ⟨EndN.bad h1 E.o,X.o⟩
 subst h1;go_wp2_with fail;refine (must_ok _).mono ?_;rintro e w9 ⟨rfl,rfl⟩;by_cases h2:vals.length=m.states.length
 rotate_left
 ·have E:=kI (show mvE m vals=16 by rw [HMV.o,if_neg (fun h=>h rfl),if_pos h2]);have q2:((vals.length:Int) != (m.states.length:Int))=true:=bne_iff_ne.2 (by omega);clear h2;obtain ⟨qA0,fA0,lA0⟩:=A0.o.q3;go_wp2_with fail;refine (must_bad (c:=16) (by decide) _).mono ?_;rintro e w8 ⟨rfl,rfl⟩;exact bodyPost_panic rfl ⟨EndN.bad (by decide) E.o,X.o⟩
 have E:=kI (show mvE m vals=0 by rw [HMV.o,if_neg (fun h=>h rfl),if_neg (fun h=>h h2)]);have q2:((vals.length:Int) != (m.states.length:Int))=false:=by rw [h2];simp
 have h200:=HVD.o (by first|trivial|rfl);have hn9:vals.length≤1000000:=by omega
 have HN9:=kI hn9;have XS:=kI X.o.size;clear h2 h200 hn9;obtain ⟨qA0,fA0,lA0⟩:=A0.o.q3;go_wp2_with fail;refine (own_any _ vals _ HV.o HN9.o HLN.o).mono ?_;rintro e w2 ⟨⟨v,rfl,ho⟩,hx⟩;clear qA0 fA0 lA0;replace HM:=kI (HM.o.ext hx);replace HV:=kI (HV.o.ext hx);replace A0:=kI (A0.o.ext hx);replace X:=kI (X.o.trans hx);have OW:=kI (ho.mono XS.o);clear ho hx;go_wp2_with fail;go_ret;exact ⟨EndN.ok E.o OW.o,X.o⟩
theorem unV_lim {m:MD} {p:List Int} {v:List RR}:LimL (unV m p v):=fun i hi=>by
 rw [unV_len] at hi;unfold unV;rw [List.getD_eq_getElem?_getD,List.getElem?_map,List.getElem?_range hi];exact score_lim _ _ _
theorem under_lim {m:MD} {p:List Int} {v:List RR}:LimL (underS m p v).1:=by
 unfold underS;split
 ·exact fun i hi=>by cases hi
 ·split
  ·exact fun i hi=>by cases hi
  ·split
   ·exact fun i hi=>by cases hi
   ·exact unV_lim
section
open Go.RowKit Go.ChangeShapes Go.WideShapes Go.ChangeAt Go.Deep
theorem list_of {α:Type} (d:α):∀ (n:Nat) (P:Nat→α→Prop),(∀ i,i < n→∃ x,P i x)→∃ l:List α,l.length=n∧∀ i,i < n→P i (l.getD i d)
 | 0,_,_=>⟨[],rfl,fun i h=>by omega⟩
 | n+1,P,h=>by
  obtain ⟨l,h1,h2⟩:=list_of d n P (fun i hi=>h i (by omega));obtain ⟨x,hx⟩:=h n (by omega);refine ⟨l ++ [x],by simp [h1],fun i hi=>?_⟩;by_cases e:i=n
  ·subst e;rw [List.getD_eq_getElem?_getD,List.getElem?_append_right (by omega),h1,Nat.sub_self];exact hx
  ·rw [List.getD_eq_getElem?_getD,List.getElem?_append_left (by omega),← List.getD_eq_getElem?_getD];exact h2 i (by omega)
theorem lstM2 {α:Type} {l:List α} (h:l.length=2):∃ a b,l=[a,b]:=by match l,h with|[a,b],_=>exact ⟨a,b,rfl⟩
theorem lstM4 {α:Type} {l:List α} (h:l.length=4):∃ a b c d,l=[a,b,c,d]:=by match l,h with|[a,b,c,d],_=>exact ⟨a,b,c,d,rfl⟩
theorem Try.cellsMI:Try.prog.cellsOf 3=1:=by kernel_rfl
theorem Try.cellsMO:Try.prog.cellsOf 79=4:=by kernel_rfl
theorem Try.cellsMOs:Try.prog.cellsOf 66=1:=by kernel_rfl
theorem Try.cellsMA:Try.prog.cellsOf 68=4:=by kernel_rfl
theorem Try.cellsMAs:Try.prog.cellsOf 57=1:=by kernel_rfl
theorem Try.cellsMAss:Try.prog.cellsOf 26=1:=by kernel_rfl
theorem Try.cellsMM:Try.prog.cellsOf 28=4:=by kernel_rfl
section
variable {H:Type} {enc:TypeId × Value→H} {w:World} {base:Nat} {spare:Nat→Bool} {held:Bool}
theorem intsM_of_trod {n:Nat} {cs:List Value} {x:DataW H × List MemPlace} (h:DataW.trod enc Try.prog w base spare held n 29 cs=some x):∃ v l,cs=[v]∧RdI .i64 w v l:=by
 obtain ⟨v',l,hcs,hr⟩:=rdN_of_trod (m:=1) (f:=fun x:Int=>[Value.int .i64 x]) Try.underlying29 Try.cellsMI (by omega) (fun _=>rfl)
  (fun n cs x hx=>by obtain ⟨a,e0,_⟩:=DataW.trod_int Try.underlying3 hx;exact ⟨a,e0⟩) h
 exact ⟨v',l,hcs,rd_of_rdN1 hr⟩
theorem trod_out {n:Nat} {cs:List Value} {x:DataW H × List MemPlace} (h:DataW.trod enc Try.prog w base spare held n 79 cs=some x) :
  ∃ (t:Int) (b:Bool) (v u:Value) (l m:List Int),cs=[.int .i64 t,.bool b,v,u]∧RdI .u32 w v l∧Lim l∧RdI .u32 w u m∧Lim m:=by
 obtain ⟨xs,m,_,_,hl,hx,hf⟩:=DataW.trod_struct Try.underlying79 h;obtain ⟨c0,c1,c2,c3,rfl⟩:=lstM4 (hl.trans Try.cellsMO);obtain ⟨y0,y1,rfl⟩:=lstM2 hx;have h0:=hf 0 _ rfl;have h1:=hf 1 _ rfl;simp [Try.cellsMI,Try.cellsR] at h0 h1;obtain ⟨t,e0,_⟩:=DataW.trod_int Try.underlying3 h0;obtain ⟨b,v,u,l,m,e1,k1,k2,k3,k4⟩:=trod_rat h1;simp at e0 e1;exact ⟨t,b,v,u,l,m,by rw [e0,e1.1,e1.2.1,e1.2.2],k1,k2,k3,k4⟩
theorem outs_of_trod {n:Nat} {cs:List Value} {x:DataW H × List MemPlace} (h:DataW.trod enc Try.prog w base spare held n 66 cs=some x):∃ v l,cs=[v]∧RdOs w v l∧∀ i,LimR (l.getD i dO).2:=by
 obtain ⟨a,len,cap,rfl,h1,h2,h3⟩:=rdG_of_trod (m:=4) (Pp:=fun cs=>∃ (t:Int) (b:Bool) (v u:Value) (l m:List Int),cs=[.int .i64 t,.bool b,v,u]∧RdI .u32 w v l∧Lim l∧RdI .u32 w u m∧Lim m) Try.underlying66 Try.cellsMO (by omega)
  (fun n cs x hx=>by
   refine ⟨trod_out hx,?_⟩;obtain ⟨t,b,v,u,l,m,e,_⟩:=trod_out hx;rw [e];rfl) h
 obtain ⟨g,hg,hP⟩:=list_of dO len (fun i c=>(∃ b off a1 c1 a2 c2,a=some ⟨b,off,none⟩∧OutAt w b (off+i*4) c a1 c1 a2 c2)∧LimR c.2) (fun i hi=>by
  obtain ⟨b,off,es,e1,e2,⟨t,bb,v,u,l,m,e3,e4,e5,e6,e7⟩,_,e9⟩:=h3 i hi;obtain ⟨a1,c1,rfl⟩:=rdU_shape e4;obtain ⟨a2,c2,rfl⟩:=rdU_shape e6;subst e3;exact ⟨(t,⟨bb,l,m⟩),⟨b,off,a1,c1,a2,c2,e1,e2,e9 0 (by omega),e9 1 (by omega),e9 2 (by omega),e9 3 (by omega),⟨_,_,rfl,e4,e6⟩⟩,e5,e7⟩)
 refine ⟨_,g,rfl,⟨a,cap,by rw [hg],by omega,h2,fun i hi=>(hP i (by omega)).1⟩,fun i=>?_⟩;by_cases hi:i < len
 ·exact (hP i hi).2
 ·rw [List.getD_eq_getElem?_getD,List.getElem?_eq_none (by omega)];exact zR_lim
theorem trod_act {n:Nat} {cs:List Value} {x:DataW H × List MemPlace} (h:DataW.trod enc Try.prog w base spare held n 68 cs=some x) :
  ∃ (b:Bool) (v u o:Value) (l m:List Int) (os:List Out),cs=[.bool b,v,u,o]∧RdI .u32 w v l∧Lim l∧RdI .u32 w u m∧Lim m∧RdOs w o os∧∀ i,LimR (os.getD i dO).2:=by
 obtain ⟨xs,m,_,_,hl,hx,hf⟩:=DataW.trod_struct Try.underlying68 h;obtain ⟨c0,c1,c2,c3,rfl⟩:=lstM4 (hl.trans Try.cellsMA);obtain ⟨y0,y1,rfl⟩:=lstM2 hx;have h0:=hf 0 _ rfl;have h1:=hf 1 _ rfl;simp [Try.cellsMOs,Try.cellsR] at h0 h1;obtain ⟨b,v,u,l,m,e0,k1,k2,k3,k4⟩:=trod_rat h0;obtain ⟨o,os,e1,k5,k6⟩:=outs_of_trod h1;simp at e0 e1;exact ⟨b,v,u,o,l,m,os,by rw [e0.1,e0.2.1,e0.2.2,e1],k1,k2,k3,k4,k5,k6⟩
theorem acts_of_trod {n:Nat} {cs:List Value} {x:DataW H × List MemPlace} (h:DataW.trod enc Try.prog w base spare held n 57 cs=some x):∃ v l,cs=[v]∧RdAs w v l∧∀ a,LimA (l.getD a dA):=by
 obtain ⟨a,len,cap,rfl,h1,h2,h3⟩:=rdG_of_trod (m:=4) (Pp:=fun cs=>∃ (b:Bool) (v u o:Value) (l m:List Int) (os:List Out),cs=[.bool b,v,u,o]∧RdI .u32 w v l∧Lim l∧RdI .u32 w u m∧Lim m∧RdOs w o os∧∀ i,LimR (os.getD i dO).2) Try.underlying57 Try.cellsMA (by omega)
  (fun n cs x hx=>by
   refine ⟨trod_act hx,?_⟩;obtain ⟨b,v,u,o,l,m,os,e,_⟩:=trod_act hx;rw [e];rfl) h
 obtain ⟨g,hg,hP⟩:=list_of dA len (fun i c=>(∃ b off a1 c1 a2 c2 a3 c3,a=some ⟨b,off,none⟩∧ActAt w b (off+i*4) c a1 c1 a2 c2 a3 c3)∧LimA c) (fun i hi=>by
  obtain ⟨b,off,es,e1,e2,⟨bb,v,u,o,l,m,os,e3,e4,e5,e6,e7,e8,e10⟩,_,e9⟩:=h3 i hi;obtain ⟨a1,c1,rfl⟩:=rdU_shape e4;obtain ⟨a2,c2,rfl⟩:=rdU_shape e6;obtain ⟨a3,c3,rfl,_⟩:=e8.shape;subst e3;exact ⟨⟨⟨bb,l,m⟩,os⟩,⟨b,off,a1,c1,a2,c2,a3,c3,e1,⟨e2,e9 0 (by omega),e9 1 (by omega),e9 2 (by omega),⟨_,_,rfl,e4,e6⟩⟩,e9 3 (by omega),e8⟩,⟨e5,e7⟩,e10⟩)
 refine ⟨_,g,rfl,⟨a,cap,by rw [hg],by omega,h2,fun i hi=>(hP i (by omega)).1⟩,fun i=>?_⟩;by_cases hi:i < len
 ·exact (hP i hi).2
 ·rw [List.getD_eq_getElem?_getD,List.getElem?_eq_none (by omega)];exact ⟨zR_lim,fun i=>by cases i <;> exact zR_lim⟩
theorem states_of_trod {n:Nat} {cs:List Value} {x:DataW H × List MemPlace} (h:DataW.trod enc Try.prog w base spare held n 26 cs=some x):∃ v g,cs=[v]∧RdSt w v g∧∀ s a,LimA ((g.getD s []).getD a dA):=by
 obtain ⟨a,len,cap,rfl,h1,h2,h3⟩:=rdG_of_trod (m:=1) (Pp:=fun cs=>∃ (v:Value) (l:List DAct),cs=[v]∧RdAs w v l∧∀ a,LimA (l.getD a dA)) Try.underlying26 Try.cellsMAs (by omega)
  (fun n cs x hx=>by
   obtain ⟨v,l,e,hr⟩:=acts_of_trod hx;exact ⟨⟨v,l,e,hr⟩,by rw [e];rfl⟩) h
 obtain ⟨g,hg,hP⟩:=list_of ([]:List DAct) len (fun i c=>(∃ b off ai ci,a=some ⟨b,off,none⟩∧StAt w b (off+i) c ai ci)∧∀ a,LimA (c.getD a dA)) (fun i hi=>by
  obtain ⟨b,off,es,e1,e2,⟨v,l,e3,e4,e5⟩,_,e6⟩:=h3 i hi;obtain ⟨ai,ci,rfl,_⟩:=e4.shape;subst e3;exact ⟨l,⟨b,off,ai,ci,e1,e2,by have:=e6 0 (by omega);simpa using this,e4⟩,e5⟩)
 refine ⟨_,g,rfl,⟨a,cap,by rw [hg],by omega,h2,fun i hi=>(hP i (by omega)).1⟩,fun s b=>?_⟩;by_cases hi:s < len
 ·exact (hP s hi).2 b
 ·rw [List.getD_eq_getElem?_getD (l:=g),List.getElem?_eq_none (by omega)];exact ⟨zR_lim,fun i=>by cases i <;> exact zR_lim⟩
/-- A process of the arguments. -/
theorem open_mdp {r:Reach} {b0:Nat} {v:Value} {d:DataW H} {p:List MemPlace} (hv:Value.okWide Try.prog w r b0 28 v) (h:DataW.Trod enc Try.prog w base spare held 28 v d p) :
  ∃ m:MD,RdM w v m∧LimM m:=by
 obtain ⟨cs,rfl,_⟩:=okWide_struct Try.underlying28 hv;obtain ⟨n,hf⟩:=h;obtain ⟨xs,m,_,_,hl,hx,hf⟩:=DataW.trod_struct Try.underlying28 hf;obtain ⟨c0,c1,c2,c3,hcs⟩:=lstM4 (hl.trans Try.cellsMM);obtain ⟨y0,y1,rfl⟩:=lstM2 hx;have h0:=hf 0 _ rfl;have h1:=hf 1 _ rfl;have hcs':cs.toList=[c0,c1,c2,c3]:=hcs;simp [Value.cells,hcs',Try.cellsMAss,Try.cellsR] at h0 h1;obtain ⟨b,v,u,l,m,e0,k1,k2,k3,k4⟩:=trod_rat h0;obtain ⟨o,g,e1,k5,k6⟩:=states_of_trod h1;simp at e0 e1;obtain ⟨a1,d1,rfl⟩:=rdU_shape k1;obtain ⟨a2,d2,rfl⟩:=rdU_shape k3;obtain ⟨a3,d3,rfl,_⟩:=k5.shape;refine ⟨⟨⟨b,l,m⟩,g⟩,⟨a1,d1,a2,d2,a3,d3,?_,⟨_,_,rfl,k1,k3⟩,k5⟩,⟨k2,k4⟩,k6⟩;rw [← Array.toArray_toList (xs:=cs),hcs',e0.1,e0.2.1,e0.2.2,e1]
end
end
end Go.Proofs.Ytnnjbaijcaiohaa
