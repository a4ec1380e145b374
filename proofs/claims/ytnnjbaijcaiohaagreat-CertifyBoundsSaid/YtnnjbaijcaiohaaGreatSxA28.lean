/- Walks and lemmas. -/
import Derived.Test.YtnnjbaijcaiohaaGreatSxA9
import Derived.Test.YtnnjbaijcaiohaaGreatSxA7
import Derived.Test.YtnnjbaijcaiohaaGreatSxA13
import Derived.WalkMore
import Derived.Test.YtnnjbaijcaiohaaGreatSxA24
import Derived.Test.YtnnjbaijcaiohaaGreatSxA22
import Derived.Test.YtnnjbaijcaiohaaGreatSxA26
import Derived.Test.YtnnjbaijcaiohaaGreatSxA27
set_option linter.unusedVariables false
set_option linter.unusedSimpArgs false
set_option maxRecDepth 100000
set_option maxHeartbeats 16000000
namespace Go.Proofs.YtnnjbaijcaiohaaGreat
open Go.RowKit
theorem wW (a0:Option Addr) (cap:Nat) (vs:List (Hd × Hd)) (w:World) (hs:vs.length≤1000)
  (h:∀ (i:Nat) (hi:i < vs.length),∃ b off,a0=some ⟨b,off,none⟩∧w.cell? ⟨b,off+i*3+1,none⟩=some (.slice (vs[i]).1.1 (vs[i]).1.2.1 (vs[i]).1.2.2)∧w.cell? ⟨b,off+i*3+2,none⟩=some (.slice (vs[i]).2.1 (vs[i]).2.2.1 (vs[i]).2.2.2)) :
  Calls Tryz.prog 101 #[.slice a0 vs.length cap] w fun e w'=>Lz vs e∧Ext w w':=by
 have H:=kI h;clear h;go_enter Tryz.func101,Tryz.ntmps101
 go_wp2_with fail;go_loopw [3,4,5] (fun i _ _ wr=>∃ k:Nat,k≤vs.length∧i=.int .i64 k∧Ext w wr∧(∃ n,wr=w.drewN n)∧Hid (∀ (i:Nat) (hi:i < vs.length),i < k→hM (vs[i]).1.2.1∧hM (vs[i]).2.2.1)) (fun i _ _ _=>vs.length - (intOf i).toNat)
 case atStart=>exact ⟨0,Nat.zero_le _,rfl,Ext.refl _,⟨0,rfl⟩,kI (fun i _ h=>by omega)⟩
 case round=>
  obtain ⟨k,hk,rfl,hx,⟨nd,rfl⟩,HK⟩:=hrel;by_cases hlt:k < vs.length
  ·obtain ⟨bq,oq,rfl,hc1,hc2⟩:=H.o k hlt;have q9:(0:Int)≤(k:Int):=by omega
   have hstep:hM (vs[k]).1.2.1→hM (vs[k]).2.2.1→Hid (∀ (i:Nat) (hi:i < vs.length),i < k+1→hM (vs[i]).1.2.1∧hM (vs[i]).2.2.1):=fun h1 h2=>kI (fun i hi hik=>by
    by_cases e:i=k
    ·subst e;exact ⟨h1,h2⟩
    ·exact HK.o i hi (by omega))
   obtain ⟨x,hxx⟩:=gN (vs[k]);rw [← hxx] at hc1 hc2 hstep;obtain ⟨⟨a,n,c⟩,a2,m,c2⟩:=x;clear hxx;dsimp only at hc1 hc2 hstep;have HS:=kI hstep;have X:=kI hx;clear hstep hx;have q0:(k:Int) < (vs.length:Int):=by omega
   have hmx:Tryz.prog.follows .mixedOrders=true:=by kernel_rfl
   go_wp2_with fail;go_quiet (fail)
   have hn4:n≤6∨(6 < n∧n≤128)∨(128 < n∧n≤200)∨200 < n:=by omega
   have hm4:m≤6∨(6 < m∧m≤128)∨(128 < m∧m≤200)∨200 < m:=by omega
   have okA:∀ x:Nat,x≤6→hM x:=fun x h=>⟨.inl h,by omega⟩;have Vr:∀ x:Nat,128 < x∧x≤200→hM x:=fun x h=>⟨.inr h.1,h.2⟩;have OA:=kI okA;have OC:=kI Vr;have X0:=Ext.refl w;clear okA Vr;clear hc1 hc2;rcases hn4 with hn|hn|hn|hn
   ·rcases hm4 with hm|hm|hm|hm
    ·have q1:¬ (6:Int) < (n:Int):=by omega
     have q2:¬ (200:Int) < (n:Int):=by omega
     have r1:¬ (6:Int) < (m:Int):=by omega
     have r2:¬ (200:Int) < (m:Int):=by omega
     have S:=HS.o (OA.o _ hn) (OA.o _ hm);clear hn hm;go_wp2
     go_roundw
     case rel=>exact ⟨k+1,by omega,by go_num,X0.drewN _,⟨_,rfl⟩,S⟩
     case measure=>simp [intOf];omega
    ·have q1:¬ (6:Int) < (n:Int):=by omega
     have q2:¬ (200:Int) < (n:Int):=by omega
     have r1:(6:Int) < (m:Int):=by omega
     have r2:(m:Int)≤128:=by omega
     clear hn hm;go_wp2
     go_ret;exact ⟨⟨_,rfl,fun h=>by cases h⟩,X0.drewN _⟩
    ·have q1:¬ (6:Int) < (n:Int):=by omega
     have q2:¬ (200:Int) < (n:Int):=by omega
     have r1:(6:Int) < (m:Int):=by omega
     have r2:¬ (m:Int)≤128:=by omega
     have r3:¬ (200:Int) < (m:Int):=by omega
     have S:=HS.o (OA.o _ hn) (OC.o _ hm);clear hn hm;go_wp2
     go_roundw
     case rel=>exact ⟨k+1,by omega,by go_num,X0.drewN _,⟨_,rfl⟩,S⟩
     case measure=>simp [intOf];omega
    ·have q1:¬ (6:Int) < (n:Int):=by omega
     have q2:¬ (200:Int) < (n:Int):=by omega
     have r1:(6:Int) < (m:Int):=by omega
     have r2:¬ (m:Int)≤128:=by omega
     have r3:(200:Int) < (m:Int):=by omega
     clear hn hm;go_wp2
     go_ret;exact ⟨⟨_,rfl,fun h=>by cases h⟩,X0.drewN _⟩
   ·rcases hm4 with hm|hm|hm|hm
    ·have q1:(6:Int) < (n:Int):=by omega
     have q2:(n:Int)≤128:=by omega
     have r1:¬ (6:Int) < (m:Int):=by omega
     have r2:¬ (200:Int) < (m:Int):=by omega
     clear hn hm;go_wp2
     go_ret;exact ⟨⟨_,rfl,fun h=>by cases h⟩,X0.drewN _⟩
    ·have q1:(6:Int) < (n:Int):=by omega
     have q2:(n:Int)≤128:=by omega
     have r1:(6:Int) < (m:Int):=by omega
     have r2:(m:Int)≤128:=by omega
     clear hn hm;go_wp2
     go_ret;exact ⟨⟨_,rfl,fun h=>by cases h⟩,X0.drewN _⟩
    ·have q1:(6:Int) < (n:Int):=by omega
     have q2:(n:Int)≤128:=by omega
     have r1:(6:Int) < (m:Int):=by omega
     have r2:¬ (m:Int)≤128:=by omega
     have r3:¬ (200:Int) < (m:Int):=by omega
     clear hn hm;go_wp2
     go_ret;exact ⟨⟨_,rfl,fun h=>by cases h⟩,X0.drewN _⟩
    ·have q1:(6:Int) < (n:Int):=by omega
     have q2:(n:Int)≤128:=by omega
     have r1:(6:Int) < (m:Int):=by omega
     have r2:¬ (m:Int)≤128:=by omega
     have r3:(200:Int) < (m:Int):=by omega
     clear hn hm;go_wp2
     go_ret;exact ⟨⟨_,rfl,fun h=>by cases h⟩,X0.drewN _⟩
   ·rcases hm4 with hm|hm|hm|hm
    ·have q1:(6:Int) < (n:Int):=by omega
     have q2:¬ (n:Int)≤128:=by omega
     have q3:¬ (200:Int) < (n:Int):=by omega
     have r1:¬ (6:Int) < (m:Int):=by omega
     have r2:¬ (200:Int) < (m:Int):=by omega
     have S:=HS.o (OC.o _ hn) (OA.o _ hm);clear hn hm;go_wp2
     go_roundw
     case rel=>exact ⟨k+1,by omega,by go_num,X0.drewN _,⟨_,rfl⟩,S⟩
     case measure=>simp [intOf];omega
    ·have q1:(6:Int) < (n:Int):=by omega
     have q2:¬ (n:Int)≤128:=by omega
     have q3:¬ (200:Int) < (n:Int):=by omega
     have r1:(6:Int) < (m:Int):=by omega
     have r2:(m:Int)≤128:=by omega
     clear hn hm;go_wp2
     go_ret;exact ⟨⟨_,rfl,fun h=>by cases h⟩,X0.drewN _⟩
    ·have q1:(6:Int) < (n:Int):=by omega
     have q2:¬ (n:Int)≤128:=by omega
     have q3:¬ (200:Int) < (n:Int):=by omega
     have r1:(6:Int) < (m:Int):=by omega
     have r2:¬ (m:Int)≤128:=by omega
     have r3:¬ (200:Int) < (m:Int):=by omega
     have S:=HS.o (OC.o _ hn) (OC.o _ hm);clear hn hm;go_wp2
     go_roundw
     case rel=>exact ⟨k+1,by omega,by go_num,X0.drewN _,⟨_,rfl⟩,S⟩
     case measure=>simp [intOf];omega
    ·have q1:(6:Int) < (n:Int):=by omega
     have q2:¬ (n:Int)≤128:=by omega
     have q3:¬ (200:Int) < (n:Int):=by omega
     have r1:(6:Int) < (m:Int):=by omega
     have r2:¬ (m:Int)≤128:=by omega
     have r3:(200:Int) < (m:Int):=by omega
     clear hn hm;go_wp2
     go_ret;exact ⟨⟨_,rfl,fun h=>by cases h⟩,X0.drewN _⟩
   ·rcases hm4 with hm|hm|hm|hm
    ·have q1:(6:Int) < (n:Int):=by omega
     have q2:¬ (n:Int)≤128:=by omega
     have q3:(200:Int) < (n:Int):=by omega
     have r1:¬ (6:Int) < (m:Int):=by omega
     have r2:¬ (200:Int) < (m:Int):=by omega
     clear hn hm;go_wp2
     go_ret;exact ⟨⟨_,rfl,fun h=>by cases h⟩,X0.drewN _⟩
    ·have q1:(6:Int) < (n:Int):=by omega
     have q2:¬ (n:Int)≤128:=by omega
     have q3:(200:Int) < (n:Int):=by omega
     have r1:(6:Int) < (m:Int):=by omega
     have r2:(m:Int)≤128:=by omega
     clear hn hm;go_wp2
     go_ret;exact ⟨⟨_,rfl,fun h=>by cases h⟩,X0.drewN _⟩
    ·have q1:(6:Int) < (n:Int):=by omega
     have q2:¬ (n:Int)≤128:=by omega
     have q3:(200:Int) < (n:Int):=by omega
     have r1:(6:Int) < (m:Int):=by omega
     have r2:¬ (m:Int)≤128:=by omega
     have r3:¬ (200:Int) < (m:Int):=by omega
     clear hn hm;go_wp2
     go_ret;exact ⟨⟨_,rfl,fun h=>by cases h⟩,X0.drewN _⟩
    ·have q1:(6:Int) < (n:Int):=by omega
     have q2:¬ (n:Int)≤128:=by omega
     have q3:(200:Int) < (n:Int):=by omega
     have r1:(6:Int) < (m:Int):=by omega
     have r2:¬ (m:Int)≤128:=by omega
     have r3:(200:Int) < (m:Int):=by omega
     clear hn hm;go_wp2
     go_ret;exact ⟨⟨_,rfl,fun h=>by cases h⟩,X0.drewN _⟩
  ·have q0:¬ (k:Int) < (vs.length:Int):=by omega
   go_wp2
   go_ret;exact ⟨⟨_,rfl,fun _ i hi=>HK.o i hi (by omega)⟩,hx⟩
def rE (f:Nat→(Option Addr × Nat) × (Option Addr × Nat)) (l:List RR):List (Hd × Hd):=(List.range l.length).map fun i=>(((f i).1.1,(l.getD i zR).num.length,(f i).1.2),((f i).2.1,(l.getD i zR).den.length,(f i).2.2))
theorem zW (f:Nat→(Option Addr × Nat) × (Option Addr × Nat)) (l:List RR):(rE f l).length=l.length:=by simp [rE]
theorem uU (f:Nat→(Option Addr × Nat) × (Option Addr × Nat)) (l:List RR) (i:Nat) (hi:i < (rE f l).length):(rE f l)[i]=(((f i).1.1,(l.getD i zR).num.length,(f i).1.2),((f i).2.1,(l.getD i zR).den.length,(f i).2.2)):=by
 simp only [rE,List.getElem_map,List.getElem_range]
theorem cy (v:Value) (l:List RR) (w:World) (h:ct w v l) (hs:l.length≤1000) :
  Calls Tryz.prog 101 #[v] w fun e w'=>(∃ r,e=.returned (.bool r)∧(r=false→∀ i,i < l.length→hM (l.getD i zR).num.length∧hM (l.getD i zR).den.length))∧Ext w w':=by
 obtain ⟨a,cap,rfl,hc,hm,f,hr⟩:=h.get;have hl:=zW f l;have:=wW a cap (rE f l) w (by rw [hl];exact hs) (fun i hi=>by
  obtain ⟨b,off,e,_,_,x1,x2,_⟩:=hr i (by rw [← hl];exact hi);rw [uU];exact ⟨b,off,e,x1,x2⟩)
 rw [hl] at this;refine this.mono ?_;rintro e w' ⟨⟨r,rfl,h2⟩,hx⟩;refine ⟨⟨r,rfl,fun e i hi=>?_⟩,hx⟩;have:=h2 e i (by rw [hl];exact hi);rw [uU] at this;exact this
def dN (e:Ending):Prop:=∃ r,e=.returned (.bool r)
theorem dN.mk (r:Bool):dN (.returned (.bool r)):=⟨r,rfl⟩
theorem wX (mv:Value) (m:MD) (w:World) (hm:eK w mv m) :
  Calls Tryz.prog 41 #[mv] w fun e w'=>dN e∧Ext w w':=by
 have HM:=kI hm;obtain ⟨m1,n1,m2,n2,m3,n3,rfl,hmd,hss⟩:=hm;have Vs:=kI hss;have lu:=kI hmd;have hsn:m.states.length≤9223372036854775807:=by obtain ⟨_,_,_,h⟩:=hss.shape;exact h
 obtain ⟨sl,hsl⟩:=gN (m.states.length);have HSL:=kI hsl;rw [← hsl] at hsn;clear hmd hss;rw [← hsl];clear hsl;have bb0:=(af.new w #[.bool m.ag.neg,.slice m1 m.ag.num.length n1,.slice m2 m.ag.den.length n2,.slice m3 sl n3] 28);have x0:Ext w (w.alloc (.cells #[.bool m.ag.neg,.slice m1 m.ag.num.length n1,.slice m2 m.ag.den.length n2,.slice m3 sl n3] 28)):=((Ext.refl w).alloc _);have A0:=kI bb0;have X:=kI x0;clear x0 bb0;go_enter Tryz.func41,Tryz.ntmps41
 by_cases h12:12 < sl
 ·have c1:(12:Int) < (sl:Int):=by omega
  by_cases L6:sl≤200
  ·have c2:(sl:Int)≤200:=by omega
   obtain ⟨aE,fA0,aC⟩:=A0.o.q3;go_wp2_with fail;go_ret;exact ⟨dN.mk _,X.o⟩
  ·have c2:¬ (sl:Int)≤200:=by omega
   by_cases Z9:210 < sl
   ·have c3:(210:Int) < (sl:Int):=by omega
    obtain ⟨aE,fA0,aC⟩:=A0.o.q3;go_wp2_with fail;go_ret;exact ⟨dN.mk _,X.o⟩
   ·have c3:¬ (210:Int) < (sl:Int):=by omega
    obtain ⟨aE,fA0,aC⟩:=A0.o.q3;go_wp2_with fail;clear aE fA0 aC;obtain ⟨wl,hwl⟩:=gN ((w.alloc (.cells #[.bool m.ag.neg,.slice m1 m.ag.num.length n1,.slice m2 m.ag.den.length n2,.slice m3 sl n3] 28)));have hsz:wl.heap.size=w.heap.size+1:=by rw [hwl];simp
    rw [← hwl] at A0 X ⊢;rw [← hsz];clear hwl hsz;refine (cy _ [m.ag] (wl.alloc (.cells #[.bool m.ag.neg,.slice m1 m.ag.num.length n1,.slice m2 m.ag.den.length n2] 25)) (dL (af.new wl #[.bool m.ag.neg,.slice m1 m.ag.num.length n1,.slice m2 m.ag.den.length n2] 25) (lu.o.ext (X.o.alloc _))) (by simp)).mono ?_;rintro e v1 ⟨⟨r1,rfl,-⟩,hx1⟩;have JJ:Hid (Ext wl v1):=kI (((Ext.refl wl).alloc _).trans hx1);clear hx1;cases r1
    ·have X0:Hid (Ext w v1):=kI (X.o.trans JJ.o);have Ni:=kI (A0.o.ext JJ.o);obtain ⟨JM,JN,JO⟩:=Ni.o.q3;go_wp2_with fail;clear JM JN JO;go_loopw [3] (fun i wr=>∃ k:Nat,i=.int .i64 k∧k≤sl∧Ext w wr∧af wr w.heap.size #[.bool m.ag.neg,.slice m1 m.ag.num.length n1,.slice m2 m.ag.den.length n2,.slice m3 sl n3] 28) (fun i _=>sl - (intOf i).toNat)
     case atStart=>exact ⟨0,rfl,Nat.zero_le _,X0.o,Ni.o⟩
     case round=>
      obtain ⟨wk,hwk⟩:=gN (wr);subst hwk;obtain ⟨k,rfl,hk,hxk,hbk⟩:=hrel;have XK:=kI hxk;have BK:=kI hbk;clear hxk hbk;by_cases hks:k < sl
      ·have q2:(k:Int) < (sl:Int):=by omega
       have q1:(0:Int)≤(k:Int):=by omega
       by_cases hk12:k < 12
       ·have q3:(k:Int) < 12:=by omega
        obtain ⟨sb,so,ai,ci,rfl,t0,t1,t2⟩:=(Vs.o.ext XK.o).at (i:=k) (by rw [← HSL.o];exact hks);obtain ⟨ac,hac⟩:=gN (m.states.getD k []);rw [← hac] at t1 t2;obtain ⟨_,_,_,hal⟩:=t2.shape;have T2:=kI t2;clear t2 hac;by_cases h8:8 < ac.length
        ·have q4:(8:Int) < (ac.length:Int):=by omega
         obtain ⟨GG,GH,GJ⟩:=BK.o.q3;go_wp2_with fail;go_ret;exact ⟨dN.mk _,XK.o⟩
        ·have q4:¬ (8:Int) < (ac.length:Int):=by omega
         obtain ⟨GG,GH,GJ⟩:=BK.o.q3;go_wp2_with fail;clear GG GH GJ;go_loopw [4] (fun i wr=>∃ j:Nat,i=.int .i64 j∧j≤ac.length∧Ext wk wr) (fun i _=>ac.length - (intOf i).toNat)
         case atStart=>exact ⟨0,rfl,Nat.zero_le _,Ext.refl _⟩
         case round=>
          obtain ⟨wj,Bg⟩:=gN (wr);subst Bg;obtain ⟨j,rfl,hj,hxj⟩:=hrel;have XJ:=kI hxj;have JP:Hid (Ext w wj):=kI (XK.o.trans hxj);have BJ:=kI (BK.o.ext hxj);have t1j:=(hxj.cell (p:=⟨sb,so+k,none⟩) t0).trans t1;have t0j:=Nat.lt_of_lt_of_le t0 hxj.size;clear hxj;by_cases hjl:j < ac.length
          ·obtain ⟨ab,ao,p1,e1,p2,e2,p3,e3,rfl,na,u3,u4⟩:=(T2.o.ext XJ.o).at hjl;obtain ⟨v0,v1,v2,v3,v4⟩:=na;obtain ⟨xx,hxx⟩:=gN (ac.getD j dA);rw [← hxx] at v1 v2 v3 v4 u3 u4;obtain ⟨_,_,_,hol⟩:=u4.shape;have V4:=kI v4;have U4:=kI u4;have q5:(0:Int)≤(j:Int):=by omega
           have q6:(j:Int) < (ac.length:Int):=by omega
           clear v4 u4 hxx;obtain ⟨Nj,Nk,Nl⟩:=BJ.o.q3;go_wp2_with fail;clear Nj Nk Nl;clear v1 v2 v3 u3;obtain ⟨bx,hbx⟩:=gN (wj.heap.size);obtain ⟨wb,hwb⟩:=gN (wj.alloc (.cells #[.bool xx.cost.neg,.slice p1 xx.cost.num.length e1,.slice p2 xx.cost.den.length e2,.slice p3 xx.next.length e3] 83));have hxb:Ext wj wb:=by rw [hwb];exact (Ext.refl _).alloc _
           have hbb:af wb bx #[.bool xx.cost.neg,.slice p1 xx.cost.num.length e1,.slice p2 xx.cost.den.length e2,.slice p3 xx.next.length e3] 83:=by rw [hwb,hbx];exact af.new _ _ _
           have hsz:wb.heap.size=wj.heap.size+1:=by rw [hwb];simp
           rw [← hwb,← hsz,← hbx];have Nn:=kI hxb;have BX:=kI hbb;have Tg:=kI (V4.o.ext hxb);clear hbb hxb hwb hsz hbx;refine (cy _ [xx.cost] (wb.alloc (.cells #[.bool xx.cost.neg,.slice p1 xx.cost.num.length e1,.slice p2 xx.cost.den.length e2] 25)) (dL (af.new wb #[.bool xx.cost.neg,.slice p1 xx.cost.num.length e1,.slice p2 xx.cost.den.length e2] 25) (Tg.o.ext ((Ext.refl _).alloc _))) (by simp)).mono ?_;rintro e v2 ⟨⟨r2,rfl,-⟩,hx2⟩;have F6:Hid (Ext wb v2):=kI (((Ext.refl wb).alloc _).trans hx2);clear hx2;cases r2
           ·have XV:Hid (Ext wj v2):=kI (Nn.o.trans F6.o);have zX:Hid (Ext w v2):=kI (JP.o.trans XV.o);have uV:=kI (BX.o.ext F6.o);have u6:¬ (xx.next.length:Int) < 0:=by omega
            by_cases h16:16 < xx.next.length
            ·have c1:(16:Int) < (xx.next.length:Int):=by omega
             by_cases h64:xx.next.length≤64
             ·have c2:(xx.next.length:Int)≤64:=by omega
              obtain ⟨mA,mB,mC⟩:=uV.o.q3;go_wp2_with fail;go_ret;exact ⟨dN.mk _,zX.o⟩
             ·have c2:¬ (xx.next.length:Int)≤64:=by omega
              by_cases MP:70 < xx.next.length
              ·have c3:(70:Int) < (xx.next.length:Int):=by omega
               obtain ⟨mA,mB,mC⟩:=uV.o.q3;go_wp2_with fail;go_ret;exact ⟨dN.mk _,zX.o⟩
              ·have c3:¬ (70:Int) < (xx.next.length:Int):=by omega
               obtain ⟨mA,mB,mC⟩:=uV.o.q3;go_wp2_with fail;clear mA mB mC;go_loopw [6] (fun i wr=>∃ q:Nat,i=.int .i64 q∧q≤xx.next.length∧Ext v2 wr) (fun i _=>xx.next.length - (intOf i).toNat)
               case atStart=>exact ⟨0,rfl,Nat.zero_le _,Ext.refl _⟩
               case round=>
                obtain ⟨wi,hwi⟩:=gN (wr);subst hwi;obtain ⟨q,rfl,hq,hxi⟩:=hrel;have XI:=kI hxi;have JQ:Hid (Ext w wi):=kI (zX.o.trans hxi);have BI:=kI (uV.o.ext hxi);clear hxi;by_cases JR:q < xx.next.length
                ·obtain ⟨ob,oo,o1,o2,o3,o4,rfl,g0,g1,g2,g3,g4,g5⟩:=(U4.o.ext (XV.o.trans XI.o)).at JR;obtain ⟨O,hO⟩:=gN (xx.next.getD q dO);rw [← hO] at g1 g2 g3 g4 g5;obtain ⟨ot,op⟩:=O;dsimp only at g1 g2 g3 g4 g5;have G5:=kI g5;have q7:(0:Int)≤(q:Int):=by omega
                 have q8:(q:Int) < (xx.next.length:Int):=by omega
                 clear g5 hO;obtain ⟨CT,CU,CW⟩:=BI.o.q3;go_wp2_with fail;clear CT CU CW;refine (cy _ [op] (wi.alloc (.cells #[.bool op.neg,.slice o1 op.num.length o2,.slice o3 op.den.length o4] 25)) (dL (af.new wi #[.bool op.neg,.slice o1 op.num.length o2,.slice o3 op.den.length o4] 25) (G5.o.ext ((Ext.refl _).alloc _))) (by simp)).mono ?_;rintro e v3 ⟨⟨r3,rfl,-⟩,hx3⟩;have CX:Hid (Ext wi v3):=kI (((Ext.refl wi).alloc _).trans hx3);clear hx3;cases r3
                 ·go_wp2_with fail;go_roundw
                  case rel=>exact ⟨q+1,by go_num,by omega,XI.o.trans CX.o⟩
                  case measure=>simp [intOf];omega
                 ·have XE:Hid (Ext w v3):=kI (JQ.o.trans CX.o);go_wp2_with fail;go_ret;exact ⟨dN.mk _,XE.o⟩
                ·have q8:¬ (q:Int) < (xx.next.length:Int):=by omega
                 obtain ⟨CT,CU,CW⟩:=BI.o.q3;go_wp2_with fail;go_roundw
                 case rel=>exact ⟨j+1,by go_num,by omega,XJ.o.trans (XV.o.trans XI.o)⟩
                 case measure=>simp [intOf];omega
            ·have c1:¬ (16:Int) < (xx.next.length:Int):=by omega
             have c3:¬ (70:Int) < (xx.next.length:Int):=by omega
             obtain ⟨mA,mB,mC⟩:=uV.o.q3;go_wp2_with fail;clear mA mB mC;go_loopw [6] (fun i wr=>∃ q:Nat,i=.int .i64 q∧q≤xx.next.length∧Ext v2 wr) (fun i _=>xx.next.length - (intOf i).toNat)
             case atStart=>exact ⟨0,rfl,Nat.zero_le _,Ext.refl _⟩
             case round=>
              obtain ⟨wi,hwi⟩:=gN (wr);subst hwi;obtain ⟨q,rfl,hq,hxi⟩:=hrel;have XI:=kI hxi;have JQ:Hid (Ext w wi):=kI (zX.o.trans hxi);have BI:=kI (uV.o.ext hxi);clear hxi;by_cases JR:q < xx.next.length
              ·obtain ⟨ob,oo,o1,o2,o3,o4,rfl,g0,g1,g2,g3,g4,g5⟩:=(U4.o.ext (XV.o.trans XI.o)).at JR;obtain ⟨O,hO⟩:=gN (xx.next.getD q dO);rw [← hO] at g1 g2 g3 g4 g5;obtain ⟨ot,op⟩:=O;dsimp only at g1 g2 g3 g4 g5;have G5:=kI g5;have q7:(0:Int)≤(q:Int):=by omega
               have q8:(q:Int) < (xx.next.length:Int):=by omega
               clear g5 hO;obtain ⟨CT,CU,CW⟩:=BI.o.q3;go_wp2_with fail;clear CT CU CW;refine (cy _ [op] (wi.alloc (.cells #[.bool op.neg,.slice o1 op.num.length o2,.slice o3 op.den.length o4] 25)) (dL (af.new wi #[.bool op.neg,.slice o1 op.num.length o2,.slice o3 op.den.length o4] 25) (G5.o.ext ((Ext.refl _).alloc _))) (by simp)).mono ?_;rintro e v3 ⟨⟨r3,rfl,-⟩,hx3⟩;have CX:Hid (Ext wi v3):=kI (((Ext.refl wi).alloc _).trans hx3);clear hx3;cases r3
               ·go_wp2_with fail;go_roundw
                case rel=>exact ⟨q+1,by go_num,by omega,XI.o.trans CX.o⟩
                case measure=>simp [intOf];omega
               ·have XE:Hid (Ext w v3):=kI (JQ.o.trans CX.o);go_wp2_with fail;go_ret;exact ⟨dN.mk _,XE.o⟩
              ·have q8:¬ (q:Int) < (xx.next.length:Int):=by omega
               obtain ⟨CT,CU,CW⟩:=BI.o.q3;go_wp2_with fail;go_roundw
               case rel=>exact ⟨j+1,by go_num,by omega,XJ.o.trans (XV.o.trans XI.o)⟩
               case measure=>simp [intOf];omega
           ·have zX:Hid (Ext w v2):=kI (JP.o.trans (Nn.o.trans F6.o));have uV:=kI (BX.o.ext F6.o);obtain ⟨mA,mB,mC⟩:=uV.o.q3;go_wp2_with fail;go_ret;exact ⟨dN.mk _,zX.o⟩
          ·have q6:¬ (j:Int) < (ac.length:Int):=by omega
           obtain ⟨Nj,Nk,Nl⟩:=BJ.o.q3;go_wp2_with fail;go_roundw
           case rel=>exact ⟨k+1,by go_num,by omega,JP.o,BJ.o⟩
           case measure=>simp [intOf];omega
       ·have q3:¬ (k:Int) < 12:=by omega
        obtain ⟨GG,GH,GJ⟩:=BK.o.q3;go_wp2_with fail;go_ret;exact ⟨dN.mk _,XK.o⟩
      ·have q2:¬ (k:Int) < (sl:Int):=by omega
       obtain ⟨GG,GH,GJ⟩:=BK.o.q3;go_wp2_with fail;go_ret;exact ⟨dN.mk _,XK.o⟩
    ·have X0:Hid (Ext w v1):=kI (X.o.trans JJ.o);go_wp2_with fail;go_ret;exact ⟨dN.mk _,X0.o⟩
 ·have c1:¬ (12:Int) < (sl:Int):=by omega
  have c3:¬ (210:Int) < (sl:Int):=by omega
  obtain ⟨aE,fA0,aC⟩:=A0.o.q3;go_wp2_with fail;clear aE fA0 aC;obtain ⟨wl,hwl⟩:=gN ((w.alloc (.cells #[.bool m.ag.neg,.slice m1 m.ag.num.length n1,.slice m2 m.ag.den.length n2,.slice m3 sl n3] 28)));have hsz:wl.heap.size=w.heap.size+1:=by rw [hwl];simp
  rw [← hwl] at A0 X ⊢;rw [← hsz];clear hwl hsz;refine (cy _ [m.ag] (wl.alloc (.cells #[.bool m.ag.neg,.slice m1 m.ag.num.length n1,.slice m2 m.ag.den.length n2] 25)) (dL (af.new wl #[.bool m.ag.neg,.slice m1 m.ag.num.length n1,.slice m2 m.ag.den.length n2] 25) (lu.o.ext (X.o.alloc _))) (by simp)).mono ?_;rintro e v1 ⟨⟨r1,rfl,-⟩,hx1⟩;have JJ:Hid (Ext wl v1):=kI (((Ext.refl wl).alloc _).trans hx1);clear hx1;cases r1
  ·have X0:Hid (Ext w v1):=kI (X.o.trans JJ.o);have Ni:=kI (A0.o.ext JJ.o);obtain ⟨JM,JN,JO⟩:=Ni.o.q3;go_wp2_with fail;clear JM JN JO;go_loopw [3] (fun i wr=>∃ k:Nat,i=.int .i64 k∧k≤sl∧Ext w wr∧af wr w.heap.size #[.bool m.ag.neg,.slice m1 m.ag.num.length n1,.slice m2 m.ag.den.length n2,.slice m3 sl n3] 28) (fun i _=>sl - (intOf i).toNat)
   case atStart=>exact ⟨0,rfl,Nat.zero_le _,X0.o,Ni.o⟩
   case round=>
    obtain ⟨wk,hwk⟩:=gN (wr);subst hwk;obtain ⟨k,rfl,hk,hxk,hbk⟩:=hrel;have XK:=kI hxk;have BK:=kI hbk;clear hxk hbk;by_cases hks:k < sl
    ·have q2:(k:Int) < (sl:Int):=by omega
     have q1:(0:Int)≤(k:Int):=by omega
     by_cases hk12:k < 12
     ·have q3:(k:Int) < 12:=by omega
      obtain ⟨sb,so,ai,ci,rfl,t0,t1,t2⟩:=(Vs.o.ext XK.o).at (i:=k) (by rw [← HSL.o];exact hks);obtain ⟨ac,hac⟩:=gN (m.states.getD k []);rw [← hac] at t1 t2;obtain ⟨_,_,_,hal⟩:=t2.shape;have T2:=kI t2;clear t2 hac;by_cases h8:8 < ac.length
      ·have q4:(8:Int) < (ac.length:Int):=by omega
       obtain ⟨GG,GH,GJ⟩:=BK.o.q3;go_wp2_with fail;go_ret;exact ⟨dN.mk _,XK.o⟩
      ·have q4:¬ (8:Int) < (ac.length:Int):=by omega
       obtain ⟨GG,GH,GJ⟩:=BK.o.q3;go_wp2_with fail;clear GG GH GJ;go_loopw [4] (fun i wr=>∃ j:Nat,i=.int .i64 j∧j≤ac.length∧Ext wk wr) (fun i _=>ac.length - (intOf i).toNat)
       case atStart=>exact ⟨0,rfl,Nat.zero_le _,Ext.refl _⟩
       case round=>
        obtain ⟨wj,Bg⟩:=gN (wr);subst Bg;obtain ⟨j,rfl,hj,hxj⟩:=hrel;have XJ:=kI hxj;have JP:Hid (Ext w wj):=kI (XK.o.trans hxj);have BJ:=kI (BK.o.ext hxj);have t1j:=(hxj.cell (p:=⟨sb,so+k,none⟩) t0).trans t1;have t0j:=Nat.lt_of_lt_of_le t0 hxj.size;clear hxj;by_cases hjl:j < ac.length
        ·obtain ⟨ab,ao,p1,e1,p2,e2,p3,e3,rfl,na,u3,u4⟩:=(T2.o.ext XJ.o).at hjl;obtain ⟨v0,v1,v2,v3,v4⟩:=na;obtain ⟨xx,hxx⟩:=gN (ac.getD j dA);rw [← hxx] at v1 v2 v3 v4 u3 u4;obtain ⟨_,_,_,hol⟩:=u4.shape;have V4:=kI v4;have U4:=kI u4;have q5:(0:Int)≤(j:Int):=by omega
         have q6:(j:Int) < (ac.length:Int):=by omega
         clear v4 u4 hxx;obtain ⟨Nj,Nk,Nl⟩:=BJ.o.q3;go_wp2_with fail;clear Nj Nk Nl;clear v1 v2 v3 u3;obtain ⟨bx,hbx⟩:=gN (wj.heap.size);obtain ⟨wb,hwb⟩:=gN (wj.alloc (.cells #[.bool xx.cost.neg,.slice p1 xx.cost.num.length e1,.slice p2 xx.cost.den.length e2,.slice p3 xx.next.length e3] 83));have hxb:Ext wj wb:=by rw [hwb];exact (Ext.refl _).alloc _
         have hbb:af wb bx #[.bool xx.cost.neg,.slice p1 xx.cost.num.length e1,.slice p2 xx.cost.den.length e2,.slice p3 xx.next.length e3] 83:=by rw [hwb,hbx];exact af.new _ _ _
         have hsz:wb.heap.size=wj.heap.size+1:=by rw [hwb];simp
         rw [← hwb,← hsz,← hbx];have Nn:=kI hxb;have BX:=kI hbb;have Tg:=kI (V4.o.ext hxb);clear hbb hxb hwb hsz hbx;refine (cy _ [xx.cost] (wb.alloc (.cells #[.bool xx.cost.neg,.slice p1 xx.cost.num.length e1,.slice p2 xx.cost.den.length e2] 25)) (dL (af.new wb #[.bool xx.cost.neg,.slice p1 xx.cost.num.length e1,.slice p2 xx.cost.den.length e2] 25) (Tg.o.ext ((Ext.refl _).alloc _))) (by simp)).mono ?_;rintro e v2 ⟨⟨r2,rfl,-⟩,hx2⟩;have F6:Hid (Ext wb v2):=kI (((Ext.refl wb).alloc _).trans hx2);clear hx2;cases r2
         ·have XV:Hid (Ext wj v2):=kI (Nn.o.trans F6.o);have zX:Hid (Ext w v2):=kI (JP.o.trans XV.o);have uV:=kI (BX.o.ext F6.o);have u6:¬ (xx.next.length:Int) < 0:=by omega
          by_cases h16:16 < xx.next.length
          ·have c1:(16:Int) < (xx.next.length:Int):=by omega
           by_cases h64:xx.next.length≤64
           ·have c2:(xx.next.length:Int)≤64:=by omega
            obtain ⟨mA,mB,mC⟩:=uV.o.q3;go_wp2_with fail;go_ret;exact ⟨dN.mk _,zX.o⟩
           ·have c2:¬ (xx.next.length:Int)≤64:=by omega
            by_cases MP:70 < xx.next.length
            ·have c3:(70:Int) < (xx.next.length:Int):=by omega
             obtain ⟨mA,mB,mC⟩:=uV.o.q3;go_wp2_with fail;go_ret;exact ⟨dN.mk _,zX.o⟩
            ·have c3:¬ (70:Int) < (xx.next.length:Int):=by omega
             obtain ⟨mA,mB,mC⟩:=uV.o.q3;go_wp2_with fail;clear mA mB mC;go_loopw [6] (fun i wr=>∃ q:Nat,i=.int .i64 q∧q≤xx.next.length∧Ext v2 wr) (fun i _=>xx.next.length - (intOf i).toNat)
             case atStart=>exact ⟨0,rfl,Nat.zero_le _,Ext.refl _⟩
             case round=>
              obtain ⟨wi,hwi⟩:=gN (wr);subst hwi;obtain ⟨q,rfl,hq,hxi⟩:=hrel;have XI:=kI hxi;have JQ:Hid (Ext w wi):=kI (zX.o.trans hxi);have BI:=kI (uV.o.ext hxi);clear hxi;by_cases JR:q < xx.next.length
              ·obtain ⟨ob,oo,o1,o2,o3,o4,rfl,g0,g1,g2,g3,g4,g5⟩:=(U4.o.ext (XV.o.trans XI.o)).at JR;obtain ⟨O,hO⟩:=gN (xx.next.getD q dO);rw [← hO] at g1 g2 g3 g4 g5;obtain ⟨ot,op⟩:=O;dsimp only at g1 g2 g3 g4 g5;have G5:=kI g5;have q7:(0:Int)≤(q:Int):=by omega
               have q8:(q:Int) < (xx.next.length:Int):=by omega
               clear g5 hO;obtain ⟨CT,CU,CW⟩:=BI.o.q3;go_wp2_with fail;clear CT CU CW;refine (cy _ [op] (wi.alloc (.cells #[.bool op.neg,.slice o1 op.num.length o2,.slice o3 op.den.length o4] 25)) (dL (af.new wi #[.bool op.neg,.slice o1 op.num.length o2,.slice o3 op.den.length o4] 25) (G5.o.ext ((Ext.refl _).alloc _))) (by simp)).mono ?_;rintro e v3 ⟨⟨r3,rfl,-⟩,hx3⟩;have CX:Hid (Ext wi v3):=kI (((Ext.refl wi).alloc _).trans hx3);clear hx3;cases r3
               ·go_wp2_with fail;go_roundw
                case rel=>exact ⟨q+1,by go_num,by omega,XI.o.trans CX.o⟩
                case measure=>simp [intOf];omega
               ·have XE:Hid (Ext w v3):=kI (JQ.o.trans CX.o);go_wp2_with fail;go_ret;exact ⟨dN.mk _,XE.o⟩
              ·have q8:¬ (q:Int) < (xx.next.length:Int):=by omega
               obtain ⟨CT,CU,CW⟩:=BI.o.q3;go_wp2_with fail;go_roundw
               case rel=>exact ⟨j+1,by go_num,by omega,XJ.o.trans (XV.o.trans XI.o)⟩
               case measure=>simp [intOf];omega
          ·have c1:¬ (16:Int) < (xx.next.length:Int):=by omega
           have c3:¬ (70:Int) < (xx.next.length:Int):=by omega
           obtain ⟨mA,mB,mC⟩:=uV.o.q3;go_wp2_with fail;clear mA mB mC;go_loopw [6] (fun i wr=>∃ q:Nat,i=.int .i64 q∧q≤xx.next.length∧Ext v2 wr) (fun i _=>xx.next.length - (intOf i).toNat)
           case atStart=>exact ⟨0,rfl,Nat.zero_le _,Ext.refl _⟩
           case round=>
            obtain ⟨wi,hwi⟩:=gN (wr);subst hwi;obtain ⟨q,rfl,hq,hxi⟩:=hrel;have XI:=kI hxi;have JQ:Hid (Ext w wi):=kI (zX.o.trans hxi);have BI:=kI (uV.o.ext hxi);clear hxi;by_cases JR:q < xx.next.length
            ·obtain ⟨ob,oo,o1,o2,o3,o4,rfl,g0,g1,g2,g3,g4,g5⟩:=(U4.o.ext (XV.o.trans XI.o)).at JR;obtain ⟨O,hO⟩:=gN (xx.next.getD q dO);rw [← hO] at g1 g2 g3 g4 g5;obtain ⟨ot,op⟩:=O;dsimp only at g1 g2 g3 g4 g5;have G5:=kI g5;have q7:(0:Int)≤(q:Int):=by omega
             have q8:(q:Int) < (xx.next.length:Int):=by omega
             clear g5 hO;obtain ⟨CT,CU,CW⟩:=BI.o.q3;go_wp2_with fail;clear CT CU CW;refine (cy _ [op] (wi.alloc (.cells #[.bool op.neg,.slice o1 op.num.length o2,.slice o3 op.den.length o4] 25)) (dL (af.new wi #[.bool op.neg,.slice o1 op.num.length o2,.slice o3 op.den.length o4] 25) (G5.o.ext ((Ext.refl _).alloc _))) (by simp)).mono ?_;rintro e v3 ⟨⟨r3,rfl,-⟩,hx3⟩;have CX:Hid (Ext wi v3):=kI (((Ext.refl wi).alloc _).trans hx3);clear hx3;cases r3
             ·go_wp2_with fail;go_roundw
              case rel=>exact ⟨q+1,by go_num,by omega,XI.o.trans CX.o⟩
              case measure=>simp [intOf];omega
             ·have XE:Hid (Ext w v3):=kI (JQ.o.trans CX.o);go_wp2_with fail;go_ret;exact ⟨dN.mk _,XE.o⟩
            ·have q8:¬ (q:Int) < (xx.next.length:Int):=by omega
             obtain ⟨CT,CU,CW⟩:=BI.o.q3;go_wp2_with fail;go_roundw
             case rel=>exact ⟨j+1,by go_num,by omega,XJ.o.trans (XV.o.trans XI.o)⟩
             case measure=>simp [intOf];omega
         ·have zX:Hid (Ext w v2):=kI (JP.o.trans (Nn.o.trans F6.o));have uV:=kI (BX.o.ext F6.o);obtain ⟨mA,mB,mC⟩:=uV.o.q3;go_wp2_with fail;go_ret;exact ⟨dN.mk _,zX.o⟩
        ·have q6:¬ (j:Int) < (ac.length:Int):=by omega
         obtain ⟨Nj,Nk,Nl⟩:=BJ.o.q3;go_wp2_with fail;go_roundw
         case rel=>exact ⟨k+1,by go_num,by omega,JP.o,BJ.o⟩
         case measure=>simp [intOf];omega
     ·exfalso;omega
    ·have q2:¬ (k:Int) < (sl:Int):=by omega
     obtain ⟨GG,GH,GJ⟩:=BK.o.q3;go_wp2_with fail;go_ret;exact ⟨dN.mk _,XK.o⟩
  ·have X0:Hid (Ext w v1):=kI (X.o.trans JJ.o);go_wp2_with fail;go_ret;exact ⟨dN.mk _,X0.o⟩
theorem sZ (v:Value) (l:List RR) (w:World) (h:ct w v l) :
  Calls Tryz.prog 58 #[v] w fun e w'=>(∃ r,e=.returned (.bool r)∧(r=false→l.length≤20∧wm l))∧Ext w w':=by
 have H:=kI h;obtain ⟨a,c,rfl,hc,hm,-⟩:=h.get;have hl9:l.length≤9223372036854775807:=by omega
 clear h hc hm;by_cases h20:20 < l.length
 ·have q1:(20:Int) < (l.length:Int):=by omega
  go_enter Tryz.func58,Tryz.ntmps58
  go_wp2_with fail;go_ret;exact ⟨⟨true,rfl,fun h=>by cases h⟩,Ext.refl _⟩
 ·have q1:¬ (20:Int) < (l.length:Int):=by omega
  go_enter Tryz.func58,Tryz.ntmps58
  go_wp2_with fail;refine (cy _ l w H.o (by omega)).mono ?_;rintro e w1 ⟨⟨r,rfl,hr⟩,hx⟩;have X:=kI hx;have HR:=kI hr;clear hx hr;go_wp2_with fail;go_ret;exact ⟨⟨r,rfl,fun h=>⟨by omega,fun i hi=>by
   have:=HR.o h i hi;unfold hM at this;omega⟩⟩,X.o⟩
theorem CY {a b:RR} (la:au a) (ca:am a=0) (lb:au b) (cb:am b=0) (h:qv a=qv b):a=b:=by
 rw [← (dW la ca).2.2,← (dW lb cb).2.2,h]
theorem mD {p q:List RR} (h:p.length=q.length) (hx:∀ s,s < p.length→p.getD s zR=q.getD s zR):p=q:=by
 refine List.ext_getElem h (fun i h1 h2=>?_);have:=hx i h1;rwa [List.getD_eq_getElem?_getD,List.getD_eq_getElem?_getD,List.getElem?_eq_getElem h1,List.getElem?_eq_getElem h2] at this
theorem CZ {m:MD} {p:List Int} (h:kD m p=0):fd m p:=by
 unfold kD at h;by_cases e:p.length=m.states.length
 ·rw [if_neg (fun z=>z e)] at h;refine ⟨e,fun u hu=>?_⟩;have k:=bm h u (by omega);unfold ia at k;split at k
  ·cases k
  ·omega
 ·rw [if_pos e] at h;cases h
structure Al (m:MD) (v:List RR) (g q:List Int):Prop where
 pol:fd m q
 Vt:ax m q=(v,0)
 Am:(ah m v).2.2=0
 Vu:gy m v m.states.length=false
 act:g=(ah m v).2.1
theorem uW {m:MD} (hm:ew m=0) (hg:qv m.ag < 1):∀ (d:Nat) (p:List Int),fd m p→vo m p < d→∀ v g,optG m p=(v,g,0)→∃ q,Al m v g q
 | 0,_,_,h,_,_,_=>absurd h (Nat.not_lt_zero _)
 | d+1,p,hp,h,v,g,e=>by
  by_cases h1:(ax m p).2=0
  ·obtain ⟨vs,hvs⟩:∃ vs,ax m p=(vs,0):=⟨_,Prod.ext rfl h1⟩;by_cases h2:(ah m vs).2.2=0
   ·by_cases h3:gy m vs m.states.length=true
    ·obtain ⟨a,b⟩:=rD hm hg hp hvs h2 h3;rw [a] at e;exact uW hm hg d _ (gi hp h2) (by omega) v g e
    ·have h3':gy m vs m.states.length=false:=by simpa using h3
     rw [rC hvs h2 h3'] at e;injection e with e1 e2
     injection e2 with e2 _
     subst e1;exact ⟨p,hp,hvs,h2,h3',e2.symm⟩
   ·rw [rB hvs rfl h2] at e;injection e with _ e2
    injection e2 with _ e3
    exact absurd e3 h2
  ·rw [rA rfl h1] at e;injection e with _ e2
   injection e2 with _ e3
   exact absurd e3 h1
theorem uX {m:MD}:∀ (k:Nat) (p:List Int),(iP m k p).2.2≠0→(iP m k p).1=[]∧(iP m k p).2.1=[]
 | 0,_,h=>absurd rfl h
 | k+1,p,h=>by
  unfold iP at h ⊢;by_cases h1:(ax m p).2=0
  ·have n1:¬ (ax m p).2≠0:=fun z=>z h1;rw [if_neg n1] at h ⊢;by_cases h2:(ah m (ax m p).1).2.2=0
   ·have n2:¬ (ah m (ax m p).1).2.2≠0:=fun z=>z h2;rw [if_neg n2] at h ⊢;by_cases h3:gy m (ax m p).1 m.states.length=true
    ·rw [if_pos h3] at h ⊢;exact uX k _ h
    ·rw [if_neg h3] at h;exact absurd rfl h
   ·rw [if_pos h2];exact ⟨rfl,rfl⟩
  ·rw [if_pos h1];exact ⟨rfl,rfl⟩
theorem C0 {m:MD} {v:List RR} {g:List Int} {c:Int} (h:iQ m=(v,g,c)) (hc:c≠0):v=[]∧g=[]:=by
 by_cases h1:fL m=0
 ·by_cases h2:8 < m.states.length
  ·rw [sW h1 h2] at h;injection h with a b;injection b with b _;exact ⟨a.symm,b.symm⟩
  ·rw [sX h1 h2] at h;have k:=uX (m:=m) (vo m (List.replicate m.states.length 0)+1) (List.replicate m.states.length 0);rw [show iP m (vo m (List.replicate m.states.length 0)+1) (List.replicate m.states.length 0)=(v,g,c) from h] at k;exact k hc
 ·rw [wP rfl h1] at h;injection h with a b;injection b with b _;exact ⟨a.symm,b.symm⟩
theorem uY {m:MD} {v:List RR} {g:List Int} (h:iQ m=(v,g,0)):fL m=0∧ew m=0∧qv m.ag < 1∧¬ 8 < m.states.length∧∃ q,Al m v g q:=by
 by_cases h1:fL m=0
 ·by_cases h2:8 < m.states.length
  ·rw [sW h1 h2] at h;injection h with _ b;injection b with _ b;cases b
  ·rw [sX h1 h2] at h;obtain ⟨a,b⟩:=mV h1;have hg:=yt a b;exact ⟨h1,a,hg,h2,uW a hg _ _ (pI a) (Nat.lt_succ_self _) v g h⟩
 ·rw [wP rfl h1] at h;injection h with _ b;injection b with _ b;exact absurd b h1
theorem Al.val {m:MD} {v:List RR} {g q:List Int} (hm:ew m=0) (h:Al m v g q):v.length=m.states.length∧bY v∧∀ s,s < m.states.length→
  am (v.getD s zR)=0∧qv (v.getD s zR)=qv (bl m q s).cost+qv m.ag*bM (bl m q s).next (fun t=>qv (v.getD t zR)):=by
 obtain ⟨a,b⟩:=er hm h.pol h.Vt;have c:=fM m q;rw [h.Vt] at c;replace c:bY v:=c;exact ⟨a,c,b⟩
theorem Al.back {m:MD} {v:List RR} {g q:List Int} (hm:ew m=0) (h:Al m v g q):ah m v=(v,g,0):=by
 obtain ⟨a,b,c⟩:=h.val hm;obtain ⟨b1,b2,b3,b4⟩:=lO h.Am;have e:(ah m v).1=v:=mD (b1.trans a.symm) (fun s hs=>by
  rw [b1] at hs;refine CY (b3 s (by omega)) (b4 s hs) (b s (by omega)) (c s hs).1 (Rat.le_antisymm ?_ ?_)
  ·have ha:(q.getD s 0).toNat < (m.states.getD s []).length:=by have:=h.pol.2 s hs;omega
   obtain ⟨k1,k2⟩:=yg h.Am hs ha;have k3:=fJ k1;rw [iJ] at k3;rw [(c s hs).2];exact Rat.le_trans k2 (by rw [k3];exact Rat.le_refl)
  ·exact Rat.not_lt.1 (ru h.Vu s hs))
 exact Prod.ext e (Prod.ext h.act.symm h.Am)
theorem Al.zY {m:MD} {v:List RR} {g q:List Int} (h:Al m v g q):fd m g:=by
 obtain ⟨_,b2,_,_⟩:=lO h.Am;exact ⟨by rw [h.act,b2],fun u hu=>by rw [h.act];have:=jB h.Am hu;exact ⟨this.1,this.2.1⟩⟩
theorem Al.greedy {m:MD} {v u:List RR} {g q:List Int} {d:Int} (hm:ew m=0) (hg:qv m.ag < 1) (h:Al m v g q) (he:ax m g=(u,d)):(d=0∨d=4)∧(d=0→u=v):=by
 constructor
 ·have:=mx hm h.zY hg;rwa [he] at this
 ·intro hd;subst hd;obtain ⟨a,b,c⟩:=h.val hm;obtain ⟨a',b'⟩:=er hm h.zY he;have c':=fM m g;rw [he] at c';replace c':bY u:=c';have hb:=h.back hm;have e:∀ s,s < m.states.length→qv (v.getD s zR)=qv (bl m g s).cost+qv m.ag*bM (bl m g s).next (fun t=>qv (v.getD t zR)):=fun s hs=>by
   have k:=(jB h.Am hs).2.2;rw [hb] at k;exact k
  refine mD (a'.trans a.symm) (fun s hs=>?_);rw [a'] at hs;exact CY (c' s (by omega)) (b' s hs).1 (b s (by omega)) (c s hs).1
   (Ff (cP hm).1 hg (L:=fun s=>(bl m g s).next) (c:=fun s=>qv (bl m g s).cost) (u:=fun t=>qv (u.getD t zR)) (v:=fun t=>qv (v.getD t zR)) (fun s hs=>iK hm h.zY hs) (fun s hs=>iL hm h.zY hs) (fun s hs=>(b' s hs).2) e s hs)
theorem zZ {m:MD} {p:List Int} {w:List RR} {d:Int} (h:ej m p=(w,d)) (hd:d≠0):w=[]:=by
 by_cases h1:fL m=0
 ·by_cases h2:8 < m.states.length
  ·rw [sN h1 h2] at h;injection h with a _;exact a.symm
  ·by_cases h3:kD m p=0
   ·rw [pq h1 h2 h3] at h;have:=rm (by rw [h]) hd;rw [h] at this;injection this
   ·rw [wM h1 h2 rfl h3] at h;injection h with a _;exact a.symm
 ·rw [wL rfl h1] at h;injection h with a _;exact a.symm
theorem rF {m:MD} {p:List Int} {w:List RR} (h:ej m p=(w,0)):fL m=0∧¬ 8 < m.states.length∧fd m p∧ax m p=(w,0):=by
 by_cases h1:fL m=0
 ·by_cases h2:8 < m.states.length
  ·rw [sN h1 h2] at h;injection h with _ b;cases b
  ·by_cases h3:kD m p=0
   ·rw [pq h1 h2 h3] at h;exact ⟨h1,h2,CZ h3,h⟩
   ·rw [wM h1 h2 rfl h3] at h;injection h with _ b;exact absurd b h3
 ·rw [wL rfl h1] at h;injection h with _ b;exact absurd b h1
theorem Aa {m:MD} {p:List Int} {w x:List RR} {i:Int} (hm:ew m=0) (hp:fd m p) (h:ax m p=(w,0)) (hu:d6 m p w=(x,i)):(i=0∨i=4)∧(i=0→x=w):=by
 obtain ⟨a,b⟩:=er hm hp h;have lw:=fM m p;rw [h] at lw;replace lw:bY w:=lw;constructor
 ·have hmv:gw m w=0:=by unfold gw;rw [if_neg (fun z=>z hm),if_neg (fun z=>z a)]
  have hE:bF (Ah m p w) p.length=0∨bF (Ah m p w) p.length=4:=gh (fun s hs=>by
   have hs':s < m.states.length:=by have:=hp.1;omega
   have h0:ia m p s=0:=by
    unfold ia;have:=hp.2 s hs';rw [if_neg (by omega)]
   unfold Ah;rw [if_neg (fun z=>z h0)];exact rg (bu hm).1 (mt hm hs' (by have:=hp.2 s hs';omega)) (by omega) (fun i hi=>(b i (by omega)).1))
  unfold d6 at hu;rw [if_neg (fun z=>z hmv),if_neg (fun z=>z hp.1)] at hu;rcases hE with e|e
  ·rw [if_neg (fun z=>z e)] at hu;injection hu with _ k;exact .inl k.symm
  ·rw [if_pos (by rw [e];decide),e] at hu;injection hu with _ k;exact .inr k.symm
 ·intro hi;subst hi;obtain ⟨k1,k2,k3,k4⟩:=wx (m:=m) (p:=p) (v:=w) (by rw [hu]);have ck:=EK (m:=m) (p:=p) (u:=w) (by rw [hu]);have lx:=zj (m:=m) (p:=p) (v:=w);rw [hu] at k4 ck lx;have k4:x=vV m p w:=k4;replace lx:bY x:=lx;have xl:x.length=p.length:=by rw [k4];simp [vV]
  refine mD (by have:=hp.1;omega) (fun s hs=>?_);have hs1:s < p.length:=by omega
  have hs':s < m.states.length:=by have:=hp.1;omega
  refine CY (lx s hs) (ck s hs) (lw s (by omega)) (b s hs').1 ?_;rw [k4,wE hs1,fJ (wD (k3 s hs1)).2.2,iJ,(b s hs').2];rfl
theorem Al.least {m:MD} {v w:List RR} {g q p:List Int} (hm:ew m=0) (hg:qv m.ag < 1) (h:Al m v g q) (hp:fd m p) (hs:ax m p=(w,0)):∀ s,s < m.states.length→
  au (v.getD s zR)∧au (w.getD s zR)∧(cj (v.getD s zR) (w.getD s zR)).2=0∧(cj (v.getD s zR) (w.getD s zR)).1≤0:=fun s hss=>by
 obtain ⟨a,b,c⟩:=h.val hm;obtain ⟨a',b'⟩:=er hm hp hs;have lw:=fM m p;rw [hs] at lw;replace lw:bY w:=lw;have hl:=zO hm hg h.pol h.Am (ru h.Vu) hp (fun s hs=>(b' s hs).2) s hss;refine ⟨b s (by omega),lw s (by omega),?_,?_⟩
 ·unfold cj;rw [if_pos (dt (c s hss).1 (b' s hss).1)]
 ·unfold cj;rw [if_pos (dt (c s hss).1 (b' s hss).1)];show dX _ _≤0;unfold dX;rcases Rat.le_iff_lt_or_eq.1 hl with k|k
  ·rw [if_pos k];decide
  ·rw [k,if_neg Rat.lt_irrefl,if_pos rfl];decide
theorem Ac {m:MD} {v:List RR} {g:List Int} {c:Int} (h:iQ m=(v,g,c)) :
  (c≠0→v=[]∧g=[])∧(c=0→v.length=m.states.length∧g.length=m.states.length∧bY v∧ah m v=(v,g,0)∧
   (∀ u d,ej m g=(u,d)→(d=0∨d=4)∧(d=0→u=v))∧
   (∀ p w d,ej m p=(w,d)→(d≠0→w=[])∧(d=0→w.length=m.states.length∧bY w∧(∀ x i,d6 m p w=(x,i)→(i=0∨i=4)∧(i=0→x=w))∧
    ∀ s,s < m.states.length→au (v.getD s zR)∧au (w.getD s zR)∧(cj (v.getD s zR) (w.getD s zR)).2=0∧(cj (v.getD s zR) (w.getD s zR)).1≤0))):=by
 refine ⟨C0 h,fun hc=>?_⟩;subst hc;obtain ⟨h1,hm,hg,h2,q,ho⟩:=uY h;obtain ⟨a,b,c⟩:=ho.val hm;refine ⟨a,ho.zY.1,b,ho.back hm,fun u d he=>?_,fun p w d he=>⟨zZ he,fun hd=>?_⟩⟩
 ·rw [pq h1 h2 (sV ho.zY)] at he;exact ho.greedy hm hg he
 ·subst hd;obtain ⟨_,_,hp,hs⟩:=rF he;have lw:=fM m p;rw [hs] at lw;replace lw:bY w:=lw;exact ⟨(er hm hp hs).1,lw,fun x i hu=>Aa hm hp hs hu,ho.least hm hg hp hs⟩
theorem pL (r:RR):0≤qv (fE r)∧qv r≤qv (fE r)∧-qv r≤qv (fE r)∧(qv (fE r)=qv r∨qv (fE r) = -qv r):=by
 obtain ⟨b,n,d⟩:=r;have h0:0≤qv (fE ⟨b,n,d⟩):=fK (r:=fE ⟨b,n,d⟩) rfl;cases b
 ·have e:qv (fE ⟨false,n,d⟩)=qv ⟨false,n,d⟩:=rfl;grind
 ·have e:qv ⟨true,n,d⟩ = - qv (fE ⟨true,n,d⟩):=by
   show mkRat (-(nv n:Int)) (eu d) = - mkRat (nv n:Int) (eu d);rw [Rat.neg_mkRat]
  grind
theorem pM {l:List RR}:∀ {k i:Nat},i < k→qv (l.getD i zR)≤qv (l.getD (il l k) zR)
 | 0,_,h=>by omega
 | k+1,i,h=>by
  unfold il;split
  ·rename_i c;by_cases e:i=k
   ·subst e;exact Rat.le_refl
   ·exact Rat.le_trans (pM (k:=k) (by omega)) (Rat.le_of_lt c)
  ·rename_i c;by_cases e:i=k
   ·subst e;exact Rat.not_lt.1 c
   ·exact pM (by omega)
structure Dst (a b:List RR) (d:RR):Prop where
 len:a.length=b.length
 pos:0≤qv d
 iR:d.neg=false
 chk:am d=0
 lim:au d
 le1:∀ s,s < a.length→qv (a.getD s zR) - qv (b.getD s zR)≤qv d
 le2:∀ s,s < a.length→qv (b.getD s zR) - qv (a.getD s zR)≤qv d
 ca:∀ s,s < a.length→am (a.getD s zR)=0
 cb:∀ s,s < a.length→am (b.getD s zR)=0
 lub:∀ B:Rat,0≤B→(∀ s,s < a.length→qv (a.getD s zR) - qv (b.getD s zR)≤B∧qv (b.getD s zR) - qv (a.getD s zR)≤B)→qv d≤B
theorem uZ {a b:RR} (h:(bR a b).2=0):am a=0∧am b=0:=by
 by_cases h1:cK a b=0
 ·exact bA h1
 ·unfold bR iS at h;rw [if_neg h1] at h;exact absurd h h1
theorem io {a b:List RR} {d:RR} (h:bg a b=(d,0)):Dst a b d:=by
 have hl:=lP a b;rw [h] at hl;unfold bg at h;by_cases h1:a.length=b.length
 ·rw [if_neg (fun z=>z h1)] at h;by_cases h2:Cr a b=0
  ·rw [if_neg (fun z=>z h2)] at h;injection h with e _
   have hs:∀ i,i < a.length→(bR (a.getD i zR) (b.getD i zR)).2=0:=bm h2;have hj:il (mX a b a.length) (a.length+1) < a.length+1:=lN (Nat.succ_pos _);have hm:∀ i,i < a.length+1→qv ((mX a b a.length).getD i zR)≤qv d:=fun i hi=>by rw [← e];exact pM hi
   have hab:∀ s,s < a.length→qv (a.getD s zR) - qv (b.getD s zR)≤qv d∧qv (b.getD s zR) - qv (a.getD s zR)≤qv d:=fun s hss=>by
    have k:=hm (s+1) (by omega);rw [pB hss] at k;obtain ⟨_,a2,a3,_⟩:=pL (bR (a.getD s zR) (b.getD s zR)).1;rw [(jy (hs s hss)).1] at a2 a3;grind
   refine ⟨h1,?_,?_,?_,hl,fun s hss=>(hab s hss).1,fun s hss=>(hab s hss).2,fun s hss=>(uZ (hs s hss)).1,fun s hss=>(uZ (hs s hss)).2,fun B hB hh=>?_⟩
   ·have k:=hm 0 (by omega);have e0:(mX a b a.length).getD 0 zR=zR:=rfl;rw [e0,lH] at k;exact k
   ·rw [← e];generalize il (mX a b a.length) (a.length+1)=j at *
    cases j with
    | zero=>rfl
    | succ i=>rw [pB (by omega)];rfl
   ·rw [← e];exact yp hs _ (by rw [gJ];exact hj)
   ·rw [← e];generalize il (mX a b a.length) (a.length+1)=j at *
    cases j with
    | zero=>
     have e0:(mX a b a.length).getD 0 zR=zR:=rfl;rw [e0,lH];exact hB
    | succ i=>
     have hi:i < a.length:=by omega
     rw [pB hi];obtain ⟨_,_,_,a4⟩:=pL (bR (a.getD i zR) (b.getD i zR)).1;rw [(jy (hs i hi)).1] at a4;have:=hh i hi;rcases a4 with a4|a4 <;> rw [a4] <;> grind
  ·rw [if_pos h2] at h;injection h with _ e;exact absurd e h2
 ·rw [if_pos h1] at h;injection h with _ e;cases e
theorem C3 {a b:List RR} (h:a.length=b.length) (ha:∀ s,s < a.length→am (a.getD s zR)=0) (hb:∀ s,s < a.length→am (b.getD s zR)=0):(bg a b).2=0∨(bg a b).2=4:=by
 unfold bg;rw [if_neg (fun z=>z h)];have:=gh (n:=a.length) (f:=fun i=>(bR (a.getD i zR) (b.getD i zR)).2) (c:=4) (fun i hi=>uJ (ha i hi) (hb i hi));rcases this with e|e
 ·rw [if_neg (fun z=>z e)];exact .inl rfl
 ·rw [if_pos (by show bF _ _≠0;rw [e];decide)];exact .inr e
def mE (b f d:RR):Bool:=if b.neg=true then false else decide (nv d.num*(eu b.den*eu f.den)≤nv b.num*nv f.num*eu d.den)
def ff (m:MD) (c:pS):Int:=
 if fL m≠0 then fL m else if c.1.length≠m.states.length then 16 else if kD m c.2.1≠0 then kD m c.2.1
 else if am c.2.2.1≠0 then am c.2.2.1 else if am c.2.2.2≠0 then am c.2.2.2
 else if (ah m c.1).2.2≠0 then (ah m c.1).2.2
 else if (bg c.1 (ah m c.1).1).2≠0∨(ah m c.1).2.1≠c.2.1 then 15
 else if (cj (bg c.1 (ah m c.1).1).1 c.2.2.1).1≠0 then 15
 else if (gx m).2≠0 then (gx m).2
 else if mE c.2.2.2 (gx m).1 (bg c.1 (ah m c.1).1).1=true then 0 else 15
theorem wY {a b P:Rat} (h:0 < P):a≤b↔a*P≤b*P:=by
 constructor
 ·intro k;rcases Rat.le_iff_lt_or_eq.1 k with k|k
  ·exact Rat.le_of_lt (Rat.mul_lt_mul_of_pos_right k h)
  ·rw [k];exact Rat.le_refl
 ·intro k;refine Rat.not_lt.1 (fun z=>?_);exact Rat.not_le.2 (Rat.mul_lt_mul_of_pos_right z h) k
theorem gM {n:Nat} (h:n≠0):(0:Rat) < (n:Rat):=by
 have:(0:Rat)=((0:Nat):Rat):=rfl;rw [this];exact Rat.natCast_lt_natCast.2 (Nat.pos_of_ne_zero h)
theorem wZ {r:RR} (h:eu r.den≠0) (hn:r.neg=false):qv r*(eu r.den:Rat)=(nv r.num:Rat):=by
 obtain ⟨b,n,d⟩:=r;subst hn;show mkRat (nv n:Int) (eu d)*_=_;rw [Rat.mkRat_eq_div];have:((eu d:Nat):Rat)≠0:=fun e=>by have:=gM h;rw [e] at this;exact absurd this Rat.lt_irrefl
 rw [Rat.div_mul_cancel this];rfl
theorem F8 {b f d:RR} (lb:au b) (lf:au f) (ld:au d) (cb:am b=0) (cf:am f=0) (cd:am d=0) (hf:f.neg=false) (hd:d.neg=false):mE b f d=true↔b.neg=false∧qv d≤qv b*qv f:=by
 unfold mE;cases hb:b.neg
 ·rw [if_neg (by decide)];have nb:eu b.den≠0:=nI lb cb;have nf:eu f.den≠0:=nI lf cf;have nd:eu d.den≠0:=nI ld cd;have eb:=wZ nb hb;have ef:=wZ nf hf;have ed:=wZ nd hd;have pb:=gM nb;have pf:=gM nf;have pd:=gM nd;have P:0 < (eu d.den:Rat)*((eu b.den:Rat)*(eu f.den:Rat)):=Rat.mul_pos pd (Rat.mul_pos pb pf);have key:qv d≤qv b*qv f↔((nv d.num:Nat):Rat)*((eu b.den:Rat)*(eu f.den:Rat))≤(nv b.num:Rat)*(nv f.num:Rat)*(eu d.den:Rat):=by
   rw [← eb,← ef,← ed,wY P];have a1:qv d*((eu d.den:Rat)*((eu b.den:Rat)*(eu f.den:Rat)))=qv d*(eu d.den:Rat)*((eu b.den:Rat)*(eu f.den:Rat)):=by grind
   have a2:qv b*qv f*((eu d.den:Rat)*((eu b.den:Rat)*(eu f.den:Rat)))=qv b*(eu b.den:Rat)*(qv f*(eu f.den:Rat))*(eu d.den:Rat):=by grind
   rw [a1,a2]
  rw [decide_eq_true_iff,key,← Rat.natCast_mul,← Rat.natCast_mul,← Rat.natCast_mul,← Rat.natCast_mul,Rat.natCast_le_natCast];exact ⟨fun h=>⟨rfl,h⟩,fun h=>h.2⟩
 ·rw [if_pos rfl];exact ⟨fun h=>(by cases h),fun h=>(by cases h.1)⟩
theorem yv {m:MD} {f:RR} (hg:qv m.ag < 1) (h:gx m=(f,0)):qv f=1 - qv m.ag∧0 < qv f∧am f=0∧au f∧f.neg=false:=by
 have hs:(bR (rep ((1:Int):Rat)) m.ag).2=0:=by rw [show bR (rep ((1:Int):Rat)) m.ag=(f,0) from h]
 obtain ⟨a,b⟩:=jy hs;have l:=jv (rep ((1:Int):Rat)) m.ag;rw [show bR (rep ((1:Int):Rat)) m.ag=(f,0) from h] at a b l;rw [iZ] at a;have e1:((1:Int):Rat)=1:=rfl;rw [e1] at a;have p:0 < qv f:=by rw [a];grind
 refine ⟨a,p,b,l,?_⟩;cases hn:f.neg
 ·rfl
 ·exfalso
  have k:=(pL f).1;obtain ⟨bb,n,d⟩:=f;have hn:bb=true:=hn;subst hn;have e:qv ⟨true,n,d⟩ = - qv (fE ⟨true,n,d⟩):=by
   show mkRat (-(nv n:Int)) (eu d) = - mkRat (nv n:Int) (eu d);rw [Rat.neg_mkRat]
  rw [e] at p;grind
theorem C4 {m:MD} {v:List RR} (h:ew m=0) (hl:v.length=m.states.length) (hv:∀ i,i < v.length→am (v.getD i zR)=0):(ah m v).2.2=0∨(ah m v).2.2=4:=by
 have hmv:gw m v=0:=by unfold gw;rw [if_neg (fun z=>z h),if_neg (fun z=>z hl)]
 have hE:Ei m v=0∨Ei m v=4:=gh (fun s hs=>gh (fun a ha=>rg (bu h).1 (mt h hs ha) (by omega) hv));unfold ah;rw [if_neg (fun z=>z hmv)];rcases hE with e|e
 ·rw [if_neg (fun z=>z e)];exact .inl rfl
 ·rw [if_pos (by rw [e];decide)];exact .inr e
theorem kH (B:Rat):∀ l:List Out,bM l (fun _=>B)=B*bM l (fun _=>1)
 | []=>by show (0:Rat)=B*0;grind
 | o :: os=>by
  show qv o.2*B+bM os (fun _=>B)=B*(qv o.2*1+bM os (fun _=>1));rw [kH B os];grind
structure JS (m:MD) (c:pS) (x:List RR) (d f:RR):Prop where
 cw:fL m=0
 md:ew m=0
 lt:qv m.ag < 1
 len:c.1.length=m.states.length
 pol:fd m c.2.1
 Am:ah m c.1=(x,c.2.1,0)
 dst:bg c.1 x=(d,0)
 fac:gx m=(f,0)
 cR:am c.2.2.1=0
 cB:am c.2.2.2=0
 eqd:(cj d c.2.2.1).1=0
 cov:mE c.2.2.2 f d=true
theorem yw {m:MD} {c:pS} (h:ff m c=0):∃ x d f,JS m c x d f:=by
 unfold ff at h;by_cases h1:fL m=0
 ·rw [if_neg (fun z=>z h1)] at h;by_cases h2:c.1.length=m.states.length
  ·rw [if_neg (fun z=>z h2)] at h;by_cases h3:kD m c.2.1=0
   ·rw [if_neg (fun z=>z h3)] at h;by_cases h4:am c.2.2.1=0
    ·rw [if_neg (fun z=>z h4)] at h;by_cases h5:am c.2.2.2=0
     ·rw [if_neg (fun z=>z h5)] at h;by_cases h6:(ah m c.1).2.2=0
      ·rw [if_neg (fun z=>z h6)] at h;by_cases h7:(bg c.1 (ah m c.1).1).2≠0∨(ah m c.1).2.1≠c.2.1
       ·rw [if_pos h7] at h;cases h
       ·rw [if_neg h7] at h;by_cases h8:(cj (bg c.1 (ah m c.1).1).1 c.2.2.1).1=0
        ·rw [if_neg (fun z=>z h8)] at h;by_cases h9:(gx m).2=0
         ·rw [if_neg (fun z=>z h9)] at h;by_cases h10:mE c.2.2.2 (gx m).1 (bg c.1 (ah m c.1).1).1=true
          ·have k1:(bg c.1 (ah m c.1).1).2=0:=Classical.not_not.1 (fun z=>h7 (.inl z));have k2:(ah m c.1).2.1=c.2.1:=Classical.not_not.1 (fun z=>h7 (.inr z));obtain ⟨a,b⟩:=mV h1;exact ⟨(ah m c.1).1,(bg c.1 (ah m c.1).1).1,(gx m).1,h1,a,yt a b,h2,CZ h3,Prod.ext rfl (Prod.ext k2 h6),Prod.ext rfl k1,Prod.ext rfl h9,h4,h5,h8,h10⟩
          ·rw [if_neg h10] at h;cases h
         ·rw [if_pos h9] at h;exact absurd h h9
        ·rw [if_pos h8] at h;cases h
      ·rw [if_pos h6] at h;exact absurd h h6
     ·rw [if_pos h5] at h;exact absurd h h5
    ·rw [if_pos h4] at h;exact absurd h h4
   ·rw [if_pos h3] at h;exact absurd h h3
  ·rw [if_pos h2] at h;cases h
 ·rw [if_pos h1] at h;exact absurd h h1
theorem JS.cover {m:MD} {c:pS} {x:List RR} {d f:RR} (h:JS m c x d f) (lB:au c.2.2.2):0≤qv c.2.2.2∧qv d≤qv c.2.2.2*(1 - qv m.ag):=by
 obtain ⟨f1,f2,f3,f4,f5⟩:=yv h.lt h.fac;have D:=io h.dst;obtain ⟨k1,k2⟩:=(F8 lB f4 D.lim h.cB f3 D.chk f5 D.iR).1 h.cov;rw [f1] at k2;exact ⟨fK k1,k2⟩
theorem JS.up {m:MD} {c:pS} {x:List RR} {d f:RR} (h:JS m c x d f) (lB:au c.2.2.2) {p:List Int} (hp:fd m p) {w:Nat→Rat}
  (hw:∀ s,s < m.states.length→qv (bl m p s).cost+qv m.ag*bM (bl m p s).next w≤w s):∀ s,s < m.states.length→qv (c.1.getD s zR) - qv c.2.2.2≤w s:=by
 obtain ⟨b0,b1⟩:=h.cover lB;have D:=io h.dst;have hb:(ah m c.1).2.2=0:=by rw [h.Am]
 refine sub_le (cP h.md).1 h.lt (L:=fun s=>(bl m p s).next) (c:=fun s=>qv (bl m p s).cost) (u:=fun s=>qv (c.1.getD s zR) - qv c.2.2.2) (v:=w) (fun s hs=>iK h.md hp hs) (fun s hs=>iL h.md hp hs) (fun s hs=>?_) hw;have ha:(p.getD s 0).toNat < (m.states.getD s []).length:=by have:=hp.2 s hs;omega
 obtain ⟨k1,k2⟩:=yg hb hs ha;have k3:=fJ k1;rw [iJ] at k3;rw [h.Am,k3] at k2;have k4:=D.le1 s (by have:=h.len;omega);show qv (c.1.getD s zR) - qv c.2.2.2≤qv (bl m p s).cost+qv m.ag*bM (bl m p s).next (fun t=>qv (c.1.getD t zR) - qv c.2.2.2);rw [jA (fun t=>qv (c.1.getD t zR)) (fun _=>qv c.2.2.2),kH,iL h.md hp hs];have k5:qv (x.getD s zR)≤qv (bl m p s).cost+qv m.ag*bM (bl m p s).next (fun t=>qv (c.1.getD t zR)):=k2;grind
theorem JS.dn {m:MD} {c:pS} {x:List RR} {d f:RR} (h:JS m c x d f) (lB:au c.2.2.2) {w:Nat→Rat}
  (hw:∀ s,s < m.states.length→w s≤qv (bl m c.2.1 s).cost+qv m.ag*bM (bl m c.2.1 s).next w):∀ s,s < m.states.length→w s≤qv (c.1.getD s zR) - - qv c.2.2.2:=by
 obtain ⟨b0,b1⟩:=h.cover lB;have D:=io h.dst;have hb:(ah m c.1).2.2=0:=by rw [h.Am]
 refine sub_le (cP h.md).1 h.lt (L:=fun s=>(bl m c.2.1 s).next) (c:=fun s=>qv (bl m c.2.1 s).cost) (u:=w) (v:=fun s=>qv (c.1.getD s zR) - - qv c.2.2.2) (fun s hs=>iK h.md h.pol hs) (fun s hs=>iL h.md h.pol hs) hw (fun s hs=>?_);have k2:=(jB hb hs).2.2;rw [h.Am] at k2;have k4:=D.le2 s (by have:=h.len;omega);show qv (bl m c.2.1 s).cost+qv m.ag*bM (bl m c.2.1 s).next (fun t=>qv (c.1.getD t zR) - - qv c.2.2.2)≤qv (c.1.getD s zR) - - qv c.2.2.2;rw [jA (fun t=>qv (c.1.getD t zR)) (fun _=>- qv c.2.2.2),kH,iL h.md h.pol hs];have k5:qv (x.getD s zR)=qv (bl m c.2.1 s).cost+qv m.ag*bM (bl m c.2.1 s).next (fun t=>qv (c.1.getD t zR)):=k2;grind
def jH (a b:List RR) (most:RR):Bool:=
 decide ((bg a b).2=4) || (decide ((bg a b).2=0) && decide ((cj (bg a b).1 most).2=0) && decide ((cj (bg a b).1 most).1≤0))
theorem s9 {a b:List RR} {B:RR} (h:a.length=b.length) (ha:∀ s,s < a.length→am (a.getD s zR)=0) (hb:∀ s,s < a.length→am (b.getD s zR)=0) (hB:am B=0) (h0:0≤qv B)
  (hh:∀ s,s < a.length→qv (a.getD s zR) - qv (b.getD s zR)≤qv B∧qv (b.getD s zR) - qv (a.getD s zR)≤qv B):jH a b B=true:=by
 unfold jH;rcases C3 h ha hb with e|e
 ·have D:=io (d:=(bg a b).1) (Prod.ext rfl e);have k:=D.lub _ h0 hh;have e2:cj (bg a b).1 B=(dX (qv (bg a b).1) (qv B),0):=by unfold cj;rw [if_pos (dt D.chk hB)]
  have e3:dX (qv (bg a b).1) (qv B)≤0:=by
   unfold dX;rcases Rat.le_iff_lt_or_eq.1 k with k|k
   ·rw [if_pos k];decide
   ·rw [k,if_neg Rat.lt_irrefl,if_pos rfl];decide
  rw [e,e2,decide_eq_true e3];rfl
 ·rw [e];rfl
theorem ve {m:MD} (hm:ew m=0) (hg:qv m.ag < 1):∀ (k:Nat) (p:List Int),fd m p→(iP m k p).2.2=0∨(iP m k p).2.2=4
 | 0,_,_=>.inl rfl
 | k+1,p,hp=>by
  unfold iP;rcases mx hm hp hg with h1|h1
  ·rw [if_neg (fun z=>z h1)];obtain ⟨a,b⟩:=er (vs:=(ax m p).1) hm hp (Prod.ext rfl h1);rcases C4 hm a (fun i hi=>(b i (by omega)).1) with h2|h2
   ·rw [if_neg (fun z=>z h2)];by_cases h3:gy m (ax m p).1 m.states.length=true
    ·rw [if_pos h3];exact ve hm hg k _ (gi hp h2)
    ·rw [if_neg h3];exact .inl rfl
   ·rw [if_pos (by rw [h2];decide)];exact .inr h2
  ·rw [if_pos (by rw [h1];decide)];exact .inr h1
theorem Ad {m:MD} {c:pS} (h:ff m c=0) (lB:au c.2.2.2) {v w:List RR} {g:List Int} {e f i:Int} {tw:RR} (ho:iQ m=(v,g,e)) (he:ej m c.2.1=(w,f)) (ha:cE c.2.2.2 c.2.2.2=(tw,i)) :
  (e=0∨e=4)∧(f=0∨f=4)∧(i=0∨i=4)∧(e=0→f=0→i=0→jH c.1 v c.2.2.2=true∧jH c.1 w c.2.2.2=true∧jH w v tw=true):=by
 obtain ⟨x,d,fa,H⟩:=yw h;refine ⟨?_,?_,?_,fun e0 f0 i0=>?_⟩
 ·by_cases h8:8 < m.states.length
  ·rw [sW H.cw h8] at ho;injection ho with _ k;injection k with _ k;exact .inr k.symm
  ·rw [sX H.cw h8] at ho;have k:=ve H.md H.lt (vo m (List.replicate m.states.length 0)+1) _ (pI H.md);rw [show iP m (vo m (List.replicate m.states.length 0)+1) (List.replicate m.states.length 0)=(v,g,e) from ho] at k;exact k
 ·by_cases h8:8 < m.states.length
  ·rw [sN H.cw h8] at he;injection he with _ k;exact .inr k.symm
  ·rw [pq H.cw h8 (sV H.pol)] at he;have k:=mx H.md H.pol H.lt;rwa [he] at k
 ·have k:=lJ H.cB H.cB;rwa [ha] at k
 ·subst e0;subst f0;subst i0;obtain ⟨_,_,_,_,q,ho'⟩:=uY ho;obtain ⟨_,_,_,hs⟩:=rF he;obtain ⟨va,vb,vc⟩:=ho'.val H.md;obtain ⟨wa,wb⟩:=er H.md H.pol hs;have hbv:=ho'.back H.md;have D:=io H.dst;obtain ⟨b0,b1⟩:=H.cover lB;have k1:=H.up lB ho'.pol (w:=fun t=>qv (v.getD t zR)) (fun s hs=>by show _≤qv (v.getD s zR);rw [(vc s hs).2];exact Rat.le_refl);have k2:=H.up lB H.pol (w:=fun t=>qv (w.getD t zR)) (fun s hs=>by show _≤qv (w.getD s zR);rw [(wb s hs).2];exact Rat.le_refl);have k3:=H.dn lB (w:=fun t=>qv (v.getD t zR)) (fun s hs=>by
   have ha:(c.2.1.getD s 0).toNat < (m.states.getD s []).length:=by have:=H.pol.2 s hs;omega
   obtain ⟨j1,j2⟩:=yg (u:=v) (by rw [hbv]) hs ha;have j3:=fJ j1;rw [iJ] at j3;rw [hbv,j3] at j2;exact j2)
  have k4:=H.dn lB (w:=fun t=>qv (w.getD t zR)) (fun s hs=>by show qv (w.getD s zR)≤_;rw [(wb s hs).2];exact Rat.le_refl);have t1:(cE c.2.2.2 c.2.2.2).2=0:=by rw [ha]
  obtain ⟨t2,t3⟩:=gg t1;rw [ha] at t2 t3;refine ⟨s9 (H.len.trans va.symm) D.ca (fun s hs=>(vc s (by have:=H.len;omega)).1) H.cB b0 (fun s hs=>?_),s9 (H.len.trans wa.symm) D.ca (fun s hs=>(wb s (by have:=H.len;omega)).1) H.cB b0 (fun s hs=>?_),
   s9 (wa.trans va.symm) (fun s hs=>(wb s (by omega)).1) (fun s hs=>(vc s (by omega)).1) t3 (by rw [t2];grind) (fun s hs=>?_)⟩
  ·have a:=k1 s (by have:=H.len;omega);have b:=k3 s (by have:=H.len;omega);constructor <;> grind
  ·have a:=k2 s (by have:=H.len;omega);have b:=k4 s (by have:=H.len;omega);constructor <;> grind
  ·have a:=k1 s (by omega);have b:=k3 s (by omega);have c:=k2 s (by omega);have d:=k4 s (by omega);rw [t2];constructor <;> grind
theorem xd (mv:Value) (m:MD) (w:World) (hm:eK w mv m) :
  Calls Tryz.prog 29 #[mv] w fun e w'=>dN e∧Ext w w':=by
 have HM:=kI hm;obtain ⟨m1,n1,m2,n2,m3,n3,rfl,-,-⟩:=hm;have bb0:=(af.new w #[.bool m.ag.neg,.slice m1 m.ag.num.length n1,.slice m2 m.ag.den.length n2,.slice m3 m.states.length n3] 28);have x0:Ext w (w.alloc (.cells #[.bool m.ag.neg,.slice m1 m.ag.num.length n1,.slice m2 m.ag.den.length n2,.slice m3 m.states.length n3] 28)):=((Ext.refl w).alloc _);have A0:=kI bb0;have X:=kI x0;clear x0 bb0;go_enter Tryz.func29,Tryz.ntmps29
 obtain ⟨aE,fA0,aC⟩:=A0.o.q3;go_wp2_with fail;refine (wX _ m _ (HM.o.ext X.o)).mono ?_;rintro e w1 ⟨⟨r,rfl⟩,hx⟩;clear aE fA0 aC;replace A0:=kI (A0.o.ext hx);replace X:=kI (X.o.trans hx);clear hx;cases r;rotate_left
 ·go_wp2_with fail;go_ret;exact ⟨dN.mk _,X.o⟩
 obtain ⟨sl,hsl⟩:=gN (m.states.length);have HSL:=kI hsl;rw [← hsl] at A0;clear hsl;by_cases h4:4 < sl
 rotate_left
 ·have q1:¬ (4:Int) < (sl:Int):=by omega
  obtain ⟨aE,fA0,aC⟩:=A0.o.q3;go_wp2_with fail;go_ret;exact ⟨dN.mk _,X.o⟩
 have q1:(4:Int) < (sl:Int):=by omega
 by_cases h8:sl≤8
 ·have q2:(sl:Int)≤8:=by omega
  obtain ⟨aE,fA0,aC⟩:=A0.o.q3;go_wp2_with fail;go_ret;exact ⟨dN.mk _,X.o⟩
 ·have q2:¬ (sl:Int)≤8:=by omega
  obtain ⟨aE,fA0,aC⟩:=A0.o.q3;go_wp2_with fail;go_ret;exact ⟨dN.mk _,X.o⟩
theorem ta (cv:Value) (c:pS) (w:World) (hc:Dm w cv c) :
  Calls Tryz.prog 42 #[cv] w fun e w'=>dN e∧Ext w w':=by
 obtain ⟨V,P,R,B⟩:=c;obtain ⟨a1,c1,a2,c2,s1,s2,s3,s4,t1,t2,t3,t4,rfl,h1,h2,h3,h4⟩:=hc;dsimp only at h1 h2 h3 h4 ⊢;have HV:=kI h1;have HR:=kI h3;have HB:=kI h4;obtain ⟨vl,hvl⟩:=gN (V.length);obtain ⟨pl,hpl⟩:=gN (P.length);rw [← hvl] at HV;rw [← hvl,← hpl];clear h1 h2 h3 h4 hvl hpl;have bb0:=(af.new w #[.slice a1 vl c1,.slice a2 pl c2,.bool R.neg,.slice s1 R.num.length s2,.slice s3 R.den.length s4,.bool B.neg,.slice t1 B.num.length t2,.slice t3 B.den.length t4] 67);have x0:Ext w (w.alloc (.cells #[.slice a1 vl c1,.slice a2 pl c2,.bool R.neg,.slice s1 R.num.length s2,.slice s3 R.den.length s4,.bool B.neg,.slice t1 B.num.length t2,.slice t3 B.den.length t4] 67)):=((Ext.refl w).alloc _);have A0:=kI bb0;have X:=kI x0;clear x0 bb0;go_enter Tryz.func42,Tryz.ntmps42
 replace HV:=kI (HV.o.ext X.o);replace HR:=kI (HR.o.ext X.o);replace HB:=kI (HB.o.ext X.o);obtain ⟨aE,fA0,aC⟩:=A0.o.q3;go_wp2_with fail;refine (sZ _ V _ HV.o).mono ?_;rintro e w1 ⟨⟨r,rfl,-⟩,hx⟩;clear aE fA0 aC;replace HV:=kI (HV.o.ext hx);replace HR:=kI (HR.o.ext hx);replace HB:=kI (HB.o.ext hx);replace A0:=kI (A0.o.ext hx);replace X:=kI (X.o.trans hx);clear hx;cases r;rotate_left
 ·go_wp2_with fail;go_ret;exact ⟨dN.mk _,X.o⟩
 by_cases h20:20 < pl
 ·have q1:(20:Int) < (pl:Int):=by omega
  obtain ⟨aE,fA0,aC⟩:=A0.o.q3;go_wp2_with fail;go_ret;exact ⟨dN.mk _,X.o⟩
 ·have q1:¬ (20:Int) < (pl:Int):=by omega
  obtain ⟨aE,fA0,aC⟩:=A0.o.q3;go_wp2_with fail;clear aE fA0 aC;refine (cy _ [R] _ (dL (af.new w1 #[.bool R.neg,.slice s1 R.num.length s2,.slice s3 R.den.length s4] 25) (HR.o.ext ((Ext.refl w1).alloc _))) (by simp)).mono ?_;rintro e w2 ⟨⟨r1,rfl,-⟩,hx⟩;have hx:=((Ext.refl w1).alloc (.cells #[.bool R.neg,.slice s1 R.num.length s2,.slice s3 R.den.length s4] 25)).trans hx;replace HV:=kI (HV.o.ext hx);replace HR:=kI (HR.o.ext hx);replace HB:=kI (HB.o.ext hx);replace A0:=kI (A0.o.ext hx);replace X:=kI (X.o.trans hx);clear hx;cases r1;rotate_left
  ·go_wp2_with fail;go_ret;exact ⟨dN.mk _,X.o⟩
  obtain ⟨aE,fA0,aC⟩:=A0.o.q3;go_wp2_with fail;clear aE fA0 aC;refine (cy _ [B] _ (dL (af.new w2 #[.bool B.neg,.slice t1 B.num.length t2,.slice t3 B.den.length t4] 25) (HB.o.ext ((Ext.refl w2).alloc _))) (by simp)).mono ?_;rintro e w3 ⟨⟨r2,rfl,-⟩,hx⟩;have hx:=((Ext.refl w2).alloc (.cells #[.bool B.neg,.slice t1 B.num.length t2,.slice t3 B.den.length t4] 25)).trans hx;replace HV:=kI (HV.o.ext hx);replace HR:=kI (HR.o.ext hx);replace HB:=kI (HB.o.ext hx);replace A0:=kI (A0.o.ext hx);replace X:=kI (X.o.trans hx);clear hx;go_wp2_with fail;go_ret;exact ⟨dN.mk _,X.o⟩
theorem iN (va vb vm:Value) (a b:List RR) (M:RR) (w:World) (ha:ct w va a) (hb:ct w vb b) (hm:aX w vm M) (la:bY a) (lb:bY b) (lm:au M) (h6:a.length≤1000000) :
  Calls Tryz.prog 54 #[va,vb,vm] w fun e w'=>e=.returned (.bool (jH a b M))∧Ext w w':=by
 have HA:=kI ha;have HB:=kI hb;have HM:=kI hm;have Db:=kI la;have tf:=kI lb;have wg:=kI lm;have H6:=kI h6;obtain ⟨aa,ac,rfl,-,-,-⟩:=ha.get;obtain ⟨ba,bc,rfl,-,-,-⟩:=hb.get;obtain ⟨m1,n1,m2,n2,rfl⟩:=hm.shape;clear ha hb hm la lb lm h6;have bb0:=(af.new w #[.bool M.neg,.slice m1 M.num.length n1,.slice m2 M.den.length n2] 25);have x0:Ext w (w.alloc (.cells #[.bool M.neg,.slice m1 M.num.length n1,.slice m2 M.den.length n2] 25)):=((Ext.refl w).alloc _);have A0:=kI bb0;have X:=kI x0;clear x0 bb0;replace HA:=kI (HA.o.ext X.o);replace HB:=kI (HB.o.ext X.o);replace HM:=kI (HM.o.ext X.o);go_enter Tryz.func54,Tryz.ntmps54
 obtain ⟨aE,fA0,aC⟩:=A0.o.q3;go_wp2_with fail;refine (pC _ _ a b _ HA.o HB.o Db.o tf.o H6.o).mono ?_;rintro e w1 ⟨he,hx⟩;clear aE fA0 aC;replace A0:=kI (A0.o.ext hx);replace HA:=kI (HA.o.ext hx);replace HB:=kI (HB.o.ext hx);replace HM:=kI (HM.o.ext hx);replace X:=kI (X.o.trans hx);clear hx;obtain ⟨d,c,hD⟩:∃ d c,bg a b=(d,c):=⟨_,_,rfl⟩;have hlim:=lP a b;have hW:jH a b M=(decide (c=4) || (decide (c=0) && decide ((cj d M).2=0) && decide ((cj d M).1≤0))):=by unfold jH;rw [hD]
 rw [hD] at he hlim;obtain ⟨s1,s2,s3,s4,rfl,hel⟩:=he;dsimp only at hel hlim ⊢;have EL:=kI hel.rd;have LD:=kI hlim;have HW:=kI hW;clear hel hlim hD hW;by_cases h4:c=4
 ·subst h4;go_wp2_with fail;go_ret;exact ⟨by rw [HW.o];rfl,X.o.alloc _⟩
 have q1:(c == 4)=false:=by simpa using h4
 have H4:=kI h4;clear h4;have bd:=af.new w1 #[.bool d.neg,.slice s1 d.num.length s2,.slice s3 d.den.length s4] 25;have hx:Ext w1 (w1.alloc (.cells #[.bool d.neg,.slice s1 d.num.length s2,.slice s3 d.den.length s4] 25)):=(Ext.refl _).alloc _;have BD:=kI bd;clear bd;replace A0:=kI (A0.o.ext hx);replace HA:=kI (HA.o.ext hx);replace HB:=kI (HB.o.ext hx);replace HM:=kI (HM.o.ext hx);replace EL:=kI (EL.o.ext hx);replace X:=kI (X.o.trans hx);clear hx;obtain ⟨aE,fA0,aC⟩:=A0.o.q3;obtain ⟨Ip,Iq,Ir⟩:=BD.o.q3;go_wp2_with fail;clear aE fA0 aC Ip Iq Ir;obtain ⟨y,f,hC⟩:∃ y f,cj d M=(y,f):=⟨_,_,rfl⟩;have HC:=kI hC;have hcm:=fZ _ _ d M _ EL.o HM.o LD.o wg.o;rw [hC] at hcm;clear hC;refine hcm.mono ?_;rintro e w2 ⟨rfl,hx⟩;clear hcm;replace A0:=kI (A0.o.ext hx);replace HA:=kI (HA.o.ext hx);replace HB:=kI (HB.o.ext hx);replace HM:=kI (HM.o.ext hx);replace EL:=kI (EL.o.ext hx);replace BD:=kI (BD.o.ext hx);replace X:=kI (X.o.trans hx);clear hx;by_cases h0:c=0
 rotate_left
 ·have q2:(c == 0)=false:=by simpa using h0
  go_wp2_with fail;go_ret;exact ⟨by rw [HW.o,decide_eq_false H4.o,decide_eq_false h0];rfl,X.o⟩
 subst h0;by_cases hf:f=0
 rotate_left
 ·have q2:(f == 0)=false:=by simpa using hf
  go_wp2_with fail;go_ret;exact ⟨by rw [HW.o,HC.o,decide_eq_false hf];simp,X.o⟩
 subst hf;by_cases hy:y≤0
 rotate_left
 ·go_wp2_with fail;go_ret;exact ⟨by rw [HW.o,HC.o];simp [hy],X.o⟩
 ·go_wp2_with fail;go_ret;exact ⟨by rw [HW.o,HC.o];simp [hy],X.o⟩
end Go.Proofs.YtnnjbaijcaiohaaGreat
