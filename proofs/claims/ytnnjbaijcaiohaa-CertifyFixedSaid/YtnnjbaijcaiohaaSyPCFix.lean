/- Walks and lemmas. -/
import Derived.Test.YtnnjbaijcaiohaaSyA9
import Derived.Test.YtnnjbaijcaiohaaSyA7
import Derived.Test.YtnnjbaijcaiohaaSyA13
import Derived.WalkMore
import Derived.Test.YtnnjbaijcaiohaaSyA24
import Derived.Test.YtnnjbaijcaiohaaSyA22
import Derived.Test.YtnnjbaijcaiohaaSyA26
import Derived.Test.YtnnjbaijcaiohaaSyA27
import Derived.Test.YtnnjbaijcaiohaaSyA10
import Derived.Test.YtnnjbaijcaiohaaSyA4
import Derived.ChangeMaps5
set_option linter.unusedVariables false
set_option linter.unusedSimpArgs false
set_option maxRecDepth 100000
set_option maxHeartbeats 16000000
namespace Go.Proofs.Ytnnjbaijcaiohaa
open Go.RowKit
theorem long6o_any (a0:Option Addr) (cap:Nat) (vs:List (Hd × Hd)) (w:World) (hs:vs.length≤1000)
  (h:∀ (i:Nat) (hi:i < vs.length),∃ b off,a0=some ⟨b,off,none⟩∧w.cell? ⟨b,off+i*3+1,none⟩=some (.slice (vs[i]).1.1 (vs[i]).1.2.1 (vs[i]).1.2.2)∧w.cell? ⟨b,off+i*3+2,none⟩=some (.slice (vs[i]).2.1 (vs[i]).2.2.1 (vs[i]).2.2.2)) :
  Calls Try.prog 35 #[.slice a0 vs.length cap] w fun e w'=>LongR vs e∧Ext w w':=by
 have H:=kI h;clear h;go_enter Try.func35,Try.ntmps35
 go_wp2_with fail;go_loopw [3,4,5] (fun i _ _ wr=>∃ k:Nat,k≤vs.length∧i=.int .i64 k∧Ext w wr∧(∃ n,wr=w.drewN n)∧Hid (∀ (i:Nat) (hi:i < vs.length),i < k→okLen (vs[i]).1.2.1∧okLen (vs[i]).2.2.1)) (fun i _ _ _=>vs.length - (intOf i).toNat)
 case atStart=>exact ⟨0,Nat.zero_le _,rfl,Ext.refl _,⟨0,rfl⟩,kI (fun i _ h=>by omega)⟩
 case round=>
  obtain ⟨k,hk,rfl,hx,⟨nd,rfl⟩,HK⟩:=hrel;by_cases hlt:k < vs.length
  ·obtain ⟨bq,oq,rfl,hc1,hc2⟩:=H.o k hlt;have q9:(0:Int)≤(k:Int):=by omega
   have hstep:okLen (vs[k]).1.2.1→okLen (vs[k]).2.2.1→Hid (∀ (i:Nat) (hi:i < vs.length),i < k+1→okLen (vs[i]).1.2.1∧okLen (vs[i]).2.2.1):=fun h1 h2=>kI (fun i hi hik=>by
    by_cases e:i=k
    ·subst e;exact ⟨h1,h2⟩
    ·exact HK.o i hi (by omega))
   obtain ⟨x,hxx⟩:=gN (vs[k]);rw [← hxx] at hc1 hc2 hstep;obtain ⟨⟨a,n,c⟩,a2,m,c2⟩:=x;clear hxx;dsimp only at hc1 hc2 hstep;have HS:=kI hstep;have X:=kI hx;clear hstep hx;have q0:(k:Int) < (vs.length:Int):=by omega
   have hmx:Try.prog.follows .mixedOrders=true:=by kernel_rfl
   go_wp2_with fail;go_quiet (fail)
   have hn4:n≤6∨(6 < n∧n≤128)∨(128 < n∧n≤200)∨200 < n:=by omega
   have hm4:m≤6∨(6 < m∧m≤128)∨(128 < m∧m≤200)∨200 < m:=by omega
   have okA:∀ x:Nat,x≤6→okLen x:=fun x h=>⟨.inl h,by omega⟩;have okC:∀ x:Nat,128 < x∧x≤200→okLen x:=fun x h=>⟨.inr h.1,h.2⟩;have OA:=kI okA;have OC:=kI okC;have X0:=Ext.refl w;clear okA okC;clear hc1 hc2;rcases hn4 with hn|hn|hn|hn
   ·rcases hm4 with hm|hm|hm|hm
    ·have q1:¬ (6:Int) < (n:Int):=by omega
     have q2:¬ (200:Int) < (n:Int):=by omega
     have r1:¬ (6:Int) < (m:Int):=by omega
     have r2:¬ (200:Int) < (m:Int):=by omega
     have S:=HS.o (OA.o _ hn) (OA.o _ hm);clear hn hm;go_wp2
     go_roundw
     case rel=>exact ⟨k+1,by omega,by go_num,X0.drewN _,⟨_,rfl⟩,S⟩
     case measure=>simp [intOf];omega
    ·have q1:¬ (6:Int) < (n:Int):=by omega
     have q2:¬ (200:Int) < (n:Int):=by omega
     have r1:(6:Int) < (m:Int):=by omega
     have r2:(m:Int)≤128:=by omega
     clear hn hm;go_wp2
     go_ret;exact ⟨⟨_,rfl,fun h=>by cases h⟩,X0.drewN _⟩
    ·have q1:¬ (6:Int) < (n:Int):=by omega
     have q2:¬ (200:Int) < (n:Int):=by omega
     have r1:(6:Int) < (m:Int):=by omega
     have r2:¬ (m:Int)≤128:=by omega
     have r3:¬ (200:Int) < (m:Int):=by omega
     have S:=HS.o (OA.o _ hn) (OC.o _ hm);clear hn hm;go_wp2
     go_roundw
     case rel=>exact ⟨k+1,by omega,by go_num,X0.drewN _,⟨_,rfl⟩,S⟩
     case measure=>simp [intOf];omega
    ·have q1:¬ (6:Int) < (n:Int):=by omega
     have q2:¬ (200:Int) < (n:Int):=by omega
     have r1:(6:Int) < (m:Int):=by omega
     have r2:¬ (m:Int)≤128:=by omega
     have r3:(200:Int) < (m:Int):=by omega
     clear hn hm;go_wp2
     go_ret;exact ⟨⟨_,rfl,fun h=>by cases h⟩,X0.drewN _⟩
   ·rcases hm4 with hm|hm|hm|hm
    ·have q1:(6:Int) < (n:Int):=by omega
     have q2:(n:Int)≤128:=by omega
     have r1:¬ (6:Int) < (m:Int):=by omega
     have r2:¬ (200:Int) < (m:Int):=by omega
     clear hn hm;go_wp2
     go_ret;exact ⟨⟨_,rfl,fun h=>by cases h⟩,X0.drewN _⟩
    ·have q1:(6:Int) < (n:Int):=by omega
     have q2:(n:Int)≤128:=by omega
     have r1:(6:Int) < (m:Int):=by omega
     have r2:(m:Int)≤128:=by omega
     clear hn hm;go_wp2
     go_ret;exact ⟨⟨_,rfl,fun h=>by cases h⟩,X0.drewN _⟩
    ·have q1:(6:Int) < (n:Int):=by omega
     have q2:(n:Int)≤128:=by omega
     have r1:(6:Int) < (m:Int):=by omega
     have r2:¬ (m:Int)≤128:=by omega
     have r3:¬ (200:Int) < (m:Int):=by omega
     clear hn hm;go_wp2
     go_ret;exact ⟨⟨_,rfl,fun h=>by cases h⟩,X0.drewN _⟩
    ·have q1:(6:Int) < (n:Int):=by omega
     have q2:(n:Int)≤128:=by omega
     have r1:(6:Int) < (m:Int):=by omega
     have r2:¬ (m:Int)≤128:=by omega
     have r3:(200:Int) < (m:Int):=by omega
     clear hn hm;go_wp2
     go_ret;exact ⟨⟨_,rfl,fun h=>by cases h⟩,X0.drewN _⟩
   ·rcases hm4 with hm|hm|hm|hm
    ·have q1:(6:Int) < (n:Int):=by omega
     have q2:¬ (n:Int)≤128:=by omega
     have q3:¬ (200:Int) < (n:Int):=by omega
     have r1:¬ (6:Int) < (m:Int):=by omega
     have r2:¬ (200:Int) < (m:Int):=by omega
     have S:=HS.o (OC.o _ hn) (OA.o _ hm);clear hn hm;go_wp2
     go_roundw
     case rel=>exact ⟨k+1,by omega,by go_num,X0.drewN _,⟨_,rfl⟩,S⟩
     case measure=>simp [intOf];omega
    ·have q1:(6:Int) < (n:Int):=by omega
     have q2:¬ (n:Int)≤128:=by omega
     have q3:¬ (200:Int) < (n:Int):=by omega
     have r1:(6:Int) < (m:Int):=by omega
     have r2:(m:Int)≤128:=by omega
     clear hn hm;go_wp2
     go_ret;exact ⟨⟨_,rfl,fun h=>by cases h⟩,X0.drewN _⟩
    ·have q1:(6:Int) < (n:Int):=by omega
     have q2:¬ (n:Int)≤128:=by omega
     have q3:¬ (200:Int) < (n:Int):=by omega
     have r1:(6:Int) < (m:Int):=by omega
     have r2:¬ (m:Int)≤128:=by omega
     have r3:¬ (200:Int) < (m:Int):=by omega
     have S:=HS.o (OC.o _ hn) (OC.o _ hm);clear hn hm;go_wp2
     go_roundw
     case rel=>exact ⟨k+1,by omega,by go_num,X0.drewN _,⟨_,rfl⟩,S⟩
     case measure=>simp [intOf];omega
    ·have q1:(6:Int) < (n:Int):=by omega
     have q2:¬ (n:Int)≤128:=by omega
     have q3:¬ (200:Int) < (n:Int):=by omega
     have r1:(6:Int) < (m:Int):=by omega
     have r2:¬ (m:Int)≤128:=by omega
     have r3:(200:Int) < (m:Int):=by omega
     clear hn hm;go_wp2
     go_ret;exact ⟨⟨_,rfl,fun h=>by cases h⟩,X0.drewN _⟩
   ·rcases hm4 with hm|hm|hm|hm
    ·have q1:(6:Int) < (n:Int):=by omega
     have q2:¬ (n:Int)≤128:=by omega
     have q3:(200:Int) < (n:Int):=by omega
     have r1:¬ (6:Int) < (m:Int):=by omega
     have r2:¬ (200:Int) < (m:Int):=by omega
     clear hn hm;go_wp2
     go_ret;exact ⟨⟨_,rfl,fun h=>by cases h⟩,X0.drewN _⟩
    ·have q1:(6:Int) < (n:Int):=by omega
     have q2:¬ (n:Int)≤128:=by omega
     have q3:(200:Int) < (n:Int):=by omega
     have r1:(6:Int) < (m:Int):=by omega
     have r2:(m:Int)≤128:=by omega
     clear hn hm;go_wp2
     go_ret;exact ⟨⟨_,rfl,fun h=>by cases h⟩,X0.drewN _⟩
    ·have q1:(6:Int) < (n:Int):=by omega
     have q2:¬ (n:Int)≤128:=by omega
     have q3:(200:Int) < (n:Int):=by omega
     have r1:(6:Int) < (m:Int):=by omega
     have r2:¬ (m:Int)≤128:=by omega
     have r3:¬ (200:Int) < (m:Int):=by omega
     clear hn hm;go_wp2
     go_ret;exact ⟨⟨_,rfl,fun h=>by cases h⟩,X0.drewN _⟩
    ·have q1:(6:Int) < (n:Int):=by omega
     have q2:¬ (n:Int)≤128:=by omega
     have q3:(200:Int) < (n:Int):=by omega
     have r1:(6:Int) < (m:Int):=by omega
     have r2:¬ (m:Int)≤128:=by omega
     have r3:(200:Int) < (m:Int):=by omega
     clear hn hm;go_wp2
     go_ret;exact ⟨⟨_,rfl,fun h=>by cases h⟩,X0.drewN _⟩
  ·have q0:¬ (k:Int) < (vs.length:Int):=by omega
   go_wp2
   go_ret;exact ⟨⟨_,rfl,fun _ i hi=>HK.o i hi (by omega)⟩,hx⟩
def hdsOf (f:Nat→(Option Addr × Nat) × (Option Addr × Nat)) (l:List RR):List (Hd × Hd):=(List.range l.length).map fun i=>(((f i).1.1,(l.getD i zR).num.length,(f i).1.2),((f i).2.1,(l.getD i zR).den.length,(f i).2.2))
theorem hdsOf_len (f:Nat→(Option Addr × Nat) × (Option Addr × Nat)) (l:List RR):(hdsOf f l).length=l.length:=by simp [hdsOf]
theorem hdsOf_at (f:Nat→(Option Addr × Nat) × (Option Addr × Nat)) (l:List RR) (i:Nat) (hi:i < (hdsOf f l).length):(hdsOf f l)[i]=(((f i).1.1,(l.getD i zR).num.length,(f i).1.2),((f i).2.1,(l.getD i zR).den.length,(f i).2.2)):=by
 simp only [hdsOf,List.getElem_map,List.getElem_range]
theorem long6s_any (v:Value) (l:List RR) (w:World) (h:RdRs w v l) (hs:l.length≤1000) :
  Calls Try.prog 35 #[v] w fun e w'=>(∃ r,e=.returned (.bool r)∧(r=false→∀ i,i < l.length→okLen (l.getD i zR).num.length∧okLen (l.getD i zR).den.length))∧Ext w w':=by
 obtain ⟨a,cap,rfl,hc,hm,f,hr⟩:=h.get;have hl:=hdsOf_len f l;have:=long6o_any a cap (hdsOf f l) w (by rw [hl];exact hs) (fun i hi=>by
  obtain ⟨b,off,e,_,_,x1,x2,_⟩:=hr i (by rw [← hl];exact hi);rw [hdsOf_at];exact ⟨b,off,e,x1,x2⟩)
 rw [hl] at this;refine this.mono ?_;rintro e w' ⟨⟨r,rfl,h2⟩,hx⟩;refine ⟨⟨r,rfl,fun e i hi=>?_⟩,hx⟩;have:=h2 e i (by rw [hl];exact hi);rw [hdsOf_at] at this;exact this
def EndB (e:Ending):Prop:=∃ r,e=.returned (.bool r)
theorem EndB.mk (r:Bool):EndB (.returned (.bool r)):=⟨r,rfl⟩
theorem long21_any (mv:Value) (m:MD) (w:World) (hm:RdM w mv m) :
  Calls Try.prog 13 #[mv] w fun e w'=>EndB e∧Ext w w':=by
 have HM:=kI hm;obtain ⟨m1,n1,m2,n2,m3,n3,rfl,hmd,hss⟩:=hm;have HSS:=kI hss;have HMD:=kI hmd;have hsn:m.states.length≤9223372036854775807:=by obtain ⟨_,_,_,h⟩:=hss.shape;exact h
 obtain ⟨sl,hsl⟩:=gN (m.states.length);have HSL:=kI hsl;rw [← hsl] at hsn;clear hmd hss;rw [← hsl];clear hsl;have bb0:=(Blk.new w #[.bool m.disc.neg,.slice m1 m.disc.num.length n1,.slice m2 m.disc.den.length n2,.slice m3 sl n3] 28);have x0:Ext w (w.alloc (.cells #[.bool m.disc.neg,.slice m1 m.disc.num.length n1,.slice m2 m.disc.den.length n2,.slice m3 sl n3] 28)):=((Ext.refl w).alloc _);have A0:=kI bb0;have X:=kI x0;clear x0 bb0;go_enter Try.func13,Try.ntmps13
 by_cases h12:12 < sl
 ·have c1:(12:Int) < (sl:Int):=by omega
  by_cases h200:sl≤200
  ·have c2:(sl:Int)≤200:=by omega
   obtain ⟨qA0,fA0,lA0⟩:=A0.o.q3;go_wp2_with fail;go_ret;exact ⟨EndB.mk _,X.o⟩
  ·have c2:¬ (sl:Int)≤200:=by omega
   by_cases h210:210 < sl
   ·have c3:(210:Int) < (sl:Int):=by omega
    obtain ⟨qA0,fA0,lA0⟩:=A0.o.q3;go_wp2_with fail;go_ret;exact ⟨EndB.mk _,X.o⟩
   ·have c3:¬ (210:Int) < (sl:Int):=by omega
    obtain ⟨qA0,fA0,lA0⟩:=A0.o.q3;go_wp2_with fail;clear qA0 fA0 lA0;obtain ⟨wl,hwl⟩:=gN ((w.alloc (.cells #[.bool m.disc.neg,.slice m1 m.disc.num.length n1,.slice m2 m.disc.den.length n2,.slice m3 sl n3] 28)));have hsz:wl.heap.size=w.heap.size+1:=by rw [hwl];simp
    rw [← hwl] at A0 X ⊢;rw [← hsz];clear hwl hsz;refine (long6s_any _ [m.disc] (wl.alloc (.cells #[.bool m.disc.neg,.slice m1 m.disc.num.length n1,.slice m2 m.disc.den.length n2] 25)) (rdRs_one (Blk.new wl #[.bool m.disc.neg,.slice m1 m.disc.num.length n1,.slice m2 m.disc.den.length n2] 25) (HMD.o.ext (X.o.alloc _))) (by simp)).mono ?_;rintro e v1 ⟨⟨r1,rfl,-⟩,hx1⟩;have Xv1:Hid (Ext wl v1):=kI (((Ext.refl wl).alloc _).trans hx1);clear hx1;cases r1
    ·have X0:Hid (Ext w v1):=kI (X.o.trans Xv1.o);have A0v:=kI (A0.o.ext Xv1.o);obtain ⟨qA0v,fA0v,lA0v⟩:=A0v.o.q3;go_wp2_with fail;clear qA0v fA0v lA0v;go_loopw [3] (fun i wr=>∃ k:Nat,i=.int .i64 k∧k≤sl∧Ext w wr∧Blk wr w.heap.size #[.bool m.disc.neg,.slice m1 m.disc.num.length n1,.slice m2 m.disc.den.length n2,.slice m3 sl n3] 28) (fun i _=>sl - (intOf i).toNat)
     case atStart=>exact ⟨0,rfl,Nat.zero_le _,X0.o,A0v.o⟩
     case round=>
      obtain ⟨wk,hwk⟩:=gN (wr);subst hwk;obtain ⟨k,rfl,hk,hxk,hbk⟩:=hrel;have XK:=kI hxk;have BK:=kI hbk;clear hxk hbk;by_cases hks:k < sl
      ·have q2:(k:Int) < (sl:Int):=by omega
       have q1:(0:Int)≤(k:Int):=by omega
       by_cases hk12:k < 12
       ·have q3:(k:Int) < 12:=by omega
        obtain ⟨sb,so,ai,ci,rfl,t0,t1,t2⟩:=(HSS.o.ext XK.o).at (i:=k) (by rw [← HSL.o];exact hks);obtain ⟨ac,hac⟩:=gN (m.states.getD k []);rw [← hac] at t1 t2;obtain ⟨_,_,_,hal⟩:=t2.shape;have T2:=kI t2;clear t2 hac;by_cases h8:8 < ac.length
        ·have q4:(8:Int) < (ac.length:Int):=by omega
         obtain ⟨qBK,fBK,lBK⟩:=BK.o.q3;go_wp2_with fail;go_ret;exact ⟨EndB.mk _,XK.o⟩
        ·have q4:¬ (8:Int) < (ac.length:Int):=by omega
         obtain ⟨qBK,fBK,lBK⟩:=BK.o.q3;go_wp2_with fail;clear qBK fBK lBK;go_loopw [4] (fun i wr=>∃ j:Nat,i=.int .i64 j∧j≤ac.length∧Ext wk wr) (fun i _=>ac.length - (intOf i).toNat)
         case atStart=>exact ⟨0,rfl,Nat.zero_le _,Ext.refl _⟩
         case round=>
          obtain ⟨wj,hwj⟩:=gN (wr);subst hwj;obtain ⟨j,rfl,hj,hxj⟩:=hrel;have XJ:=kI hxj;have XJW:Hid (Ext w wj):=kI (XK.o.trans hxj);have BJ:=kI (BK.o.ext hxj);have t1j:=(hxj.cell (p:=⟨sb,so+k,none⟩) t0).trans t1;have t0j:=Nat.lt_of_lt_of_le t0 hxj.size;clear hxj;by_cases hjl:j < ac.length
          ·obtain ⟨ab,ao,p1,e1,p2,e2,p3,e3,rfl,na,u3,u4⟩:=(T2.o.ext XJ.o).at hjl;obtain ⟨v0,v1,v2,v3,v4⟩:=na;obtain ⟨xx,hxx⟩:=gN (ac.getD j dA);rw [← hxx] at v1 v2 v3 v4 u3 u4;obtain ⟨_,_,_,hol⟩:=u4.shape;have V4:=kI v4;have U4:=kI u4;have q5:(0:Int)≤(j:Int):=by omega
           have q6:(j:Int) < (ac.length:Int):=by omega
           clear v4 u4 hxx;obtain ⟨qBJ,fBJ,lBJ⟩:=BJ.o.q3;go_wp2_with fail;clear qBJ fBJ lBJ;clear v1 v2 v3 u3;obtain ⟨bx,hbx⟩:=gN (wj.heap.size);obtain ⟨wb,hwb⟩:=gN (wj.alloc (.cells #[.bool xx.cost.neg,.slice p1 xx.cost.num.length e1,.slice p2 xx.cost.den.length e2,.slice p3 xx.next.length e3] 68));have hxb:Ext wj wb:=by rw [hwb];exact (Ext.refl _).alloc _
           have hbb:Blk wb bx #[.bool xx.cost.neg,.slice p1 xx.cost.num.length e1,.slice p2 xx.cost.den.length e2,.slice p3 xx.next.length e3] 68:=by rw [hwb,hbx];exact Blk.new _ _ _
           have hsz:wb.heap.size=wj.heap.size+1:=by rw [hwb];simp
           rw [← hwb,← hsz,← hbx];have XBJ:=kI hxb;have BX:=kI hbb;have V4b:=kI (V4.o.ext hxb);clear hbb hxb hwb hsz hbx;refine (long6s_any _ [xx.cost] (wb.alloc (.cells #[.bool xx.cost.neg,.slice p1 xx.cost.num.length e1,.slice p2 xx.cost.den.length e2] 25)) (rdRs_one (Blk.new wb #[.bool xx.cost.neg,.slice p1 xx.cost.num.length e1,.slice p2 xx.cost.den.length e2] 25) (V4b.o.ext ((Ext.refl _).alloc _))) (by simp)).mono ?_;rintro e v2 ⟨⟨r2,rfl,-⟩,hx2⟩;have Xv2:Hid (Ext wb v2):=kI (((Ext.refl wb).alloc _).trans hx2);clear hx2;cases r2
           ·have XV:Hid (Ext wj v2):=kI (XBJ.o.trans Xv2.o);have XVW:Hid (Ext w v2):=kI (XJW.o.trans XV.o);have BXv:=kI (BX.o.ext Xv2.o);have u6:¬ (xx.next.length:Int) < 0:=by omega
            by_cases h16:16 < xx.next.length
            ·have c1:(16:Int) < (xx.next.length:Int):=by omega
             by_cases h64:xx.next.length≤64
             ·have c2:(xx.next.length:Int)≤64:=by omega
              obtain ⟨qBXv,fBXv,lBXv⟩:=BXv.o.q3;go_wp2_with fail;go_ret;exact ⟨EndB.mk _,XVW.o⟩
             ·have c2:¬ (xx.next.length:Int)≤64:=by omega
              by_cases h70:70 < xx.next.length
              ·have c3:(70:Int) < (xx.next.length:Int):=by omega
               obtain ⟨qBXv,fBXv,lBXv⟩:=BXv.o.q3;go_wp2_with fail;go_ret;exact ⟨EndB.mk _,XVW.o⟩
              ·have c3:¬ (70:Int) < (xx.next.length:Int):=by omega
               obtain ⟨qBXv,fBXv,lBXv⟩:=BXv.o.q3;go_wp2_with fail;clear qBXv fBXv lBXv;go_loopw [6] (fun i wr=>∃ q:Nat,i=.int .i64 q∧q≤xx.next.length∧Ext v2 wr) (fun i _=>xx.next.length - (intOf i).toNat)
               case atStart=>exact ⟨0,rfl,Nat.zero_le _,Ext.refl _⟩
               case round=>
                obtain ⟨wi,hwi⟩:=gN (wr);subst hwi;obtain ⟨q,rfl,hq,hxi⟩:=hrel;have XI:=kI hxi;have XIW:Hid (Ext w wi):=kI (XVW.o.trans hxi);have BI:=kI (BXv.o.ext hxi);clear hxi;by_cases hql:q < xx.next.length
                ·obtain ⟨ob,oo,o1,o2,o3,o4,rfl,g0,g1,g2,g3,g4,g5⟩:=(U4.o.ext (XV.o.trans XI.o)).at hql;obtain ⟨O,hO⟩:=gN (xx.next.getD q dO);rw [← hO] at g1 g2 g3 g4 g5;obtain ⟨ot,op⟩:=O;dsimp only at g1 g2 g3 g4 g5;have G5:=kI g5;have q7:(0:Int)≤(q:Int):=by omega
                 have q8:(q:Int) < (xx.next.length:Int):=by omega
                 clear g5 hO;obtain ⟨qBI,fBI,lBI⟩:=BI.o.q3;go_wp2_with fail;clear qBI fBI lBI;refine (long6s_any _ [op] (wi.alloc (.cells #[.bool op.neg,.slice o1 op.num.length o2,.slice o3 op.den.length o4] 25)) (rdRs_one (Blk.new wi #[.bool op.neg,.slice o1 op.num.length o2,.slice o3 op.den.length o4] 25) (G5.o.ext ((Ext.refl _).alloc _))) (by simp)).mono ?_;rintro e v3 ⟨⟨r3,rfl,-⟩,hx3⟩;have Xv3:Hid (Ext wi v3):=kI (((Ext.refl wi).alloc _).trans hx3);clear hx3;cases r3
                 ·go_wp2_with fail;go_roundw
                  case rel=>exact ⟨q+1,by go_num,by omega,XI.o.trans Xv3.o⟩
                  case measure=>simp [intOf];omega
                 ·have XE:Hid (Ext w v3):=kI (XIW.o.trans Xv3.o);go_wp2_with fail;go_ret;exact ⟨EndB.mk _,XE.o⟩
                ·have q8:¬ (q:Int) < (xx.next.length:Int):=by omega
                 obtain ⟨qBI,fBI,lBI⟩:=BI.o.q3;go_wp2_with fail;go_roundw
                 case rel=>exact ⟨j+1,by go_num,by omega,XJ.o.trans (XV.o.trans XI.o)⟩
                 case measure=>simp [intOf];omega
            ·have c1:¬ (16:Int) < (xx.next.length:Int):=by omega
             have c3:¬ (70:Int) < (xx.next.length:Int):=by omega
             obtain ⟨qBXv,fBXv,lBXv⟩:=BXv.o.q3;go_wp2_with fail;clear qBXv fBXv lBXv;go_loopw [6] (fun i wr=>∃ q:Nat,i=.int .i64 q∧q≤xx.next.length∧Ext v2 wr) (fun i _=>xx.next.length - (intOf i).toNat)
             case atStart=>exact ⟨0,rfl,Nat.zero_le _,Ext.refl _⟩
             case round=>
              obtain ⟨wi,hwi⟩:=gN (wr);subst hwi;obtain ⟨q,rfl,hq,hxi⟩:=hrel;have XI:=kI hxi;have XIW:Hid (Ext w wi):=kI (XVW.o.trans hxi);have BI:=kI (BXv.o.ext hxi);clear hxi;by_cases hql:q < xx.next.length
              ·obtain ⟨ob,oo,o1,o2,o3,o4,rfl,g0,g1,g2,g3,g4,g5⟩:=(U4.o.ext (XV.o.trans XI.o)).at hql;obtain ⟨O,hO⟩:=gN (xx.next.getD q dO);rw [← hO] at g1 g2 g3 g4 g5;obtain ⟨ot,op⟩:=O;dsimp only at g1 g2 g3 g4 g5;have G5:=kI g5;have q7:(0:Int)≤(q:Int):=by omega
               have q8:(q:Int) < (xx.next.length:Int):=by omega
               clear g5 hO;obtain ⟨qBI,fBI,lBI⟩:=BI.o.q3;go_wp2_with fail;clear qBI fBI lBI;refine (long6s_any _ [op] (wi.alloc (.cells #[.bool op.neg,.slice o1 op.num.length o2,.slice o3 op.den.length o4] 25)) (rdRs_one (Blk.new wi #[.bool op.neg,.slice o1 op.num.length o2,.slice o3 op.den.length o4] 25) (G5.o.ext ((Ext.refl _).alloc _))) (by simp)).mono ?_;rintro e v3 ⟨⟨r3,rfl,-⟩,hx3⟩;have Xv3:Hid (Ext wi v3):=kI (((Ext.refl wi).alloc _).trans hx3);clear hx3;cases r3
               ·go_wp2_with fail;go_roundw
                case rel=>exact ⟨q+1,by go_num,by omega,XI.o.trans Xv3.o⟩
                case measure=>simp [intOf];omega
               ·have XE:Hid (Ext w v3):=kI (XIW.o.trans Xv3.o);go_wp2_with fail;go_ret;exact ⟨EndB.mk _,XE.o⟩
              ·have q8:¬ (q:Int) < (xx.next.length:Int):=by omega
               obtain ⟨qBI,fBI,lBI⟩:=BI.o.q3;go_wp2_with fail;go_roundw
               case rel=>exact ⟨j+1,by go_num,by omega,XJ.o.trans (XV.o.trans XI.o)⟩
               case measure=>simp [intOf];omega
           ·have XVW:Hid (Ext w v2):=kI (XJW.o.trans (XBJ.o.trans Xv2.o));have BXv:=kI (BX.o.ext Xv2.o);obtain ⟨qBXv,fBXv,lBXv⟩:=BXv.o.q3;go_wp2_with fail;go_ret;exact ⟨EndB.mk _,XVW.o⟩
          ·have q6:¬ (j:Int) < (ac.length:Int):=by omega
           obtain ⟨qBJ,fBJ,lBJ⟩:=BJ.o.q3;go_wp2_with fail;go_roundw
           case rel=>exact ⟨k+1,by go_num,by omega,XJW.o,BJ.o⟩
           case measure=>simp [intOf];omega
       ·have q3:¬ (k:Int) < 12:=by omega
        obtain ⟨qBK,fBK,lBK⟩:=BK.o.q3;go_wp2_with fail;go_ret;exact ⟨EndB.mk _,XK.o⟩
      ·have q2:¬ (k:Int) < (sl:Int):=by omega
       obtain ⟨qBK,fBK,lBK⟩:=BK.o.q3;go_wp2_with fail;go_ret;exact ⟨EndB.mk _,XK.o⟩
    ·have X0:Hid (Ext w v1):=kI (X.o.trans Xv1.o);go_wp2_with fail;go_ret;exact ⟨EndB.mk _,X0.o⟩
 ·have c1:¬ (12:Int) < (sl:Int):=by omega
  have c3:¬ (210:Int) < (sl:Int):=by omega
  obtain ⟨qA0,fA0,lA0⟩:=A0.o.q3;go_wp2_with fail;clear qA0 fA0 lA0;obtain ⟨wl,hwl⟩:=gN ((w.alloc (.cells #[.bool m.disc.neg,.slice m1 m.disc.num.length n1,.slice m2 m.disc.den.length n2,.slice m3 sl n3] 28)));have hsz:wl.heap.size=w.heap.size+1:=by rw [hwl];simp
  rw [← hwl] at A0 X ⊢;rw [← hsz];clear hwl hsz;refine (long6s_any _ [m.disc] (wl.alloc (.cells #[.bool m.disc.neg,.slice m1 m.disc.num.length n1,.slice m2 m.disc.den.length n2] 25)) (rdRs_one (Blk.new wl #[.bool m.disc.neg,.slice m1 m.disc.num.length n1,.slice m2 m.disc.den.length n2] 25) (HMD.o.ext (X.o.alloc _))) (by simp)).mono ?_;rintro e v1 ⟨⟨r1,rfl,-⟩,hx1⟩;have Xv1:Hid (Ext wl v1):=kI (((Ext.refl wl).alloc _).trans hx1);clear hx1;cases r1
  ·have X0:Hid (Ext w v1):=kI (X.o.trans Xv1.o);have A0v:=kI (A0.o.ext Xv1.o);obtain ⟨qA0v,fA0v,lA0v⟩:=A0v.o.q3;go_wp2_with fail;clear qA0v fA0v lA0v;go_loopw [3] (fun i wr=>∃ k:Nat,i=.int .i64 k∧k≤sl∧Ext w wr∧Blk wr w.heap.size #[.bool m.disc.neg,.slice m1 m.disc.num.length n1,.slice m2 m.disc.den.length n2,.slice m3 sl n3] 28) (fun i _=>sl - (intOf i).toNat)
   case atStart=>exact ⟨0,rfl,Nat.zero_le _,X0.o,A0v.o⟩
   case round=>
    obtain ⟨wk,hwk⟩:=gN (wr);subst hwk;obtain ⟨k,rfl,hk,hxk,hbk⟩:=hrel;have XK:=kI hxk;have BK:=kI hbk;clear hxk hbk;by_cases hks:k < sl
    ·have q2:(k:Int) < (sl:Int):=by omega
     have q1:(0:Int)≤(k:Int):=by omega
     by_cases hk12:k < 12
     ·have q3:(k:Int) < 12:=by omega
      obtain ⟨sb,so,ai,ci,rfl,t0,t1,t2⟩:=(HSS.o.ext XK.o).at (i:=k) (by rw [← HSL.o];exact hks);obtain ⟨ac,hac⟩:=gN (m.states.getD k []);rw [← hac] at t1 t2;obtain ⟨_,_,_,hal⟩:=t2.shape;have T2:=kI t2;clear t2 hac;by_cases h8:8 < ac.length
      ·have q4:(8:Int) < (ac.length:Int):=by omega
       obtain ⟨qBK,fBK,lBK⟩:=BK.o.q3;go_wp2_with fail;go_ret;exact ⟨EndB.mk _,XK.o⟩
      ·have q4:¬ (8:Int) < (ac.length:Int):=by omega
       obtain ⟨qBK,fBK,lBK⟩:=BK.o.q3;go_wp2_with fail;clear qBK fBK lBK;go_loopw [4] (fun i wr=>∃ j:Nat,i=.int .i64 j∧j≤ac.length∧Ext wk wr) (fun i _=>ac.length - (intOf i).toNat)
       case atStart=>exact ⟨0,rfl,Nat.zero_le _,Ext.refl _⟩
       case round=>
        obtain ⟨wj,hwj⟩:=gN (wr);subst hwj;obtain ⟨j,rfl,hj,hxj⟩:=hrel;have XJ:=kI hxj;have XJW:Hid (Ext w wj):=kI (XK.o.trans hxj);have BJ:=kI (BK.o.ext hxj);have t1j:=(hxj.cell (p:=⟨sb,so+k,none⟩) t0).trans t1;have t0j:=Nat.lt_of_lt_of_le t0 hxj.size;clear hxj;by_cases hjl:j < ac.length
        ·obtain ⟨ab,ao,p1,e1,p2,e2,p3,e3,rfl,na,u3,u4⟩:=(T2.o.ext XJ.o).at hjl;obtain ⟨v0,v1,v2,v3,v4⟩:=na;obtain ⟨xx,hxx⟩:=gN (ac.getD j dA);rw [← hxx] at v1 v2 v3 v4 u3 u4;obtain ⟨_,_,_,hol⟩:=u4.shape;have V4:=kI v4;have U4:=kI u4;have q5:(0:Int)≤(j:Int):=by omega
         have q6:(j:Int) < (ac.length:Int):=by omega
         clear v4 u4 hxx;obtain ⟨qBJ,fBJ,lBJ⟩:=BJ.o.q3;go_wp2_with fail;clear qBJ fBJ lBJ;clear v1 v2 v3 u3;obtain ⟨bx,hbx⟩:=gN (wj.heap.size);obtain ⟨wb,hwb⟩:=gN (wj.alloc (.cells #[.bool xx.cost.neg,.slice p1 xx.cost.num.length e1,.slice p2 xx.cost.den.length e2,.slice p3 xx.next.length e3] 68));have hxb:Ext wj wb:=by rw [hwb];exact (Ext.refl _).alloc _
         have hbb:Blk wb bx #[.bool xx.cost.neg,.slice p1 xx.cost.num.length e1,.slice p2 xx.cost.den.length e2,.slice p3 xx.next.length e3] 68:=by rw [hwb,hbx];exact Blk.new _ _ _
         have hsz:wb.heap.size=wj.heap.size+1:=by rw [hwb];simp
         rw [← hwb,← hsz,← hbx];have XBJ:=kI hxb;have BX:=kI hbb;have V4b:=kI (V4.o.ext hxb);clear hbb hxb hwb hsz hbx;refine (long6s_any _ [xx.cost] (wb.alloc (.cells #[.bool xx.cost.neg,.slice p1 xx.cost.num.length e1,.slice p2 xx.cost.den.length e2] 25)) (rdRs_one (Blk.new wb #[.bool xx.cost.neg,.slice p1 xx.cost.num.length e1,.slice p2 xx.cost.den.length e2] 25) (V4b.o.ext ((Ext.refl _).alloc _))) (by simp)).mono ?_;rintro e v2 ⟨⟨r2,rfl,-⟩,hx2⟩;have Xv2:Hid (Ext wb v2):=kI (((Ext.refl wb).alloc _).trans hx2);clear hx2;cases r2
         ·have XV:Hid (Ext wj v2):=kI (XBJ.o.trans Xv2.o);have XVW:Hid (Ext w v2):=kI (XJW.o.trans XV.o);have BXv:=kI (BX.o.ext Xv2.o);have u6:¬ (xx.next.length:Int) < 0:=by omega
          by_cases h16:16 < xx.next.length
          ·have c1:(16:Int) < (xx.next.length:Int):=by omega
           by_cases h64:xx.next.length≤64
           ·have c2:(xx.next.length:Int)≤64:=by omega
            obtain ⟨qBXv,fBXv,lBXv⟩:=BXv.o.q3;go_wp2_with fail;go_ret;exact ⟨EndB.mk _,XVW.o⟩
           ·have c2:¬ (xx.next.length:Int)≤64:=by omega
            by_cases h70:70 < xx.next.length
            ·have c3:(70:Int) < (xx.next.length:Int):=by omega
             obtain ⟨qBXv,fBXv,lBXv⟩:=BXv.o.q3;go_wp2_with fail;go_ret;exact ⟨EndB.mk _,XVW.o⟩
            ·have c3:¬ (70:Int) < (xx.next.length:Int):=by omega
             obtain ⟨qBXv,fBXv,lBXv⟩:=BXv.o.q3;go_wp2_with fail;clear qBXv fBXv lBXv;go_loopw [6] (fun i wr=>∃ q:Nat,i=.int .i64 q∧q≤xx.next.length∧Ext v2 wr) (fun i _=>xx.next.length - (intOf i).toNat)
             case atStart=>exact ⟨0,rfl,Nat.zero_le _,Ext.refl _⟩
             case round=>
              obtain ⟨wi,hwi⟩:=gN (wr);subst hwi;obtain ⟨q,rfl,hq,hxi⟩:=hrel;have XI:=kI hxi;have XIW:Hid (Ext w wi):=kI (XVW.o.trans hxi);have BI:=kI (BXv.o.ext hxi);clear hxi;by_cases hql:q < xx.next.length
              ·obtain ⟨ob,oo,o1,o2,o3,o4,rfl,g0,g1,g2,g3,g4,g5⟩:=(U4.o.ext (XV.o.trans XI.o)).at hql;obtain ⟨O,hO⟩:=gN (xx.next.getD q dO);rw [← hO] at g1 g2 g3 g4 g5;obtain ⟨ot,op⟩:=O;dsimp only at g1 g2 g3 g4 g5;have G5:=kI g5;have q7:(0:Int)≤(q:Int):=by omega
               have q8:(q:Int) < (xx.next.length:Int):=by omega
               clear g5 hO;obtain ⟨qBI,fBI,lBI⟩:=BI.o.q3;go_wp2_with fail;clear qBI fBI lBI;refine (long6s_any _ [op] (wi.alloc (.cells #[.bool op.neg,.slice o1 op.num.length o2,.slice o3 op.den.length o4] 25)) (rdRs_one (Blk.new wi #[.bool op.neg,.slice o1 op.num.length o2,.slice o3 op.den.length o4] 25) (G5.o.ext ((Ext.refl _).alloc _))) (by simp)).mono ?_;rintro e v3 ⟨⟨r3,rfl,-⟩,hx3⟩;have Xv3:Hid (Ext wi v3):=kI (((Ext.refl wi).alloc _).trans hx3);clear hx3;cases r3
               ·go_wp2_with fail;go_roundw
                case rel=>exact ⟨q+1,by go_num,by omega,XI.o.trans Xv3.o⟩
                case measure=>simp [intOf];omega
               ·have XE:Hid (Ext w v3):=kI (XIW.o.trans Xv3.o);go_wp2_with fail;go_ret;exact ⟨EndB.mk _,XE.o⟩
              ·have q8:¬ (q:Int) < (xx.next.length:Int):=by omega
               obtain ⟨qBI,fBI,lBI⟩:=BI.o.q3;go_wp2_with fail;go_roundw
               case rel=>exact ⟨j+1,by go_num,by omega,XJ.o.trans (XV.o.trans XI.o)⟩
               case measure=>simp [intOf];omega
          ·have c1:¬ (16:Int) < (xx.next.length:Int):=by omega
           have c3:¬ (70:Int) < (xx.next.length:Int):=by omega
           obtain ⟨qBXv,fBXv,lBXv⟩:=BXv.o.q3;go_wp2_with fail;clear qBXv fBXv lBXv;go_loopw [6] (fun i wr=>∃ q:Nat,i=.int .i64 q∧q≤xx.next.length∧Ext v2 wr) (fun i _=>xx.next.length - (intOf i).toNat)
           case atStart=>exact ⟨0,rfl,Nat.zero_le _,Ext.refl _⟩
           case round=>
            obtain ⟨wi,hwi⟩:=gN (wr);subst hwi;obtain ⟨q,rfl,hq,hxi⟩:=hrel;have XI:=kI hxi;have XIW:Hid (Ext w wi):=kI (XVW.o.trans hxi);have BI:=kI (BXv.o.ext hxi);clear hxi;by_cases hql:q < xx.next.length
            ·obtain ⟨ob,oo,o1,o2,o3,o4,rfl,g0,g1,g2,g3,g4,g5⟩:=(U4.o.ext (XV.o.trans XI.o)).at hql;obtain ⟨O,hO⟩:=gN (xx.next.getD q dO);rw [← hO] at g1 g2 g3 g4 g5;obtain ⟨ot,op⟩:=O;dsimp only at g1 g2 g3 g4 g5;have G5:=kI g5;have q7:(0:Int)≤(q:Int):=by omega
             have q8:(q:Int) < (xx.next.length:Int):=by omega
             clear g5 hO;obtain ⟨qBI,fBI,lBI⟩:=BI.o.q3;go_wp2_with fail;clear qBI fBI lBI;refine (long6s_any _ [op] (wi.alloc (.cells #[.bool op.neg,.slice o1 op.num.length o2,.slice o3 op.den.length o4] 25)) (rdRs_one (Blk.new wi #[.bool op.neg,.slice o1 op.num.length o2,.slice o3 op.den.length o4] 25) (G5.o.ext ((Ext.refl _).alloc _))) (by simp)).mono ?_;rintro e v3 ⟨⟨r3,rfl,-⟩,hx3⟩;have Xv3:Hid (Ext wi v3):=kI (((Ext.refl wi).alloc _).trans hx3);clear hx3;cases r3
             ·go_wp2_with fail;go_roundw
              case rel=>exact ⟨q+1,by go_num,by omega,XI.o.trans Xv3.o⟩
              case measure=>simp [intOf];omega
             ·have XE:Hid (Ext w v3):=kI (XIW.o.trans Xv3.o);go_wp2_with fail;go_ret;exact ⟨EndB.mk _,XE.o⟩
            ·have q8:¬ (q:Int) < (xx.next.length:Int):=by omega
             obtain ⟨qBI,fBI,lBI⟩:=BI.o.q3;go_wp2_with fail;go_roundw
             case rel=>exact ⟨j+1,by go_num,by omega,XJ.o.trans (XV.o.trans XI.o)⟩
             case measure=>simp [intOf];omega
         ·have XVW:Hid (Ext w v2):=kI (XJW.o.trans (XBJ.o.trans Xv2.o));have BXv:=kI (BX.o.ext Xv2.o);obtain ⟨qBXv,fBXv,lBXv⟩:=BXv.o.q3;go_wp2_with fail;go_ret;exact ⟨EndB.mk _,XVW.o⟩
        ·have q6:¬ (j:Int) < (ac.length:Int):=by omega
         obtain ⟨qBJ,fBJ,lBJ⟩:=BJ.o.q3;go_wp2_with fail;go_roundw
         case rel=>exact ⟨k+1,by go_num,by omega,XJW.o,BJ.o⟩
         case measure=>simp [intOf];omega
     ·exfalso;omega
    ·have q2:¬ (k:Int) < (sl:Int):=by omega
     obtain ⟨qBK,fBK,lBK⟩:=BK.o.q3;go_wp2_with fail;go_ret;exact ⟨EndB.mk _,XK.o⟩
  ·have X0:Hid (Ext w v1):=kI (X.o.trans Xv1.o);go_wp2_with fail;go_ret;exact ⟨EndB.mk _,X0.o⟩
theorem rr_eq {a b:RR} (la:LimR a) (ca:chkR a=0) (lb:LimR b) (cb:chkR b=0) (h:qv a=qv b):a=b:=by
 rw [← (valid_rep la ca).2.2,← (valid_rep lb cb).2.2,h]
theorem getD_extR {p q:List RR} (h:p.length=q.length) (hx:∀ s,s < p.length→p.getD s zR=q.getD s zR):p=q:=by
 refine List.ext_getElem h (fun i h1 h2=>?_);have:=hx i h1;rwa [List.getD_eq_getElem?_getD,List.getD_eq_getElem?_getD,List.getElem?_eq_getElem h1,List.getElem?_eq_getElem h2] at this
theorem cp_val {m:MD} {p:List Int} (h:cpE m p=0):PolV m p:=by
 unfold cpE at h;by_cases e:p.length=m.states.length
 ·rw [if_neg (fun z=>z e)] at h;refine ⟨e,fun u hu=>?_⟩;have k:=frstE_all h u (by omega);unfold polE at k;split at k
  ·cases k
  ·omega
 ·rw [if_pos e] at h;cases h
structure Opt (m:MD) (v:List RR) (g q:List Int):Prop where
 pol:PolV m q
 sol:solveS m q=(v,0)
 bck:(backupS m v).2.2=0
 bet:betK m v m.states.length=false
 act:g=(backupS m v).2.1
theorem optG_end {m:MD} (hm:mdE m=0) (hg:qv m.disc < 1):∀ (d:Nat) (p:List Int),PolV m p→muP m p < d→∀ v g,optG m p=(v,g,0)→∃ q,Opt m v g q
 | 0,_,_,h,_,_,_=>absurd h (Nat.not_lt_zero _)
 | d+1,p,hp,h,v,g,e=>by
  by_cases h1:(solveS m p).2=0
  ·obtain ⟨vs,hvs⟩:∃ vs,solveS m p=(vs,0):=⟨_,Prod.ext rfl h1⟩;by_cases h2:(backupS m vs).2.2=0
   ·by_cases h3:betK m vs m.states.length=true
    ·obtain ⟨a,b⟩:=optG_step hm hg hp hvs h2 h3;rw [a] at e;exact optG_end hm hg d _ (impP_val hp h2) (by omega) v g e
    ·have h3':betK m vs m.states.length=false:=by simpa using h3
     rw [optG_done hvs h2 h3'] at e;injection e with e1 e2
     injection e2 with e2 _
     subst e1;exact ⟨p,hp,hvs,h2,h3',e2.symm⟩
   ·rw [optG_bad2 hvs rfl h2] at e;injection e with _ e2
    injection e2 with _ e3
    exact absurd e3 h2
  ·rw [optG_bad1 rfl h1] at e;injection e with _ e2
   injection e2 with _ e3
   exact absurd e3 h1
theorem optF_nil {m:MD}:∀ (k:Nat) (p:List Int),(optF m k p).2.2≠0→(optF m k p).1=[]∧(optF m k p).2.1=[]
 | 0,_,h=>absurd rfl h
 | k+1,p,h=>by
  unfold optF at h ⊢;by_cases h1:(solveS m p).2=0
  ·have n1:¬ (solveS m p).2≠0:=fun z=>z h1;rw [if_neg n1] at h ⊢;by_cases h2:(backupS m (solveS m p).1).2.2=0
   ·have n2:¬ (backupS m (solveS m p).1).2.2≠0:=fun z=>z h2;rw [if_neg n2] at h ⊢;by_cases h3:betK m (solveS m p).1 m.states.length=true
    ·rw [if_pos h3] at h ⊢;exact optF_nil k _ h
    ·rw [if_neg h3] at h;exact absurd rfl h
   ·rw [if_pos h2];exact ⟨rfl,rfl⟩
  ·rw [if_pos h1];exact ⟨rfl,rfl⟩
theorem optS_nil {m:MD} {v:List RR} {g:List Int} {c:Int} (h:optS m=(v,g,c)) (hc:c≠0):v=[]∧g=[]:=by
 by_cases h1:cwE m=0
 ·by_cases h2:8 < m.states.length
  ·rw [optS_2 h1 h2] at h;injection h with a b;injection b with b _;exact ⟨a.symm,b.symm⟩
  ·rw [optS_3 h1 h2] at h;have k:=optF_nil (m:=m) (muP m (List.replicate m.states.length 0)+1) (List.replicate m.states.length 0);rw [show optF m (muP m (List.replicate m.states.length 0)+1) (List.replicate m.states.length 0)=(v,g,c) from h] at k;exact k hc
 ·rw [optS_1 rfl h1] at h;injection h with a b;injection b with b _;exact ⟨a.symm,b.symm⟩
theorem optS_end {m:MD} {v:List RR} {g:List Int} (h:optS m=(v,g,0)):cwE m=0∧mdE m=0∧qv m.disc < 1∧¬ 8 < m.states.length∧∃ q,Opt m v g q:=by
 by_cases h1:cwE m=0
 ·by_cases h2:8 < m.states.length
  ·rw [optS_2 h1 h2] at h;injection h with _ b;injection b with _ b;cases b
  ·rw [optS_3 h1 h2] at h;obtain ⟨a,b⟩:=cw_ok h1;have hg:=cw_lt a b;exact ⟨h1,a,hg,h2,optG_end a hg _ _ (pol_zero a) (Nat.lt_succ_self _) v g h⟩
 ·rw [optS_1 rfl h1] at h;injection h with _ b;injection b with _ b;exact absurd b h1
theorem Opt.val {m:MD} {v:List RR} {g q:List Int} (hm:mdE m=0) (h:Opt m v g q):v.length=m.states.length∧LimL v∧∀ s,s < m.states.length→
  chkR (v.getD s zR)=0∧qv (v.getD s zR)=qv (polX m q s).cost+qv m.disc*dotO (polX m q s).next (fun t=>qv (v.getD t zR)):=by
 obtain ⟨a,b⟩:=pol_sat hm h.pol h.sol;have c:=solve_lim m q;rw [h.sol] at c;replace c:LimL v:=c;exact ⟨a,c,b⟩
theorem Opt.back {m:MD} {v:List RR} {g q:List Int} (hm:mdE m=0) (h:Opt m v g q):backupS m v=(v,g,0):=by
 obtain ⟨a,b,c⟩:=h.val hm;obtain ⟨b1,b2,b3,b4⟩:=back_ok h.bck;have e:(backupS m v).1=v:=getD_extR (b1.trans a.symm) (fun s hs=>by
  rw [b1] at hs;refine rr_eq (b3 s (by omega)) (b4 s hs) (b s (by omega)) (c s hs).1 (Rat.le_antisymm ?_ ?_)
  ·have ha:(q.getD s 0).toNat < (m.states.getD s []).length:=by have:=h.pol.2 s hs;omega
   obtain ⟨k1,k2⟩:=bk_le h.bck hs ha;have k3:=score_val k1;rw [dotO_eq] at k3;rw [(c s hs).2];exact Rat.le_trans k2 (by rw [k3];exact Rat.le_refl)
  ·exact Rat.not_lt.1 (betK_none h.bet s hs))
 exact Prod.ext e (Prod.ext h.act.symm h.bck)
theorem Opt.polg {m:MD} {v:List RR} {g q:List Int} (h:Opt m v g q):PolV m g:=by
 obtain ⟨_,b2,_,_⟩:=back_ok h.bck;exact ⟨by rw [h.act,b2],fun u hu=>by rw [h.act];have:=back_val h.bck hu;exact ⟨this.1,this.2.1⟩⟩
theorem Opt.greedy {m:MD} {v u:List RR} {g q:List Int} {d:Int} (hm:mdE m=0) (hg:qv m.disc < 1) (h:Opt m v g q) (he:solveS m g=(u,d)):(d=0∨d=4)∧(d=0→u=v):=by
 constructor
 ·have:=solve_err hm h.polg hg;rwa [he] at this
 ·intro hd;subst hd;obtain ⟨a,b,c⟩:=h.val hm;obtain ⟨a',b'⟩:=pol_sat hm h.polg he;have c':=solve_lim m g;rw [he] at c';replace c':LimL u:=c';have hb:=h.back hm;have e:∀ s,s < m.states.length→qv (v.getD s zR)=qv (polX m g s).cost+qv m.disc*dotO (polX m g s).next (fun t=>qv (v.getD t zR)):=fun s hs=>by
   have k:=(back_val h.bck hs).2.2;rw [hb] at k;exact k
  refine getD_extR (a'.trans a.symm) (fun s hs=>?_);rw [a'] at hs;exact rr_eq (c' s (by omega)) (b' s hs).1 (b s (by omega)) (c s hs).1
   (sat_one (disc_nonneg hm).1 hg (L:=fun s=>(polX m g s).next) (c:=fun s=>qv (polX m g s).cost) (u:=fun t=>qv (u.getD t zR)) (v:=fun t=>qv (v.getD t zR)) (fun s hs=>outs_of hm h.polg hs) (fun s hs=>pol_one hm h.polg hs) (fun s hs=>(b' s hs).2) e s hs)
theorem evalS_nil {m:MD} {p:List Int} {w:List RR} {d:Int} (h:evalS m p=(w,d)) (hd:d≠0):w=[]:=by
 by_cases h1:cwE m=0
 ·by_cases h2:8 < m.states.length
  ·rw [eval_2 h1 h2] at h;injection h with a _;exact a.symm
  ·by_cases h3:cpE m p=0
   ·rw [eval_4 h1 h2 h3] at h;have:=solve_nil (by rw [h]) hd;rw [h] at this;injection this
   ·rw [eval_3 h1 h2 rfl h3] at h;injection h with a _;exact a.symm
 ·rw [eval_1 rfl h1] at h;injection h with a _;exact a.symm
theorem evalS_end {m:MD} {p:List Int} {w:List RR} (h:evalS m p=(w,0)):cwE m=0∧¬ 8 < m.states.length∧PolV m p∧solveS m p=(w,0):=by
 by_cases h1:cwE m=0
 ·by_cases h2:8 < m.states.length
  ·rw [eval_2 h1 h2] at h;injection h with _ b;cases b
  ·by_cases h3:cpE m p=0
   ·rw [eval_4 h1 h2 h3] at h;exact ⟨h1,h2,cp_val h3,h⟩
   ·rw [eval_3 h1 h2 rfl h3] at h;injection h with _ b;exact absurd b h3
 ·rw [eval_1 rfl h1] at h;injection h with _ b;exact absurd b h1
theorem pol_under {m:MD} {p:List Int} {w x:List RR} {i:Int} (hm:mdE m=0) (hp:PolV m p) (h:solveS m p=(w,0)) (hu:underS m p w=(x,i)):(i=0∨i=4)∧(i=0→x=w):=by
 obtain ⟨a,b⟩:=pol_sat hm hp h;have lw:=solve_lim m p;rw [h] at lw;replace lw:LimL w:=lw;constructor
 ·have hmv:mvE m w=0:=by unfold mvE;rw [if_neg (fun z=>z hm),if_neg (fun z=>z a)]
  have hE:frstE (unE m p w) p.length=0∨frstE (unE m p w) p.length=4:=frstE_or (fun s hs=>by
   have hs':s < m.states.length:=by have:=hp.1;omega
   have h0:polE m p s=0:=by
    unfold polE;have:=hp.2 s hs';rw [if_neg (by omega)]
   unfold unE;rw [if_neg (fun z=>z h0)];exact score_err (md_valid hm).1 (md_act hm hs' (by have:=hp.2 s hs';omega)) (by omega) (fun i hi=>(b i (by omega)).1))
  unfold underS at hu;rw [if_neg (fun z=>z hmv),if_neg (fun z=>z hp.1)] at hu;rcases hE with e|e
  ·rw [if_neg (fun z=>z e)] at hu;injection hu with _ k;exact .inl k.symm
  ·rw [if_pos (by rw [e];decide),e] at hu;injection hu with _ k;exact .inr k.symm
 ·intro hi;subst hi;obtain ⟨k1,k2,k3,k4⟩:=und_ok (m:=m) (p:=p) (v:=w) (by rw [hu]);have ck:=unV_chk (m:=m) (p:=p) (u:=w) (by rw [hu]);have lx:=under_lim (m:=m) (p:=p) (v:=w);rw [hu] at k4 ck lx;have k4:x=unV m p w:=k4;replace lx:LimL x:=lx;have xl:x.length=p.length:=by rw [k4];simp [unV]
  refine getD_extR (by have:=hp.1;omega) (fun s hs=>?_);have hs1:s < p.length:=by omega
  have hs':s < m.states.length:=by have:=hp.1;omega
  refine rr_eq (lx s hs) (ck s hs) (lw s (by omega)) (b s hs').1 ?_;rw [k4,unV_at hs1,score_val (unE_ok (k3 s hs1)).2.2,dotO_eq,(b s hs').2];rfl
theorem Opt.least {m:MD} {v w:List RR} {g q p:List Int} (hm:mdE m=0) (hg:qv m.disc < 1) (h:Opt m v g q) (hp:PolV m p) (hs:solveS m p=(w,0)):∀ s,s < m.states.length→
  LimR (v.getD s zR)∧LimR (w.getD s zR)∧(cmpR (v.getD s zR) (w.getD s zR)).2=0∧(cmpR (v.getD s zR) (w.getD s zR)).1≤0:=fun s hss=>by
 obtain ⟨a,b,c⟩:=h.val hm;obtain ⟨a',b'⟩:=pol_sat hm hp hs;have lw:=solve_lim m p;rw [hs] at lw;replace lw:LimL w:=lw;have hl:=opt_least hm hg h.pol h.bck (betK_none h.bet) hp (fun s hs=>(b' s hs).2) s hss;refine ⟨b s (by omega),lw s (by omega),?_,?_⟩
 ·unfold cmpR;rw [if_pos (chkR2_ok (c s hss).1 (b' s hss).1)]
 ·unfold cmpR;rw [if_pos (chkR2_ok (c s hss).1 (b' s hss).1)];show cmpQ _ _≤0;unfold cmpQ;rcases Rat.le_iff_lt_or_eq.1 hl with k|k
  ·rw [if_pos k];decide
  ·rw [k,if_neg Rat.lt_irrefl,if_pos rfl];decide
theorem fix_plain {m:MD} {v:List RR} {g:List Int} {c:Int} (h:optS m=(v,g,c)) :
  (c≠0→v=[]∧g=[])∧(c=0→v.length=m.states.length∧g.length=m.states.length∧LimL v∧backupS m v=(v,g,0)∧
   (∀ u d,evalS m g=(u,d)→(d=0∨d=4)∧(d=0→u=v))∧
   (∀ p w d,evalS m p=(w,d)→(d≠0→w=[])∧(d=0→w.length=m.states.length∧LimL w∧(∀ x i,underS m p w=(x,i)→(i=0∨i=4)∧(i=0→x=w))∧
    ∀ s,s < m.states.length→LimR (v.getD s zR)∧LimR (w.getD s zR)∧(cmpR (v.getD s zR) (w.getD s zR)).2=0∧(cmpR (v.getD s zR) (w.getD s zR)).1≤0))):=by
 refine ⟨optS_nil h,fun hc=>?_⟩;subst hc;obtain ⟨h1,hm,hg,h2,q,ho⟩:=optS_end h;obtain ⟨a,b,c⟩:=ho.val hm;refine ⟨a,ho.polg.1,b,ho.back hm,fun u d he=>?_,fun p w d he=>⟨evalS_nil he,fun hd=>?_⟩⟩
 ·rw [eval_4 h1 h2 (cpE_val ho.polg)] at he;exact ho.greedy hm hg he
 ·subst hd;obtain ⟨_,_,hp,hs⟩:=evalS_end he;have lw:=solve_lim m p;rw [hs] at lw;replace lw:LimL w:=lw;exact ⟨(pol_sat hm hp hs).1,lw,fun x i hu=>pol_under hm hp hs hu,ho.least hm hg hp hs⟩
theorem long23_any (mv:Value) (m:MD) (w:World) (hm:RdM w mv m) :
  Calls Try.prog 4 #[mv] w fun e w'=>EndB e∧Ext w w':=by
 have HM:=kI hm;obtain ⟨m1,n1,m2,n2,m3,n3,rfl,-,-⟩:=hm;have bb0:=(Blk.new w #[.bool m.disc.neg,.slice m1 m.disc.num.length n1,.slice m2 m.disc.den.length n2,.slice m3 m.states.length n3] 28);have x0:Ext w (w.alloc (.cells #[.bool m.disc.neg,.slice m1 m.disc.num.length n1,.slice m2 m.disc.den.length n2,.slice m3 m.states.length n3] 28)):=((Ext.refl w).alloc _);have A0:=kI bb0;have X:=kI x0;clear x0 bb0;go_enter Try.func4,Try.ntmps4
 obtain ⟨qA0,fA0,lA0⟩:=A0.o.q3;go_wp2_with fail;refine (long21_any _ m _ (HM.o.ext X.o)).mono ?_;rintro e w1 ⟨⟨r,rfl⟩,hx⟩;clear qA0 fA0 lA0;replace A0:=kI (A0.o.ext hx);replace X:=kI (X.o.trans hx);clear hx;cases r;rotate_left
 ·go_wp2_with fail;go_ret;exact ⟨EndB.mk _,X.o⟩
 obtain ⟨sl,hsl⟩:=gN (m.states.length);have HSL:=kI hsl;rw [← hsl] at A0;clear hsl;by_cases h4:4 < sl
 rotate_left
 ·have q1:¬ (4:Int) < (sl:Int):=by omega
  obtain ⟨qA0,fA0,lA0⟩:=A0.o.q3;go_wp2_with fail;go_ret;exact ⟨EndB.mk _,X.o⟩
 have q1:(4:Int) < (sl:Int):=by omega
 by_cases h8:sl≤8
 ·have q2:(sl:Int)≤8:=by omega
  obtain ⟨qA0,fA0,lA0⟩:=A0.o.q3;go_wp2_with fail;go_ret;exact ⟨EndB.mk _,X.o⟩
 ·have q2:¬ (sl:Int)≤8:=by omega
  obtain ⟨qA0,fA0,lA0⟩:=A0.o.q3;go_wp2_with fail;go_ret;exact ⟨EndB.mk _,X.o⟩
def cfxJ (pa pb:Option Addr) (ca cb na nb k ba oa bb ob:Nat) (p y:RR) (c ec:Int) (j:Nat) (v:Value) (W:World):Prop:=
 match j with
 | 0=>v=.slice pa na ca
 | 1=>v=.int .i64 k
 | 2=>v=.pointer (some ⟨ba,oa+k*3,none⟩)
 | 3=>∃ s1 s2 s3 s4,v=.agg #[.bool p.neg,.slice s1 p.num.length s2,.slice s3 p.den.length s4]∧RdR W (.agg #[.bool p.neg,.slice s1 p.num.length s2,.slice s3 p.den.length s4]) p
 | 4=>v=.slice pb nb cb
 | 5=>v=.int .i64 k
 | 6=>v=.pointer (some ⟨bb,ob+k*3,none⟩)
 | 7=>∃ s1 s2 s3 s4,v=.agg #[.bool y.neg,.slice s1 y.num.length s2,.slice s3 y.den.length s4]∧RdR W (.agg #[.bool y.neg,.slice s1 y.num.length s2,.slice s3 y.den.length s4]) y
 | 8=>v=.tuple #[.int .i64 c,.int .i64 ec]
 | 9=>v=.tuple #[.int .i64 c,.int .i64 ec]
 | 10=>v=.int .i64 c
 | 11=>v=.int .i64 ec
 | _=>True
theorem cfxJ_ext {pa pb:Option Addr} {ca cb na nb k ba oa bb ob:Nat} {p y:RR} {c ec:Int} {j:Nat} {v:Value} {W W':World} (h:cfxJ pa pb ca cb na nb k ba oa bb ob p y c ec j v W) (x:Ext W W'):cfxJ pa pb ca cb na nb k ba oa bb ob p y c ec j v W':=by
 match j,h with
 | 0,h=>exact h
 | 1,h=>exact h
 | 2,h=>exact h
 | 3,⟨s1,s2,s3,s4,h1,h2⟩=>exact ⟨s1,s2,s3,s4,h1,h2.ext x⟩
 | 4,h=>exact h
 | 5,h=>exact h
 | 6,h=>exact h
 | 7,⟨s1,s2,s3,s4,h1,h2⟩=>exact ⟨s1,s2,s3,s4,h1,h2.ext x⟩
 | 8,h=>exact h
 | 9,h=>exact h
 | 10,h=>exact h
 | 11,h=>exact h
 | _+12,_=>trivial
theorem cfixL_any (mv pv:Value) (m:MD) (pol:List Int) (w:World) (hm:RdM w mv m) (hp:RdI .i64 w pv pol) (hlm:LimM m) :
  Calls Try.prog 3 #[mv,pv] w fun e w'=>e=.returned (.bool true)∧Ext w w':=by
 obtain ⟨ot,hot⟩:=gN (optS m);obtain ⟨v,g,c⟩:=ot;have HPL:=kI (fix_plain hot.symm);have hop:=fun W mv (h:RdM W mv m)=>copt_any mv m W h hlm;rw [← hot] at hop;unfold ResB at hop;dsimp only at hop;have HOP:=kI hop;have hev:=fun W mv pv (p:List Int) (h:RdM W mv m) (k:RdI .i64 W pv p)=>ceval_any mv pv m p W h k hlm;unfold ResN at hev;have HEV:=kI hev;have hbk:=fun W mv vv (l:List RR) (h:RdM W mv m) (k:RdRs W vv l) (h2:LimL l)=>backup_any mv vv m l W h k hlm h2;unfold ResB at hbk;have HBK:=kI hbk;have hun:=fun W mv pv vv (p:List Int) (l:List RR) (h:RdM W mv m) (k:RdI .i64 W pv p) (g:RdRs W vv l) (h2:LimL l)=>under_any mv pv vv m p l W h k g hlm h2;unfold ResN at hun;have HUN:=kI hun;have HM:=kI hm;have HP:=kI hp;obtain ⟨m1,n1,m2,n2,m3,n3,rfl,-,-⟩:=hm;obtain ⟨pa,pc,rfl,-,-,-⟩:=hp.get;clear hp hop hev hbk hun hot hlm;have bb0:=(Blk.new w #[.bool m.disc.neg,.slice m1 m.disc.num.length n1,.slice m2 m.disc.den.length n2,.slice m3 m.states.length n3] 28);have x0:Ext w (w.alloc (.cells #[.bool m.disc.neg,.slice m1 m.disc.num.length n1,.slice m2 m.disc.den.length n2,.slice m3 m.states.length n3] 28)):=((Ext.refl w).alloc _);have A0:=kI bb0;have X:=kI x0;clear x0 bb0;replace HM:=kI (HM.o.ext X.o);replace HP:=kI (Rd.ext HP.o X.o);obtain ⟨pl,hpl⟩:=gN (pol.length);have hp:=HP.o;rw [← hpl] at hp ⊢;replace HP:=kI hp;clear hp hpl;go_enter Try.func3,Try.ntmps3
 obtain ⟨qA0,fA0,lA0⟩:=A0.o.q3;go_wp2_with fail;refine (long23_any _ m _ HM.o).mono ?_;rintro e w1 ⟨⟨r,rfl⟩,hx⟩;clear qA0 fA0 lA0;replace A0:=kI (A0.o.ext hx);replace HM:=kI (HM.o.ext hx);replace HP:=kI (Rd.ext HP.o hx);replace X:=kI (X.o.trans hx);clear hx;cases r;rotate_left
 ·go_wp2_with fail;refine (awake23_any _).mono ?_;rintro e w2 ⟨rfl,hx⟩;replace A0:=kI (A0.o.ext hx);replace HM:=kI (HM.o.ext hx);replace HP:=kI (Rd.ext HP.o hx);replace X:=kI (X.o.trans hx);clear hx;go_wp2_with fail;go_ret;exact ⟨rfl,X.o⟩
 by_cases h20:20 < pl
 ·have q1:(20:Int) < (pl:Int):=by omega
  go_wp2_with fail;refine (awake23_any _).mono ?_;rintro e w2 ⟨rfl,hx⟩;replace A0:=kI (A0.o.ext hx);replace HM:=kI (HM.o.ext hx);replace HP:=kI (Rd.ext HP.o hx);replace X:=kI (X.o.trans hx);clear hx;go_wp2_with fail;go_ret;exact ⟨rfl,X.o⟩
 have q1:¬ (20:Int) < (pl:Int):=by omega
 go_wp2_with fail;refine (awake23_any _).mono ?_;rintro e w2 ⟨rfl,hx⟩;replace A0:=kI (A0.o.ext hx);replace HM:=kI (HM.o.ext hx);replace HP:=kI (Rd.ext HP.o hx);replace X:=kI (X.o.trans hx);clear hx;clear q1;obtain ⟨qA0,fA0,lA0⟩:=A0.o.q3;go_wp2_with fail;refine (HOP.o _ _ HM.o).mono ?_;rintro e w3 ⟨⟨vv,gv,rfl,ov,og⟩,hx⟩;clear qA0 fA0 lA0;replace A0:=kI (A0.o.ext hx);replace HM:=kI (HM.o.ext hx);replace HP:=kI (Rd.ext HP.o hx);replace X:=kI (X.o.trans hx);obtain ⟨va,vc,rfl⟩:=ov.shape;obtain ⟨ga,gc,rfl⟩:=og.shape;have VR:=kI ov.rd;have GR:=kI og.rdI;clear ov og hx HOP;by_cases hc:c=0
 rotate_left
 ·obtain ⟨rfl,rfl⟩:=HPL.o.1 hc;have q3:(c != 0)=true:=bne_iff_ne.2 hc;clear hc;simp only [List.length_nil];go_wp2_with fail;go_ret;exact ⟨rfl,X.o⟩
 obtain ⟨p1,p2,p3,p4,p5,p6⟩:=HPL.o.2 hc;subst hc;obtain ⟨n,hn⟩:=gN (m.states.length);have vr:=VR.o;have gr:=GR.o;rw [← hn] at p1 p2 p6;rw [p1] at vr ⊢;rw [p2] at gr ⊢;have VR:=kI vr;have GR:=kI gr;have HLV:=kI p3;have P4:=kI p4;have P5:=kI p5;have P6:=kI p6;have P1:=kI p1;have P2:=kI p2;have a0:=A0.o;rw [← hn] at a0;replace A0:=kI a0;clear vr gr p1 p2 p3 p4 p5 p6 HPL a0;have hm':=HM.o;rw [← hn] at hm';replace HM:=kI hm';clear hm' hn;obtain ⟨qA0,fA0,lA0⟩:=A0.o.q3;go_wp2_with fail;refine (HBK.o _ _ _ v HM.o VR.o HLV.o).mono ?_;rintro e w4 ⟨⟨v2,g2,rfl,ov,og⟩,hx⟩;rw [P4.o] at ov og ⊢;dsimp only at ov og ⊢;clear qA0 fA0 lA0;replace A0:=kI (A0.o.ext hx);replace HM:=kI (HM.o.ext hx);replace HP:=kI (Rd.ext HP.o hx);replace VR:=kI (VR.o.ext hx);replace GR:=kI (Rd.ext GR.o hx);replace X:=kI (X.o.trans hx);obtain ⟨xa,xc,rfl⟩:=ov.shape;obtain ⟨ya,yc,rfl⟩:=og.shape;have xr:=ov.rd;have yr:=og.rdI;rw [P1.o] at xr ⊢;rw [P2.o] at yr ⊢;have XR:=kI xr;have GB:=kI yr;clear ov og hx xr yr;obtain ⟨qA0,fA0,lA0⟩:=A0.o.q3;go_wp2_with fail;obtain ⟨ou,hou⟩:=gN (evalS m g);obtain ⟨u,d⟩:=ou;have P5b:=kI (P5.o u d hou.symm);refine (HEV.o _ _ _ g HM.o GR.o).mono ?_;rintro e w5 ⟨⟨v3,rfl,ov⟩,hx⟩;rw [← hou] at ov ⊢;dsimp only at ov ⊢;clear qA0 fA0 lA0;replace A0:=kI (A0.o.ext hx);replace HM:=kI (HM.o.ext hx);replace HP:=kI (Rd.ext HP.o hx);replace VR:=kI (VR.o.ext hx);replace GR:=kI (Rd.ext GR.o hx);replace XR:=kI (XR.o.ext hx);replace GB:=kI (Rd.ext GB.o hx);replace X:=kI (X.o.trans hx);obtain ⟨ua,uc,rfl⟩:=ov.shape;have UR:=kI ov.rd;clear ov hx hou P5;go_wp2_with fail;refine (equalRats_any _ _ v v _ XR.o VR.o).mono ?_;rintro e w6 ⟨rfl,hx⟩;rw [decide_eq_true rfl];replace A0:=kI (A0.o.ext hx);replace HM:=kI (HM.o.ext hx);replace HP:=kI (Rd.ext HP.o hx);replace VR:=kI (VR.o.ext hx);replace GR:=kI (Rd.ext GR.o hx);replace XR:=kI (XR.o.ext hx);replace GB:=kI (Rd.ext GB.o hx);replace UR:=kI (UR.o.ext hx);replace X:=kI (X.o.trans hx);clear hx;go_wp2_with fail
 refine (equalInts_any _ _ g g _ GB.o GR.o).mono ?_;rintro e w7 ⟨rfl,hx⟩;rw [decide_eq_true rfl];replace A0:=kI (A0.o.ext hx);replace HM:=kI (HM.o.ext hx);replace HP:=kI (Rd.ext HP.o hx);replace VR:=kI (VR.o.ext hx);replace GR:=kI (Rd.ext GR.o hx);replace XR:=kI (XR.o.ext hx);replace GB:=kI (Rd.ext GB.o hx);replace UR:=kI (UR.o.ext hx);replace X:=kI (X.o.trans hx);clear hx;have hnd:=P5b.o;clear P5b;rcases hnd.1 with rfl|rfl
 ·obtain rfl:v=u:=(hnd.2 rfl).symm;clear hnd;have ur:=UR.o;rw [P1.o] at ur ⊢;replace UR:=kI ur;clear ur;go_wp2_with fail;refine (equalRats_any _ _ v v _ UR.o VR.o).mono ?_;rintro e w8 ⟨rfl,hx⟩;rw [decide_eq_true rfl];replace A0:=kI (A0.o.ext hx);replace HM:=kI (HM.o.ext hx);replace HP:=kI (Rd.ext HP.o hx);replace VR:=kI (VR.o.ext hx);replace GR:=kI (Rd.ext GR.o hx);replace XR:=kI (XR.o.ext hx);replace GB:=kI (Rd.ext GB.o hx);replace UR:=kI (UR.o.ext hx);replace X:=kI (X.o.trans hx);clear hx;obtain ⟨qA0,fA0,lA0⟩:=A0.o.q3;go_wp2_with fail;obtain ⟨ow,how⟩:=gN (evalS m pol);obtain ⟨wl,d⟩:=ow;have P6b:=kI (P6.o pol wl d how.symm);refine (HEV.o _ _ _ pol HM.o HP.o).mono ?_;rintro e w9 ⟨⟨v4,rfl,ov⟩,hx⟩;rw [← how] at ov ⊢;dsimp only at ov ⊢;clear qA0 fA0 lA0;replace A0:=kI (A0.o.ext hx);replace HM:=kI (HM.o.ext hx);replace HP:=kI (Rd.ext HP.o hx);replace VR:=kI (VR.o.ext hx);replace GR:=kI (Rd.ext GR.o hx);replace XR:=kI (XR.o.ext hx);replace GB:=kI (Rd.ext GB.o hx);replace UR:=kI (UR.o.ext hx);replace X:=kI (X.o.trans hx);obtain ⟨wa,wc,rfl⟩:=ov.shape;have WR:=kI ov.rd;clear ov hx how P6 HEV HBK;by_cases hd:d=0
  rotate_left
  ·obtain rfl:=P6b.o.1 hd;have q3:(d != 0)=true:=bne_iff_ne.2 hd;clear hd;simp only [List.length_nil];go_wp2_with fail;go_ret;exact ⟨rfl,X.o⟩
  obtain ⟨p1,p2,p3,p4⟩:=P6b.o.2 hd;subst hd;have wr:=WR.o;rw [p1] at wr ⊢;have WR:=kI wr;have HLW:=kI p2;have Q3:=kI p3;have Q4:=kI p4;have W1:=kI p1;clear wr p1 p2 p3 p4 P6b;obtain ⟨qA0,fA0,lA0⟩:=A0.o.q3;go_wp2_with fail;obtain ⟨ox,hox⟩:=gN (underS m pol wl);obtain ⟨x,i⟩:=ox;have Q3b:=kI (Q3.o x i hox.symm);refine (HUN.o _ _ _ _ pol wl HM.o HP.o WR.o HLW.o).mono ?_;rintro e w10 ⟨⟨v5,rfl,ov⟩,hx⟩;rw [← hox] at ov ⊢;dsimp only at ov ⊢;clear qA0 fA0 lA0;replace A0:=kI (A0.o.ext hx);replace HM:=kI (HM.o.ext hx);replace HP:=kI (Rd.ext HP.o hx);replace VR:=kI (VR.o.ext hx);replace GR:=kI (Rd.ext GR.o hx);replace XR:=kI (XR.o.ext hx);replace GB:=kI (Rd.ext GB.o hx);replace UR:=kI (UR.o.ext hx);replace WR:=kI (WR.o.ext hx);replace X:=kI (X.o.trans hx);obtain ⟨za,zc,rfl⟩:=ov.shape;have ZR:=kI ov.rd;clear ov hx hox Q3 HUN;rcases Q3b.o.1 with rfl|rfl
  rotate_left
  ·go_wp2_with fail;go_ret;exact ⟨rfl,X.o⟩
  obtain rfl:=Q3b.o.2 rfl;clear Q3b;have zr:=ZR.o;rw [W1.o] at zr ⊢;replace ZR:=kI zr;clear zr;go_wp2_with fail;refine (equalRats_any _ _ x x _ ZR.o WR.o).mono ?_;rintro e w11 ⟨rfl,hx⟩;rw [decide_eq_true rfl];replace A0:=kI (A0.o.ext hx);replace HM:=kI (HM.o.ext hx);replace HP:=kI (Rd.ext HP.o hx);replace VR:=kI (VR.o.ext hx);replace GR:=kI (Rd.ext GR.o hx);replace XR:=kI (XR.o.ext hx);replace GB:=kI (Rd.ext GB.o hx);replace UR:=kI (UR.o.ext hx);replace WR:=kI (WR.o.ext hx);replace ZR:=kI (ZR.o.ext hx);replace X:=kI (X.o.trans hx);clear hx;go_wp2_with fail;obtain ⟨wB,hwB⟩:=gN (w11);subst hwB;have hn9:n≤9223372036854775807:=by
   obtain ⟨_,_,_,h1,h2,_⟩:=VR.o.get;have:=P1.o;omega
  go_loopw [17] (fun i wr=>∃ k:Nat,k≤n∧i=.int .i64 k∧Ext wB wr) (fun i _=>n - (intOf i).toNat)
  case atStart=>exact ⟨0,Nat.zero_le _,rfl,Ext.refl _⟩
  case round=>
   obtain ⟨wk,hwk⟩:=gN (wr);subst hwk;obtain ⟨k,hk,rfl,hxk⟩:=hrel;have XK:=kI hxk;clear hxk;by_cases hlt:k < n
   rotate_left
   ·have q1:¬ ((k:Int) < (n:Int)):=by omega
    go_wp2_with fail;go_ret;exact ⟨rfl,X.o.trans XK.o⟩
   have q1:(k:Int) < (n:Int):=by omega
   have q3:(0:Int)≤(k:Int):=by omega
   obtain ⟨lp,ly,c1',c2'⟩:=Q4.o k hlt;obtain ⟨_,_,e1,_,_,fa,hfa⟩:=(VR.o.ext XK.o).get;injection e1 with e0 e4 e5
   subst e0;clear e4 e5;obtain ⟨ba,oa,rfl,hba,m0,m1,m2,hra⟩:=hfa k (by rw [P1.o];exact hlt);obtain ⟨_,_,e1,_,_,fb,hfb⟩:=(WR.o.ext XK.o).get;injection e1 with e0 e4 e5
   subst e0;clear e4 e5;obtain ⟨bb,ob,rfl,hbb,n0,n1,n2,hrb⟩:=hfb k (by rw [W1.o];exact hlt);clear hfa hfb;obtain ⟨p,hp⟩:=gN (v.getD k zR);obtain ⟨y,hy⟩:=gN (x.getD k zR);rw [← hp,← hy] at c1' c2';rw [← hp] at lp m0 m1 m2 hra;rw [← hy] at ly n0 n1 n2 hrb;obtain ⟨ff,hff⟩:=gN (fa k);rw [← hff] at m1 m2 hra;obtain ⟨⟨a1,a2⟩,⟨a3,a4⟩⟩:=ff;obtain ⟨fg,hfg⟩:=gN (fb k);rw [← hfg] at n1 n2 hrb;obtain ⟨⟨b1,b2⟩,⟨b3,b4⟩⟩:=fg;dsimp only at m1 m2 hra n1 n2 hrb;have hcmp:=fun W v1 v2 (e1:RdR W v1 p) (e2:RdR W v2 y)=>cmpR_any v1 v2 p y W e1 e2 lp ly;obtain ⟨cc,hcc⟩:=gN (cmpR p y);rw [← hcc] at hcmp c1' c2';obtain ⟨c,ec⟩:=cc;dsimp only at hcmp c1' c2';subst c1';have HCM:=kI hcmp;have HC:=kI c2';have CA:Hid (ba < wk.heap.size∧wk.cell? ⟨ba,oa+k*3,none⟩=some (.bool p.neg)∧wk.cell? ⟨ba,oa+k*3+1,none⟩=some (.slice a1 p.num.length a2)∧wk.cell? ⟨ba,oa+k*3+2,none⟩=some (.slice a3 p.den.length a4)∧RdR wk (.agg #[.bool p.neg,.slice a1 p.num.length a2,.slice a3 p.den.length a4]) p):=kI ⟨hba,m0,m1,m2,hra⟩;have CB:Hid (bb < wk.heap.size∧wk.cell? ⟨bb,ob+k*3,none⟩=some (.bool y.neg)∧wk.cell? ⟨bb,ob+k*3+1,none⟩=some (.slice b1 y.num.length b2)∧wk.cell? ⟨bb,ob+k*3+2,none⟩=some (.slice b3 y.den.length b4)∧RdR wk (.agg #[.bool y.neg,.slice b1 y.num.length b2,.slice b3 y.den.length b4]) y):=kI ⟨hbb,n0,n1,n2,hrb⟩;have XX:=X;have X:=kI (Ext.refl wk);clear c2' lp ly hba m0 m1 m2 hra hbb n0 n1 n2 hrb hp hy hff hfg hcmp hcc;go_wp2_with fail;refine wp_region_each_float 12 11 (cfxJ (some ⟨ba,oa,none⟩) (some ⟨bb,ob,none⟩) vc wc n n k ba oa bb ob p y c 0) rfl (by kernel_rfl) (by kernel_rfl) (by kernel_rfl) (fun _ _ _ _ h x=>cfxJ_ext h x) (fun _ _ d _ _ h=>by cases d <;> exact h) ?_ ?_ ?_
   ·refine ⟨?_,?_,?_,?_,?_,?_,?_,?_,?_,?_,?_,?_,trivial⟩
    ·intro a W hW hB hD K hK;have b5:=hB 5 rfl;simp only [sB] at b5;go_simp;exact hK _ _ (Ext.refl _) rfl
    ·intro a W hW hB hD K hK;have b17:=hB 17 rfl;simp only [sB] at b17;go_simp;exact hK _ _ (Ext.refl _) rfl
    ·intro a W hW hB hD K hK;obtain ⟨v135,e135,h135⟩:=dpE (hD 0 _ 135 rfl rfl (by kernel_rfl));obtain rfl:=h135;obtain ⟨v136,e136,h136⟩:=dpE (hD 1 _ 136 rfl rfl (by kernel_rfl));obtain rfl:=h136;go_simp;exact hK _ _ (Ext.refl _) rfl
    ·intro a W hW hB hD K hK;obtain ⟨v137,e137,h137⟩:=dpE (hD 2 _ 137 rfl rfl (by kernel_rfl));obtain rfl:=h137;have m0:=((X.o.trans hW).cell (p:=⟨ba,oa+k*3,none⟩) CA.o.1).trans CA.o.2.1;have m1:=((X.o.trans hW).cell (p:=⟨ba,oa+k*3+1,none⟩) CA.o.1).trans CA.o.2.2.1;have m2:=((X.o.trans hW).cell (p:=⟨ba,oa+k*3+2,none⟩) CA.o.1).trans CA.o.2.2.2.1;have ml:=Nat.lt_of_lt_of_le CA.o.1 (X.o.trans hW).size;go_simp;exact hK _ _ (Ext.refl _) ⟨_,_,_,_,rfl,CA.o.2.2.2.2.ext (X.o.trans hW)⟩
    ·intro a W hW hB hD K hK;have b13:=hB 13 rfl;simp only [sB] at b13;go_simp;exact hK _ _ (Ext.refl _) rfl
    ·intro a W hW hB hD K hK;have b17:=hB 17 rfl;simp only [sB] at b17;go_simp;exact hK _ _ (Ext.refl _) rfl
    ·intro a W hW hB hD K hK;obtain ⟨v139,e139,h139⟩:=dpE (hD 4 _ 139 rfl rfl (by kernel_rfl));obtain rfl:=h139;obtain ⟨v140,e140,h140⟩:=dpE (hD 5 _ 140 rfl rfl (by kernel_rfl));obtain rfl:=h140;go_simp;exact hK _ _ (Ext.refl _) rfl
    ·intro a W hW hB hD K hK;obtain ⟨v141,e141,h141⟩:=dpE (hD 6 _ 141 rfl rfl (by kernel_rfl));obtain rfl:=h141;have m0:=((X.o.trans hW).cell (p:=⟨bb,ob+k*3,none⟩) CB.o.1).trans CB.o.2.1;have m1:=((X.o.trans hW).cell (p:=⟨bb,ob+k*3+1,none⟩) CB.o.1).trans CB.o.2.2.1;have m2:=((X.o.trans hW).cell (p:=⟨bb,ob+k*3+2,none⟩) CB.o.1).trans CB.o.2.2.2.1;have ml:=Nat.lt_of_lt_of_le CB.o.1 (X.o.trans hW).size;go_simp;exact hK _ _ (Ext.refl _) ⟨_,_,_,_,rfl,CB.o.2.2.2.2.ext (X.o.trans hW)⟩
    ·intro a W hW hB hD K hK;obtain ⟨v138,e138,h138⟩:=dpE (hD 3 _ 138 rfl rfl (by kernel_rfl));obtain ⟨d1,d2,d3,d4,rfl,dh⟩:=h138;obtain ⟨v142,e142,h142⟩:=dpE (hD 7 _ 142 rfl rfl (by kernel_rfl));obtain ⟨e1,e2,e3,e4,rfl,eh⟩:=h142;go_simp;refine (HCM.o _ _ _ dh eh).mono ?_;rintro e w9 ⟨rfl,hx⟩;exact hK _ _ hx rfl
    ·intro a W hW hB hD K hK;obtain ⟨v143,e143,h143⟩:=dpE (hD 8 _ 143 rfl rfl (by kernel_rfl));obtain rfl:=h143;go_simp;exact hK _ _ (Ext.refl _) rfl
    ·intro a W hW hB hD K hK;obtain ⟨v134,e134,h134⟩:=dpE (hD 9 _ 134 rfl rfl (by kernel_rfl));obtain rfl:=h134;go_simp;exact hK _ _ (Ext.refl _) rfl
    ·intro a W hW hB hD K hK;obtain ⟨v134,e134,h134⟩:=dpE (hD 9 _ 134 rfl rfl (by kernel_rfl));obtain rfl:=h134;go_simp;exact hK _ _ (Ext.refl _) rfl
   ·intro a W hW hB hD;have h134:=hD 9 _ 134 rfl rfl (by kernel_rfl);obtain ⟨v134,e134⟩:∃ x,a.tmps.getD 134 undef=x:=⟨_,rfl⟩;rw [e134] at h134;obtain rfl:=h134;exact ⟨.int .i64 0,fun w9=>run_extract9 e134 rfl rfl w9,rfl⟩
   intro w5' hx;simp only [Vals,List.take_succ_cons,List.take_zero,List.drop_succ_cons,List.drop_zero];rintro u0 - u1 - u2 - u3 - u4 - u5 - u6 - u7 - u8 - u9 - u10 h10 u11 h11;obtain rfl:u10=.int .i64 c:=h10;obtain rfl:u11=.int .i64 0:=h11;simp only [Act.put,List.setIfInBounds_toArray,List.set_cons_zero,List.set_cons_succ];have XK:=kI (XK.o.trans hx);have q4:¬ (0:Int) < c:=Int.not_lt.2 HC.o;have q5:¬ c > 0:=q4;clear hx X HCM CA CB;go_wp2_with fail;go_roundw
   case rel=>exact ⟨k+1,hlt,by go_num,XK.o⟩
   case measure=>simp [intOf];omega
 ·clear hnd;obtain ⟨qA0,fA0,lA0⟩:=A0.o.q3;go_wp2_with fail;obtain ⟨ow,how⟩:=gN (evalS m pol);obtain ⟨wl,d⟩:=ow;have P6b:=kI (P6.o pol wl d how.symm);refine (HEV.o _ _ _ pol HM.o HP.o).mono ?_;rintro e w9 ⟨⟨v4,rfl,ov⟩,hx⟩;rw [← how] at ov ⊢;dsimp only at ov ⊢;clear qA0 fA0 lA0;replace A0:=kI (A0.o.ext hx);replace HM:=kI (HM.o.ext hx);replace HP:=kI (Rd.ext HP.o hx);replace VR:=kI (VR.o.ext hx);replace GR:=kI (Rd.ext GR.o hx);replace XR:=kI (XR.o.ext hx);replace GB:=kI (Rd.ext GB.o hx);replace UR:=kI (UR.o.ext hx);replace X:=kI (X.o.trans hx);obtain ⟨wa,wc,rfl⟩:=ov.shape;have WR:=kI ov.rd;clear ov hx how P6 HEV HBK;by_cases hd:d=0
  rotate_left
  ·obtain rfl:=P6b.o.1 hd;have q3:(d != 0)=true:=bne_iff_ne.2 hd;clear hd;simp only [List.length_nil];go_wp2_with fail;go_ret;exact ⟨rfl,X.o⟩
  obtain ⟨p1,p2,p3,p4⟩:=P6b.o.2 hd;subst hd;have wr:=WR.o;rw [p1] at wr ⊢;have WR:=kI wr;have HLW:=kI p2;have Q3:=kI p3;have Q4:=kI p4;have W1:=kI p1;clear wr p1 p2 p3 p4 P6b;obtain ⟨qA0,fA0,lA0⟩:=A0.o.q3;go_wp2_with fail;obtain ⟨ox,hox⟩:=gN (underS m pol wl);obtain ⟨x,i⟩:=ox;have Q3b:=kI (Q3.o x i hox.symm);refine (HUN.o _ _ _ _ pol wl HM.o HP.o WR.o HLW.o).mono ?_;rintro e w10 ⟨⟨v5,rfl,ov⟩,hx⟩;rw [← hox] at ov ⊢;dsimp only at ov ⊢;clear qA0 fA0 lA0;replace A0:=kI (A0.o.ext hx);replace HM:=kI (HM.o.ext hx);replace HP:=kI (Rd.ext HP.o hx);replace VR:=kI (VR.o.ext hx);replace GR:=kI (Rd.ext GR.o hx);replace XR:=kI (XR.o.ext hx);replace GB:=kI (Rd.ext GB.o hx);replace UR:=kI (UR.o.ext hx);replace WR:=kI (WR.o.ext hx);replace X:=kI (X.o.trans hx);obtain ⟨za,zc,rfl⟩:=ov.shape;have ZR:=kI ov.rd;clear ov hx hox Q3 HUN;rcases Q3b.o.1 with rfl|rfl
  rotate_left
  ·go_wp2_with fail;go_ret;exact ⟨rfl,X.o⟩
  obtain rfl:=Q3b.o.2 rfl;clear Q3b;have zr:=ZR.o;rw [W1.o] at zr ⊢;replace ZR:=kI zr;clear zr;go_wp2_with fail;refine (equalRats_any _ _ x x _ ZR.o WR.o).mono ?_;rintro e w11 ⟨rfl,hx⟩;rw [decide_eq_true rfl];replace A0:=kI (A0.o.ext hx);replace HM:=kI (HM.o.ext hx);replace HP:=kI (Rd.ext HP.o hx);replace VR:=kI (VR.o.ext hx);replace GR:=kI (Rd.ext GR.o hx);replace XR:=kI (XR.o.ext hx);replace GB:=kI (Rd.ext GB.o hx);replace UR:=kI (UR.o.ext hx);replace WR:=kI (WR.o.ext hx);replace ZR:=kI (ZR.o.ext hx);replace X:=kI (X.o.trans hx);clear hx;go_wp2_with fail;obtain ⟨wB,hwB⟩:=gN (w11);subst hwB;have hn9:n≤9223372036854775807:=by
   obtain ⟨_,_,_,h1,h2,_⟩:=VR.o.get;have:=P1.o;omega
  go_loopw [17] (fun i wr=>∃ k:Nat,k≤n∧i=.int .i64 k∧Ext wB wr) (fun i _=>n - (intOf i).toNat)
  case atStart=>exact ⟨0,Nat.zero_le _,rfl,Ext.refl _⟩
  case round=>
   obtain ⟨wk,hwk⟩:=gN (wr);subst hwk;obtain ⟨k,hk,rfl,hxk⟩:=hrel;have XK:=kI hxk;clear hxk;by_cases hlt:k < n
   rotate_left
   ·have q1:¬ ((k:Int) < (n:Int)):=by omega
    go_wp2_with fail;go_ret;exact ⟨rfl,X.o.trans XK.o⟩
   have q1:(k:Int) < (n:Int):=by omega
   have q3:(0:Int)≤(k:Int):=by omega
   obtain ⟨lp,ly,c1',c2'⟩:=Q4.o k hlt;obtain ⟨_,_,e1,_,_,fa,hfa⟩:=(VR.o.ext XK.o).get;injection e1 with e0 e4 e5
   subst e0;clear e4 e5;obtain ⟨ba,oa,rfl,hba,m0,m1,m2,hra⟩:=hfa k (by rw [P1.o];exact hlt);obtain ⟨_,_,e1,_,_,fb,hfb⟩:=(WR.o.ext XK.o).get;injection e1 with e0 e4 e5
   subst e0;clear e4 e5;obtain ⟨bb,ob,rfl,hbb,n0,n1,n2,hrb⟩:=hfb k (by rw [W1.o];exact hlt);clear hfa hfb;obtain ⟨p,hp⟩:=gN (v.getD k zR);obtain ⟨y,hy⟩:=gN (x.getD k zR);rw [← hp,← hy] at c1' c2';rw [← hp] at lp m0 m1 m2 hra;rw [← hy] at ly n0 n1 n2 hrb;obtain ⟨ff,hff⟩:=gN (fa k);rw [← hff] at m1 m2 hra;obtain ⟨⟨a1,a2⟩,⟨a3,a4⟩⟩:=ff;obtain ⟨fg,hfg⟩:=gN (fb k);rw [← hfg] at n1 n2 hrb;obtain ⟨⟨b1,b2⟩,⟨b3,b4⟩⟩:=fg;dsimp only at m1 m2 hra n1 n2 hrb;have hcmp:=fun W v1 v2 (e1:RdR W v1 p) (e2:RdR W v2 y)=>cmpR_any v1 v2 p y W e1 e2 lp ly;obtain ⟨cc,hcc⟩:=gN (cmpR p y);rw [← hcc] at hcmp c1' c2';obtain ⟨c,ec⟩:=cc;dsimp only at hcmp c1' c2';subst c1';have HCM:=kI hcmp;have HC:=kI c2';have CA:Hid (ba < wk.heap.size∧wk.cell? ⟨ba,oa+k*3,none⟩=some (.bool p.neg)∧wk.cell? ⟨ba,oa+k*3+1,none⟩=some (.slice a1 p.num.length a2)∧wk.cell? ⟨ba,oa+k*3+2,none⟩=some (.slice a3 p.den.length a4)∧RdR wk (.agg #[.bool p.neg,.slice a1 p.num.length a2,.slice a3 p.den.length a4]) p):=kI ⟨hba,m0,m1,m2,hra⟩;have CB:Hid (bb < wk.heap.size∧wk.cell? ⟨bb,ob+k*3,none⟩=some (.bool y.neg)∧wk.cell? ⟨bb,ob+k*3+1,none⟩=some (.slice b1 y.num.length b2)∧wk.cell? ⟨bb,ob+k*3+2,none⟩=some (.slice b3 y.den.length b4)∧RdR wk (.agg #[.bool y.neg,.slice b1 y.num.length b2,.slice b3 y.den.length b4]) y):=kI ⟨hbb,n0,n1,n2,hrb⟩;have XX:=X;have X:=kI (Ext.refl wk);clear c2' lp ly hba m0 m1 m2 hra hbb n0 n1 n2 hrb hp hy hff hfg hcmp hcc;go_wp2_with fail;refine wp_region_each_float 12 11 (cfxJ (some ⟨ba,oa,none⟩) (some ⟨bb,ob,none⟩) vc wc n n k ba oa bb ob p y c 0) rfl (by kernel_rfl) (by kernel_rfl) (by kernel_rfl) (fun _ _ _ _ h x=>cfxJ_ext h x) (fun _ _ d _ _ h=>by cases d <;> exact h) ?_ ?_ ?_
   ·refine ⟨?_,?_,?_,?_,?_,?_,?_,?_,?_,?_,?_,?_,trivial⟩
    ·intro a W hW hB hD K hK;have b5:=hB 5 rfl;simp only [sB] at b5;go_simp;exact hK _ _ (Ext.refl _) rfl
    ·intro a W hW hB hD K hK;have b17:=hB 17 rfl;simp only [sB] at b17;go_simp;exact hK _ _ (Ext.refl _) rfl
    ·intro a W hW hB hD K hK;obtain ⟨v135,e135,h135⟩:=dpE (hD 0 _ 135 rfl rfl (by kernel_rfl));obtain rfl:=h135;obtain ⟨v136,e136,h136⟩:=dpE (hD 1 _ 136 rfl rfl (by kernel_rfl));obtain rfl:=h136;go_simp;exact hK _ _ (Ext.refl _) rfl
    ·intro a W hW hB hD K hK;obtain ⟨v137,e137,h137⟩:=dpE (hD 2 _ 137 rfl rfl (by kernel_rfl));obtain rfl:=h137;have m0:=((X.o.trans hW).cell (p:=⟨ba,oa+k*3,none⟩) CA.o.1).trans CA.o.2.1;have m1:=((X.o.trans hW).cell (p:=⟨ba,oa+k*3+1,none⟩) CA.o.1).trans CA.o.2.2.1;have m2:=((X.o.trans hW).cell (p:=⟨ba,oa+k*3+2,none⟩) CA.o.1).trans CA.o.2.2.2.1;have ml:=Nat.lt_of_lt_of_le CA.o.1 (X.o.trans hW).size;go_simp;exact hK _ _ (Ext.refl _) ⟨_,_,_,_,rfl,CA.o.2.2.2.2.ext (X.o.trans hW)⟩
    ·intro a W hW hB hD K hK;have b13:=hB 13 rfl;simp only [sB] at b13;go_simp;exact hK _ _ (Ext.refl _) rfl
    ·intro a W hW hB hD K hK;have b17:=hB 17 rfl;simp only [sB] at b17;go_simp;exact hK _ _ (Ext.refl _) rfl
    ·intro a W hW hB hD K hK;obtain ⟨v139,e139,h139⟩:=dpE (hD 4 _ 139 rfl rfl (by kernel_rfl));obtain rfl:=h139;obtain ⟨v140,e140,h140⟩:=dpE (hD 5 _ 140 rfl rfl (by kernel_rfl));obtain rfl:=h140;go_simp;exact hK _ _ (Ext.refl _) rfl
    ·intro a W hW hB hD K hK;obtain ⟨v141,e141,h141⟩:=dpE (hD 6 _ 141 rfl rfl (by kernel_rfl));obtain rfl:=h141;have m0:=((X.o.trans hW).cell (p:=⟨bb,ob+k*3,none⟩) CB.o.1).trans CB.o.2.1;have m1:=((X.o.trans hW).cell (p:=⟨bb,ob+k*3+1,none⟩) CB.o.1).trans CB.o.2.2.1;have m2:=((X.o.trans hW).cell (p:=⟨bb,ob+k*3+2,none⟩) CB.o.1).trans CB.o.2.2.2.1;have ml:=Nat.lt_of_lt_of_le CB.o.1 (X.o.trans hW).size;go_simp;exact hK _ _ (Ext.refl _) ⟨_,_,_,_,rfl,CB.o.2.2.2.2.ext (X.o.trans hW)⟩
    ·intro a W hW hB hD K hK;obtain ⟨v138,e138,h138⟩:=dpE (hD 3 _ 138 rfl rfl (by kernel_rfl));obtain ⟨d1,d2,d3,d4,rfl,dh⟩:=h138;obtain ⟨v142,e142,h142⟩:=dpE (hD 7 _ 142 rfl rfl (by kernel_rfl));obtain ⟨e1,e2,e3,e4,rfl,eh⟩:=h142;go_simp;refine (HCM.o _ _ _ dh eh).mono ?_;rintro e w9 ⟨rfl,hx⟩;exact hK _ _ hx rfl
    ·intro a W hW hB hD K hK;obtain ⟨v143,e143,h143⟩:=dpE (hD 8 _ 143 rfl rfl (by kernel_rfl));obtain rfl:=h143;go_simp;exact hK _ _ (Ext.refl _) rfl
    ·intro a W hW hB hD K hK;obtain ⟨v134,e134,h134⟩:=dpE (hD 9 _ 134 rfl rfl (by kernel_rfl));obtain rfl:=h134;go_simp;exact hK _ _ (Ext.refl _) rfl
    ·intro a W hW hB hD K hK;obtain ⟨v134,e134,h134⟩:=dpE (hD 9 _ 134 rfl rfl (by kernel_rfl));obtain rfl:=h134;go_simp;exact hK _ _ (Ext.refl _) rfl
   ·intro a W hW hB hD;have h134:=hD 9 _ 134 rfl rfl (by kernel_rfl);obtain ⟨v134,e134⟩:∃ x,a.tmps.getD 134 undef=x:=⟨_,rfl⟩;rw [e134] at h134;obtain rfl:=h134;exact ⟨.int .i64 0,fun w9=>run_extract9 e134 rfl rfl w9,rfl⟩
   intro w5' hx;simp only [Vals,List.take_succ_cons,List.take_zero,List.drop_succ_cons,List.drop_zero];rintro u0 - u1 - u2 - u3 - u4 - u5 - u6 - u7 - u8 - u9 - u10 h10 u11 h11;obtain rfl:u10=.int .i64 c:=h10;obtain rfl:u11=.int .i64 0:=h11;simp only [Act.put,List.setIfInBounds_toArray,List.set_cons_zero,List.set_cons_succ];have XK:=kI (XK.o.trans hx);have q4:¬ (0:Int) < c:=Int.not_lt.2 HC.o;have q5:¬ c > 0:=q4;clear hx X HCM CA CB;go_wp2_with fail;go_roundw
   case rel=>exact ⟨k+1,hlt,by go_num,XK.o⟩
   case measure=>simp [intOf];omega
section
open Go.ChangeShapes Go.WideShapes Go.ChangeAt Go.RowKit
theorem cfixL_lifted (os:Os) (started:os.Started) (H:Type) (enc:TypeId × Value→H) :
  ReturnsInHanded {} Try.checked os 3 .any (Rows.certifyFixedSpec.pre6 enc Try.prog Try.f3 Rows.certifyFixedRow.domain false) (Rows.certifyFixedSpec.post enc Try.prog Try.f3 false true false false):=by
 refine returnsInHanded_of_change (C:=Try.checked) rowOwn started (by kernel_rfl) Try.func3
  (ChangeSpec.witness6 (enc:=enc) (C:=Try.checked) false ⟨#[],#[.agg #[.bool false,.slice none 0 0,.slice none 0 0,.slice none 0 0],.slice none 0 0],[]⟩ 8 (by kernel_rfl) (by kernel_rfl) (by kernel_rfl) (by kernel_rfl)) ?_
 intro W base args ds gs before hval0 hW hcnd _;have hval:∀ (j:Nat) t v,Try.f3.params[j]?=some t→args[j]?=some v→Value.okWide Try.prog W .any base t v:=hval0;have hW':=hW;obtain ⟨p,q,hA0,hV,rfl,hfz,hnd⟩:=hW;have hA:DataW.TrodAll enc Try.prog W 0 (fun _=>true) true Try.f3.params.toList args.toList ds p:=hA0;rw [Try.params3] at hA hval;obtain ⟨v0,v1,d0,d1,p0,p1,rfl,rfl,rfl,h0,h1⟩:=trodAll_two hA;obtain ⟨rfl,rfl⟩:=trodVars_none hV;have lt0:∀ x ∈ p0,x.block < W.heap.size:=by obtain ⟨m,hm⟩:=h0;exact DataW.trod_lt m _ _ _ hm
 have lt1:∀ x ∈ p1,x.block < W.heap.size:=by obtain ⟨m,hm⟩:=h1;exact DataW.trod_lt m _ _ _ hm
 obtain ⟨m0,hr0,hl0⟩:=open_mdp (hval 0 28 v0 rfl rfl) h0;obtain ⟨l1,hr1⟩:=openC_ints (hval 1 29 v1 rfl rfl) h1;clear hA0 hval0;refine (cfixL_any v0 v1 m0 l1 W hr0 hr1 hl0).mono fun e W' ⟨he,bel⟩=>?_;subst he;exact ⟨_,rfl,_,_,_,[],_,[],hW',trodAll_mk1 (shut_bool Try.underlying4 _),trodAll_mk2 (Below.trod rowLaid (by kernel_rfl) (of_decide_eq_true (by kernel_rfl)) h0 bel lt0) (Below.trod rowLaid (by kernel_rfl) (of_decide_eq_true (by kernel_rfl)) h1 bel lt1),rfl,bel.frame _,fun h=>by cases h⟩
theorem cfixL_holds:Rows.CertifyFixedSaid:=
 OpenClaim.holds_of_wide 3 Try.f3 rfl rfl rfl rfl rfl rfl rfl ⟨rfl,rfl,rfl,rfl,rfl⟩ rfl rfl rfl rfl rfl (by kernel_rfl) Try.func3 (by kernel_rfl)
  (of_decide_eq_true (by kernel_rfl)) (by unfold Func.isWrapper;first|(rw [if_pos (by decide +kernel)];kernel_rfl)|(rw [if_neg (by decide +kernel)];exact ⟨rfl,rfl⟩))
  (fun os started H enc _=>cfixL_lifted os started H enc)
end
end Go.Proofs.Ytnnjbaijcaiohaa
