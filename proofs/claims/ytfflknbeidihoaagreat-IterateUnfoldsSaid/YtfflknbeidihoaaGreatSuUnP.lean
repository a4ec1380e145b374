/- Lemmas and walks. Conditions: as stated. -/
import Derived.WalkMore
import Derived.Test.YtfflknbeidihoaaGreatSuChL
set_option linter.unusedVariables false
set_option linter.unusedSimpArgs false
set_option maxRecDepth 100000
set_option maxHeartbeats 16000000
namespace Go.Proofs.YtfflknbeidihoaaGreat
open Go.RowKit
theorem long6o_any (a0:Option Addr) (cap:Nat) (vs:List (Hd × Hd)) (w:World) (hs:vs.length≤1000)
  (h:∀ (i:Nat) (hi:i < vs.length),∃ b off,a0=some ⟨b,off,none⟩∧w.cell? ⟨b,off+i*3+1,none⟩=some (.slice (vs[i]).1.1 (vs[i]).1.2.1 (vs[i]).1.2.2)∧w.cell? ⟨b,off+i*3+2,none⟩=some (.slice (vs[i]).2.1 (vs[i]).2.2.1 (vs[i]).2.2.2)) :
  Calls Tryz.prog 74 #[.slice a0 vs.length cap] w fun e w'=>LongR vs e∧Ext w w':=by
 have H:=kI h;clear h;go_enter Tryz.func74,Tryz.ntmps74
 go_wp2_with fail;go_loopw [3,4,5] (fun i _ _ wr=>∃ k:Nat,k≤vs.length∧i=.int .i64 k∧Ext w wr∧(∃ n,wr=w.drewN n)∧Hid (∀ (i:Nat) (hi:i < vs.length),i < k→okLen (vs[i]).1.2.1∧okLen (vs[i]).2.2.1)) (fun i _ _ _=>vs.length - (intOf i).toNat)
 case atStart=>exact ⟨0,Nat.zero_le _,rfl,Ext.refl _,⟨0,rfl⟩,kI (fun i _ h=>by omega)⟩
 case round=>
  obtain ⟨k,hk,rfl,hx,⟨nd,rfl⟩,HK⟩:=hrel;by_cases hlt:k < vs.length
  ·obtain ⟨bq,oq,rfl,hc1,hc2⟩:=H.o k hlt;have q9:(0:Int)≤(k:Int):=by omega
   have hstep:okLen (vs[k]).1.2.1→okLen (vs[k]).2.2.1→Hid (∀ (i:Nat) (hi:i < vs.length),i < k+1→okLen (vs[i]).1.2.1∧okLen (vs[i]).2.2.1):=fun h1 h2=>kI (fun i hi hik=>by
    by_cases e:i=k
    ·subst e;exact ⟨h1,h2⟩
    ·exact HK.o i hi (by omega))
   obtain ⟨x,hxx⟩:=gN (vs[k])
   rw [← hxx] at hc1 hc2 hstep;obtain ⟨⟨a,n,c⟩,a2,m,c2⟩:=x;clear hxx;dsimp only at hc1 hc2 hstep;have HS:=kI hstep;have X:=kI hx;clear hstep hx;have q0:(k:Int) < (vs.length:Int):=by omega
   have hmx:Tryz.prog.follows .mixedOrders=true:=by kernel_rfl
   go_wp2_with fail;go_quiet (fail)
   have hn4:n≤6∨(6 < n∧n≤128)∨(128 < n∧n≤200)∨200 < n:=by omega
   have hm4:m≤6∨(6 < m∧m≤128)∨(128 < m∧m≤200)∨200 < m:=by omega
   have okA:∀ x:Nat,x≤6→okLen x:=fun x h=>⟨.inl h,by omega⟩
   have okC:∀ x:Nat,128 < x∧x≤200→okLen x:=fun x h=>⟨.inr h.1,h.2⟩
   have OA:=kI okA;have OC:=kI okC;have X0:=Ext.refl w;clear okA okC;clear hc1 hc2;rcases hn4 with hn|hn|hn|hn
   ·rcases hm4 with hm|hm|hm|hm
    ·have q1:¬ (6:Int) < (n:Int):=by omega
     have q2:¬ (200:Int) < (n:Int):=by omega
     have r1:¬ (6:Int) < (m:Int):=by omega
     have r2:¬ (200:Int) < (m:Int):=by omega
     have S:=HS.o (OA.o _ hn) (OA.o _ hm);clear hn hm;go_wp2
     go_roundw
     case rel=>exact ⟨k+1,by omega,by go_num,X0.drewN _,⟨_,rfl⟩,S⟩
     case measure=>simp [intOf];omega
    ·have q1:¬ (6:Int) < (n:Int):=by omega
     have q2:¬ (200:Int) < (n:Int):=by omega
     have r1:(6:Int) < (m:Int):=by omega
     have r2:(m:Int)≤128:=by omega
     clear hn hm;go_wp2
     go_ret;exact ⟨⟨_,rfl,fun h=>by cases h⟩,X0.drewN _⟩
    ·have q1:¬ (6:Int) < (n:Int):=by omega
     have q2:¬ (200:Int) < (n:Int):=by omega
     have r1:(6:Int) < (m:Int):=by omega
     have r2:¬ (m:Int)≤128:=by omega
     have r3:¬ (200:Int) < (m:Int):=by omega
     have S:=HS.o (OA.o _ hn) (OC.o _ hm);clear hn hm;go_wp2
     go_roundw
     case rel=>exact ⟨k+1,by omega,by go_num,X0.drewN _,⟨_,rfl⟩,S⟩
     case measure=>simp [intOf];omega
    ·have q1:¬ (6:Int) < (n:Int):=by omega
     have q2:¬ (200:Int) < (n:Int):=by omega
     have r1:(6:Int) < (m:Int):=by omega
     have r2:¬ (m:Int)≤128:=by omega
     have r3:(200:Int) < (m:Int):=by omega
     clear hn hm;go_wp2
     go_ret;exact ⟨⟨_,rfl,fun h=>by cases h⟩,X0.drewN _⟩
   ·rcases hm4 with hm|hm|hm|hm
    ·have q1:(6:Int) < (n:Int):=by omega
     have q2:(n:Int)≤128:=by omega
     have r1:¬ (6:Int) < (m:Int):=by omega
     have r2:¬ (200:Int) < (m:Int):=by omega
     clear hn hm;go_wp2
     go_ret;exact ⟨⟨_,rfl,fun h=>by cases h⟩,X0.drewN _⟩
    ·have q1:(6:Int) < (n:Int):=by omega
     have q2:(n:Int)≤128:=by omega
     have r1:(6:Int) < (m:Int):=by omega
     have r2:(m:Int)≤128:=by omega
     clear hn hm;go_wp2
     go_ret;exact ⟨⟨_,rfl,fun h=>by cases h⟩,X0.drewN _⟩
    ·have q1:(6:Int) < (n:Int):=by omega
     have q2:(n:Int)≤128:=by omega
     have r1:(6:Int) < (m:Int):=by omega
     have r2:¬ (m:Int)≤128:=by omega
     have r3:¬ (200:Int) < (m:Int):=by omega
     clear hn hm;go_wp2
     go_ret;exact ⟨⟨_,rfl,fun h=>by cases h⟩,X0.drewN _⟩
    ·have q1:(6:Int) < (n:Int):=by omega
     have q2:(n:Int)≤128:=by omega
     have r1:(6:Int) < (m:Int):=by omega
     have r2:¬ (m:Int)≤128:=by omega
     have r3:(200:Int) < (m:Int):=by omega
     clear hn hm;go_wp2
     go_ret;exact ⟨⟨_,rfl,fun h=>by cases h⟩,X0.drewN _⟩
   ·rcases hm4 with hm|hm|hm|hm
    ·have q1:(6:Int) < (n:Int):=by omega
     have q2:¬ (n:Int)≤128:=by omega
     have q3:¬ (200:Int) < (n:Int):=by omega
     have r1:¬ (6:Int) < (m:Int):=by omega
     have r2:¬ (200:Int) < (m:Int):=by omega
     have S:=HS.o (OC.o _ hn) (OA.o _ hm);clear hn hm;go_wp2
     go_roundw
     case rel=>exact ⟨k+1,by omega,by go_num,X0.drewN _,⟨_,rfl⟩,S⟩
     case measure=>simp [intOf];omega
    ·have q1:(6:Int) < (n:Int):=by omega
     have q2:¬ (n:Int)≤128:=by omega
     have q3:¬ (200:Int) < (n:Int):=by omega
     have r1:(6:Int) < (m:Int):=by omega
     have r2:(m:Int)≤128:=by omega
     clear hn hm;go_wp2
     go_ret;exact ⟨⟨_,rfl,fun h=>by cases h⟩,X0.drewN _⟩
    ·have q1:(6:Int) < (n:Int):=by omega
     have q2:¬ (n:Int)≤128:=by omega
     have q3:¬ (200:Int) < (n:Int):=by omega
     have r1:(6:Int) < (m:Int):=by omega
     have r2:¬ (m:Int)≤128:=by omega
     have r3:¬ (200:Int) < (m:Int):=by omega
     have S:=HS.o (OC.o _ hn) (OC.o _ hm);clear hn hm;go_wp2
     go_roundw
     case rel=>exact ⟨k+1,by omega,by go_num,X0.drewN _,⟨_,rfl⟩,S⟩
     case measure=>simp [intOf];omega
    ·have q1:(6:Int) < (n:Int):=by omega
     have q2:¬ (n:Int)≤128:=by omega
     have q3:¬ (200:Int) < (n:Int):=by omega
     have r1:(6:Int) < (m:Int):=by omega
     have r2:¬ (m:Int)≤128:=by omega
     have r3:(200:Int) < (m:Int):=by omega
     clear hn hm;go_wp2
     go_ret;exact ⟨⟨_,rfl,fun h=>by cases h⟩,X0.drewN _⟩
   ·rcases hm4 with hm|hm|hm|hm
    ·have q1:(6:Int) < (n:Int):=by omega
     have q2:¬ (n:Int)≤128:=by omega
     have q3:(200:Int) < (n:Int):=by omega
     have r1:¬ (6:Int) < (m:Int):=by omega
     have r2:¬ (200:Int) < (m:Int):=by omega
     clear hn hm;go_wp2
     go_ret;exact ⟨⟨_,rfl,fun h=>by cases h⟩,X0.drewN _⟩
    ·have q1:(6:Int) < (n:Int):=by omega
     have q2:¬ (n:Int)≤128:=by omega
     have q3:(200:Int) < (n:Int):=by omega
     have r1:(6:Int) < (m:Int):=by omega
     have r2:(m:Int)≤128:=by omega
     clear hn hm;go_wp2
     go_ret;exact ⟨⟨_,rfl,fun h=>by cases h⟩,X0.drewN _⟩
    ·have q1:(6:Int) < (n:Int):=by omega
     have q2:¬ (n:Int)≤128:=by omega
     have q3:(200:Int) < (n:Int):=by omega
     have r1:(6:Int) < (m:Int):=by omega
     have r2:¬ (m:Int)≤128:=by omega
     have r3:¬ (200:Int) < (m:Int):=by omega
     clear hn hm;go_wp2
     go_ret;exact ⟨⟨_,rfl,fun h=>by cases h⟩,X0.drewN _⟩
    ·have q1:(6:Int) < (n:Int):=by omega
     have q2:¬ (n:Int)≤128:=by omega
     have q3:(200:Int) < (n:Int):=by omega
     have r1:(6:Int) < (m:Int):=by omega
     have r2:¬ (m:Int)≤128:=by omega
     have r3:(200:Int) < (m:Int):=by omega
     clear hn hm;go_wp2
     go_ret;exact ⟨⟨_,rfl,fun h=>by cases h⟩,X0.drewN _⟩
  ·have q0:¬ (k:Int) < (vs.length:Int):=by omega
   go_wp2
   go_ret;exact ⟨⟨_,rfl,fun _ i hi=>HK.o i hi (by omega)⟩,hx⟩
def hdsOf (f:Nat→(Option Addr × Nat) × (Option Addr × Nat)) (l:List RR):List (Hd × Hd):=(List.range l.length).map fun i=>(((f i).1.1,(l.getD i zR).num.length,(f i).1.2),((f i).2.1,(l.getD i zR).den.length,(f i).2.2))
theorem hdsOf_len (f:Nat→(Option Addr × Nat) × (Option Addr × Nat)) (l:List RR):(hdsOf f l).length=l.length:=by simp [hdsOf]
theorem hdsOf_at (f:Nat→(Option Addr × Nat) × (Option Addr × Nat)) (l:List RR) (i:Nat) (hi:i < (hdsOf f l).length):(hdsOf f l)[i]=(((f i).1.1,(l.getD i zR).num.length,(f i).1.2),((f i).2.1,(l.getD i zR).den.length,(f i).2.2)):=by
 simp only [hdsOf,List.getElem_map,List.getElem_range]
theorem long6s_any (v:Value) (l:List RR) (w:World) (h:RdRs w v l) (hs:l.length≤1000) :
  Calls Tryz.prog 74 #[v] w fun e w'=>(∃ r,e=.returned (.bool r)∧(r=false→∀ i,i < l.length→okLen (l.getD i zR).num.length∧okLen (l.getD i zR).den.length))∧Ext w w':=by
 obtain ⟨a,cap,rfl,hc,hm,f,hr⟩:=h.get;have hl:=hdsOf_len f l;have:=long6o_any a cap (hdsOf f l) w (by rw [hl];exact hs) (fun i hi=>by
  obtain ⟨b,off,e,_,_,x1,x2,_⟩:=hr i (by rw [← hl];exact hi);rw [hdsOf_at];exact ⟨b,off,e,x1,x2⟩)
 rw [hl] at this;refine this.mono ?_;rintro e w' ⟨⟨r,rfl,h2⟩,hx⟩;refine ⟨⟨r,rfl,fun e i hi=>?_⟩,hx⟩;have:=h2 e i (by rw [hl];exact hi);rw [hdsOf_at] at this;exact this
def EndB (e:Ending):Prop:=∃ r,e=.returned (.bool r)
theorem EndB.mk (r:Bool):EndB (.returned (.bool r)):=⟨r,rfl⟩
theorem long21_any (mv:Value) (m:MD) (w:World) (hm:RdM w mv m) :
  Calls Tryz.prog 31 #[mv] w fun e w'=>EndB e∧Ext w w':=by
 have HM:=kI hm;obtain ⟨m1,n1,m2,n2,m3,n3,rfl,hmd,hss⟩:=hm;have HSS:=kI hss;have HMD:=kI hmd;have hsn:m.states.length≤9223372036854775807:=by obtain ⟨_,_,_,h⟩:=hss.shape;exact h
 obtain ⟨sl,hsl⟩:=gN (m.states.length)
 have HSL:=kI hsl;rw [← hsl] at hsn;clear hmd hss;rw [← hsl];clear hsl;have bb0:=(Blk.new w #[.bool m.disc.neg,.slice m1 m.disc.num.length n1,.slice m2 m.disc.den.length n2,.slice m3 sl n3] 28);have x0:Ext w (w.alloc (.cells #[.bool m.disc.neg,.slice m1 m.disc.num.length n1,.slice m2 m.disc.den.length n2,.slice m3 sl n3] 28)):=((Ext.refl w).alloc _);have A0:=kI bb0;have X:=kI x0;clear x0 bb0;go_enter Tryz.func31,Tryz.ntmps31
 by_cases h12:12 < sl
 ·have c1:(12:Int) < (sl:Int):=by omega
  by_cases h200:sl≤200
  ·have c2:(sl:Int)≤200:=by omega
   obtain ⟨qA0,fA0,lA0⟩:=A0.o.q3;go_wp2_with fail;go_ret;exact ⟨EndB.mk _,X.o⟩
  ·have c2:¬ (sl:Int)≤200:=by omega
   by_cases h210:210 < sl
   ·have c3:(210:Int) < (sl:Int):=by omega
    obtain ⟨qA0,fA0,lA0⟩:=A0.o.q3;go_wp2_with fail;go_ret;exact ⟨EndB.mk _,X.o⟩
   ·have c3:¬ (210:Int) < (sl:Int):=by omega
    obtain ⟨qA0,fA0,lA0⟩:=A0.o.q3;go_wp2_with fail;clear qA0 fA0 lA0;obtain ⟨wl,hwl⟩:=gN ((w.alloc (.cells #[.bool m.disc.neg,.slice m1 m.disc.num.length n1,.slice m2 m.disc.den.length n2,.slice m3 sl n3] 28)))
    have hsz:wl.heap.size=w.heap.size+1:=by rw [hwl];simp
    rw [← hwl] at A0 X ⊢;rw [← hsz];clear hwl hsz;refine (long6s_any _ [m.disc] (wl.alloc (.cells #[.bool m.disc.neg,.slice m1 m.disc.num.length n1,.slice m2 m.disc.den.length n2] 25)) (rdRs_one (Blk.new wl #[.bool m.disc.neg,.slice m1 m.disc.num.length n1,.slice m2 m.disc.den.length n2] 25) (HMD.o.ext (X.o.alloc _))) (by simp)).mono ?_;rintro e v1 ⟨⟨r1,rfl,-⟩,hx1⟩;have Xv1:Hid (Ext wl v1):=kI (((Ext.refl wl).alloc _).trans hx1);clear hx1;cases r1
    ·have X0:Hid (Ext w v1):=kI (X.o.trans Xv1.o);have A0v:=kI (A0.o.ext Xv1.o);obtain ⟨qA0v,fA0v,lA0v⟩:=A0v.o.q3;go_wp2_with fail;clear qA0v fA0v lA0v;go_loopw [3] (fun i wr=>∃ k:Nat,i=.int .i64 k∧k≤sl∧Ext w wr∧Blk wr w.heap.size #[.bool m.disc.neg,.slice m1 m.disc.num.length n1,.slice m2 m.disc.den.length n2,.slice m3 sl n3] 28) (fun i _=>sl - (intOf i).toNat)
     case atStart=>exact ⟨0,rfl,Nat.zero_le _,X0.o,A0v.o⟩
     case round=>
      obtain ⟨wk,hwk⟩:=gN (wr)
      subst hwk;obtain ⟨k,rfl,hk,hxk,hbk⟩:=hrel;have XK:=kI hxk;have BK:=kI hbk;clear hxk hbk;by_cases hks:k < sl
      ·have q2:(k:Int) < (sl:Int):=by omega
       have q1:(0:Int)≤(k:Int):=by omega
       by_cases hk12:k < 12
       ·have q3:(k:Int) < 12:=by omega
        obtain ⟨sb,so,ai,ci,rfl,t0,t1,t2⟩:=(HSS.o.ext XK.o).at (i:=k) (by rw [← HSL.o];exact hks);obtain ⟨ac,hac⟩:=gN (m.states.getD k [])
        rw [← hac] at t1 t2;obtain ⟨_,_,_,hal⟩:=t2.shape;have T2:=kI t2;clear t2 hac;by_cases h8:8 < ac.length
        ·have q4:(8:Int) < (ac.length:Int):=by omega
         obtain ⟨qBK,fBK,lBK⟩:=BK.o.q3;go_wp2_with fail;go_ret;exact ⟨EndB.mk _,XK.o⟩
        ·have q4:¬ (8:Int) < (ac.length:Int):=by omega
         obtain ⟨qBK,fBK,lBK⟩:=BK.o.q3;go_wp2_with fail;clear qBK fBK lBK;go_loopw [4] (fun i wr=>∃ j:Nat,i=.int .i64 j∧j≤ac.length∧Ext wk wr) (fun i _=>ac.length - (intOf i).toNat)
         case atStart=>exact ⟨0,rfl,Nat.zero_le _,Ext.refl _⟩
         case round=>
          obtain ⟨wj,hwj⟩:=gN (wr)
          subst hwj;obtain ⟨j,rfl,hj,hxj⟩:=hrel;have XJ:=kI hxj;have XJW:Hid (Ext w wj):=kI (XK.o.trans hxj);have BJ:=kI (BK.o.ext hxj);have t1j:=(hxj.cell (p:=⟨sb,so+k,none⟩) t0).trans t1;have t0j:=Nat.lt_of_lt_of_le t0 hxj.size;clear hxj;by_cases hjl:j < ac.length
          ·obtain ⟨ab,ao,p1,e1,p2,e2,p3,e3,rfl,na,u3,u4⟩:=(T2.o.ext XJ.o).at hjl;obtain ⟨v0,v1,v2,v3,v4⟩:=na;obtain ⟨xx,hxx⟩:=gN (ac.getD j dA)
           rw [← hxx] at v1 v2 v3 v4 u3 u4;obtain ⟨_,_,_,hol⟩:=u4.shape;have V4:=kI v4;have U4:=kI u4;have q5:(0:Int)≤(j:Int):=by omega
           have q6:(j:Int) < (ac.length:Int):=by omega
           clear v4 u4 hxx;obtain ⟨qBJ,fBJ,lBJ⟩:=BJ.o.q3;go_wp2_with fail;clear qBJ fBJ lBJ;clear v1 v2 v3 u3;obtain ⟨bx,hbx⟩:=gN (wj.heap.size)
           obtain ⟨wb,hwb⟩:=gN (wj.alloc (.cells #[.bool xx.cost.neg,.slice p1 xx.cost.num.length e1,.slice p2 xx.cost.den.length e2,.slice p3 xx.next.length e3] 62))
           have hxb:Ext wj wb:=by rw [hwb];exact (Ext.refl _).alloc _
           have hbb:Blk wb bx #[.bool xx.cost.neg,.slice p1 xx.cost.num.length e1,.slice p2 xx.cost.den.length e2,.slice p3 xx.next.length e3] 62:=by rw [hwb,hbx];exact Blk.new _ _ _
           have hsz:wb.heap.size=wj.heap.size+1:=by rw [hwb];simp
           rw [← hwb,← hsz,← hbx];have XBJ:=kI hxb;have BX:=kI hbb;have V4b:=kI (V4.o.ext hxb);clear hbb hxb hwb hsz hbx;refine (long6s_any _ [xx.cost] (wb.alloc (.cells #[.bool xx.cost.neg,.slice p1 xx.cost.num.length e1,.slice p2 xx.cost.den.length e2] 25)) (rdRs_one (Blk.new wb #[.bool xx.cost.neg,.slice p1 xx.cost.num.length e1,.slice p2 xx.cost.den.length e2] 25) (V4b.o.ext ((Ext.refl _).alloc _))) (by simp)).mono ?_;rintro e v2 ⟨⟨r2,rfl,-⟩,hx2⟩;have Xv2:Hid (Ext wb v2):=kI (((Ext.refl wb).alloc _).trans hx2);clear hx2;cases r2
           ·have XV:Hid (Ext wj v2):=kI (XBJ.o.trans Xv2.o);have XVW:Hid (Ext w v2):=kI (XJW.o.trans XV.o);have BXv:=kI (BX.o.ext Xv2.o);have u6:¬ (xx.next.length:Int) < 0:=by omega
            by_cases h16:16 < xx.next.length
            ·have c1:(16:Int) < (xx.next.length:Int):=by omega
             by_cases h64:xx.next.length≤64
             ·have c2:(xx.next.length:Int)≤64:=by omega
              obtain ⟨qBXv,fBXv,lBXv⟩:=BXv.o.q3;go_wp2_with fail;go_ret;exact ⟨EndB.mk _,XVW.o⟩
             ·have c2:¬ (xx.next.length:Int)≤64:=by omega
              by_cases h70:70 < xx.next.length
              ·have c3:(70:Int) < (xx.next.length:Int):=by omega
               obtain ⟨qBXv,fBXv,lBXv⟩:=BXv.o.q3;go_wp2_with fail;go_ret;exact ⟨EndB.mk _,XVW.o⟩
              ·have c3:¬ (70:Int) < (xx.next.length:Int):=by omega
               obtain ⟨qBXv,fBXv,lBXv⟩:=BXv.o.q3;go_wp2_with fail;clear qBXv fBXv lBXv;go_loopw [6] (fun i wr=>∃ q:Nat,i=.int .i64 q∧q≤xx.next.length∧Ext v2 wr) (fun i _=>xx.next.length - (intOf i).toNat)
               case atStart=>exact ⟨0,rfl,Nat.zero_le _,Ext.refl _⟩
               case round=>
                obtain ⟨wi,hwi⟩:=gN (wr)
                subst hwi;obtain ⟨q,rfl,hq,hxi⟩:=hrel;have XI:=kI hxi;have XIW:Hid (Ext w wi):=kI (XVW.o.trans hxi);have BI:=kI (BXv.o.ext hxi);clear hxi;by_cases hql:q < xx.next.length
                ·obtain ⟨ob,oo,o1,o2,o3,o4,rfl,g0,g1,g2,g3,g4,g5⟩:=(U4.o.ext (XV.o.trans XI.o)).at hql;obtain ⟨O,hO⟩:=gN (xx.next.getD q dO)
                 rw [← hO] at g1 g2 g3 g4 g5;obtain ⟨ot,op⟩:=O;dsimp only at g1 g2 g3 g4 g5;have G5:=kI g5;have q7:(0:Int)≤(q:Int):=by omega
                 have q8:(q:Int) < (xx.next.length:Int):=by omega
                 clear g5 hO;obtain ⟨qBI,fBI,lBI⟩:=BI.o.q3;go_wp2_with fail;clear qBI fBI lBI;refine (long6s_any _ [op] (wi.alloc (.cells #[.bool op.neg,.slice o1 op.num.length o2,.slice o3 op.den.length o4] 25)) (rdRs_one (Blk.new wi #[.bool op.neg,.slice o1 op.num.length o2,.slice o3 op.den.length o4] 25) (G5.o.ext ((Ext.refl _).alloc _))) (by simp)).mono ?_;rintro e v3 ⟨⟨r3,rfl,-⟩,hx3⟩;have Xv3:Hid (Ext wi v3):=kI (((Ext.refl wi).alloc _).trans hx3);clear hx3;cases r3
                 ·go_wp2_with fail;go_roundw
                  case rel=>exact ⟨q+1,by go_num,by omega,XI.o.trans Xv3.o⟩
                  case measure=>simp [intOf];omega
                 ·have XE:Hid (Ext w v3):=kI (XIW.o.trans Xv3.o);go_wp2_with fail;go_ret;exact ⟨EndB.mk _,XE.o⟩
                ·have q8:¬ (q:Int) < (xx.next.length:Int):=by omega
                 obtain ⟨qBI,fBI,lBI⟩:=BI.o.q3;go_wp2_with fail;go_roundw
                 case rel=>exact ⟨j+1,by go_num,by omega,XJ.o.trans (XV.o.trans XI.o)⟩
                 case measure=>simp [intOf];omega
            ·have c1:¬ (16:Int) < (xx.next.length:Int):=by omega
             have c3:¬ (70:Int) < (xx.next.length:Int):=by omega
             obtain ⟨qBXv,fBXv,lBXv⟩:=BXv.o.q3;go_wp2_with fail;clear qBXv fBXv lBXv;go_loopw [6] (fun i wr=>∃ q:Nat,i=.int .i64 q∧q≤xx.next.length∧Ext v2 wr) (fun i _=>xx.next.length - (intOf i).toNat)
             case atStart=>exact ⟨0,rfl,Nat.zero_le _,Ext.refl _⟩
             case round=>
              obtain ⟨wi,hwi⟩:=gN (wr)
              subst hwi;obtain ⟨q,rfl,hq,hxi⟩:=hrel;have XI:=kI hxi;have XIW:Hid (Ext w wi):=kI (XVW.o.trans hxi);have BI:=kI (BXv.o.ext hxi);clear hxi;by_cases hql:q < xx.next.length
              ·obtain ⟨ob,oo,o1,o2,o3,o4,rfl,g0,g1,g2,g3,g4,g5⟩:=(U4.o.ext (XV.o.trans XI.o)).at hql;obtain ⟨O,hO⟩:=gN (xx.next.getD q dO)
               rw [← hO] at g1 g2 g3 g4 g5;obtain ⟨ot,op⟩:=O;dsimp only at g1 g2 g3 g4 g5;have G5:=kI g5;have q7:(0:Int)≤(q:Int):=by omega
               have q8:(q:Int) < (xx.next.length:Int):=by omega
               clear g5 hO;obtain ⟨qBI,fBI,lBI⟩:=BI.o.q3;go_wp2_with fail;clear qBI fBI lBI;refine (long6s_any _ [op] (wi.alloc (.cells #[.bool op.neg,.slice o1 op.num.length o2,.slice o3 op.den.length o4] 25)) (rdRs_one (Blk.new wi #[.bool op.neg,.slice o1 op.num.length o2,.slice o3 op.den.length o4] 25) (G5.o.ext ((Ext.refl _).alloc _))) (by simp)).mono ?_;rintro e v3 ⟨⟨r3,rfl,-⟩,hx3⟩;have Xv3:Hid (Ext wi v3):=kI (((Ext.refl wi).alloc _).trans hx3);clear hx3;cases r3
               ·go_wp2_with fail;go_roundw
                case rel=>exact ⟨q+1,by go_num,by omega,XI.o.trans Xv3.o⟩
                case measure=>simp [intOf];omega
               ·have XE:Hid (Ext w v3):=kI (XIW.o.trans Xv3.o);go_wp2_with fail;go_ret;exact ⟨EndB.mk _,XE.o⟩
              ·have q8:¬ (q:Int) < (xx.next.length:Int):=by omega
               obtain ⟨qBI,fBI,lBI⟩:=BI.o.q3;go_wp2_with fail;go_roundw
               case rel=>exact ⟨j+1,by go_num,by omega,XJ.o.trans (XV.o.trans XI.o)⟩
               case measure=>simp [intOf];omega
           ·have XVW:Hid (Ext w v2):=kI (XJW.o.trans (XBJ.o.trans Xv2.o));have BXv:=kI (BX.o.ext Xv2.o);obtain ⟨qBXv,fBXv,lBXv⟩:=BXv.o.q3;go_wp2_with fail;go_ret;exact ⟨EndB.mk _,XVW.o⟩
          ·have q6:¬ (j:Int) < (ac.length:Int):=by omega
           obtain ⟨qBJ,fBJ,lBJ⟩:=BJ.o.q3;go_wp2_with fail;go_roundw
           case rel=>exact ⟨k+1,by go_num,by omega,XJW.o,BJ.o⟩
           case measure=>simp [intOf];omega
       ·have q3:¬ (k:Int) < 12:=by omega
        obtain ⟨qBK,fBK,lBK⟩:=BK.o.q3;go_wp2_with fail;go_ret;exact ⟨EndB.mk _,XK.o⟩
      ·have q2:¬ (k:Int) < (sl:Int):=by omega
       obtain ⟨qBK,fBK,lBK⟩:=BK.o.q3;go_wp2_with fail;go_ret;exact ⟨EndB.mk _,XK.o⟩
    ·have X0:Hid (Ext w v1):=kI (X.o.trans Xv1.o);go_wp2_with fail;go_ret;exact ⟨EndB.mk _,X0.o⟩
 ·have c1:¬ (12:Int) < (sl:Int):=by omega
  have c3:¬ (210:Int) < (sl:Int):=by omega
  obtain ⟨qA0,fA0,lA0⟩:=A0.o.q3;go_wp2_with fail;clear qA0 fA0 lA0;obtain ⟨wl,hwl⟩:=gN ((w.alloc (.cells #[.bool m.disc.neg,.slice m1 m.disc.num.length n1,.slice m2 m.disc.den.length n2,.slice m3 sl n3] 28)))
  have hsz:wl.heap.size=w.heap.size+1:=by rw [hwl];simp
  rw [← hwl] at A0 X ⊢;rw [← hsz];clear hwl hsz;refine (long6s_any _ [m.disc] (wl.alloc (.cells #[.bool m.disc.neg,.slice m1 m.disc.num.length n1,.slice m2 m.disc.den.length n2] 25)) (rdRs_one (Blk.new wl #[.bool m.disc.neg,.slice m1 m.disc.num.length n1,.slice m2 m.disc.den.length n2] 25) (HMD.o.ext (X.o.alloc _))) (by simp)).mono ?_;rintro e v1 ⟨⟨r1,rfl,-⟩,hx1⟩;have Xv1:Hid (Ext wl v1):=kI (((Ext.refl wl).alloc _).trans hx1);clear hx1;cases r1
  ·have X0:Hid (Ext w v1):=kI (X.o.trans Xv1.o);have A0v:=kI (A0.o.ext Xv1.o);obtain ⟨qA0v,fA0v,lA0v⟩:=A0v.o.q3;go_wp2_with fail;clear qA0v fA0v lA0v;go_loopw [3] (fun i wr=>∃ k:Nat,i=.int .i64 k∧k≤sl∧Ext w wr∧Blk wr w.heap.size #[.bool m.disc.neg,.slice m1 m.disc.num.length n1,.slice m2 m.disc.den.length n2,.slice m3 sl n3] 28) (fun i _=>sl - (intOf i).toNat)
   case atStart=>exact ⟨0,rfl,Nat.zero_le _,X0.o,A0v.o⟩
   case round=>
    obtain ⟨wk,hwk⟩:=gN (wr)
    subst hwk;obtain ⟨k,rfl,hk,hxk,hbk⟩:=hrel;have XK:=kI hxk;have BK:=kI hbk;clear hxk hbk;by_cases hks:k < sl
    ·have q2:(k:Int) < (sl:Int):=by omega
     have q1:(0:Int)≤(k:Int):=by omega
     by_cases hk12:k < 12
     ·have q3:(k:Int) < 12:=by omega
      obtain ⟨sb,so,ai,ci,rfl,t0,t1,t2⟩:=(HSS.o.ext XK.o).at (i:=k) (by rw [← HSL.o];exact hks);obtain ⟨ac,hac⟩:=gN (m.states.getD k [])
      rw [← hac] at t1 t2;obtain ⟨_,_,_,hal⟩:=t2.shape;have T2:=kI t2;clear t2 hac;by_cases h8:8 < ac.length
      ·have q4:(8:Int) < (ac.length:Int):=by omega
       obtain ⟨qBK,fBK,lBK⟩:=BK.o.q3;go_wp2_with fail;go_ret;exact ⟨EndB.mk _,XK.o⟩
      ·have q4:¬ (8:Int) < (ac.length:Int):=by omega
       obtain ⟨qBK,fBK,lBK⟩:=BK.o.q3;go_wp2_with fail;clear qBK fBK lBK;go_loopw [4] (fun i wr=>∃ j:Nat,i=.int .i64 j∧j≤ac.length∧Ext wk wr) (fun i _=>ac.length - (intOf i).toNat)
       case atStart=>exact ⟨0,rfl,Nat.zero_le _,Ext.refl _⟩
       case round=>
        obtain ⟨wj,hwj⟩:=gN (wr)
        subst hwj;obtain ⟨j,rfl,hj,hxj⟩:=hrel;have XJ:=kI hxj;have XJW:Hid (Ext w wj):=kI (XK.o.trans hxj);have BJ:=kI (BK.o.ext hxj);have t1j:=(hxj.cell (p:=⟨sb,so+k,none⟩) t0).trans t1;have t0j:=Nat.lt_of_lt_of_le t0 hxj.size;clear hxj;by_cases hjl:j < ac.length
        ·obtain ⟨ab,ao,p1,e1,p2,e2,p3,e3,rfl,na,u3,u4⟩:=(T2.o.ext XJ.o).at hjl;obtain ⟨v0,v1,v2,v3,v4⟩:=na;obtain ⟨xx,hxx⟩:=gN (ac.getD j dA)
         rw [← hxx] at v1 v2 v3 v4 u3 u4;obtain ⟨_,_,_,hol⟩:=u4.shape;have V4:=kI v4;have U4:=kI u4;have q5:(0:Int)≤(j:Int):=by omega
         have q6:(j:Int) < (ac.length:Int):=by omega
         clear v4 u4 hxx;obtain ⟨qBJ,fBJ,lBJ⟩:=BJ.o.q3;go_wp2_with fail;clear qBJ fBJ lBJ;clear v1 v2 v3 u3;obtain ⟨bx,hbx⟩:=gN (wj.heap.size)
         obtain ⟨wb,hwb⟩:=gN (wj.alloc (.cells #[.bool xx.cost.neg,.slice p1 xx.cost.num.length e1,.slice p2 xx.cost.den.length e2,.slice p3 xx.next.length e3] 62))
         have hxb:Ext wj wb:=by rw [hwb];exact (Ext.refl _).alloc _
         have hbb:Blk wb bx #[.bool xx.cost.neg,.slice p1 xx.cost.num.length e1,.slice p2 xx.cost.den.length e2,.slice p3 xx.next.length e3] 62:=by rw [hwb,hbx];exact Blk.new _ _ _
         have hsz:wb.heap.size=wj.heap.size+1:=by rw [hwb];simp
         rw [← hwb,← hsz,← hbx];have XBJ:=kI hxb;have BX:=kI hbb;have V4b:=kI (V4.o.ext hxb);clear hbb hxb hwb hsz hbx;refine (long6s_any _ [xx.cost] (wb.alloc (.cells #[.bool xx.cost.neg,.slice p1 xx.cost.num.length e1,.slice p2 xx.cost.den.length e2] 25)) (rdRs_one (Blk.new wb #[.bool xx.cost.neg,.slice p1 xx.cost.num.length e1,.slice p2 xx.cost.den.length e2] 25) (V4b.o.ext ((Ext.refl _).alloc _))) (by simp)).mono ?_;rintro e v2 ⟨⟨r2,rfl,-⟩,hx2⟩;have Xv2:Hid (Ext wb v2):=kI (((Ext.refl wb).alloc _).trans hx2);clear hx2;cases r2
         ·have XV:Hid (Ext wj v2):=kI (XBJ.o.trans Xv2.o);have XVW:Hid (Ext w v2):=kI (XJW.o.trans XV.o);have BXv:=kI (BX.o.ext Xv2.o);have u6:¬ (xx.next.length:Int) < 0:=by omega
          by_cases h16:16 < xx.next.length
          ·have c1:(16:Int) < (xx.next.length:Int):=by omega
           by_cases h64:xx.next.length≤64
           ·have c2:(xx.next.length:Int)≤64:=by omega
            obtain ⟨qBXv,fBXv,lBXv⟩:=BXv.o.q3;go_wp2_with fail;go_ret;exact ⟨EndB.mk _,XVW.o⟩
           ·have c2:¬ (xx.next.length:Int)≤64:=by omega
            by_cases h70:70 < xx.next.length
            ·have c3:(70:Int) < (xx.next.length:Int):=by omega
             obtain ⟨qBXv,fBXv,lBXv⟩:=BXv.o.q3;go_wp2_with fail;go_ret;exact ⟨EndB.mk _,XVW.o⟩
            ·have c3:¬ (70:Int) < (xx.next.length:Int):=by omega
             obtain ⟨qBXv,fBXv,lBXv⟩:=BXv.o.q3;go_wp2_with fail;clear qBXv fBXv lBXv;go_loopw [6] (fun i wr=>∃ q:Nat,i=.int .i64 q∧q≤xx.next.length∧Ext v2 wr) (fun i _=>xx.next.length - (intOf i).toNat)
             case atStart=>exact ⟨0,rfl,Nat.zero_le _,Ext.refl _⟩
             case round=>
              obtain ⟨wi,hwi⟩:=gN (wr)
              subst hwi;obtain ⟨q,rfl,hq,hxi⟩:=hrel;have XI:=kI hxi;have XIW:Hid (Ext w wi):=kI (XVW.o.trans hxi);have BI:=kI (BXv.o.ext hxi);clear hxi;by_cases hql:q < xx.next.length
              ·obtain ⟨ob,oo,o1,o2,o3,o4,rfl,g0,g1,g2,g3,g4,g5⟩:=(U4.o.ext (XV.o.trans XI.o)).at hql;obtain ⟨O,hO⟩:=gN (xx.next.getD q dO)
               rw [← hO] at g1 g2 g3 g4 g5;obtain ⟨ot,op⟩:=O;dsimp only at g1 g2 g3 g4 g5;have G5:=kI g5;have q7:(0:Int)≤(q:Int):=by omega
               have q8:(q:Int) < (xx.next.length:Int):=by omega
               clear g5 hO;obtain ⟨qBI,fBI,lBI⟩:=BI.o.q3;go_wp2_with fail;clear qBI fBI lBI;refine (long6s_any _ [op] (wi.alloc (.cells #[.bool op.neg,.slice o1 op.num.length o2,.slice o3 op.den.length o4] 25)) (rdRs_one (Blk.new wi #[.bool op.neg,.slice o1 op.num.length o2,.slice o3 op.den.length o4] 25) (G5.o.ext ((Ext.refl _).alloc _))) (by simp)).mono ?_;rintro e v3 ⟨⟨r3,rfl,-⟩,hx3⟩;have Xv3:Hid (Ext wi v3):=kI (((Ext.refl wi).alloc _).trans hx3);clear hx3;cases r3
               ·go_wp2_with fail;go_roundw
                case rel=>exact ⟨q+1,by go_num,by omega,XI.o.trans Xv3.o⟩
                case measure=>simp [intOf];omega
               ·have XE:Hid (Ext w v3):=kI (XIW.o.trans Xv3.o);go_wp2_with fail;go_ret;exact ⟨EndB.mk _,XE.o⟩
              ·have q8:¬ (q:Int) < (xx.next.length:Int):=by omega
               obtain ⟨qBI,fBI,lBI⟩:=BI.o.q3;go_wp2_with fail;go_roundw
               case rel=>exact ⟨j+1,by go_num,by omega,XJ.o.trans (XV.o.trans XI.o)⟩
               case measure=>simp [intOf];omega
          ·have c1:¬ (16:Int) < (xx.next.length:Int):=by omega
           have c3:¬ (70:Int) < (xx.next.length:Int):=by omega
           obtain ⟨qBXv,fBXv,lBXv⟩:=BXv.o.q3;go_wp2_with fail;clear qBXv fBXv lBXv;go_loopw [6] (fun i wr=>∃ q:Nat,i=.int .i64 q∧q≤xx.next.length∧Ext v2 wr) (fun i _=>xx.next.length - (intOf i).toNat)
           case atStart=>exact ⟨0,rfl,Nat.zero_le _,Ext.refl _⟩
           case round=>
            obtain ⟨wi,hwi⟩:=gN (wr)
            subst hwi;obtain ⟨q,rfl,hq,hxi⟩:=hrel;have XI:=kI hxi;have XIW:Hid (Ext w wi):=kI (XVW.o.trans hxi);have BI:=kI (BXv.o.ext hxi);clear hxi;by_cases hql:q < xx.next.length
            ·obtain ⟨ob,oo,o1,o2,o3,o4,rfl,g0,g1,g2,g3,g4,g5⟩:=(U4.o.ext (XV.o.trans XI.o)).at hql;obtain ⟨O,hO⟩:=gN (xx.next.getD q dO)
             rw [← hO] at g1 g2 g3 g4 g5;obtain ⟨ot,op⟩:=O;dsimp only at g1 g2 g3 g4 g5;have G5:=kI g5;have q7:(0:Int)≤(q:Int):=by omega
             have q8:(q:Int) < (xx.next.length:Int):=by omega
             clear g5 hO;obtain ⟨qBI,fBI,lBI⟩:=BI.o.q3;go_wp2_with fail;clear qBI fBI lBI;refine (long6s_any _ [op] (wi.alloc (.cells #[.bool op.neg,.slice o1 op.num.length o2,.slice o3 op.den.length o4] 25)) (rdRs_one (Blk.new wi #[.bool op.neg,.slice o1 op.num.length o2,.slice o3 op.den.length o4] 25) (G5.o.ext ((Ext.refl _).alloc _))) (by simp)).mono ?_;rintro e v3 ⟨⟨r3,rfl,-⟩,hx3⟩;have Xv3:Hid (Ext wi v3):=kI (((Ext.refl wi).alloc _).trans hx3);clear hx3;cases r3
             ·go_wp2_with fail;go_roundw
              case rel=>exact ⟨q+1,by go_num,by omega,XI.o.trans Xv3.o⟩
              case measure=>simp [intOf];omega
             ·have XE:Hid (Ext w v3):=kI (XIW.o.trans Xv3.o);go_wp2_with fail;go_ret;exact ⟨EndB.mk _,XE.o⟩
            ·have q8:¬ (q:Int) < (xx.next.length:Int):=by omega
             obtain ⟨qBI,fBI,lBI⟩:=BI.o.q3;go_wp2_with fail;go_roundw
             case rel=>exact ⟨j+1,by go_num,by omega,XJ.o.trans (XV.o.trans XI.o)⟩
             case measure=>simp [intOf];omega
         ·have XVW:Hid (Ext w v2):=kI (XJW.o.trans (XBJ.o.trans Xv2.o));have BXv:=kI (BX.o.ext Xv2.o);obtain ⟨qBXv,fBXv,lBXv⟩:=BXv.o.q3;go_wp2_with fail;go_ret;exact ⟨EndB.mk _,XVW.o⟩
        ·have q6:¬ (j:Int) < (ac.length:Int):=by omega
         obtain ⟨qBJ,fBJ,lBJ⟩:=BJ.o.q3;go_wp2_with fail;go_roundw
         case rel=>exact ⟨k+1,by go_num,by omega,XJW.o,BJ.o⟩
         case measure=>simp [intOf];omega
     ·exfalso;omega
    ·have q2:¬ (k:Int) < (sl:Int):=by omega
     obtain ⟨qBK,fBK,lBK⟩:=BK.o.q3;go_wp2_with fail;go_ret;exact ⟨EndB.mk _,XK.o⟩
  ·have X0:Hid (Ext w v1):=kI (X.o.trans Xv1.o);go_wp2_with fail;go_ret;exact ⟨EndB.mk _,X0.o⟩
theorem longList_any (v:Value) (l:List RR) (w:World) (h:RdRs w v l) :
  Calls Tryz.prog 32 #[v] w fun e w'=>(∃ r,e=.returned (.bool r)∧(r=false→l.length≤20∧LenL l))∧Ext w w':=by
 have H:=kI h;obtain ⟨a,c,rfl,hc,hm,-⟩:=h.get;have hl9:l.length≤9223372036854775807:=by omega
 clear h hc hm;by_cases h20:20 < l.length
 ·have q1:(20:Int) < (l.length:Int):=by omega
  go_enter Tryz.func32,Tryz.ntmps32
  go_wp2_with fail;go_ret;exact ⟨⟨true,rfl,fun h=>by cases h⟩,Ext.refl _⟩
 ·have q1:¬ (20:Int) < (l.length:Int):=by omega
  go_enter Tryz.func32,Tryz.ntmps32
  go_wp2_with fail;refine (long6s_any _ l w H.o (by omega)).mono ?_;rintro e w1 ⟨⟨r,rfl,hr⟩,hx⟩;have X:=kI hx;have HR:=kI hr;clear hx hr;go_wp2_with fail;go_ret;exact ⟨⟨r,rfl,fun h=>⟨by omega,fun i hi=>by
   have:=HR.o h i hi;unfold okLen at this;omega⟩⟩,X.o⟩
def LgR (vals:List RR) (plan:List (List Int)) (e:Ending):Prop:=∃ r,e=.returned (.bool r)∧(r=false→vals.length≤20∧LenL vals∧plan.length≤30∧∀ j,j < plan.length→(plan.getD j []).length≤20)
theorem LgR.tt (vals:List RR) (plan:List (List Int)):LgR vals plan (.returned (.bool true)):=⟨true,rfl,fun h=>by cases h⟩
theorem LgR.ff {vals:List RR} {plan:List (List Int)} (h1:vals.length≤20) (h2:LenL vals) (h3:plan.length≤30) (h4:∀ j,j < plan.length→(plan.getD j []).length≤20):LgR vals plan (.returned (.bool false)):=⟨false,rfl,fun _=>⟨h1,h2,h3,h4⟩⟩
theorem long22_any (mv vv pv:Value) (m:MD) (vals:List RR) (k:Int) (plan:List (List Int)) (w:World) (hm:RdM w mv m) (hv:RdRs w vv vals) (hp:RdPl w pv plan) :
  Calls Tryz.prog 6 #[mv,vv,.int .i64 k,pv] w fun e w'=>LgR vals plan e∧Ext w w':=by
 have HM:=kI hm;have HV:=kI hv;have HP:=kI hp;obtain ⟨m1,n1,m2,n2,m3,n3,rfl,-,-⟩:=hm;obtain ⟨av,cv,rfl,-,-,-⟩:=hv.get;obtain ⟨pa,pc,rfl,hpn⟩:=hp.shape;clear hv hp;have bb0:=(Blk.new w #[.bool m.disc.neg,.slice m1 m.disc.num.length n1,.slice m2 m.disc.den.length n2,.slice m3 m.states.length n3] 28);have x0:Ext w (w.alloc (.cells #[.bool m.disc.neg,.slice m1 m.disc.num.length n1,.slice m2 m.disc.den.length n2,.slice m3 m.states.length n3] 28)):=((Ext.refl w).alloc _);have A0:=kI bb0;have X:=kI x0;clear x0 bb0;go_enter Tryz.func6,Tryz.ntmps6
 obtain ⟨qA0,fA0,lA0⟩:=A0.o.q3;go_wp2_with fail;refine (long21_any _ m _ (HM.o.ext X.o)).mono ?_;rintro e w1 ⟨⟨r,rfl⟩,hx⟩;clear qA0 fA0 lA0;replace A0:=kI (A0.o.ext hx);replace X:=kI (X.o.trans hx);clear hx;cases r
 rotate_left
 ·go_wp2_with fail;go_ret;exact ⟨LgR.tt _ _,X.o⟩
 go_wp2_with fail;refine (longList_any _ vals w1 (HV.o.ext X.o)).mono ?_;rintro e w2 ⟨⟨r,rfl,hr⟩,hx⟩;replace A0:=kI (A0.o.ext hx);replace X:=kI (X.o.trans hx);have HR:=kI hr;clear hx hr;cases r
 rotate_left
 ·go_wp2_with fail;go_ret;exact ⟨LgR.tt _ _,X.o⟩
 obtain ⟨g1,g2⟩:=HR.o rfl;have G1:=kI g1;have G2:=kI g2;clear g1 g2 HR;by_cases k6:6 < k
 ·by_cases k24:k≤24
  ·go_wp2_with fail;go_ret;exact ⟨LgR.tt _ _,X.o⟩
  ·by_cases p6:6 < plan.length
   ·have d1:(6:Int) < (plan.length:Int):=by omega
    by_cases p24:plan.length≤24
    ·have d2:(plan.length:Int)≤24:=by omega
     go_wp2_with fail;go_ret;exact ⟨LgR.tt _ _,X.o⟩
    ·have d2:¬ (plan.length:Int)≤24:=by omega
     by_cases p30:plan.length≤30
     rotate_left
     ·have d3:(30:Int) < (plan.length:Int):=by omega
      go_wp2_with fail;go_ret;exact ⟨LgR.tt _ _,X.o⟩
     have d3:¬ (30:Int) < (plan.length:Int):=by omega
     go_wp2_with fail;have P30:=kI p30;clear p30;go_loopw [9] (fun i wr=>∃ j:Nat,i=.int .i64 j∧j≤plan.length∧Ext w wr∧∀ t,t < j→(plan.getD t []).length≤20) (fun i _=>plan.length - (intOf i).toNat)
     case atStart=>exact ⟨0,rfl,Nat.zero_le _,X.o,fun t h=>by omega⟩
     case round=>
      obtain ⟨wk,hwk⟩:=gN (wr)
      subst hwk;obtain ⟨j,rfl,hj,hxk,hok⟩:=hrel;have XK:=kI hxk;have OK:=kI hok;clear hxk hok;by_cases hjl:j < plan.length
      ·obtain ⟨b,off,ai,ci,rfl,t0,t1,t2⟩:=(HP.o.ext XK.o).at hjl;obtain ⟨n9,hn9⟩:=gN ((plan.getD j []).length)
       have HN9:=kI hn9;rw [← hn9] at t1;clear t2 hn9;have q1:(0:Int)≤(j:Int):=by omega
       have q2:(j:Int) < (plan.length:Int):=by omega
       by_cases h20:20 < n9
       ·have q3:(20:Int) < (n9:Int):=by omega
        go_wp2_with fail;go_ret;exact ⟨LgR.tt _ _,XK.o⟩
       ·have q3:¬ (20:Int) < (n9:Int):=by omega
        go_wp2_with fail;go_roundw
        case rel=>
         refine ⟨j+1,by go_num,by omega,XK.o,fun t ht=>?_⟩;by_cases e:t=j
         ·subst e;rw [← HN9.o];omega
         ·exact OK.o t (by omega)
        case measure=>simp [intOf];omega
      ·obtain rfl:j=plan.length:=by omega
       have q2:¬ (plan.length:Int) < (plan.length:Int):=by omega
       go_wp2_with fail;go_ret;exact ⟨LgR.ff G1.o G2.o P30.o OK.o,XK.o⟩
   ·have d1:¬ (6:Int) < (plan.length:Int):=by omega
    have d3:¬ (30:Int) < (plan.length:Int):=by omega
    have p30:plan.length≤30:=by omega
    go_wp2_with fail;have P30:=kI p30;clear p30;go_loopw [9] (fun i wr=>∃ j:Nat,i=.int .i64 j∧j≤plan.length∧Ext w wr∧∀ t,t < j→(plan.getD t []).length≤20) (fun i _=>plan.length - (intOf i).toNat)
    case atStart=>exact ⟨0,rfl,Nat.zero_le _,X.o,fun t h=>by omega⟩
    case round=>
     obtain ⟨wk,hwk⟩:=gN (wr)
     subst hwk;obtain ⟨j,rfl,hj,hxk,hok⟩:=hrel;have XK:=kI hxk;have OK:=kI hok;clear hxk hok;by_cases hjl:j < plan.length
     ·obtain ⟨b,off,ai,ci,rfl,t0,t1,t2⟩:=(HP.o.ext XK.o).at hjl;obtain ⟨n9,hn9⟩:=gN ((plan.getD j []).length)
      have HN9:=kI hn9;rw [← hn9] at t1;clear t2 hn9;have q1:(0:Int)≤(j:Int):=by omega
      have q2:(j:Int) < (plan.length:Int):=by omega
      by_cases h20:20 < n9
      ·have q3:(20:Int) < (n9:Int):=by omega
       go_wp2_with fail;go_ret;exact ⟨LgR.tt _ _,XK.o⟩
      ·have q3:¬ (20:Int) < (n9:Int):=by omega
       go_wp2_with fail;go_roundw
       case rel=>
        refine ⟨j+1,by go_num,by omega,XK.o,fun t ht=>?_⟩;by_cases e:t=j
        ·subst e;rw [← HN9.o];omega
        ·exact OK.o t (by omega)
       case measure=>simp [intOf];omega
     ·obtain rfl:j=plan.length:=by omega
      have q2:¬ (plan.length:Int) < (plan.length:Int):=by omega
      go_wp2_with fail;go_ret;exact ⟨LgR.ff G1.o G2.o P30.o OK.o,XK.o⟩
 ·by_cases p6:6 < plan.length
  ·have d1:(6:Int) < (plan.length:Int):=by omega
   by_cases p24:plan.length≤24
   ·have d2:(plan.length:Int)≤24:=by omega
    go_wp2_with fail;go_ret;exact ⟨LgR.tt _ _,X.o⟩
   ·have d2:¬ (plan.length:Int)≤24:=by omega
    by_cases p30:plan.length≤30
    rotate_left
    ·have d3:(30:Int) < (plan.length:Int):=by omega
     go_wp2_with fail;go_ret;exact ⟨LgR.tt _ _,X.o⟩
    have d3:¬ (30:Int) < (plan.length:Int):=by omega
    go_wp2_with fail;have P30:=kI p30;clear p30;go_loopw [9] (fun i wr=>∃ j:Nat,i=.int .i64 j∧j≤plan.length∧Ext w wr∧∀ t,t < j→(plan.getD t []).length≤20) (fun i _=>plan.length - (intOf i).toNat)
    case atStart=>exact ⟨0,rfl,Nat.zero_le _,X.o,fun t h=>by omega⟩
    case round=>
     obtain ⟨wk,hwk⟩:=gN (wr)
     subst hwk;obtain ⟨j,rfl,hj,hxk,hok⟩:=hrel;have XK:=kI hxk;have OK:=kI hok;clear hxk hok;by_cases hjl:j < plan.length
     ·obtain ⟨b,off,ai,ci,rfl,t0,t1,t2⟩:=(HP.o.ext XK.o).at hjl;obtain ⟨n9,hn9⟩:=gN ((plan.getD j []).length)
      have HN9:=kI hn9;rw [← hn9] at t1;clear t2 hn9;have q1:(0:Int)≤(j:Int):=by omega
      have q2:(j:Int) < (plan.length:Int):=by omega
      by_cases h20:20 < n9
      ·have q3:(20:Int) < (n9:Int):=by omega
       go_wp2_with fail;go_ret;exact ⟨LgR.tt _ _,XK.o⟩
      ·have q3:¬ (20:Int) < (n9:Int):=by omega
       go_wp2_with fail;go_roundw
       case rel=>
        refine ⟨j+1,by go_num,by omega,XK.o,fun t ht=>?_⟩;by_cases e:t=j
        ·subst e;rw [← HN9.o];omega
        ·exact OK.o t (by omega)
       case measure=>simp [intOf];omega
     ·obtain rfl:j=plan.length:=by omega
      have q2:¬ (plan.length:Int) < (plan.length:Int):=by omega
      go_wp2_with fail;go_ret;exact ⟨LgR.ff G1.o G2.o P30.o OK.o,XK.o⟩
  ·have d1:¬ (6:Int) < (plan.length:Int):=by omega
   have d3:¬ (30:Int) < (plan.length:Int):=by omega
   have p30:plan.length≤30:=by omega
   go_wp2_with fail;have P30:=kI p30;clear p30;go_loopw [9] (fun i wr=>∃ j:Nat,i=.int .i64 j∧j≤plan.length∧Ext w wr∧∀ t,t < j→(plan.getD t []).length≤20) (fun i _=>plan.length - (intOf i).toNat)
   case atStart=>exact ⟨0,rfl,Nat.zero_le _,X.o,fun t h=>by omega⟩
   case round=>
    obtain ⟨wk,hwk⟩:=gN (wr)
    subst hwk;obtain ⟨j,rfl,hj,hxk,hok⟩:=hrel;have XK:=kI hxk;have OK:=kI hok;clear hxk hok;by_cases hjl:j < plan.length
    ·obtain ⟨b,off,ai,ci,rfl,t0,t1,t2⟩:=(HP.o.ext XK.o).at hjl;obtain ⟨n9,hn9⟩:=gN ((plan.getD j []).length)
     have HN9:=kI hn9;rw [← hn9] at t1;clear t2 hn9;have q1:(0:Int)≤(j:Int):=by omega
     have q2:(j:Int) < (plan.length:Int):=by omega
     by_cases h20:20 < n9
     ·have q3:(20:Int) < (n9:Int):=by omega
      go_wp2_with fail;go_ret;exact ⟨LgR.tt _ _,XK.o⟩
     ·have q3:¬ (20:Int) < (n9:Int):=by omega
      go_wp2_with fail;go_roundw
      case rel=>
       refine ⟨j+1,by go_num,by omega,XK.o,fun t ht=>?_⟩;by_cases e:t=j
       ·subst e;rw [← HN9.o];omega
       ·exact OK.o t (by omega)
      case measure=>simp [intOf];omega
    ·obtain rfl:j=plan.length:=by omega
     have q2:¬ (plan.length:Int) < (plan.length:Int):=by omega
     go_wp2_with fail;go_ret;exact ⟨LgR.ff G1.o G2.o P30.o OK.o,XK.o⟩
theorem fitR_rep {q:Rat} (h:(fitR q).2=0):(fitR q).1=rep q∧small q:=by
 unfold fitR at h ⊢;by_cases h1:small q
 ·rw [if_pos h1];exact ⟨rfl,h1⟩
 ·rw [if_neg h1] at h;cases h
theorem addR_rep {a b:RR} (h:(addR a b).2=0):(addR a b).1=rep (qv a+qv b)∧small (qv a+qv b):=by
 unfold addR at h ⊢;obtain ⟨e1,e2⟩:=opR_ok h;rw [e1];exact fitR_rep e2
theorem mulR_rep {a b:RR} (h:(mulR a b).2=0):(mulR a b).1=rep (qv a*qv b)∧small (qv a*qv b):=by
 unfold mulR at h ⊢;obtain ⟨e1,e2⟩:=opR_ok h;rw [e1];exact fitR_rep e2
def NN (r:RR):Prop:=chkR r=0∧LimR r∧r.neg=false
def dotO:List Out→(Nat→Rat)→Rat
 | [],_=>0
 | o :: os,f=>qv o.2*f o.1.toNat+dotO os f
def TT (m:MD):List (List Int)→(Nat→Rat)→Nat→Rat
 | [],f=>f
 | p :: ps,f=>fun u=>dotO (m.act u (p.getD u 0).toNat).next (TT m ps f)
def pqF:List RR→List RR→Nat→Rat
 | a :: la,b :: bs,i+1=>qv a*qv b+pqF la bs i
 | _,_,_=>0
theorem pqF_zero (a b:List RR):pqF a b 0=0:=by cases a <;> cases b <;> rfl
theorem pqF_succ:∀ (a b:List RR) (i:Nat),i < a.length→i < b.length→pqF a b (i+1)=pqF a b i+qv (a.getD i zR)*qv (b.getD i zR)
 | [],_,_,h,_=>by cases h
 | _ :: _,[],_,_,h=>by cases h
 | a :: la,b :: bs,0,_,_=>by
  show qv a*qv b+pqF la bs 0=0+qv a*qv b
  rw [pqF_zero,Rat.add_zero,Rat.zero_add]
 | a :: la,b :: bs,i+1,h,g=>by
  show qv a*qv b+pqF la bs (i+1)=qv a*qv b+pqF la bs i+qv (la.getD i zR)*qv (bs.getD i zR)
  rw [pqF_succ la bs i (by simpa using h) (by simpa using g),Rat.add_assoc]
theorem pqF_all:∀ (a b:List RR),a.length=b.length→pqF a b a.length=dotQ a b
 | [],[],_=>rfl
 | [],_ :: _,h=>by cases h
 | _ :: _,[],h=>by cases h
 | a :: la,b :: bs,h=>by
  show qv a*qv b+pqF la bs la.length=qv a*qv b+dotQ la bs
  rw [pqF_all la bs (by simpa using h)]
theorem mulR_chk2 {a b:RR} (h:(mulR a b).2=0):chkR a=0∧chkR b=0:=by
 unfold mulR opR at h;by_cases h3:chkR2 a b=0
 ·exact chkR2_0 h3
 ·rw [if_neg h3] at h;exact absurd h h3
theorem dotL_small:∀ (a b:List RR) (s:RR),a.length=b.length→chkR s=0→LimR s→(dotL s a b).2=0→
  (∀ i,i≤a.length→small (qv s+pqF a b i))∧∀ i,i < a.length→small (qv (a.getD i zR)*qv (b.getD i zR))∧chkR (a.getD i zR)=0∧chkR (b.getD i zR)=0
 | [],[],s,_,hs,hl,_=>⟨fun i _=>by rw [show pqF [] [] i=0 from rfl,Rat.add_zero];exact valid_small hl hs,fun i hi=>by cases hi⟩
 | [],_ :: _,_,h,_,_,_=>by cases h
 | _ :: _,[],_,h,_,_,_=>by cases h
 | a :: la,b :: bs,s,hab,hs,hl,h=>by
  unfold dotL at h;by_cases h1:(mulR a b).2=0
  ·rw [if_pos h1] at h;by_cases h2:(addL zR [s,(mulR a b).1]).2=0
   ·rw [if_pos h2] at h;have e1:=mulR_rep h1;have e2:=addL2_val h2;obtain ⟨k1,k2⟩:=dotL_small la bs _ (by simpa using hab) e2.2 (addL_lim _ _ zR_lim) h;rw [e2.1,(mulR_val h1).1] at k1;refine ⟨fun i hi=>?_,fun i hi=>?_⟩
    ·cases i with
     | zero=>rw [pqF_zero,Rat.add_zero];exact valid_small hl hs
     | succ i=>
      show small (qv s+(qv a*qv b+pqF la bs i))
      rw [← Rat.add_assoc];exact k1 i (by simpa using hi)
    ·cases i with
     | zero=>exact ⟨e1.2,mulR_chk2 h1⟩
     | succ i=>exact k2 i (by simpa using hi)
   ·rw [if_neg h2] at h;exact absurd h h2
  ·rw [if_neg h1] at h;exact absurd h h1
theorem score_small {m:MD} {v:List RR} {x:DAct} (h:(scoreS m v x).2=0) :
  (∀ i,i≤x.next.length→small (pqF (prs x.next) (vls v x.next) i))∧
  (∀ i,i < x.next.length→small (qv (x.next.getD i dO).2*qv (v.getD (x.next.getD i dO).1.toNat zR))∧chkR (x.next.getD i dO).2=0∧chkR (v.getD (x.next.getD i dO).1.toNat zR)=0∧
   pqF (prs x.next) (vls v x.next) (i+1)=pqF (prs x.next) (vls v x.next) i+qv (x.next.getD i dO).2*qv (v.getD (x.next.getD i dO).1.toNat zR))∧
  chkR x.cost=0∧small (qv m.disc*pqF (prs x.next) (vls v x.next) x.next.length)∧small (qv x.cost+qv m.disc*pqF (prs x.next) (vls v x.next) x.next.length)∧
  (scoreS m v x).1=rep (qv x.cost+qv m.disc*pqF (prs x.next) (vls v x.next) x.next.length):=by
 have hlen:(prs x.next).length=(vls v x.next).length:=by rw [prs_len,vls_len]
 have hall:=pqF_all (prs x.next) (vls v x.next) hlen;rw [prs_len] at hall;unfold scoreS at h ⊢;by_cases h1:(dotR (prs x.next) (vls v x.next)).2=0
 ·rw [if_neg (by simpa using h1)] at h ⊢;by_cases h2:(mulR m.disc (dotR (prs x.next) (vls v x.next)).1).2=0
  ·rw [if_neg (by simpa using h2)] at h ⊢;have hd:(dotL zR (prs x.next) (vls v x.next)).2=0:=by unfold dotR at h1;rwa [if_pos hlen] at h1
   obtain ⟨k1,k2⟩:=dotL_small _ _ zR hlen chkR_zR zR_lim hd;rw [prs_len] at k1 k2;have hdv:=(dotR_val h1).1;have e2:=mulR_rep h2;have e3:=addR_rep h;rw [hdv,← hall] at e2;rw [(mulR_val h2).1,hdv,← hall] at e3;refine ⟨fun i hi=>?_,fun i hi=>?_,?_,e2.2,e3.2,e3.1⟩
   ·have:=k1 i hi;rwa [qv_zR,Rat.zero_add] at this
   ·have:=k2 i hi;rw [prs_at,vls_at hi] at this;refine ⟨this.1,this.2.1,this.2.2,?_⟩;rw [pqF_succ _ _ i (by rw [prs_len];exact hi) (by rw [vls_len];exact hi),prs_at,vls_at hi]
   ·unfold addR opR at h;by_cases h3:chkR2 x.cost (mulR m.disc (dotR (prs x.next) (vls v x.next)).1).1=0
    ·exact (chkR2_0 h3).1
    ·rw [if_neg h3] at h;exact absurd h h3
  ·rw [if_pos h2] at h;exact absurd h h2
 ·rw [if_pos h1] at h;exact absurd h h1
theorem rep_of {r:RR} (hl:LimR r) (hc:chkR r=0):rep (qv r)=r:=(valid_rep hl hc).2.2
theorem bestK_succ {l:List RR} {k:Nat}:bestK l (k+1)=if qv (l.getD k zR) < qv (l.getD (bestK l k) zR) then k else bestK l k:=rfl
theorem stg_at {m:MD} {v:List RR} {j:Nat} (h:stgE m v (j+1)=0) {s:Nat} (hs:s < m.states.length) :
  mvE m (stgV m v j)=0∧(stgV m v (j+1)).getD s zR=(rowS m (stgV m v j) (m.states.getD s [])).getD (bestI (rowS m (stgV m v j) (m.states.getD s []))) zR∧
  ∀ a,a < (m.states.getD s []).length→(scoreS m (stgV m v j) (m.act s a)).2=0:=by
 have hb:=stgE_at h (Nat.lt_succ_self j);obtain ⟨h1,h2,h3,h4⟩:=backup_ok hb;refine ⟨h1,?_,fun a ha=>frstE_all (f:=fun a=>(scoreS m (stgV m v j) ((m.states.getD s []).getD a dA)).2) (frstE_all h2 s hs) _ ha⟩;show ((backupS m (stgV m v j)).1).getD s zR=_
 rw [h3,bkV_at hs]
theorem stgE_pred {m:MD} {v:List RR} {j:Nat} (h:stgE m v (j+1)=0):stgE m v j=0:=frstE_zero (fun i hi=>stgE_at h (by omega))
end Go.Proofs.YtfflknbeidihoaaGreat
