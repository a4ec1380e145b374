/- Lemmas and walks of this claim. Conditions: as each states. -/
import Derived.Test.YtfflknbeidihoaaStGK
import Derived.Test.YtfflknbeidihoaaStOwN
import Derived.Test.YtfflknbeidihoaaStUpR
import Derived.WalkMore
set_option linter.unusedVariables false
set_option linter.unusedSimpArgs false
namespace Go.Proofs.Ytfflknbeidihoaa
open Go.RowKit
set_option maxHeartbeats 4000000 in
theorem long6o_any (a0:Option Addr) (cap:Nat) (vs:List (Hd × Hd)) (w:World) (hs:vs.length≤1000)
  (h:∀ (i:Nat) (hi:i < vs.length),∃ b off,a0=some ⟨b,off,none⟩∧w.cell? ⟨b,off+i*3+1,none⟩=some (.slice (vs[i]).1.1 (vs[i]).1.2.1 (vs[i]).1.2.2)∧w.cell? ⟨b,off+i*3+2,none⟩=some (.slice (vs[i]).2.1 (vs[i]).2.2.1 (vs[i]).2.2.2)) :
  Calls Try.prog 45 #[.slice a0 vs.length cap] w fun e w'=>LongR vs e∧Ext w w':=by
 have H:=kI h;clear h
 go_enter Try.func45,Try.ntmps45
 go_wp2_with fail
 go_loopw [3,4,5] (fun i _ _ wr=>∃ k:Nat,k≤vs.length∧i=.int .i64 k∧Ext w wr∧(∃ n,wr=w.drewN n)∧Hid (∀ (i:Nat) (hi:i < vs.length),i < k→okLen (vs[i]).1.2.1∧okLen (vs[i]).2.2.1)) (fun i _ _ _=>vs.length - (intOf i).toNat)
 case atStart=>exact ⟨0,Nat.zero_le _,rfl,Ext.refl _,⟨0,rfl⟩,kI (fun i _ h=>by omega)⟩
 case round=>
  obtain ⟨k,hk,rfl,hx,⟨nd,rfl⟩,HK⟩:=hrel
  by_cases hlt:k < vs.length
  ·obtain ⟨bq,oq,rfl,hc1,hc2⟩:=H.o k hlt
   have q9:(0:Int)≤(k:Int):=by omega
   have hstep:okLen (vs[k]).1.2.1→okLen (vs[k]).2.2.1→Hid (∀ (i:Nat) (hi:i < vs.length),i < k+1→okLen (vs[i]).1.2.1∧okLen (vs[i]).2.2.1):=fun h1 h2=>kI (fun i hi hik=>by
    by_cases e:i=k
    ·subst e;exact ⟨h1,h2⟩
    ·exact HK.o i hi (by omega))
   obtain ⟨x,hxx⟩:∃ x,x=vs[k]:=⟨_,rfl⟩
   rw [← hxx] at hc1 hc2 hstep
   obtain ⟨⟨a,n,c⟩,a2,m,c2⟩:=x
   clear hxx
   dsimp only at hc1 hc2 hstep
   have HS:=kI hstep
   have X:=kI hx
   clear hstep hx
   have q0:(k:Int) < (vs.length:Int):=by omega
   have hmx:Try.prog.follows .mixedOrders=true:=by kernel_rfl
   go_wp2_with fail
   go_quiet (fail)
   have hn4:n≤6∨(6 < n∧n≤128)∨(128 < n∧n≤200)∨200 < n:=by omega
   have hm4:m≤6∨(6 < m∧m≤128)∨(128 < m∧m≤200)∨200 < m:=by omega
   have okA:∀ x:Nat,x≤6→okLen x:=fun x h=>⟨.inl h,by omega⟩
   have okC:∀ x:Nat,128 < x∧x≤200→okLen x:=fun x h=>⟨.inr h.1,h.2⟩
   have OA:=kI okA;have OC:=kI okC;have X0:=Ext.refl w
   clear okA okC
   clear hc1 hc2
   rcases hn4 with hn|hn|hn|hn
   ·rcases hm4 with hm|hm|hm|hm
    ·have q1:¬ (6:Int) < (n:Int):=by omega
     have q2:¬ (200:Int) < (n:Int):=by omega
     have r1:¬ (6:Int) < (m:Int):=by omega
     have r2:¬ (200:Int) < (m:Int):=by omega
     have S:=HS.o (OA.o _ hn) (OA.o _ hm)
     clear hn hm
     go_wp2
     go_roundw
     case rel=>exact ⟨k+1,by omega,by go_num,X0.drewN _,⟨_,rfl⟩,S⟩
     case measure=>simp [intOf];omega
    ·have q1:¬ (6:Int) < (n:Int):=by omega
     have q2:¬ (200:Int) < (n:Int):=by omega
     have r1:(6:Int) < (m:Int):=by omega
     have r2:(m:Int)≤128:=by omega
     clear hn hm
     go_wp2
     go_ret
     exact ⟨⟨_,rfl,fun h=>by cases h⟩,X0.drewN _⟩
    ·have q1:¬ (6:Int) < (n:Int):=by omega
     have q2:¬ (200:Int) < (n:Int):=by omega
     have r1:(6:Int) < (m:Int):=by omega
     have r2:¬ (m:Int)≤128:=by omega
     have r3:¬ (200:Int) < (m:Int):=by omega
     have S:=HS.o (OA.o _ hn) (OC.o _ hm)
     clear hn hm
     go_wp2
     go_roundw
     case rel=>exact ⟨k+1,by omega,by go_num,X0.drewN _,⟨_,rfl⟩,S⟩
     case measure=>simp [intOf];omega
    ·have q1:¬ (6:Int) < (n:Int):=by omega
     have q2:¬ (200:Int) < (n:Int):=by omega
     have r1:(6:Int) < (m:Int):=by omega
     have r2:¬ (m:Int)≤128:=by omega
     have r3:(200:Int) < (m:Int):=by omega
     clear hn hm
     go_wp2
     go_ret
     exact ⟨⟨_,rfl,fun h=>by cases h⟩,X0.drewN _⟩
   ·rcases hm4 with hm|hm|hm|hm
    ·have q1:(6:Int) < (n:Int):=by omega
     have q2:(n:Int)≤128:=by omega
     have r1:¬ (6:Int) < (m:Int):=by omega
     have r2:¬ (200:Int) < (m:Int):=by omega
     clear hn hm
     go_wp2
     go_ret
     exact ⟨⟨_,rfl,fun h=>by cases h⟩,X0.drewN _⟩
    ·have q1:(6:Int) < (n:Int):=by omega
     have q2:(n:Int)≤128:=by omega
     have r1:(6:Int) < (m:Int):=by omega
     have r2:(m:Int)≤128:=by omega
     clear hn hm
     go_wp2
     go_ret
     exact ⟨⟨_,rfl,fun h=>by cases h⟩,X0.drewN _⟩
    ·have q1:(6:Int) < (n:Int):=by omega
     have q2:(n:Int)≤128:=by omega
     have r1:(6:Int) < (m:Int):=by omega
     have r2:¬ (m:Int)≤128:=by omega
     have r3:¬ (200:Int) < (m:Int):=by omega
     clear hn hm
     go_wp2
     go_ret
     exact ⟨⟨_,rfl,fun h=>by cases h⟩,X0.drewN _⟩
    ·have q1:(6:Int) < (n:Int):=by omega
     have q2:(n:Int)≤128:=by omega
     have r1:(6:Int) < (m:Int):=by omega
     have r2:¬ (m:Int)≤128:=by omega
     have r3:(200:Int) < (m:Int):=by omega
     clear hn hm
     go_wp2
     go_ret
     exact ⟨⟨_,rfl,fun h=>by cases h⟩,X0.drewN _⟩
   ·rcases hm4 with hm|hm|hm|hm
    ·have q1:(6:Int) < (n:Int):=by omega
     have q2:¬ (n:Int)≤128:=by omega
     have q3:¬ (200:Int) < (n:Int):=by omega
     have r1:¬ (6:Int) < (m:Int):=by omega
     have r2:¬ (200:Int) < (m:Int):=by omega
     have S:=HS.o (OC.o _ hn) (OA.o _ hm)
     clear hn hm
     go_wp2
     go_roundw
     case rel=>exact ⟨k+1,by omega,by go_num,X0.drewN _,⟨_,rfl⟩,S⟩
     case measure=>simp [intOf];omega
    ·have q1:(6:Int) < (n:Int):=by omega
     have q2:¬ (n:Int)≤128:=by omega
     have q3:¬ (200:Int) < (n:Int):=by omega
     have r1:(6:Int) < (m:Int):=by omega
     have r2:(m:Int)≤128:=by omega
     clear hn hm
     go_wp2
     go_ret
     exact ⟨⟨_,rfl,fun h=>by cases h⟩,X0.drewN _⟩
    ·have q1:(6:Int) < (n:Int):=by omega
     have q2:¬ (n:Int)≤128:=by omega
     have q3:¬ (200:Int) < (n:Int):=by omega
     have r1:(6:Int) < (m:Int):=by omega
     have r2:¬ (m:Int)≤128:=by omega
     have r3:¬ (200:Int) < (m:Int):=by omega
     have S:=HS.o (OC.o _ hn) (OC.o _ hm)
     clear hn hm
     go_wp2
     go_roundw
     case rel=>exact ⟨k+1,by omega,by go_num,X0.drewN _,⟨_,rfl⟩,S⟩
     case measure=>simp [intOf];omega
    ·have q1:(6:Int) < (n:Int):=by omega
     have q2:¬ (n:Int)≤128:=by omega
     have q3:¬ (200:Int) < (n:Int):=by omega
     have r1:(6:Int) < (m:Int):=by omega
     have r2:¬ (m:Int)≤128:=by omega
     have r3:(200:Int) < (m:Int):=by omega
     clear hn hm
     go_wp2
     go_ret
     exact ⟨⟨_,rfl,fun h=>by cases h⟩,X0.drewN _⟩
   ·rcases hm4 with hm|hm|hm|hm
    ·have q1:(6:Int) < (n:Int):=by omega
     have q2:¬ (n:Int)≤128:=by omega
     have q3:(200:Int) < (n:Int):=by omega
     have r1:¬ (6:Int) < (m:Int):=by omega
     have r2:¬ (200:Int) < (m:Int):=by omega
     clear hn hm
     go_wp2
     go_ret
     exact ⟨⟨_,rfl,fun h=>by cases h⟩,X0.drewN _⟩
    ·have q1:(6:Int) < (n:Int):=by omega
     have q2:¬ (n:Int)≤128:=by omega
     have q3:(200:Int) < (n:Int):=by omega
     have r1:(6:Int) < (m:Int):=by omega
     have r2:(m:Int)≤128:=by omega
     clear hn hm
     go_wp2
     go_ret
     exact ⟨⟨_,rfl,fun h=>by cases h⟩,X0.drewN _⟩
    ·have q1:(6:Int) < (n:Int):=by omega
     have q2:¬ (n:Int)≤128:=by omega
     have q3:(200:Int) < (n:Int):=by omega
     have r1:(6:Int) < (m:Int):=by omega
     have r2:¬ (m:Int)≤128:=by omega
     have r3:¬ (200:Int) < (m:Int):=by omega
     clear hn hm
     go_wp2
     go_ret
     exact ⟨⟨_,rfl,fun h=>by cases h⟩,X0.drewN _⟩
    ·have q1:(6:Int) < (n:Int):=by omega
     have q2:¬ (n:Int)≤128:=by omega
     have q3:(200:Int) < (n:Int):=by omega
     have r1:(6:Int) < (m:Int):=by omega
     have r2:¬ (m:Int)≤128:=by omega
     have r3:(200:Int) < (m:Int):=by omega
     clear hn hm
     go_wp2
     go_ret
     exact ⟨⟨_,rfl,fun h=>by cases h⟩,X0.drewN _⟩
  ·have q0:¬ (k:Int) < (vs.length:Int):=by omega
   go_wp2
   go_ret
   exact ⟨⟨_,rfl,fun _ i hi=>HK.o i hi (by omega)⟩,hx⟩
def hdsOf (f:Nat→(Option Addr × Nat) × (Option Addr × Nat)) (l:List RR):List (Hd × Hd):=(List.range l.length).map fun i=>(((f i).1.1,(l.getD i zR).num.length,(f i).1.2),((f i).2.1,(l.getD i zR).den.length,(f i).2.2))
theorem hdsOf_len (f:Nat→(Option Addr × Nat) × (Option Addr × Nat)) (l:List RR):(hdsOf f l).length=l.length:=by simp [hdsOf]
theorem hdsOf_at (f:Nat→(Option Addr × Nat) × (Option Addr × Nat)) (l:List RR) (i:Nat) (hi:i < (hdsOf f l).length):(hdsOf f l)[i]=(((f i).1.1,(l.getD i zR).num.length,(f i).1.2),((f i).2.1,(l.getD i zR).den.length,(f i).2.2)):=by
 simp only [hdsOf,List.getElem_map,List.getElem_range]
theorem long6s_any (v:Value) (l:List RR) (w:World) (h:RdRs w v l) (hs:l.length≤1000) :
  Calls Try.prog 45 #[v] w fun e w'=>(∃ r,e=.returned (.bool r)∧(r=false→∀ i,i < l.length→okLen (l.getD i zR).num.length∧okLen (l.getD i zR).den.length))∧Ext w w':=by
 obtain ⟨a,cap,rfl,hc,hm,f,hr⟩:=h.get
 have hl:=hdsOf_len f l
 have:=long6o_any a cap (hdsOf f l) w (by rw [hl];exact hs) (fun i hi=>by
  obtain ⟨b,off,e,_,_,x1,x2,_⟩:=hr i (by rw [← hl];exact hi)
  rw [hdsOf_at]
  exact ⟨b,off,e,x1,x2⟩)
 rw [hl] at this
 refine this.mono ?_
 rintro e w' ⟨⟨r,rfl,h2⟩,hx⟩
 refine ⟨⟨r,rfl,fun e i hi=>?_⟩,hx⟩
 have:=h2 e i (by rw [hl];exact hi)
 rw [hdsOf_at] at this
 exact this
end Go.Proofs.Ytfflknbeidihoaa
namespace Go.Proofs.Ytfflknbeidihoaa
open Go.RowKit
def EndB (e:Ending):Prop:=∃ r,e=.returned (.bool r)
theorem EndB.mk (r:Bool):EndB (.returned (.bool r)):=⟨r,rfl⟩
set_option maxRecDepth 100000 in
set_option maxHeartbeats 8000000 in
theorem long21_any (mv:Value) (m:MD) (w:World) (hm:RdM w mv m) :
  Calls Try.prog 20 #[mv] w fun e w'=>EndB e∧Ext w w':=by
 have HM:=kI hm
 obtain ⟨m1,n1,m2,n2,m3,n3,rfl,hmd,hss⟩:=hm
 have HSS:=kI hss;have HMD:=kI hmd
 have hsn:m.states.length≤9223372036854775807:=by obtain ⟨_,_,_,h⟩:=hss.shape;exact h
 obtain ⟨sl,hsl⟩:∃ n,n=m.states.length:=⟨_,rfl⟩
 have HSL:=kI hsl
 rw [← hsl] at hsn
 clear hmd hss
 rw [← hsl]
 clear hsl
 have bb0:=(Blk.new w #[.bool m.disc.neg,.slice m1 m.disc.num.length n1,.slice m2 m.disc.den.length n2,.slice m3 sl n3] 28)
 have x0:Ext w (w.alloc (.cells #[.bool m.disc.neg,.slice m1 m.disc.num.length n1,.slice m2 m.disc.den.length n2,.slice m3 sl n3] 28)):=((Ext.refl w).alloc _)
 have A0:=kI bb0;have X:=kI x0
 clear x0 bb0
 go_enter Try.func20,Try.ntmps20
 by_cases h12:12 < sl
 ·have c1:(12:Int) < (sl:Int):=by omega
  by_cases h200:sl≤200
  ·have c2:(sl:Int)≤200:=by omega
   have qA0:=A0.o.cell;have fA0:=A0.o.free;have lA0:=A0.o.lt
   go_wp2_with fail
   go_ret
   exact ⟨EndB.mk _,X.o⟩
  ·have c2:¬ (sl:Int)≤200:=by omega
   by_cases h210:210 < sl
   ·have c3:(210:Int) < (sl:Int):=by omega
    have qA0:=A0.o.cell;have fA0:=A0.o.free;have lA0:=A0.o.lt
    go_wp2_with fail
    go_ret
    exact ⟨EndB.mk _,X.o⟩
   ·have c3:¬ (210:Int) < (sl:Int):=by omega
    have qA0:=A0.o.cell;have fA0:=A0.o.free;have lA0:=A0.o.lt
    go_wp2_with fail
    clear qA0 fA0 lA0
    obtain ⟨wl,hwl⟩:∃ W,W=(w.alloc (.cells #[.bool m.disc.neg,.slice m1 m.disc.num.length n1,.slice m2 m.disc.den.length n2,.slice m3 sl n3] 28)):=⟨_,rfl⟩
    have hsz:wl.heap.size=w.heap.size+1:=by rw [hwl];simp
    rw [← hwl] at A0 X ⊢
    rw [← hsz]
    clear hwl hsz
    refine (long6s_any _ [m.disc] (wl.alloc (.cells #[.bool m.disc.neg,.slice m1 m.disc.num.length n1,.slice m2 m.disc.den.length n2] 25)) (rdRs_one (Blk.new wl #[.bool m.disc.neg,.slice m1 m.disc.num.length n1,.slice m2 m.disc.den.length n2] 25) (HMD.o.ext (X.o.alloc _))) (by simp)).mono ?_
    rintro e v1 ⟨⟨r1,rfl,-⟩,hx1⟩
    have Xv1:Hid (Ext wl v1):=kI (((Ext.refl wl).alloc _).trans hx1)
    clear hx1
    cases r1
    ·have X0:Hid (Ext w v1):=kI (X.o.trans Xv1.o);have A0v:=kI (A0.o.ext Xv1.o)
     have qA0v:=A0v.o.cell;have fA0v:=A0v.o.free;have lA0v:=A0v.o.lt
     go_wp2_with fail
     clear qA0v fA0v lA0v
     go_loopw [3] (fun i wr=>∃ k:Nat,i=.int .i64 k∧k≤sl∧Ext w wr∧Blk wr w.heap.size #[.bool m.disc.neg,.slice m1 m.disc.num.length n1,.slice m2 m.disc.den.length n2,.slice m3 sl n3] 28) (fun i _=>sl - (intOf i).toNat)
     case atStart=>exact ⟨0,rfl,Nat.zero_le _,X0.o,A0v.o⟩
     case round=>
      obtain ⟨wk,hwk⟩:∃ W,W=wr:=⟨_,rfl⟩
      subst hwk
      obtain ⟨k,rfl,hk,hxk,hbk⟩:=hrel
      have XK:=kI hxk;have BK:=kI hbk
      clear hxk hbk
      by_cases hks:k < sl
      ·have q2:(k:Int) < (sl:Int):=by omega
       have q1:(0:Int)≤(k:Int):=by omega
       by_cases hk12:k < 12
       ·have q3:(k:Int) < 12:=by omega
        obtain ⟨sb,so,ai,ci,rfl,t0,t1,t2⟩:=(HSS.o.ext XK.o).at (i:=k) (by rw [← HSL.o];exact hks)
        obtain ⟨ac,hac⟩:∃ l,l=m.states.getD k []:=⟨_,rfl⟩
        rw [← hac] at t1 t2
        obtain ⟨_,_,_,hal⟩:=t2.shape
        have T2:=kI t2
        clear t2 hac
        by_cases h8:8 < ac.length
        ·have q4:(8:Int) < (ac.length:Int):=by omega
         have qBK:=BK.o.cell;have fBK:=BK.o.free;have lBK:=BK.o.lt
         go_wp2_with fail
         go_ret
         exact ⟨EndB.mk _,XK.o⟩
        ·have q4:¬ (8:Int) < (ac.length:Int):=by omega
         have qBK:=BK.o.cell;have fBK:=BK.o.free;have lBK:=BK.o.lt
         go_wp2_with fail
         clear qBK fBK lBK
         go_loopw [4] (fun i wr=>∃ j:Nat,i=.int .i64 j∧j≤ac.length∧Ext wk wr) (fun i _=>ac.length - (intOf i).toNat)
         case atStart=>exact ⟨0,rfl,Nat.zero_le _,Ext.refl _⟩
         case round=>
          obtain ⟨wj,hwj⟩:∃ W,W=wr:=⟨_,rfl⟩
          subst hwj
          obtain ⟨j,rfl,hj,hxj⟩:=hrel
          have XJ:=kI hxj;have XJW:Hid (Ext w wj):=kI (XK.o.trans hxj);have BJ:=kI (BK.o.ext hxj)
          have t1j:=(hxj.cell (p:=⟨sb,so+k,none⟩) t0).trans t1
          have t0j:=Nat.lt_of_lt_of_le t0 hxj.size
          clear hxj
          by_cases hjl:j < ac.length
          ·obtain ⟨ab,ao,p1,e1,p2,e2,p3,e3,rfl,na,u3,u4⟩:=(T2.o.ext XJ.o).at hjl
           obtain ⟨v0,v1,v2,v3,v4⟩:=na
           obtain ⟨xx,hxx⟩:∃ y,y=ac.getD j dA:=⟨_,rfl⟩
           rw [← hxx] at v1 v2 v3 v4 u3 u4
           obtain ⟨_,_,_,hol⟩:=u4.shape
           have V4:=kI v4;have U4:=kI u4
           have q5:(0:Int)≤(j:Int):=by omega
           have q6:(j:Int) < (ac.length:Int):=by omega
           clear v4 u4 hxx
           have qBJ:=BJ.o.cell;have fBJ:=BJ.o.free;have lBJ:=BJ.o.lt
           go_wp2_with fail
           clear qBJ fBJ lBJ
           clear v1 v2 v3 u3
           obtain ⟨bx,hbx⟩:∃ n,n=wj.heap.size:=⟨_,rfl⟩
           obtain ⟨wb,hwb⟩:∃ W9,W9=wj.alloc (.cells #[.bool xx.cost.neg,.slice p1 xx.cost.num.length e1,.slice p2 xx.cost.den.length e2,.slice p3 xx.next.length e3] 53):=⟨_,rfl⟩
           have hxb:Ext wj wb:=by rw [hwb];exact (Ext.refl _).alloc _
           have hbb:Blk wb bx #[.bool xx.cost.neg,.slice p1 xx.cost.num.length e1,.slice p2 xx.cost.den.length e2,.slice p3 xx.next.length e3] 53:=by rw [hwb,hbx];exact Blk.new _ _ _
           have hsz:wb.heap.size=wj.heap.size+1:=by rw [hwb];simp
           rw [← hwb,← hsz,← hbx]
           have XBJ:=kI hxb;have BX:=kI hbb;have V4b:=kI (V4.o.ext hxb)
           clear hbb hxb hwb hsz hbx
           refine (long6s_any _ [xx.cost] (wb.alloc (.cells #[.bool xx.cost.neg,.slice p1 xx.cost.num.length e1,.slice p2 xx.cost.den.length e2] 25)) (rdRs_one (Blk.new wb #[.bool xx.cost.neg,.slice p1 xx.cost.num.length e1,.slice p2 xx.cost.den.length e2] 25) (V4b.o.ext ((Ext.refl _).alloc _))) (by simp)).mono ?_
           rintro e v2 ⟨⟨r2,rfl,-⟩,hx2⟩
           have Xv2:Hid (Ext wb v2):=kI (((Ext.refl wb).alloc _).trans hx2)
           clear hx2
           cases r2
           ·have XV:Hid (Ext wj v2):=kI (XBJ.o.trans Xv2.o);have XVW:Hid (Ext w v2):=kI (XJW.o.trans XV.o);have BXv:=kI (BX.o.ext Xv2.o)
            have u6:¬ (xx.next.length:Int) < 0:=by omega
            by_cases h16:16 < xx.next.length
            ·have c1:(16:Int) < (xx.next.length:Int):=by omega
             by_cases h64:xx.next.length≤64
             ·have c2:(xx.next.length:Int)≤64:=by omega
              have qBXv:=BXv.o.cell;have fBXv:=BXv.o.free;have lBXv:=BXv.o.lt
              go_wp2_with fail
              go_ret
              exact ⟨EndB.mk _,XVW.o⟩
             ·have c2:¬ (xx.next.length:Int)≤64:=by omega
              by_cases h70:70 < xx.next.length
              ·have c3:(70:Int) < (xx.next.length:Int):=by omega
               have qBXv:=BXv.o.cell;have fBXv:=BXv.o.free;have lBXv:=BXv.o.lt
               go_wp2_with fail
               go_ret
               exact ⟨EndB.mk _,XVW.o⟩
              ·have c3:¬ (70:Int) < (xx.next.length:Int):=by omega
               have qBXv:=BXv.o.cell;have fBXv:=BXv.o.free;have lBXv:=BXv.o.lt
               go_wp2_with fail
               clear qBXv fBXv lBXv
               go_loopw [6] (fun i wr=>∃ q:Nat,i=.int .i64 q∧q≤xx.next.length∧Ext v2 wr) (fun i _=>xx.next.length - (intOf i).toNat)
               case atStart=>exact ⟨0,rfl,Nat.zero_le _,Ext.refl _⟩
               case round=>
                obtain ⟨wi,hwi⟩:∃ W,W=wr:=⟨_,rfl⟩
                subst hwi
                obtain ⟨q,rfl,hq,hxi⟩:=hrel
                have XI:=kI hxi;have XIW:Hid (Ext w wi):=kI (XVW.o.trans hxi);have BI:=kI (BXv.o.ext hxi)
                clear hxi
                by_cases hql:q < xx.next.length
                ·obtain ⟨ob,oo,o1,o2,o3,o4,rfl,g0,g1,g2,g3,g4,g5⟩:=(U4.o.ext (XV.o.trans XI.o)).at hql
                 obtain ⟨O,hO⟩:∃ O,O=xx.next.getD q dO:=⟨_,rfl⟩
                 rw [← hO] at g1 g2 g3 g4 g5
                 obtain ⟨ot,op⟩:=O
                 dsimp only at g1 g2 g3 g4 g5
                 have G5:=kI g5
                 have q7:(0:Int)≤(q:Int):=by omega
                 have q8:(q:Int) < (xx.next.length:Int):=by omega
                 clear g5 hO
                 have qBI:=BI.o.cell;have fBI:=BI.o.free;have lBI:=BI.o.lt
                 go_wp2_with fail
                 clear qBI fBI lBI
                 refine (long6s_any _ [op] (wi.alloc (.cells #[.bool op.neg,.slice o1 op.num.length o2,.slice o3 op.den.length o4] 25)) (rdRs_one (Blk.new wi #[.bool op.neg,.slice o1 op.num.length o2,.slice o3 op.den.length o4] 25) (G5.o.ext ((Ext.refl _).alloc _))) (by simp)).mono ?_
                 rintro e v3 ⟨⟨r3,rfl,-⟩,hx3⟩
                 have Xv3:Hid (Ext wi v3):=kI (((Ext.refl wi).alloc _).trans hx3)
                 clear hx3
                 cases r3
                 ·go_wp2_with fail
                  go_roundw
                  case rel=>exact ⟨q+1,by go_num,by omega,XI.o.trans Xv3.o⟩
                  case measure=>simp [intOf];omega
                 ·have XE:Hid (Ext w v3):=kI (XIW.o.trans Xv3.o)
                  go_wp2_with fail
                  go_ret
                  exact ⟨EndB.mk _,XE.o⟩
                ·have q8:¬ (q:Int) < (xx.next.length:Int):=by omega
                 have qBI:=BI.o.cell;have fBI:=BI.o.free;have lBI:=BI.o.lt
                 go_wp2_with fail
                 go_roundw
                 case rel=>exact ⟨j+1,by go_num,by omega,XJ.o.trans (XV.o.trans XI.o)⟩
                 case measure=>simp [intOf];omega
            ·have c1:¬ (16:Int) < (xx.next.length:Int):=by omega
             have c3:¬ (70:Int) < (xx.next.length:Int):=by omega
             have qBXv:=BXv.o.cell;have fBXv:=BXv.o.free;have lBXv:=BXv.o.lt
             go_wp2_with fail
             clear qBXv fBXv lBXv
             go_loopw [6] (fun i wr=>∃ q:Nat,i=.int .i64 q∧q≤xx.next.length∧Ext v2 wr) (fun i _=>xx.next.length - (intOf i).toNat)
             case atStart=>exact ⟨0,rfl,Nat.zero_le _,Ext.refl _⟩
             case round=>
              obtain ⟨wi,hwi⟩:∃ W,W=wr:=⟨_,rfl⟩
              subst hwi
              obtain ⟨q,rfl,hq,hxi⟩:=hrel
              have XI:=kI hxi;have XIW:Hid (Ext w wi):=kI (XVW.o.trans hxi);have BI:=kI (BXv.o.ext hxi)
              clear hxi
              by_cases hql:q < xx.next.length
              ·obtain ⟨ob,oo,o1,o2,o3,o4,rfl,g0,g1,g2,g3,g4,g5⟩:=(U4.o.ext (XV.o.trans XI.o)).at hql
               obtain ⟨O,hO⟩:∃ O,O=xx.next.getD q dO:=⟨_,rfl⟩
               rw [← hO] at g1 g2 g3 g4 g5
               obtain ⟨ot,op⟩:=O
               dsimp only at g1 g2 g3 g4 g5
               have G5:=kI g5
               have q7:(0:Int)≤(q:Int):=by omega
               have q8:(q:Int) < (xx.next.length:Int):=by omega
               clear g5 hO
               have qBI:=BI.o.cell;have fBI:=BI.o.free;have lBI:=BI.o.lt
               go_wp2_with fail
               clear qBI fBI lBI
               refine (long6s_any _ [op] (wi.alloc (.cells #[.bool op.neg,.slice o1 op.num.length o2,.slice o3 op.den.length o4] 25)) (rdRs_one (Blk.new wi #[.bool op.neg,.slice o1 op.num.length o2,.slice o3 op.den.length o4] 25) (G5.o.ext ((Ext.refl _).alloc _))) (by simp)).mono ?_
               rintro e v3 ⟨⟨r3,rfl,-⟩,hx3⟩
               have Xv3:Hid (Ext wi v3):=kI (((Ext.refl wi).alloc _).trans hx3)
               clear hx3
               cases r3
               ·go_wp2_with fail
                go_roundw
                case rel=>exact ⟨q+1,by go_num,by omega,XI.o.trans Xv3.o⟩
                case measure=>simp [intOf];omega
               ·have XE:Hid (Ext w v3):=kI (XIW.o.trans Xv3.o)
                go_wp2_with fail
                go_ret
                exact ⟨EndB.mk _,XE.o⟩
              ·have q8:¬ (q:Int) < (xx.next.length:Int):=by omega
               have qBI:=BI.o.cell;have fBI:=BI.o.free;have lBI:=BI.o.lt
               go_wp2_with fail
               go_roundw
               case rel=>exact ⟨j+1,by go_num,by omega,XJ.o.trans (XV.o.trans XI.o)⟩
               case measure=>simp [intOf];omega
           ·have XVW:Hid (Ext w v2):=kI (XJW.o.trans (XBJ.o.trans Xv2.o))
            have BXv:=kI (BX.o.ext Xv2.o)
            have qBXv:=BXv.o.cell;have fBXv:=BXv.o.free;have lBXv:=BXv.o.lt
            go_wp2_with fail
            go_ret
            exact ⟨EndB.mk _,XVW.o⟩
          ·have q6:¬ (j:Int) < (ac.length:Int):=by omega
           have qBJ:=BJ.o.cell;have fBJ:=BJ.o.free;have lBJ:=BJ.o.lt
           go_wp2_with fail
           go_roundw
           case rel=>exact ⟨k+1,by go_num,by omega,XJW.o,BJ.o⟩
           case measure=>simp [intOf];omega
       ·have q3:¬ (k:Int) < 12:=by omega
        have qBK:=BK.o.cell;have fBK:=BK.o.free;have lBK:=BK.o.lt
        go_wp2_with fail
        go_ret
        exact ⟨EndB.mk _,XK.o⟩
      ·have q2:¬ (k:Int) < (sl:Int):=by omega
       have qBK:=BK.o.cell;have fBK:=BK.o.free;have lBK:=BK.o.lt
       go_wp2_with fail
       go_ret
       exact ⟨EndB.mk _,XK.o⟩
    ·have X0:Hid (Ext w v1):=kI (X.o.trans Xv1.o)
     go_wp2_with fail
     go_ret
     exact ⟨EndB.mk _,X0.o⟩
 ·have c1:¬ (12:Int) < (sl:Int):=by omega
  have c3:¬ (210:Int) < (sl:Int):=by omega
  have qA0:=A0.o.cell;have fA0:=A0.o.free;have lA0:=A0.o.lt
  go_wp2_with fail
  clear qA0 fA0 lA0
  obtain ⟨wl,hwl⟩:∃ W,W=(w.alloc (.cells #[.bool m.disc.neg,.slice m1 m.disc.num.length n1,.slice m2 m.disc.den.length n2,.slice m3 sl n3] 28)):=⟨_,rfl⟩
  have hsz:wl.heap.size=w.heap.size+1:=by rw [hwl];simp
  rw [← hwl] at A0 X ⊢
  rw [← hsz]
  clear hwl hsz
  refine (long6s_any _ [m.disc] (wl.alloc (.cells #[.bool m.disc.neg,.slice m1 m.disc.num.length n1,.slice m2 m.disc.den.length n2] 25)) (rdRs_one (Blk.new wl #[.bool m.disc.neg,.slice m1 m.disc.num.length n1,.slice m2 m.disc.den.length n2] 25) (HMD.o.ext (X.o.alloc _))) (by simp)).mono ?_
  rintro e v1 ⟨⟨r1,rfl,-⟩,hx1⟩
  have Xv1:Hid (Ext wl v1):=kI (((Ext.refl wl).alloc _).trans hx1)
  clear hx1
  cases r1
  ·have X0:Hid (Ext w v1):=kI (X.o.trans Xv1.o);have A0v:=kI (A0.o.ext Xv1.o)
   have qA0v:=A0v.o.cell;have fA0v:=A0v.o.free;have lA0v:=A0v.o.lt
   go_wp2_with fail
   clear qA0v fA0v lA0v
   go_loopw [3] (fun i wr=>∃ k:Nat,i=.int .i64 k∧k≤sl∧Ext w wr∧Blk wr w.heap.size #[.bool m.disc.neg,.slice m1 m.disc.num.length n1,.slice m2 m.disc.den.length n2,.slice m3 sl n3] 28) (fun i _=>sl - (intOf i).toNat)
   case atStart=>exact ⟨0,rfl,Nat.zero_le _,X0.o,A0v.o⟩
   case round=>
    obtain ⟨wk,hwk⟩:∃ W,W=wr:=⟨_,rfl⟩
    subst hwk
    obtain ⟨k,rfl,hk,hxk,hbk⟩:=hrel
    have XK:=kI hxk;have BK:=kI hbk
    clear hxk hbk
    by_cases hks:k < sl
    ·have q2:(k:Int) < (sl:Int):=by omega
     have q1:(0:Int)≤(k:Int):=by omega
     by_cases hk12:k < 12
     ·have q3:(k:Int) < 12:=by omega
      obtain ⟨sb,so,ai,ci,rfl,t0,t1,t2⟩:=(HSS.o.ext XK.o).at (i:=k) (by rw [← HSL.o];exact hks)
      obtain ⟨ac,hac⟩:∃ l,l=m.states.getD k []:=⟨_,rfl⟩
      rw [← hac] at t1 t2
      obtain ⟨_,_,_,hal⟩:=t2.shape
      have T2:=kI t2
      clear t2 hac
      by_cases h8:8 < ac.length
      ·have q4:(8:Int) < (ac.length:Int):=by omega
       have qBK:=BK.o.cell;have fBK:=BK.o.free;have lBK:=BK.o.lt
       go_wp2_with fail
       go_ret
       exact ⟨EndB.mk _,XK.o⟩
      ·have q4:¬ (8:Int) < (ac.length:Int):=by omega
       have qBK:=BK.o.cell;have fBK:=BK.o.free;have lBK:=BK.o.lt
       go_wp2_with fail
       clear qBK fBK lBK
       go_loopw [4] (fun i wr=>∃ j:Nat,i=.int .i64 j∧j≤ac.length∧Ext wk wr) (fun i _=>ac.length - (intOf i).toNat)
       case atStart=>exact ⟨0,rfl,Nat.zero_le _,Ext.refl _⟩
       case round=>
        obtain ⟨wj,hwj⟩:∃ W,W=wr:=⟨_,rfl⟩
        subst hwj
        obtain ⟨j,rfl,hj,hxj⟩:=hrel
        have XJ:=kI hxj;have XJW:Hid (Ext w wj):=kI (XK.o.trans hxj);have BJ:=kI (BK.o.ext hxj)
        have t1j:=(hxj.cell (p:=⟨sb,so+k,none⟩) t0).trans t1
        have t0j:=Nat.lt_of_lt_of_le t0 hxj.size
        clear hxj
        by_cases hjl:j < ac.length
        ·obtain ⟨ab,ao,p1,e1,p2,e2,p3,e3,rfl,na,u3,u4⟩:=(T2.o.ext XJ.o).at hjl
         obtain ⟨v0,v1,v2,v3,v4⟩:=na
         obtain ⟨xx,hxx⟩:∃ y,y=ac.getD j dA:=⟨_,rfl⟩
         rw [← hxx] at v1 v2 v3 v4 u3 u4
         obtain ⟨_,_,_,hol⟩:=u4.shape
         have V4:=kI v4;have U4:=kI u4
         have q5:(0:Int)≤(j:Int):=by omega
         have q6:(j:Int) < (ac.length:Int):=by omega
         clear v4 u4 hxx
         have qBJ:=BJ.o.cell;have fBJ:=BJ.o.free;have lBJ:=BJ.o.lt
         go_wp2_with fail
         clear qBJ fBJ lBJ
         clear v1 v2 v3 u3
         obtain ⟨bx,hbx⟩:∃ n,n=wj.heap.size:=⟨_,rfl⟩
         obtain ⟨wb,hwb⟩:∃ W9,W9=wj.alloc (.cells #[.bool xx.cost.neg,.slice p1 xx.cost.num.length e1,.slice p2 xx.cost.den.length e2,.slice p3 xx.next.length e3] 53):=⟨_,rfl⟩
         have hxb:Ext wj wb:=by rw [hwb];exact (Ext.refl _).alloc _
         have hbb:Blk wb bx #[.bool xx.cost.neg,.slice p1 xx.cost.num.length e1,.slice p2 xx.cost.den.length e2,.slice p3 xx.next.length e3] 53:=by rw [hwb,hbx];exact Blk.new _ _ _
         have hsz:wb.heap.size=wj.heap.size+1:=by rw [hwb];simp
         rw [← hwb,← hsz,← hbx]
         have XBJ:=kI hxb;have BX:=kI hbb;have V4b:=kI (V4.o.ext hxb)
         clear hbb hxb hwb hsz hbx
         refine (long6s_any _ [xx.cost] (wb.alloc (.cells #[.bool xx.cost.neg,.slice p1 xx.cost.num.length e1,.slice p2 xx.cost.den.length e2] 25)) (rdRs_one (Blk.new wb #[.bool xx.cost.neg,.slice p1 xx.cost.num.length e1,.slice p2 xx.cost.den.length e2] 25) (V4b.o.ext ((Ext.refl _).alloc _))) (by simp)).mono ?_
         rintro e v2 ⟨⟨r2,rfl,-⟩,hx2⟩
         have Xv2:Hid (Ext wb v2):=kI (((Ext.refl wb).alloc _).trans hx2)
         clear hx2
         cases r2
         ·have XV:Hid (Ext wj v2):=kI (XBJ.o.trans Xv2.o);have XVW:Hid (Ext w v2):=kI (XJW.o.trans XV.o);have BXv:=kI (BX.o.ext Xv2.o)
          have u6:¬ (xx.next.length:Int) < 0:=by omega
          by_cases h16:16 < xx.next.length
          ·have c1:(16:Int) < (xx.next.length:Int):=by omega
           by_cases h64:xx.next.length≤64
           ·have c2:(xx.next.length:Int)≤64:=by omega
            have qBXv:=BXv.o.cell;have fBXv:=BXv.o.free;have lBXv:=BXv.o.lt
            go_wp2_with fail
            go_ret
            exact ⟨EndB.mk _,XVW.o⟩
           ·have c2:¬ (xx.next.length:Int)≤64:=by omega
            by_cases h70:70 < xx.next.length
            ·have c3:(70:Int) < (xx.next.length:Int):=by omega
             have qBXv:=BXv.o.cell;have fBXv:=BXv.o.free;have lBXv:=BXv.o.lt
             go_wp2_with fail
             go_ret
             exact ⟨EndB.mk _,XVW.o⟩
            ·have c3:¬ (70:Int) < (xx.next.length:Int):=by omega
             have qBXv:=BXv.o.cell;have fBXv:=BXv.o.free;have lBXv:=BXv.o.lt
             go_wp2_with fail
             clear qBXv fBXv lBXv
             go_loopw [6] (fun i wr=>∃ q:Nat,i=.int .i64 q∧q≤xx.next.length∧Ext v2 wr) (fun i _=>xx.next.length - (intOf i).toNat)
             case atStart=>exact ⟨0,rfl,Nat.zero_le _,Ext.refl _⟩
             case round=>
              obtain ⟨wi,hwi⟩:∃ W,W=wr:=⟨_,rfl⟩
              subst hwi
              obtain ⟨q,rfl,hq,hxi⟩:=hrel
              have XI:=kI hxi;have XIW:Hid (Ext w wi):=kI (XVW.o.trans hxi);have BI:=kI (BXv.o.ext hxi)
              clear hxi
              by_cases hql:q < xx.next.length
              ·obtain ⟨ob,oo,o1,o2,o3,o4,rfl,g0,g1,g2,g3,g4,g5⟩:=(U4.o.ext (XV.o.trans XI.o)).at hql
               obtain ⟨O,hO⟩:∃ O,O=xx.next.getD q dO:=⟨_,rfl⟩
               rw [← hO] at g1 g2 g3 g4 g5
               obtain ⟨ot,op⟩:=O
               dsimp only at g1 g2 g3 g4 g5
               have G5:=kI g5
               have q7:(0:Int)≤(q:Int):=by omega
               have q8:(q:Int) < (xx.next.length:Int):=by omega
               clear g5 hO
               have qBI:=BI.o.cell;have fBI:=BI.o.free;have lBI:=BI.o.lt
               go_wp2_with fail
               clear qBI fBI lBI
               refine (long6s_any _ [op] (wi.alloc (.cells #[.bool op.neg,.slice o1 op.num.length o2,.slice o3 op.den.length o4] 25)) (rdRs_one (Blk.new wi #[.bool op.neg,.slice o1 op.num.length o2,.slice o3 op.den.length o4] 25) (G5.o.ext ((Ext.refl _).alloc _))) (by simp)).mono ?_
               rintro e v3 ⟨⟨r3,rfl,-⟩,hx3⟩
               have Xv3:Hid (Ext wi v3):=kI (((Ext.refl wi).alloc _).trans hx3)
               clear hx3
               cases r3
               ·go_wp2_with fail
                go_roundw
                case rel=>exact ⟨q+1,by go_num,by omega,XI.o.trans Xv3.o⟩
                case measure=>simp [intOf];omega
               ·have XE:Hid (Ext w v3):=kI (XIW.o.trans Xv3.o)
                go_wp2_with fail
                go_ret
                exact ⟨EndB.mk _,XE.o⟩
              ·have q8:¬ (q:Int) < (xx.next.length:Int):=by omega
               have qBI:=BI.o.cell;have fBI:=BI.o.free;have lBI:=BI.o.lt
               go_wp2_with fail
               go_roundw
               case rel=>exact ⟨j+1,by go_num,by omega,XJ.o.trans (XV.o.trans XI.o)⟩
               case measure=>simp [intOf];omega
          ·have c1:¬ (16:Int) < (xx.next.length:Int):=by omega
           have c3:¬ (70:Int) < (xx.next.length:Int):=by omega
           have qBXv:=BXv.o.cell;have fBXv:=BXv.o.free;have lBXv:=BXv.o.lt
           go_wp2_with fail
           clear qBXv fBXv lBXv
           go_loopw [6] (fun i wr=>∃ q:Nat,i=.int .i64 q∧q≤xx.next.length∧Ext v2 wr) (fun i _=>xx.next.length - (intOf i).toNat)
           case atStart=>exact ⟨0,rfl,Nat.zero_le _,Ext.refl _⟩
           case round=>
            obtain ⟨wi,hwi⟩:∃ W,W=wr:=⟨_,rfl⟩
            subst hwi
            obtain ⟨q,rfl,hq,hxi⟩:=hrel
            have XI:=kI hxi;have XIW:Hid (Ext w wi):=kI (XVW.o.trans hxi);have BI:=kI (BXv.o.ext hxi)
            clear hxi
            by_cases hql:q < xx.next.length
            ·obtain ⟨ob,oo,o1,o2,o3,o4,rfl,g0,g1,g2,g3,g4,g5⟩:=(U4.o.ext (XV.o.trans XI.o)).at hql
             obtain ⟨O,hO⟩:∃ O,O=xx.next.getD q dO:=⟨_,rfl⟩
             rw [← hO] at g1 g2 g3 g4 g5
             obtain ⟨ot,op⟩:=O
             dsimp only at g1 g2 g3 g4 g5
             have G5:=kI g5
             have q7:(0:Int)≤(q:Int):=by omega
             have q8:(q:Int) < (xx.next.length:Int):=by omega
             clear g5 hO
             have qBI:=BI.o.cell;have fBI:=BI.o.free;have lBI:=BI.o.lt
             go_wp2_with fail
             clear qBI fBI lBI
             refine (long6s_any _ [op] (wi.alloc (.cells #[.bool op.neg,.slice o1 op.num.length o2,.slice o3 op.den.length o4] 25)) (rdRs_one (Blk.new wi #[.bool op.neg,.slice o1 op.num.length o2,.slice o3 op.den.length o4] 25) (G5.o.ext ((Ext.refl _).alloc _))) (by simp)).mono ?_
             rintro e v3 ⟨⟨r3,rfl,-⟩,hx3⟩
             have Xv3:Hid (Ext wi v3):=kI (((Ext.refl wi).alloc _).trans hx3)
             clear hx3
             cases r3
             ·go_wp2_with fail
              go_roundw
              case rel=>exact ⟨q+1,by go_num,by omega,XI.o.trans Xv3.o⟩
              case measure=>simp [intOf];omega
             ·have XE:Hid (Ext w v3):=kI (XIW.o.trans Xv3.o)
              go_wp2_with fail
              go_ret
              exact ⟨EndB.mk _,XE.o⟩
            ·have q8:¬ (q:Int) < (xx.next.length:Int):=by omega
             have qBI:=BI.o.cell;have fBI:=BI.o.free;have lBI:=BI.o.lt
             go_wp2_with fail
             go_roundw
             case rel=>exact ⟨j+1,by go_num,by omega,XJ.o.trans (XV.o.trans XI.o)⟩
             case measure=>simp [intOf];omega
         ·have XVW:Hid (Ext w v2):=kI (XJW.o.trans (XBJ.o.trans Xv2.o))
          have BXv:=kI (BX.o.ext Xv2.o)
          have qBXv:=BXv.o.cell;have fBXv:=BXv.o.free;have lBXv:=BXv.o.lt
          go_wp2_with fail
          go_ret
          exact ⟨EndB.mk _,XVW.o⟩
        ·have q6:¬ (j:Int) < (ac.length:Int):=by omega
         have qBJ:=BJ.o.cell;have fBJ:=BJ.o.free;have lBJ:=BJ.o.lt
         go_wp2_with fail
         go_roundw
         case rel=>exact ⟨k+1,by go_num,by omega,XJW.o,BJ.o⟩
         case measure=>simp [intOf];omega
     ·exfalso;omega
    ·have q2:¬ (k:Int) < (sl:Int):=by omega
     have qBK:=BK.o.cell;have fBK:=BK.o.free;have lBK:=BK.o.lt
     go_wp2_with fail
     go_ret
     exact ⟨EndB.mk _,XK.o⟩
  ·have X0:Hid (Ext w v1):=kI (X.o.trans Xv1.o)
   go_wp2_with fail
   go_ret
   exact ⟨EndB.mk _,X0.o⟩
theorem longList_any (v:Value) (l:List RR) (w:World) (h:RdRs w v l) :
  Calls Try.prog 21 #[v] w fun e w'=>(∃ r,e=.returned (.bool r)∧(r=false→l.length≤20∧LenL l))∧Ext w w':=by
 have H:=kI h
 obtain ⟨a,c,rfl,hc,hm,-⟩:=h.get
 have hl9:l.length≤9223372036854775807:=by omega
 clear h hc hm
 by_cases h20:20 < l.length
 ·have q1:(20:Int) < (l.length:Int):=by omega
  go_enter Try.func21,Try.ntmps21
  go_wp2_with fail
  go_ret
  exact ⟨⟨true,rfl,fun h=>by cases h⟩,Ext.refl _⟩
 ·have q1:¬ (20:Int) < (l.length:Int):=by omega
  go_enter Try.func21,Try.ntmps21
  go_wp2_with fail
  refine (long6s_any _ l w H.o (by omega)).mono ?_
  rintro e w1 ⟨⟨r,rfl,hr⟩,hx⟩
  have X:=kI hx;have HR:=kI hr
  clear hx hr
  go_wp2_with fail
  go_ret
  exact ⟨⟨r,rfl,fun h=>⟨by omega,fun i hi=>by
   have:=HR.o h i hi
   unfold okLen at this
   omega⟩⟩,X.o⟩
end Go.Proofs.Ytfflknbeidihoaa
namespace Go.Proofs.Ytfflknbeidihoaa
open Go.RowKit
def LgR (vals:List RR) (plan:List (List Int)) (e:Ending):Prop:=∃ r,e=.returned (.bool r)∧(r=false→vals.length≤20∧LenL vals∧plan.length≤30∧∀ j,j < plan.length→(plan.getD j []).length≤20)
theorem LgR.tt (vals:List RR) (plan:List (List Int)):LgR vals plan (.returned (.bool true)):=⟨true,rfl,fun h=>by cases h⟩
theorem LgR.ff {vals:List RR} {plan:List (List Int)} (h1:vals.length≤20) (h2:LenL vals) (h3:plan.length≤30) (h4:∀ j,j < plan.length→(plan.getD j []).length≤20):LgR vals plan (.returned (.bool false)):=⟨false,rfl,fun _=>⟨h1,h2,h3,h4⟩⟩
set_option maxRecDepth 100000 in
set_option maxHeartbeats 4000000 in
theorem long22_any (mv vv pv:Value) (m:MD) (vals:List RR) (k:Int) (plan:List (List Int)) (w:World) (hm:RdM w mv m) (hv:RdRs w vv vals) (hp:RdPl w pv plan) :
  Calls Try.prog 5 #[mv,vv,.int .i64 k,pv] w fun e w'=>LgR vals plan e∧Ext w w':=by
 have HM:=kI hm;have HV:=kI hv;have HP:=kI hp
 obtain ⟨m1,n1,m2,n2,m3,n3,rfl,-,-⟩:=hm
 obtain ⟨av,cv,rfl,-,-,-⟩:=hv.get
 obtain ⟨pa,pc,rfl,hpn⟩:=hp.shape
 clear hv hp
 have bb0:=(Blk.new w #[.bool m.disc.neg,.slice m1 m.disc.num.length n1,.slice m2 m.disc.den.length n2,.slice m3 m.states.length n3] 28)
 have x0:Ext w (w.alloc (.cells #[.bool m.disc.neg,.slice m1 m.disc.num.length n1,.slice m2 m.disc.den.length n2,.slice m3 m.states.length n3] 28)):=((Ext.refl w).alloc _)
 have A0:=kI bb0;have X:=kI x0
 clear x0 bb0
 go_enter Try.func5,Try.ntmps5
 have qA0:=A0.o.cell;have fA0:=A0.o.free;have lA0:=A0.o.lt
 go_wp2_with fail
 refine (long21_any _ m _ (HM.o.ext X.o)).mono ?_
 rintro e w1 ⟨⟨r,rfl⟩,hx⟩
 clear qA0 fA0 lA0
 replace A0:=kI (A0.o.ext hx);replace X:=kI (X.o.trans hx)
 clear hx
 cases r
 rotate_left
 ·go_wp2_with fail
  go_ret
  exact ⟨LgR.tt _ _,X.o⟩
 go_wp2_with fail
 refine (longList_any _ vals w1 (HV.o.ext X.o)).mono ?_
 rintro e w2 ⟨⟨r,rfl,hr⟩,hx⟩
 replace A0:=kI (A0.o.ext hx);replace X:=kI (X.o.trans hx)
 have HR:=kI hr
 clear hx hr
 cases r
 rotate_left
 ·go_wp2_with fail
  go_ret
  exact ⟨LgR.tt _ _,X.o⟩
 obtain ⟨g1,g2⟩:=HR.o rfl
 have G1:=kI g1;have G2:=kI g2
 clear g1 g2 HR
 by_cases k6:6 < k
 ·by_cases k24:k≤24
  ·go_wp2_with fail
   go_ret
   exact ⟨LgR.tt _ _,X.o⟩
  ·by_cases p6:6 < plan.length
   ·have d1:(6:Int) < (plan.length:Int):=by omega
    by_cases p24:plan.length≤24
    ·have d2:(plan.length:Int)≤24:=by omega
     go_wp2_with fail
     go_ret
     exact ⟨LgR.tt _ _,X.o⟩
    ·have d2:¬ (plan.length:Int)≤24:=by omega
     by_cases p30:plan.length≤30
     rotate_left
     ·have d3:(30:Int) < (plan.length:Int):=by omega
      go_wp2_with fail
      go_ret
      exact ⟨LgR.tt _ _,X.o⟩
     have d3:¬ (30:Int) < (plan.length:Int):=by omega
     go_wp2_with fail
     have P30:=kI p30
     clear p30
     go_loopw [9] (fun i wr=>∃ j:Nat,i=.int .i64 j∧j≤plan.length∧Ext w wr∧∀ t,t < j→(plan.getD t []).length≤20) (fun i _=>plan.length - (intOf i).toNat)
     case atStart=>exact ⟨0,rfl,Nat.zero_le _,X.o,fun t h=>by omega⟩
     case round=>
      obtain ⟨wk,hwk⟩:∃ W,W=wr:=⟨_,rfl⟩
      subst hwk
      obtain ⟨j,rfl,hj,hxk,hok⟩:=hrel
      have XK:=kI hxk;have OK:=kI hok
      clear hxk hok
      by_cases hjl:j < plan.length
      ·obtain ⟨b,off,ai,ci,rfl,t0,t1,t2⟩:=(HP.o.ext XK.o).at hjl
       obtain ⟨n9,hn9⟩:∃ n,n=(plan.getD j []).length:=⟨_,rfl⟩
       have HN9:=kI hn9
       rw [← hn9] at t1
       clear t2 hn9
       have q1:(0:Int)≤(j:Int):=by omega
       have q2:(j:Int) < (plan.length:Int):=by omega
       by_cases h20:20 < n9
       ·have q3:(20:Int) < (n9:Int):=by omega
        go_wp2_with fail
        go_ret
        exact ⟨LgR.tt _ _,XK.o⟩
       ·have q3:¬ (20:Int) < (n9:Int):=by omega
        go_wp2_with fail
        go_roundw
        case rel=>
         refine ⟨j+1,by go_num,by omega,XK.o,fun t ht=>?_⟩
         by_cases e:t=j
         ·subst e;rw [← HN9.o];omega
         ·exact OK.o t (by omega)
        case measure=>simp [intOf];omega
      ·obtain rfl:j=plan.length:=by omega
       have q2:¬ (plan.length:Int) < (plan.length:Int):=by omega
       go_wp2_with fail
       go_ret
       exact ⟨LgR.ff G1.o G2.o P30.o OK.o,XK.o⟩
   ·have d1:¬ (6:Int) < (plan.length:Int):=by omega
    have d3:¬ (30:Int) < (plan.length:Int):=by omega
    have p30:plan.length≤30:=by omega
    go_wp2_with fail
    have P30:=kI p30
    clear p30
    go_loopw [9] (fun i wr=>∃ j:Nat,i=.int .i64 j∧j≤plan.length∧Ext w wr∧∀ t,t < j→(plan.getD t []).length≤20) (fun i _=>plan.length - (intOf i).toNat)
    case atStart=>exact ⟨0,rfl,Nat.zero_le _,X.o,fun t h=>by omega⟩
    case round=>
     obtain ⟨wk,hwk⟩:∃ W,W=wr:=⟨_,rfl⟩
     subst hwk
     obtain ⟨j,rfl,hj,hxk,hok⟩:=hrel
     have XK:=kI hxk;have OK:=kI hok
     clear hxk hok
     by_cases hjl:j < plan.length
     ·obtain ⟨b,off,ai,ci,rfl,t0,t1,t2⟩:=(HP.o.ext XK.o).at hjl
      obtain ⟨n9,hn9⟩:∃ n,n=(plan.getD j []).length:=⟨_,rfl⟩
      have HN9:=kI hn9
      rw [← hn9] at t1
      clear t2 hn9
      have q1:(0:Int)≤(j:Int):=by omega
      have q2:(j:Int) < (plan.length:Int):=by omega
      by_cases h20:20 < n9
      ·have q3:(20:Int) < (n9:Int):=by omega
       go_wp2_with fail
       go_ret
       exact ⟨LgR.tt _ _,XK.o⟩
      ·have q3:¬ (20:Int) < (n9:Int):=by omega
       go_wp2_with fail
       go_roundw
       case rel=>
        refine ⟨j+1,by go_num,by omega,XK.o,fun t ht=>?_⟩
        by_cases e:t=j
        ·subst e;rw [← HN9.o];omega
        ·exact OK.o t (by omega)
       case measure=>simp [intOf];omega
     ·obtain rfl:j=plan.length:=by omega
      have q2:¬ (plan.length:Int) < (plan.length:Int):=by omega
      go_wp2_with fail
      go_ret
      exact ⟨LgR.ff G1.o G2.o P30.o OK.o,XK.o⟩
 ·by_cases p6:6 < plan.length
  ·have d1:(6:Int) < (plan.length:Int):=by omega
   by_cases p24:plan.length≤24
   ·have d2:(plan.length:Int)≤24:=by omega
    go_wp2_with fail
    go_ret
    exact ⟨LgR.tt _ _,X.o⟩
   ·have d2:¬ (plan.length:Int)≤24:=by omega
    by_cases p30:plan.length≤30
    rotate_left
    ·have d3:(30:Int) < (plan.length:Int):=by omega
     go_wp2_with fail
     go_ret
     exact ⟨LgR.tt _ _,X.o⟩
    have d3:¬ (30:Int) < (plan.length:Int):=by omega
    go_wp2_with fail
    have P30:=kI p30
    clear p30
    go_loopw [9] (fun i wr=>∃ j:Nat,i=.int .i64 j∧j≤plan.length∧Ext w wr∧∀ t,t < j→(plan.getD t []).length≤20) (fun i _=>plan.length - (intOf i).toNat)
    case atStart=>exact ⟨0,rfl,Nat.zero_le _,X.o,fun t h=>by omega⟩
    case round=>
     obtain ⟨wk,hwk⟩:∃ W,W=wr:=⟨_,rfl⟩
     subst hwk
     obtain ⟨j,rfl,hj,hxk,hok⟩:=hrel
     have XK:=kI hxk;have OK:=kI hok
     clear hxk hok
     by_cases hjl:j < plan.length
     ·obtain ⟨b,off,ai,ci,rfl,t0,t1,t2⟩:=(HP.o.ext XK.o).at hjl
      obtain ⟨n9,hn9⟩:∃ n,n=(plan.getD j []).length:=⟨_,rfl⟩
      have HN9:=kI hn9
      rw [← hn9] at t1
      clear t2 hn9
      have q1:(0:Int)≤(j:Int):=by omega
      have q2:(j:Int) < (plan.length:Int):=by omega
      by_cases h20:20 < n9
      ·have q3:(20:Int) < (n9:Int):=by omega
       go_wp2_with fail
       go_ret
       exact ⟨LgR.tt _ _,XK.o⟩
      ·have q3:¬ (20:Int) < (n9:Int):=by omega
       go_wp2_with fail
       go_roundw
       case rel=>
        refine ⟨j+1,by go_num,by omega,XK.o,fun t ht=>?_⟩
        by_cases e:t=j
        ·subst e;rw [← HN9.o];omega
        ·exact OK.o t (by omega)
       case measure=>simp [intOf];omega
     ·obtain rfl:j=plan.length:=by omega
      have q2:¬ (plan.length:Int) < (plan.length:Int):=by omega
      go_wp2_with fail
      go_ret
      exact ⟨LgR.ff G1.o G2.o P30.o OK.o,XK.o⟩
  ·have d1:¬ (6:Int) < (plan.length:Int):=by omega
   have d3:¬ (30:Int) < (plan.length:Int):=by omega
   have p30:plan.length≤30:=by omega
   go_wp2_with fail
   have P30:=kI p30
   clear p30
   go_loopw [9] (fun i wr=>∃ j:Nat,i=.int .i64 j∧j≤plan.length∧Ext w wr∧∀ t,t < j→(plan.getD t []).length≤20) (fun i _=>plan.length - (intOf i).toNat)
   case atStart=>exact ⟨0,rfl,Nat.zero_le _,X.o,fun t h=>by omega⟩
   case round=>
    obtain ⟨wk,hwk⟩:∃ W,W=wr:=⟨_,rfl⟩
    subst hwk
    obtain ⟨j,rfl,hj,hxk,hok⟩:=hrel
    have XK:=kI hxk;have OK:=kI hok
    clear hxk hok
    by_cases hjl:j < plan.length
    ·obtain ⟨b,off,ai,ci,rfl,t0,t1,t2⟩:=(HP.o.ext XK.o).at hjl
     obtain ⟨n9,hn9⟩:∃ n,n=(plan.getD j []).length:=⟨_,rfl⟩
     have HN9:=kI hn9
     rw [← hn9] at t1
     clear t2 hn9
     have q1:(0:Int)≤(j:Int):=by omega
     have q2:(j:Int) < (plan.length:Int):=by omega
     by_cases h20:20 < n9
     ·have q3:(20:Int) < (n9:Int):=by omega
      go_wp2_with fail
      go_ret
      exact ⟨LgR.tt _ _,XK.o⟩
     ·have q3:¬ (20:Int) < (n9:Int):=by omega
      go_wp2_with fail
      go_roundw
      case rel=>
       refine ⟨j+1,by go_num,by omega,XK.o,fun t ht=>?_⟩
       by_cases e:t=j
       ·subst e;rw [← HN9.o];omega
       ·exact OK.o t (by omega)
      case measure=>simp [intOf];omega
    ·obtain rfl:j=plan.length:=by omega
     have q2:¬ (plan.length:Int) < (plan.length:Int):=by omega
     go_wp2_with fail
     go_ret
     exact ⟨LgR.ff G1.o G2.o P30.o OK.o,XK.o⟩
end Go.Proofs.Ytfflknbeidihoaa
