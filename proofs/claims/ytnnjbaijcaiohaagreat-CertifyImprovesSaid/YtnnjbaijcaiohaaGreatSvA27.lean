/- Walks and lemmas. -/
import Derived.Test.YtnnjbaijcaiohaaGreatSvA9
import Derived.Test.YtnnjbaijcaiohaaGreatSvA7
import Derived.Test.YtnnjbaijcaiohaaGreatSvA13
import Derived.WalkMore
import Derived.Test.YtnnjbaijcaiohaaGreatSvA23
import Derived.Test.YtnnjbaijcaiohaaGreatSvA22
import Derived.Test.YtnnjbaijcaiohaaGreatSvA25
import Derived.Test.YtnnjbaijcaiohaaGreatSvA26
import Derived.Test.YtnnjbaijcaiohaaGreatSvA10
set_option linter.unusedVariables false
set_option linter.unusedSimpArgs false
set_option maxRecDepth 100000
set_option maxHeartbeats 16000000
namespace Go.Proofs.YtnnjbaijcaiohaaGreat
open Go.RowKit
theorem ys (a0:Option Addr) (cap:Nat) (vs:List (Hd × Hd)) (w:World) (hs:vs.length≤1000)
  (h:∀ (i:Nat) (hi:i < vs.length),∃ b off,a0=some ⟨b,off,none⟩∧w.cell? ⟨b,off+i*3+1,none⟩=some (.slice (vs[i]).1.1 (vs[i]).1.2.1 (vs[i]).1.2.2)∧w.cell? ⟨b,off+i*3+2,none⟩=some (.slice (vs[i]).2.1 (vs[i]).2.2.1 (vs[i]).2.2.2)) :
  Calls Tryz.prog 101 #[.slice a0 vs.length cap] w fun e w'=>Oh vs e∧Ext w w':=by
 have H:=kI h;clear h;go_enter Tryz.func101,Tryz.ntmps101
 go_wp2_with fail;go_loopw [3,4,5] (fun i _ _ wr=>∃ k:Nat,k≤vs.length∧i=.int .i64 k∧Ext w wr∧(∃ n,wr=w.drewN n)∧Hid (∀ (i:Nat) (hi:i < vs.length),i < k→ir (vs[i]).1.2.1∧ir (vs[i]).2.2.1)) (fun i _ _ _=>vs.length - (intOf i).toNat)
 case atStart=>exact ⟨0,Nat.zero_le _,rfl,Ext.refl _,⟨0,rfl⟩,kI (fun i _ h=>by omega)⟩
 case round=>
  obtain ⟨k,hk,rfl,hx,⟨nd,rfl⟩,HK⟩:=hrel;by_cases hlt:k < vs.length
  ·obtain ⟨bq,oq,rfl,hc1,hc2⟩:=H.o k hlt;have q9:(0:Int)≤(k:Int):=Z
   have hstep:ir (vs[k]).1.2.1→ir (vs[k]).2.2.1→Hid (∀ (i:Nat) (hi:i < vs.length),i < k+1→ir (vs[i]).1.2.1∧ir (vs[i]).2.2.1):=fun h1 h2=>kI (fun i hi hik=>by
    by_cases e:i=k
    ·subst e;exact ⟨h1,h2⟩
    ·exact HK.o i hi Z)
   obtain ⟨x,hxx⟩:=gN (vs[k]);rw [← hxx] at hc1 hc2 hstep;obtain ⟨⟨a,n,c⟩,a2,m,c2⟩:=x;clear hxx;dsimp only at hc1 hc2 hstep;have HS:=kI hstep;have X:=kI hx;clear hstep hx;have q0:(k:Int) < (vs.length:Int):=Z
   have hmx:Tryz.prog.follows .mixedOrders=true:=ax
   go_wp2_with fail;go_quiet (fail)
   have hn4:n≤6∨(6 < n∧n≤128)∨(128 < n∧n≤200)∨200 < n:=Z
   have hm4:m≤6∨(6 < m∧m≤128)∨(128 < m∧m≤200)∨200 < m:=Z
   have okA:∀ x:Nat,x≤6→ir x:=fun x h=>⟨.inl h,by omega⟩;have YY:∀ x:Nat,128 < x∧x≤200→ir x:=fun x h=>⟨.inr h.1,h.2⟩;have OA:=kI okA;have OC:=kI YY;have X0:=Ext.refl w;clear okA YY;clear hc1 hc2;rcases hn4 with hn|hn|hn|hn
   ·rcases hm4 with hm|hm|hm|hm
    ·have q1:¬ (6:Int) < (n:Int):=Z
     have q2:¬ (200:Int) < (n:Int):=Z
     have r1:¬ (6:Int) < (m:Int):=Z
     have r2:¬ (200:Int) < (m:Int):=Z
     have S:=HS.o (OA.o _ hn) (OA.o _ hm);clear hn hm;go_wp2
     go_roundw
     case rel=>exact ⟨k+1,by omega,by go_num,X0.drewN _,⟨_,rfl⟩,S⟩
     case measure=>simp [intOf];omega
    ·have q1:¬ (6:Int) < (n:Int):=Z
     have q2:¬ (200:Int) < (n:Int):=Z
     have r1:(6:Int) < (m:Int):=Z
     have r2:(m:Int)≤128:=Z
     clear hn hm;go_wp2
     go_ret;exact ⟨⟨_,rfl,fun h=>by cases h⟩,X0.drewN _⟩
    ·have q1:¬ (6:Int) < (n:Int):=Z
     have q2:¬ (200:Int) < (n:Int):=Z
     have r1:(6:Int) < (m:Int):=Z
     have r2:¬ (m:Int)≤128:=Z
     have r3:¬ (200:Int) < (m:Int):=Z
     have S:=HS.o (OA.o _ hn) (OC.o _ hm);clear hn hm;go_wp2
     go_roundw
     case rel=>exact ⟨k+1,by omega,by go_num,X0.drewN _,⟨_,rfl⟩,S⟩
     case measure=>simp [intOf];omega
    ·have q1:¬ (6:Int) < (n:Int):=Z
     have q2:¬ (200:Int) < (n:Int):=Z
     have r1:(6:Int) < (m:Int):=Z
     have r2:¬ (m:Int)≤128:=Z
     have r3:(200:Int) < (m:Int):=Z
     clear hn hm;go_wp2
     go_ret;exact ⟨⟨_,rfl,fun h=>by cases h⟩,X0.drewN _⟩
   ·rcases hm4 with hm|hm|hm|hm
    ·have q1:(6:Int) < (n:Int):=Z
     have q2:(n:Int)≤128:=Z
     have r1:¬ (6:Int) < (m:Int):=Z
     have r2:¬ (200:Int) < (m:Int):=Z
     clear hn hm;go_wp2
     go_ret;exact ⟨⟨_,rfl,fun h=>by cases h⟩,X0.drewN _⟩
    ·have q1:(6:Int) < (n:Int):=Z
     have q2:(n:Int)≤128:=Z
     have r1:(6:Int) < (m:Int):=Z
     have r2:(m:Int)≤128:=Z
     clear hn hm;go_wp2
     go_ret;exact ⟨⟨_,rfl,fun h=>by cases h⟩,X0.drewN _⟩
    ·have q1:(6:Int) < (n:Int):=Z
     have q2:(n:Int)≤128:=Z
     have r1:(6:Int) < (m:Int):=Z
     have r2:¬ (m:Int)≤128:=Z
     have r3:¬ (200:Int) < (m:Int):=Z
     clear hn hm;go_wp2
     go_ret;exact ⟨⟨_,rfl,fun h=>by cases h⟩,X0.drewN _⟩
    ·have q1:(6:Int) < (n:Int):=Z
     have q2:(n:Int)≤128:=Z
     have r1:(6:Int) < (m:Int):=Z
     have r2:¬ (m:Int)≤128:=Z
     have r3:(200:Int) < (m:Int):=Z
     clear hn hm;go_wp2
     go_ret;exact ⟨⟨_,rfl,fun h=>by cases h⟩,X0.drewN _⟩
   ·rcases hm4 with hm|hm|hm|hm
    ·have q1:(6:Int) < (n:Int):=Z
     have q2:¬ (n:Int)≤128:=Z
     have q3:¬ (200:Int) < (n:Int):=Z
     have r1:¬ (6:Int) < (m:Int):=Z
     have r2:¬ (200:Int) < (m:Int):=Z
     have S:=HS.o (OC.o _ hn) (OA.o _ hm);clear hn hm;go_wp2
     go_roundw
     case rel=>exact ⟨k+1,by omega,by go_num,X0.drewN _,⟨_,rfl⟩,S⟩
     case measure=>simp [intOf];omega
    ·have q1:(6:Int) < (n:Int):=Z
     have q2:¬ (n:Int)≤128:=Z
     have q3:¬ (200:Int) < (n:Int):=Z
     have r1:(6:Int) < (m:Int):=Z
     have r2:(m:Int)≤128:=Z
     clear hn hm;go_wp2
     go_ret;exact ⟨⟨_,rfl,fun h=>by cases h⟩,X0.drewN _⟩
    ·have q1:(6:Int) < (n:Int):=Z
     have q2:¬ (n:Int)≤128:=Z
     have q3:¬ (200:Int) < (n:Int):=Z
     have r1:(6:Int) < (m:Int):=Z
     have r2:¬ (m:Int)≤128:=Z
     have r3:¬ (200:Int) < (m:Int):=Z
     have S:=HS.o (OC.o _ hn) (OC.o _ hm);clear hn hm;go_wp2
     go_roundw
     case rel=>exact ⟨k+1,by omega,by go_num,X0.drewN _,⟨_,rfl⟩,S⟩
     case measure=>simp [intOf];omega
    ·have q1:(6:Int) < (n:Int):=Z
     have q2:¬ (n:Int)≤128:=Z
     have q3:¬ (200:Int) < (n:Int):=Z
     have r1:(6:Int) < (m:Int):=Z
     have r2:¬ (m:Int)≤128:=Z
     have r3:(200:Int) < (m:Int):=Z
     clear hn hm;go_wp2
     go_ret;exact ⟨⟨_,rfl,fun h=>by cases h⟩,X0.drewN _⟩
   ·rcases hm4 with hm|hm|hm|hm
    ·have q1:(6:Int) < (n:Int):=Z
     have q2:¬ (n:Int)≤128:=Z
     have q3:(200:Int) < (n:Int):=Z
     have r1:¬ (6:Int) < (m:Int):=Z
     have r2:¬ (200:Int) < (m:Int):=Z
     clear hn hm;go_wp2
     go_ret;exact ⟨⟨_,rfl,fun h=>by cases h⟩,X0.drewN _⟩
    ·have q1:(6:Int) < (n:Int):=Z
     have q2:¬ (n:Int)≤128:=Z
     have q3:(200:Int) < (n:Int):=Z
     have r1:(6:Int) < (m:Int):=Z
     have r2:(m:Int)≤128:=Z
     clear hn hm;go_wp2
     go_ret;exact ⟨⟨_,rfl,fun h=>by cases h⟩,X0.drewN _⟩
    ·have q1:(6:Int) < (n:Int):=Z
     have q2:¬ (n:Int)≤128:=Z
     have q3:(200:Int) < (n:Int):=Z
     have r1:(6:Int) < (m:Int):=Z
     have r2:¬ (m:Int)≤128:=Z
     have r3:¬ (200:Int) < (m:Int):=Z
     clear hn hm;go_wp2
     go_ret;exact ⟨⟨_,rfl,fun h=>by cases h⟩,X0.drewN _⟩
    ·have q1:(6:Int) < (n:Int):=Z
     have q2:¬ (n:Int)≤128:=Z
     have q3:(200:Int) < (n:Int):=Z
     have r1:(6:Int) < (m:Int):=Z
     have r2:¬ (m:Int)≤128:=Z
     have r3:(200:Int) < (m:Int):=Z
     clear hn hm;go_wp2
     go_ret;exact ⟨⟨_,rfl,fun h=>by cases h⟩,X0.drewN _⟩
  ·have q0:¬ (k:Int) < (vs.length:Int):=Z
   go_wp2
   go_ret;exact ⟨⟨_,rfl,fun _ i hi=>HK.o i hi Z⟩,hx⟩
def sx (f:Nat→(Option Addr × Nat) × (Option Addr × Nat)) (l:List RR):List (Hd × Hd):=(List.range l.length).map fun i=>(((f i).1.1,(l.getD i zR).num.length,(f i).1.2),((f i).2.1,(l.getD i zR).den.length,(f i).2.2))
theorem Bb (f:Nat→(Option Addr × Nat) × (Option Addr × Nat)) (l:List RR):(sx f l).length=l.length:=by simp [sx]
theorem wm (f:Nat→(Option Addr × Nat) × (Option Addr × Nat)) (l:List RR) (i:Nat) (hi:i < (sx f l).length):(sx f l)[i]=(((f i).1.1,(l.getD i zR).num.length,(f i).1.2),((f i).2.1,(l.getD i zR).den.length,(f i).2.2)):=by
 simp only [sx,List.getElem_map,List.getElem_range]
theorem cF (v:Value) (l:List RR) (w:World) (h:cH w v l) (hs:l.length≤1000) :
  Calls Tryz.prog 101 #[v] w fun e w'=>(∃ r,e=.returned (.bool r)∧(r=false→∀ i,i < l.length→ir (l.getD i zR).num.length∧ir (l.getD i zR).den.length))∧Ext w w':=by
 obtain ⟨a,cap,rfl,hc,hm,f,hr⟩:=h.get;have hl:=Bb f l;have:=ys a cap (sx f l) w (by rw [hl];exact hs) (fun i hi=>by
  obtain ⟨b,off,e,_,_,x1,x2,_⟩:=hr i (by rw [← hl];exact hi);rw [wm];exact ⟨b,off,e,x1,x2⟩)
 rw [hl] at this;refine this.mono ?_;rintro e w' ⟨⟨r,rfl,h2⟩,hx⟩;refine ⟨⟨r,rfl,fun e i hi=>?_⟩,hx⟩;have:=h2 e i (by rw [hl];exact hi);rw [wm] at this;exact this
def dY (e:Ending):Prop:=∃ r,e=.returned (.bool r)
theorem dY.mk (r:Bool):dY (.returned (.bool r)):=⟨r,rfl⟩
theorem yt (mv:Value) (m:MD) (w:World) (hm:eY w mv m) :
  Calls Tryz.prog 41 #[mv] w fun e w'=>dY e∧Ext w w':=by
 have HM:=kI hm;obtain ⟨m1,n1,m2,n2,m3,n3,rfl,hmd,hss⟩:=hm;have YZ:=kI hss;have mp:=kI hmd;have hsn:m.states.length≤9223372036854775807:=by obtain ⟨_,_,_,h⟩:=hss.shape;exact h
 obtain ⟨sl,hsl⟩:=gN (m.states.length);have HSL:=kI hsl;rw [← hsl] at hsn;clear hmd hss;rw [← hsl];clear hsl;have bb0:=(ag.new w #[.bool m.ah.neg,.slice m1 m.ah.num.length n1,.slice m2 m.ah.den.length n2,.slice m3 sl n3] 28);have x0:Ext w (w.alloc (.cells #[.bool m.ah.neg,.slice m1 m.ah.num.length n1,.slice m2 m.ah.den.length n2,.slice m3 sl n3] 28)):=((Ext.refl w).alloc _);have A0:=kI bb0;have X:=kI x0;clear x0 bb0;go_enter Tryz.func41,Tryz.ntmps41
 by_cases h12:12 < sl
 ·have c1:(12:Int) < (sl:Int):=Z
  by_cases OO:sl≤200
  ·have c2:(sl:Int)≤200:=Z
   obtain ⟨aK,fA0,aJ⟩:=A0.o.q3;go_wp2_with fail;go_ret;exact ⟨dY.mk _,X.o⟩
  ·have c2:¬ (sl:Int)≤200:=Z
   by_cases ab2:210 < sl
   ·have c3:(210:Int) < (sl:Int):=Z
    obtain ⟨aK,fA0,aJ⟩:=A0.o.q3;go_wp2_with fail;go_ret;exact ⟨dY.mk _,X.o⟩
   ·have c3:¬ (210:Int) < (sl:Int):=Z
    obtain ⟨aK,fA0,aJ⟩:=A0.o.q3;go_wp2_with fail;clear aK fA0 aJ;obtain ⟨wl,hwl⟩:=gN ((w.alloc (.cells #[.bool m.ah.neg,.slice m1 m.ah.num.length n1,.slice m2 m.ah.den.length n2,.slice m3 sl n3] 28)));have hsz:wl.heap.size=w.heap.size+1:=by rw [hwl];simp
    rw [← hwl] at A0 X ⊢;rw [← hsz];clear hwl hsz;refine (cF _ [m.ah] (wl.alloc (.cells #[.bool m.ah.neg,.slice m1 m.ah.num.length n1,.slice m2 m.ah.den.length n2] 25)) (dV (ag.new wl #[.bool m.ah.neg,.slice m1 m.ah.num.length n1,.slice m2 m.ah.den.length n2] 25) (mp.o.ext (X.o.alloc _))) cp).mono ?_;rintro e v1 ⟨⟨r1,rfl,-⟩,hx1⟩;have Lw:Hid (Ext wl v1):=kI (((Ext.refl wl).alloc _).trans hx1);clear hx1;cases r1
    ·have X0:Hid (Ext w v1):=kI (X.o.trans Lw.o);have Qp:=kI (A0.o.ext Lw.o);obtain ⟨Lx,Ly,Lz⟩:=Qp.o.q3;go_wp2_with fail;clear Lx Ly Lz;go_loopw [3] (fun i wr=>∃ k:Nat,i=.int .i64 k∧k≤sl∧Ext w wr∧ag wr w.heap.size #[.bool m.ah.neg,.slice m1 m.ah.num.length n1,.slice m2 m.ah.den.length n2,.slice m3 sl n3] 28) (fun i _=>sl - (intOf i).toNat)
     case atStart=>exact ⟨0,rfl,Nat.zero_le _,X0.o,Qp.o⟩
     case round=>
      obtain ⟨wk,hwk⟩:=gN (wr);subst hwk;obtain ⟨k,rfl,hk,hxk,hbk⟩:=hrel;have XK:=kI hxk;have BK:=kI hbk;clear hxk hbk;by_cases hks:k < sl
      ·have q2:(k:Int) < (sl:Int):=Z
       have q1:(0:Int)≤(k:Int):=Z
       by_cases hk12:k < 12
       ·have q3:(k:Int) < 12:=Z
        obtain ⟨sb,so,ai,ci,rfl,t0,t1,t2⟩:=(YZ.o.ext XK.o).at (i:=k) (by rw [← HSL.o];exact hks);obtain ⟨ac,hac⟩:=gN (m.states.getD k []);rw [← hac] at t1 t2;obtain ⟨_,_,_,hal⟩:=t2.shape;have T2:=kI t2;clear t2 hac;by_cases h8:8 < ac.length
        ·have q4:(8:Int) < (ac.length:Int):=Z
         obtain ⟨IF,IG,II⟩:=BK.o.q3;go_wp2_with fail;go_ret;exact ⟨dY.mk _,XK.o⟩
        ·have q4:¬ (8:Int) < (ac.length:Int):=Z
         obtain ⟨IF,IG,II⟩:=BK.o.q3;go_wp2_with fail;clear IF IG II;go_loopw [4] (fun i wr=>∃ j:Nat,i=.int .i64 j∧j≤ac.length∧Ext wk wr) (fun i _=>ac.length - (intOf i).toNat)
         case atStart=>exact ⟨0,rfl,Nat.zero_le _,Ext.refl _⟩
         case round=>
          obtain ⟨wj,Cz⟩:=gN (wr);subst Cz;obtain ⟨j,rfl,hj,hxj⟩:=hrel;have XJ:=kI hxj;have LE:Hid (Ext w wj):=kI (XK.o.trans hxj);have BJ:=kI (BK.o.ext hxj);have t1j:=(hxj.cell (p:=⟨sb,so+k,none⟩) t0).trans t1;have t0j:=Nat.lt_of_lt_of_le t0 hxj.size;clear hxj;by_cases hjl:j < ac.length
          ·obtain ⟨ab,ao,p1,e1,p2,e2,p3,e3,rfl,na,u3,u4⟩:=(T2.o.ext XJ.o).at hjl;obtain ⟨v0,v1,v2,v3,v4⟩:=na;obtain ⟨xx,hxx⟩:=gN (ac.getD j dA);rw [← hxx] at v1 v2 v3 v4 u3 u4;obtain ⟨_,_,_,hol⟩:=u4.shape;have V4:=kI v4;have U4:=kI u4;have q5:(0:Int)≤(j:Int):=Z
           have q6:(j:Int) < (ac.length:Int):=Z
           clear v4 u4 hxx;obtain ⟨Qq,Qr,Qs⟩:=BJ.o.q3;go_wp2_with fail;clear Qq Qr Qs;clear v1 v2 v3 u3;obtain ⟨bx,hbx⟩:=gN (wj.heap.size);obtain ⟨wb,hwb⟩:=gN (wj.alloc (.cells #[.bool xx.cost.neg,.slice p1 xx.cost.num.length e1,.slice p2 xx.cost.den.length e2,.slice p3 xx.next.length e3] 83));have hxb:Ext wj wb:=by rw [hwb];exact (Ext.refl _).alloc _
           have hbb:ag wb bx #[.bool xx.cost.neg,.slice p1 xx.cost.num.length e1,.slice p2 xx.cost.den.length e2,.slice p3 xx.next.length e3] 83:=by rw [hwb,hbx];exact ag.new _ _ _
           have hsz:wb.heap.size=wj.heap.size+1:=by rw [hwb];simp
           rw [← hwb,← hsz,← hbx];have Qt:=kI hxb;have BX:=kI hbb;have VZ:=kI (V4.o.ext hxb);clear hbb hxb hwb hsz hbx;refine (cF _ [xx.cost] (wb.alloc (.cells #[.bool xx.cost.neg,.slice p1 xx.cost.num.length e1,.slice p2 xx.cost.den.length e2] 25)) (dV (ag.new wb #[.bool xx.cost.neg,.slice p1 xx.cost.num.length e1,.slice p2 xx.cost.den.length e2] 25) (VZ.o.ext ((Ext.refl _).alloc _))) cp).mono ?_;rintro e v2 ⟨⟨r2,rfl,-⟩,hx2⟩;have Hs:Hid (Ext wb v2):=kI (((Ext.refl wb).alloc _).trans hx2);clear hx2;cases r2
           ·have XV:Hid (Ext wj v2):=kI (Qt.o.trans Hs.o);have Bd:Hid (Ext w v2):=kI (LE.o.trans XV.o);have wn:=kI (BX.o.ext Hs.o);have u6:¬ (xx.next.length:Int) < 0:=Z
            by_cases h16:16 < xx.next.length
            ·have c1:(16:Int) < (xx.next.length:Int):=Z
             by_cases h64:xx.next.length≤64
             ·have c2:(xx.next.length:Int)≤64:=Z
              obtain ⟨nk,nl,nm⟩:=wn.o.q3;go_wp2_with fail;go_ret;exact ⟨dY.mk _,Bd.o⟩
             ·have c2:¬ (xx.next.length:Int)≤64:=Z
              by_cases PT:70 < xx.next.length
              ·have c3:(70:Int) < (xx.next.length:Int):=Z
               obtain ⟨nk,nl,nm⟩:=wn.o.q3;go_wp2_with fail;go_ret;exact ⟨dY.mk _,Bd.o⟩
              ·have c3:¬ (70:Int) < (xx.next.length:Int):=Z
               obtain ⟨nk,nl,nm⟩:=wn.o.q3;go_wp2_with fail;clear nk nl nm;go_loopw [6] (fun i wr=>∃ q:Nat,i=.int .i64 q∧q≤xx.next.length∧Ext v2 wr) (fun i _=>xx.next.length - (intOf i).toNat)
               case atStart=>exact ⟨0,rfl,Nat.zero_le _,Ext.refl _⟩
               case round=>
                obtain ⟨wi,hwi⟩:=gN (wr);subst hwi;obtain ⟨q,rfl,hq,hxi⟩:=hrel;have XI:=kI hxi;have LF:Hid (Ext w wi):=kI (Bd.o.trans hxi);have BI:=kI (wn.o.ext hxi);clear hxi;by_cases LG:q < xx.next.length
                ·obtain ⟨ob,oo,o1,o2,o3,o4,rfl,g0,g1,g2,g3,g4,g5⟩:=(U4.o.ext (XV.o.trans XI.o)).at LG;obtain ⟨O,hO⟩:=gN (xx.next.getD q dO);rw [← hO] at g1 g2 g3 g4 g5;obtain ⟨ot,op⟩:=O;dsimp only at g1 g2 g3 g4 g5;have G5:=kI g5;have q7:(0:Int)≤(q:Int):=Z
                 have q8:(q:Int) < (xx.next.length:Int):=Z
                 clear g5 hO;obtain ⟨Eh,Ei,Ej⟩:=BI.o.q3;go_wp2_with fail;clear Eh Ei Ej;refine (cF _ [op] (wi.alloc (.cells #[.bool op.neg,.slice o1 op.num.length o2,.slice o3 op.den.length o4] 25)) (dV (ag.new wi #[.bool op.neg,.slice o1 op.num.length o2,.slice o3 op.den.length o4] 25) (G5.o.ext ((Ext.refl _).alloc _))) cp).mono ?_;rintro e v3 ⟨⟨r3,rfl,-⟩,hx3⟩;have Ek:Hid (Ext wi v3):=kI (((Ext.refl wi).alloc _).trans hx3);clear hx3;cases r3
                 ·go_wp2_with fail;go_roundw
                  case rel=>exact ⟨q+1,by go_num,by omega,XI.o.trans Ek.o⟩
                  case measure=>simp [intOf];omega
                 ·have XE:Hid (Ext w v3):=kI (LF.o.trans Ek.o);go_wp2_with fail;go_ret;exact ⟨dY.mk _,XE.o⟩
                ·have q8:¬ (q:Int) < (xx.next.length:Int):=Z
                 obtain ⟨Eh,Ei,Ej⟩:=BI.o.q3;go_wp2_with fail;go_roundw
                 case rel=>exact ⟨j+1,by go_num,by omega,XJ.o.trans (XV.o.trans XI.o)⟩
                 case measure=>simp [intOf];omega
            ·have c1:¬ (16:Int) < (xx.next.length:Int):=Z
             have c3:¬ (70:Int) < (xx.next.length:Int):=Z
             obtain ⟨nk,nl,nm⟩:=wn.o.q3;go_wp2_with fail;clear nk nl nm;go_loopw [6] (fun i wr=>∃ q:Nat,i=.int .i64 q∧q≤xx.next.length∧Ext v2 wr) (fun i _=>xx.next.length - (intOf i).toNat)
             case atStart=>exact ⟨0,rfl,Nat.zero_le _,Ext.refl _⟩
             case round=>
              obtain ⟨wi,hwi⟩:=gN (wr);subst hwi;obtain ⟨q,rfl,hq,hxi⟩:=hrel;have XI:=kI hxi;have LF:Hid (Ext w wi):=kI (Bd.o.trans hxi);have BI:=kI (wn.o.ext hxi);clear hxi;by_cases LG:q < xx.next.length
              ·obtain ⟨ob,oo,o1,o2,o3,o4,rfl,g0,g1,g2,g3,g4,g5⟩:=(U4.o.ext (XV.o.trans XI.o)).at LG;obtain ⟨O,hO⟩:=gN (xx.next.getD q dO);rw [← hO] at g1 g2 g3 g4 g5;obtain ⟨ot,op⟩:=O;dsimp only at g1 g2 g3 g4 g5;have G5:=kI g5;have q7:(0:Int)≤(q:Int):=Z
               have q8:(q:Int) < (xx.next.length:Int):=Z
               clear g5 hO;obtain ⟨Eh,Ei,Ej⟩:=BI.o.q3;go_wp2_with fail;clear Eh Ei Ej;refine (cF _ [op] (wi.alloc (.cells #[.bool op.neg,.slice o1 op.num.length o2,.slice o3 op.den.length o4] 25)) (dV (ag.new wi #[.bool op.neg,.slice o1 op.num.length o2,.slice o3 op.den.length o4] 25) (G5.o.ext ((Ext.refl _).alloc _))) cp).mono ?_;rintro e v3 ⟨⟨r3,rfl,-⟩,hx3⟩;have Ek:Hid (Ext wi v3):=kI (((Ext.refl wi).alloc _).trans hx3);clear hx3;cases r3
               ·go_wp2_with fail;go_roundw
                case rel=>exact ⟨q+1,by go_num,by omega,XI.o.trans Ek.o⟩
                case measure=>simp [intOf];omega
               ·have XE:Hid (Ext w v3):=kI (LF.o.trans Ek.o);go_wp2_with fail;go_ret;exact ⟨dY.mk _,XE.o⟩
              ·have q8:¬ (q:Int) < (xx.next.length:Int):=Z
               obtain ⟨Eh,Ei,Ej⟩:=BI.o.q3;go_wp2_with fail;go_roundw
               case rel=>exact ⟨j+1,by go_num,by omega,XJ.o.trans (XV.o.trans XI.o)⟩
               case measure=>simp [intOf];omega
           ·have Bd:Hid (Ext w v2):=kI (LE.o.trans (Qt.o.trans Hs.o));have wn:=kI (BX.o.ext Hs.o);obtain ⟨nk,nl,nm⟩:=wn.o.q3;go_wp2_with fail;go_ret;exact ⟨dY.mk _,Bd.o⟩
          ·have q6:¬ (j:Int) < (ac.length:Int):=Z
           obtain ⟨Qq,Qr,Qs⟩:=BJ.o.q3;go_wp2_with fail;go_roundw
           case rel=>exact ⟨k+1,by go_num,by omega,LE.o,BJ.o⟩
           case measure=>simp [intOf];omega
       ·have q3:¬ (k:Int) < 12:=Z
        obtain ⟨IF,IG,II⟩:=BK.o.q3;go_wp2_with fail;go_ret;exact ⟨dY.mk _,XK.o⟩
      ·have q2:¬ (k:Int) < (sl:Int):=Z
       obtain ⟨IF,IG,II⟩:=BK.o.q3;go_wp2_with fail;go_ret;exact ⟨dY.mk _,XK.o⟩
    ·have X0:Hid (Ext w v1):=kI (X.o.trans Lw.o);go_wp2_with fail;go_ret;exact ⟨dY.mk _,X0.o⟩
 ·have c1:¬ (12:Int) < (sl:Int):=Z
  have c3:¬ (210:Int) < (sl:Int):=Z
  obtain ⟨aK,fA0,aJ⟩:=A0.o.q3;go_wp2_with fail;clear aK fA0 aJ;obtain ⟨wl,hwl⟩:=gN ((w.alloc (.cells #[.bool m.ah.neg,.slice m1 m.ah.num.length n1,.slice m2 m.ah.den.length n2,.slice m3 sl n3] 28)));have hsz:wl.heap.size=w.heap.size+1:=by rw [hwl];simp
  rw [← hwl] at A0 X ⊢;rw [← hsz];clear hwl hsz;refine (cF _ [m.ah] (wl.alloc (.cells #[.bool m.ah.neg,.slice m1 m.ah.num.length n1,.slice m2 m.ah.den.length n2] 25)) (dV (ag.new wl #[.bool m.ah.neg,.slice m1 m.ah.num.length n1,.slice m2 m.ah.den.length n2] 25) (mp.o.ext (X.o.alloc _))) cp).mono ?_;rintro e v1 ⟨⟨r1,rfl,-⟩,hx1⟩;have Lw:Hid (Ext wl v1):=kI (((Ext.refl wl).alloc _).trans hx1);clear hx1;cases r1
  ·have X0:Hid (Ext w v1):=kI (X.o.trans Lw.o);have Qp:=kI (A0.o.ext Lw.o);obtain ⟨Lx,Ly,Lz⟩:=Qp.o.q3;go_wp2_with fail;clear Lx Ly Lz;go_loopw [3] (fun i wr=>∃ k:Nat,i=.int .i64 k∧k≤sl∧Ext w wr∧ag wr w.heap.size #[.bool m.ah.neg,.slice m1 m.ah.num.length n1,.slice m2 m.ah.den.length n2,.slice m3 sl n3] 28) (fun i _=>sl - (intOf i).toNat)
   case atStart=>exact ⟨0,rfl,Nat.zero_le _,X0.o,Qp.o⟩
   case round=>
    obtain ⟨wk,hwk⟩:=gN (wr);subst hwk;obtain ⟨k,rfl,hk,hxk,hbk⟩:=hrel;have XK:=kI hxk;have BK:=kI hbk;clear hxk hbk;by_cases hks:k < sl
    ·have q2:(k:Int) < (sl:Int):=Z
     have q1:(0:Int)≤(k:Int):=Z
     by_cases hk12:k < 12
     ·have q3:(k:Int) < 12:=Z
      obtain ⟨sb,so,ai,ci,rfl,t0,t1,t2⟩:=(YZ.o.ext XK.o).at (i:=k) (by rw [← HSL.o];exact hks);obtain ⟨ac,hac⟩:=gN (m.states.getD k []);rw [← hac] at t1 t2;obtain ⟨_,_,_,hal⟩:=t2.shape;have T2:=kI t2;clear t2 hac;by_cases h8:8 < ac.length
      ·have q4:(8:Int) < (ac.length:Int):=Z
       obtain ⟨IF,IG,II⟩:=BK.o.q3;go_wp2_with fail;go_ret;exact ⟨dY.mk _,XK.o⟩
      ·have q4:¬ (8:Int) < (ac.length:Int):=Z
       obtain ⟨IF,IG,II⟩:=BK.o.q3;go_wp2_with fail;clear IF IG II;go_loopw [4] (fun i wr=>∃ j:Nat,i=.int .i64 j∧j≤ac.length∧Ext wk wr) (fun i _=>ac.length - (intOf i).toNat)
       case atStart=>exact ⟨0,rfl,Nat.zero_le _,Ext.refl _⟩
       case round=>
        obtain ⟨wj,Cz⟩:=gN (wr);subst Cz;obtain ⟨j,rfl,hj,hxj⟩:=hrel;have XJ:=kI hxj;have LE:Hid (Ext w wj):=kI (XK.o.trans hxj);have BJ:=kI (BK.o.ext hxj);have t1j:=(hxj.cell (p:=⟨sb,so+k,none⟩) t0).trans t1;have t0j:=Nat.lt_of_lt_of_le t0 hxj.size;clear hxj;by_cases hjl:j < ac.length
        ·obtain ⟨ab,ao,p1,e1,p2,e2,p3,e3,rfl,na,u3,u4⟩:=(T2.o.ext XJ.o).at hjl;obtain ⟨v0,v1,v2,v3,v4⟩:=na;obtain ⟨xx,hxx⟩:=gN (ac.getD j dA);rw [← hxx] at v1 v2 v3 v4 u3 u4;obtain ⟨_,_,_,hol⟩:=u4.shape;have V4:=kI v4;have U4:=kI u4;have q5:(0:Int)≤(j:Int):=Z
         have q6:(j:Int) < (ac.length:Int):=Z
         clear v4 u4 hxx;obtain ⟨Qq,Qr,Qs⟩:=BJ.o.q3;go_wp2_with fail;clear Qq Qr Qs;clear v1 v2 v3 u3;obtain ⟨bx,hbx⟩:=gN (wj.heap.size);obtain ⟨wb,hwb⟩:=gN (wj.alloc (.cells #[.bool xx.cost.neg,.slice p1 xx.cost.num.length e1,.slice p2 xx.cost.den.length e2,.slice p3 xx.next.length e3] 83));have hxb:Ext wj wb:=by rw [hwb];exact (Ext.refl _).alloc _
         have hbb:ag wb bx #[.bool xx.cost.neg,.slice p1 xx.cost.num.length e1,.slice p2 xx.cost.den.length e2,.slice p3 xx.next.length e3] 83:=by rw [hwb,hbx];exact ag.new _ _ _
         have hsz:wb.heap.size=wj.heap.size+1:=by rw [hwb];simp
         rw [← hwb,← hsz,← hbx];have Qt:=kI hxb;have BX:=kI hbb;have VZ:=kI (V4.o.ext hxb);clear hbb hxb hwb hsz hbx;refine (cF _ [xx.cost] (wb.alloc (.cells #[.bool xx.cost.neg,.slice p1 xx.cost.num.length e1,.slice p2 xx.cost.den.length e2] 25)) (dV (ag.new wb #[.bool xx.cost.neg,.slice p1 xx.cost.num.length e1,.slice p2 xx.cost.den.length e2] 25) (VZ.o.ext ((Ext.refl _).alloc _))) cp).mono ?_;rintro e v2 ⟨⟨r2,rfl,-⟩,hx2⟩;have Hs:Hid (Ext wb v2):=kI (((Ext.refl wb).alloc _).trans hx2);clear hx2;cases r2
         ·have XV:Hid (Ext wj v2):=kI (Qt.o.trans Hs.o);have Bd:Hid (Ext w v2):=kI (LE.o.trans XV.o);have wn:=kI (BX.o.ext Hs.o);have u6:¬ (xx.next.length:Int) < 0:=Z
          by_cases h16:16 < xx.next.length
          ·have c1:(16:Int) < (xx.next.length:Int):=Z
           by_cases h64:xx.next.length≤64
           ·have c2:(xx.next.length:Int)≤64:=Z
            obtain ⟨nk,nl,nm⟩:=wn.o.q3;go_wp2_with fail;go_ret;exact ⟨dY.mk _,Bd.o⟩
           ·have c2:¬ (xx.next.length:Int)≤64:=Z
            by_cases PT:70 < xx.next.length
            ·have c3:(70:Int) < (xx.next.length:Int):=Z
             obtain ⟨nk,nl,nm⟩:=wn.o.q3;go_wp2_with fail;go_ret;exact ⟨dY.mk _,Bd.o⟩
            ·have c3:¬ (70:Int) < (xx.next.length:Int):=Z
             obtain ⟨nk,nl,nm⟩:=wn.o.q3;go_wp2_with fail;clear nk nl nm;go_loopw [6] (fun i wr=>∃ q:Nat,i=.int .i64 q∧q≤xx.next.length∧Ext v2 wr) (fun i _=>xx.next.length - (intOf i).toNat)
             case atStart=>exact ⟨0,rfl,Nat.zero_le _,Ext.refl _⟩
             case round=>
              obtain ⟨wi,hwi⟩:=gN (wr);subst hwi;obtain ⟨q,rfl,hq,hxi⟩:=hrel;have XI:=kI hxi;have LF:Hid (Ext w wi):=kI (Bd.o.trans hxi);have BI:=kI (wn.o.ext hxi);clear hxi;by_cases LG:q < xx.next.length
              ·obtain ⟨ob,oo,o1,o2,o3,o4,rfl,g0,g1,g2,g3,g4,g5⟩:=(U4.o.ext (XV.o.trans XI.o)).at LG;obtain ⟨O,hO⟩:=gN (xx.next.getD q dO);rw [← hO] at g1 g2 g3 g4 g5;obtain ⟨ot,op⟩:=O;dsimp only at g1 g2 g3 g4 g5;have G5:=kI g5;have q7:(0:Int)≤(q:Int):=Z
               have q8:(q:Int) < (xx.next.length:Int):=Z
               clear g5 hO;obtain ⟨Eh,Ei,Ej⟩:=BI.o.q3;go_wp2_with fail;clear Eh Ei Ej;refine (cF _ [op] (wi.alloc (.cells #[.bool op.neg,.slice o1 op.num.length o2,.slice o3 op.den.length o4] 25)) (dV (ag.new wi #[.bool op.neg,.slice o1 op.num.length o2,.slice o3 op.den.length o4] 25) (G5.o.ext ((Ext.refl _).alloc _))) cp).mono ?_;rintro e v3 ⟨⟨r3,rfl,-⟩,hx3⟩;have Ek:Hid (Ext wi v3):=kI (((Ext.refl wi).alloc _).trans hx3);clear hx3;cases r3
               ·go_wp2_with fail;go_roundw
                case rel=>exact ⟨q+1,by go_num,by omega,XI.o.trans Ek.o⟩
                case measure=>simp [intOf];omega
               ·have XE:Hid (Ext w v3):=kI (LF.o.trans Ek.o);go_wp2_with fail;go_ret;exact ⟨dY.mk _,XE.o⟩
              ·have q8:¬ (q:Int) < (xx.next.length:Int):=Z
               obtain ⟨Eh,Ei,Ej⟩:=BI.o.q3;go_wp2_with fail;go_roundw
               case rel=>exact ⟨j+1,by go_num,by omega,XJ.o.trans (XV.o.trans XI.o)⟩
               case measure=>simp [intOf];omega
          ·have c1:¬ (16:Int) < (xx.next.length:Int):=Z
           have c3:¬ (70:Int) < (xx.next.length:Int):=Z
           obtain ⟨nk,nl,nm⟩:=wn.o.q3;go_wp2_with fail;clear nk nl nm;go_loopw [6] (fun i wr=>∃ q:Nat,i=.int .i64 q∧q≤xx.next.length∧Ext v2 wr) (fun i _=>xx.next.length - (intOf i).toNat)
           case atStart=>exact ⟨0,rfl,Nat.zero_le _,Ext.refl _⟩
           case round=>
            obtain ⟨wi,hwi⟩:=gN (wr);subst hwi;obtain ⟨q,rfl,hq,hxi⟩:=hrel;have XI:=kI hxi;have LF:Hid (Ext w wi):=kI (Bd.o.trans hxi);have BI:=kI (wn.o.ext hxi);clear hxi;by_cases LG:q < xx.next.length
            ·obtain ⟨ob,oo,o1,o2,o3,o4,rfl,g0,g1,g2,g3,g4,g5⟩:=(U4.o.ext (XV.o.trans XI.o)).at LG;obtain ⟨O,hO⟩:=gN (xx.next.getD q dO);rw [← hO] at g1 g2 g3 g4 g5;obtain ⟨ot,op⟩:=O;dsimp only at g1 g2 g3 g4 g5;have G5:=kI g5;have q7:(0:Int)≤(q:Int):=Z
             have q8:(q:Int) < (xx.next.length:Int):=Z
             clear g5 hO;obtain ⟨Eh,Ei,Ej⟩:=BI.o.q3;go_wp2_with fail;clear Eh Ei Ej;refine (cF _ [op] (wi.alloc (.cells #[.bool op.neg,.slice o1 op.num.length o2,.slice o3 op.den.length o4] 25)) (dV (ag.new wi #[.bool op.neg,.slice o1 op.num.length o2,.slice o3 op.den.length o4] 25) (G5.o.ext ((Ext.refl _).alloc _))) cp).mono ?_;rintro e v3 ⟨⟨r3,rfl,-⟩,hx3⟩;have Ek:Hid (Ext wi v3):=kI (((Ext.refl wi).alloc _).trans hx3);clear hx3;cases r3
             ·go_wp2_with fail;go_roundw
              case rel=>exact ⟨q+1,by go_num,by omega,XI.o.trans Ek.o⟩
              case measure=>simp [intOf];omega
             ·have XE:Hid (Ext w v3):=kI (LF.o.trans Ek.o);go_wp2_with fail;go_ret;exact ⟨dY.mk _,XE.o⟩
            ·have q8:¬ (q:Int) < (xx.next.length:Int):=Z
             obtain ⟨Eh,Ei,Ej⟩:=BI.o.q3;go_wp2_with fail;go_roundw
             case rel=>exact ⟨j+1,by go_num,by omega,XJ.o.trans (XV.o.trans XI.o)⟩
             case measure=>simp [intOf];omega
         ·have Bd:Hid (Ext w v2):=kI (LE.o.trans (Qt.o.trans Hs.o));have wn:=kI (BX.o.ext Hs.o);obtain ⟨nk,nl,nm⟩:=wn.o.q3;go_wp2_with fail;go_ret;exact ⟨dY.mk _,Bd.o⟩
        ·have q6:¬ (j:Int) < (ac.length:Int):=Z
         obtain ⟨Qq,Qr,Qs⟩:=BJ.o.q3;go_wp2_with fail;go_roundw
         case rel=>exact ⟨k+1,by go_num,by omega,LE.o,BJ.o⟩
         case measure=>simp [intOf];omega
     ·exfalso;omega
    ·have q2:¬ (k:Int) < (sl:Int):=Z
     obtain ⟨IF,IG,II⟩:=BK.o.q3;go_wp2_with fail;go_ret;exact ⟨dY.mk _,XK.o⟩
  ·have X0:Hid (Ext w v1):=kI (X.o.trans Lw.o);go_wp2_with fail;go_ret;exact ⟨dY.mk _,X0.o⟩
theorem tY (v:Value) (l:List RR) (w:World) (h:cH w v l) :
  Calls Tryz.prog 58 #[v] w fun e w'=>(∃ r,e=.returned (.bool r)∧(r=false→l.length≤20∧xP l))∧Ext w w':=by
 have H:=kI h;obtain ⟨a,c,rfl,hc,hm,-⟩:=h.get;have hl9:l.length≤9223372036854775807:=Z
 clear h hc hm;by_cases h20:20 < l.length
 ·have q1:(20:Int) < (l.length:Int):=Z
  go_enter Tryz.func58,Tryz.ntmps58
  go_wp2_with fail;go_ret;exact ⟨⟨true,rfl,fun h=>by cases h⟩,Ext.refl _⟩
 ·have q1:¬ (20:Int) < (l.length:Int):=Z
  go_enter Tryz.func58,Tryz.ntmps58
  go_wp2_with fail;refine (cF _ l w H.o Z).mono ?_;rintro e w1 ⟨⟨r,rfl,hr⟩,hx⟩;have X:=kI hx;have HR:=kI hr;clear hx hr;go_wp2_with fail;go_ret;exact ⟨⟨r,rfl,fun h=>⟨by omega,fun i hi=>by
   have:=HR.o h i hi;unfold ir at this;omega⟩⟩,X.o⟩
theorem qs (r:RR):0≤qv (fQ r)∧qv r≤qv (fQ r)∧-qv r≤qv (fQ r)∧(qv (fQ r)=qv r∨qv (fQ r) = -qv r):=by
 obtain ⟨b,n,d⟩:=r;have h0:0≤qv (fQ ⟨b,n,d⟩):=gd (r:=fQ ⟨b,n,d⟩) rfl;cases b
 ·have e:qv (fQ ⟨false,n,d⟩)=qv ⟨false,n,d⟩:=rfl;grind
 ·have e:qv ⟨true,n,d⟩ = - qv (fQ ⟨true,n,d⟩):=by
   show mkRat (-(nv n:Int)) (eJ d) = - mkRat (nv n:Int) (eJ d);rw [Rat.neg_mkRat]
  grind
theorem qt {l:List RR}:∀ {k i:Nat},i < k→qv (l.getD i zR)≤qv (l.getD (iB l k) zR)
 | 0,_,h=>by omega
 | k+1,i,h=>by
  unfold iB;split
  ·rename_i c;by_cases e:i=k
   ·subst e;exact Rat.le_refl
   ·exact Rat.le_trans (qt (k:=k) Z) (Rat.le_of_lt c)
  ·rename_i c;by_cases e:i=k
   ·subst e;exact Rat.not_lt.1 c
   ·exact qt Z
structure Dst (a b:List RR) (d:RR):Prop where
 len:a.length=b.length
 pos:0≤qv d
 iW:d.neg=false
 chk:aA d=0
 lim:aC d
 le1:∀ s,s < a.length→qv (a.getD s zR) - qv (b.getD s zR)≤qv d
 le2:∀ s,s < a.length→qv (b.getD s zR) - qv (a.getD s zR)≤qv d
 ca:∀ s,s < a.length→aA (a.getD s zR)=0
 cb:∀ s,s < a.length→aA (b.getD s zR)=0
 lub:∀ B:Rat,0≤B→(∀ s,s < a.length→qv (a.getD s zR) - qv (b.getD s zR)≤B∧qv (b.getD s zR) - qv (a.getD s zR)≤B)→qv d≤B
theorem wu {a b:RR} (h:(bR a b).2=0):aA a=0∧aA b=0:=by
 by_cases h1:cP a b=0
 ·exact bD h1
 ·unfold bR i9 at h;rw [if_neg h1] at h;exact absurd h h1
theorem gF {a b:List RR} {d:RR} (h:bP a b=(d,0)):Dst a b d:=by
 have hl:=qp a b;rw [h] at hl;unfold bP at h;by_cases h1:a.length=b.length
 ·rw [if_neg (fun z=>z h1)] at h;by_cases h2:Dy a b=0
  ·rw [if_neg (fun z=>z h2)] at h;injection h with e _
   have hs:∀ i,i < a.length→(bR (a.getD i zR) (b.getD i zR)).2=0:=bK h2;have hj:iB (nU a b a.length) (a.length+1) < a.length+1:=mG (Nat.succ_pos _);have hm:∀ i,i < a.length+1→qv ((nU a b a.length).getD i zR)≤qv d:=fun i hi=>by rw [← e];exact qt hi
   have hab:∀ s,s < a.length→qv (a.getD s zR) - qv (b.getD s zR)≤qv d∧qv (b.getD s zR) - qv (a.getD s zR)≤qv d:=fun s hss=>by
    have k:=hm (s+1) Z;rw [qj hss] at k;obtain ⟨_,a2,a3,_⟩:=qs (bR (a.getD s zR) (b.getD s zR)).1;rw [(iA (hs s hss)).1] at a2 a3;grind
   refine ⟨h1,?_,?_,?_,hl,fun s hss=>(hab s hss).1,fun s hss=>(hab s hss).2,fun s hss=>(wu (hs s hss)).1,fun s hss=>(wu (hs s hss)).2,fun B hB hh=>?_⟩
   ·have k:=hm 0 Z;have e0:(nU a b a.length).getD 0 zR=zR:=rfl;rw [e0,my] at k;exact k
   ·rw [← e];generalize iB (nU a b a.length) (a.length+1)=j at *
    cases j with
    | zero=>rfl
    | succ i=>rw [qj Z];rfl
   ·rw [← e];exact zs hs _ (by rw [gU];exact hj)
   ·rw [← e];generalize iB (nU a b a.length) (a.length+1)=j at *
    cases j with
    | zero=>
     have e0:(nU a b a.length).getD 0 zR=zR:=rfl;rw [e0,my];exact hB
    | succ i=>
     have hi:i < a.length:=Z
     rw [qj hi];obtain ⟨_,_,_,a4⟩:=qs (bR (a.getD i zR) (b.getD i zR)).1;rw [(iA (hs i hi)).1] at a4;have:=hh i hi;rcases a4 with a4|a4 <;> rw [a4] <;> grind
  ·rw [if_pos h2] at h;injection h with _ e;exact absurd e h2
 ·rw [if_pos h1] at h;injection h with _ e;cases e
theorem Em {a b:List RR} (h:a.length=b.length) (ha:∀ s,s < a.length→aA (a.getD s zR)=0) (hb:∀ s,s < a.length→aA (b.getD s zR)=0):(bP a b).2=0∨(bP a b).2=4:=by
 unfold bP;rw [if_neg (fun z=>z h)];have:=mH (n:=a.length) (f:=fun i=>(bR (a.getD i zR) (b.getD i zR)).2) (c:=4) (fun i hi=>vW (ha i hi) (hb i hi));rcases this with e|e
 ·rw [if_neg (fun z=>z e)];exact .inl rfl
 ·rw [if_pos (by show bG _ _≠0;rw [e];decide)];exact .inr e
def mL (b f d:RR):Bool:=if b.neg=true then false else decide (nv d.num*(eJ b.den*eJ f.den)≤nv b.num*nv f.num*eJ d.den)
def dQ (m:MD) (c:lL):Int:=
 if gG m≠0 then gG m else if c.1.length≠m.states.length then 16 else if nP m c.2.1≠0 then nP m c.2.1
 else if aA c.2.2.1≠0 then aA c.2.2.1 else if aA c.2.2.2≠0 then aA c.2.2.2
 else if (am m c.1).2.2≠0 then (am m c.1).2.2
 else if (bP c.1 (am m c.1).1).2≠0∨(am m c.1).2.1≠c.2.1 then 15
 else if (cA (bP c.1 (am m c.1).1).1 c.2.2.1).1≠0 then 15
 else if (gK m).2≠0 then (gK m).2
 else if mL c.2.2.2 (gK m).1 (bP c.1 (am m c.1).1).1=true then 0 else 15
theorem qu {a b P:Rat} (h:0 < P):a≤b↔a*P≤b*P:=by
 constructor
 ·intro k;rcases Rat.le_iff_lt_or_eq.1 k with k|k
  ·exact Rat.le_of_lt (Rat.mul_lt_mul_of_pos_right k h)
  ·rw [k];exact Rat.le_refl
 ·intro k;refine Rat.not_lt.1 (fun z=>?_);exact Rat.not_le.2 (Rat.mul_lt_mul_of_pos_right z h) k
theorem gX {n:Nat} (h:n≠0):(0:Rat) < (n:Rat):=by
 have:(0:Rat)=((0:Nat):Rat):=rfl;rw [this];exact Rat.natCast_lt_natCast.2 (Nat.pos_of_ne_zero h)
theorem yu {r:RR} (h:eJ r.den≠0) (hn:r.neg=false):qv r*(eJ r.den:Rat)=(nv r.num:Rat):=by
 obtain ⟨b,n,d⟩:=r;subst hn;show mkRat (nv n:Int) (eJ d)*_=_;rw [Rat.mkRat_eq_div];have:((eJ d:Nat):Rat)≠0:=fun e=>by have:=gX h;rw [e] at this;exact absurd this Rat.lt_irrefl
 rw [Rat.div_mul_cancel this];rfl
theorem tZ {b f d:RR} (lb:aC b) (lf:aC f) (ld:aC d) (cb:aA b=0) (cf:aA f=0) (cd:aA d=0) (hf:f.neg=false) (hd:d.neg=false):mL b f d=true↔b.neg=false∧qv d≤qv b*qv f:=by
 unfold mL;cases hb:b.neg
 ·rw [if_neg ap];have nb:eJ b.den≠0:=oG lb cb;have nf:eJ f.den≠0:=oG lf cf;have nd:eJ d.den≠0:=oG ld cd;have eb:=yu nb hb;have ef:=yu nf hf;have ed:=yu nd hd;have pb:=gX nb;have pf:=gX nf;have pd:=gX nd;have P:0 < (eJ d.den:Rat)*((eJ b.den:Rat)*(eJ f.den:Rat)):=Rat.mul_pos pd (Rat.mul_pos pb pf);have key:qv d≤qv b*qv f↔((nv d.num:Nat):Rat)*((eJ b.den:Rat)*(eJ f.den:Rat))≤(nv b.num:Rat)*(nv f.num:Rat)*(eJ d.den:Rat):=by
   rw [← eb,← ef,← ed,qu P];have a1:qv d*((eJ d.den:Rat)*((eJ b.den:Rat)*(eJ f.den:Rat)))=qv d*(eJ d.den:Rat)*((eJ b.den:Rat)*(eJ f.den:Rat)):=by grind
   have a2:qv b*qv f*((eJ d.den:Rat)*((eJ b.den:Rat)*(eJ f.den:Rat)))=qv b*(eJ b.den:Rat)*(qv f*(eJ f.den:Rat))*(eJ d.den:Rat):=by grind
   rw [a1,a2]
  rw [decide_eq_true_iff,key,← Rat.natCast_mul,← Rat.natCast_mul,← Rat.natCast_mul,← Rat.natCast_mul,Rat.natCast_le_natCast];exact ⟨fun h=>⟨rfl,h⟩,fun h=>h.2⟩
 ·rw [if_pos rfl];exact ⟨fun h=>Mu,fun h=>(by cases h.1)⟩
theorem mM {m:MD} {f:RR} (hg:qv m.ah < 1) (h:gK m=(f,0)):qv f=1 - qv m.ah∧0 < qv f∧aA f=0∧aC f∧f.neg=false:=by
 have hs:(bR (rep ((1:Int):Rat)) m.ah).2=0:=by rw [show bR (rep ((1:Int):Rat)) m.ah=(f,0) from h]
 obtain ⟨a,b⟩:=iA hs;have l:=gC (rep ((1:Int):Rat)) m.ah;rw [show bR (rep ((1:Int):Rat)) m.ah=(f,0) from h] at a b l;rw [jk] at a;have e1:((1:Int):Rat)=1:=rfl;rw [e1] at a;have p:0 < qv f:=by rw [a];grind
 refine ⟨a,p,b,l,?_⟩;cases hn:f.neg
 ·rfl
 ·exfalso
  have k:=(qs f).1;obtain ⟨bb,n,d⟩:=f;have hn:bb=true:=hn;subst hn;have e:qv ⟨true,n,d⟩ = - qv (fQ ⟨true,n,d⟩):=by
   show mkRat (-(nv n:Int)) (eJ d) = - mkRat (nv n:Int) (eJ d);rw [Rat.neg_mkRat]
  rw [e] at p;grind
theorem zA {r:RR} (l:aC r) (c:aA r=0):r.neg=false↔0≤qv r:=by
 refine ⟨gd,fun h=>?_⟩;rw [← (eQ l c).2.2];show decide ((qv r).num < 0)=false;exact decide_eq_false (Int.not_lt.2 (Rat.num_nonneg.2 h))
theorem ww {m:MD} {v:List RR} (h:fs m=0) (hl:v.length=m.states.length) (hv:∀ i,i < v.length→aA (v.getD i zR)=0):(am m v).2.2=0∨(am m v).2.2=4:=by
 have hmv:gJ m v=0:=by unfold gJ;rw [if_neg (fun z=>z h),if_neg (fun z=>z hl)]
 have hE:FM m v=0∨FM m v=4:=mH (fun s hs=>mH (fun a ha=>Ay (bF h).1 (tz h hs ha) Z hv));unfold am;rw [if_neg (fun z=>z hmv)];rcases hE with e|e
 ·rw [if_neg (fun z=>z e)];exact .inl rfl
 ·rw [if_pos Mp];exact .inr e
structure Y0 (m:MD) (c:lL) (x:List RR) (d f:RR):Prop where
 cw:gG m=0
 md:fs m=0
 lt:qv m.ah < 1
 len:c.1.length=m.states.length
 pol:lE m c.2.1
 Bt:am m c.1=(x,c.2.1,0)
 dst:bP c.1 x=(d,0)
 En:gK m=(f,0)
 cR:aA c.2.2.1=0
 cB:aA c.2.2.2=0
 eqd:(cA d c.2.2.1).1=0
 cov:mL c.2.2.2 f d=true
theorem zB {m:MD} {c:lL} {x:List RR} {d f:RR} (h:Y0 m c x d f):dQ m c=0:=by
 unfold dQ;rw [if_neg (fun z=>z h.cw),if_neg (fun z=>z h.len),if_neg (fun z=>z (oP h.pol)),if_neg (fun z=>z h.cR),if_neg (fun z=>z h.cB),h.Bt,if_neg (fun z=>z rfl)];dsimp only;rw [h.dst,if_neg SE,if_neg (fun z=>z h.eqd),h.En,if_neg (fun z=>z rfl),if_pos h.cov]
theorem yw (mv:Value) (m:MD) (w:World) (hm:eY w mv m) :
  Calls Tryz.prog 29 #[mv] w fun e w'=>dY e∧Ext w w':=by
 have HM:=kI hm;obtain ⟨m1,n1,m2,n2,m3,n3,rfl,-,-⟩:=hm;have bb0:=(ag.new w #[.bool m.ah.neg,.slice m1 m.ah.num.length n1,.slice m2 m.ah.den.length n2,.slice m3 m.states.length n3] 28);have x0:Ext w (w.alloc (.cells #[.bool m.ah.neg,.slice m1 m.ah.num.length n1,.slice m2 m.ah.den.length n2,.slice m3 m.states.length n3] 28)):=((Ext.refl w).alloc _);have A0:=kI bb0;have X:=kI x0;clear x0 bb0;go_enter Tryz.func29,Tryz.ntmps29
 obtain ⟨aK,fA0,aJ⟩:=A0.o.q3;go_wp2_with fail;refine (yt _ m _ (HM.o.ext X.o)).mono ?_;rintro e w1 ⟨⟨r,rfl⟩,hx⟩;clear aK fA0 aJ;replace A0:=kI (A0.o.ext hx);replace X:=kI (X.o.trans hx);clear hx;cases r;rotate_left
 ·go_wp2_with fail;go_ret;exact ⟨dY.mk _,X.o⟩
 obtain ⟨sl,hsl⟩:=gN (m.states.length);have HSL:=kI hsl;rw [← hsl] at A0;clear hsl;by_cases h4:4 < sl
 rotate_left
 ·have q1:¬ (4:Int) < (sl:Int):=Z
  obtain ⟨aK,fA0,aJ⟩:=A0.o.q3;go_wp2_with fail;go_ret;exact ⟨dY.mk _,X.o⟩
 have q1:(4:Int) < (sl:Int):=Z
 by_cases h8:sl≤8
 ·have q2:(sl:Int)≤8:=Z
  obtain ⟨aK,fA0,aJ⟩:=A0.o.q3;go_wp2_with fail;go_ret;exact ⟨dY.mk _,X.o⟩
 ·have q2:¬ (sl:Int)≤8:=Z
  obtain ⟨aK,fA0,aJ⟩:=A0.o.q3;go_wp2_with fail;go_ret;exact ⟨dY.mk _,X.o⟩
theorem uc (cv:Value) (c:lL) (w:World) (hc:D7 w cv c) :
  Calls Tryz.prog 42 #[cv] w fun e w'=>dY e∧Ext w w':=by
 obtain ⟨V,P,R,B⟩:=c;obtain ⟨a1,c1,a2,c2,s1,s2,s3,s4,t1,t2,t3,t4,rfl,h1,h2,h3,h4⟩:=hc;dsimp only at h1 h2 h3 h4 ⊢;have HV:=kI h1;have HR:=kI h3;have HB:=kI h4;obtain ⟨vl,hvl⟩:=gN (V.length);obtain ⟨pl,hpl⟩:=gN (P.length);rw [← hvl] at HV;rw [← hvl,← hpl];clear h1 h2 h3 h4 hvl hpl;have bb0:=(ag.new w #[.slice a1 vl c1,.slice a2 pl c2,.bool R.neg,.slice s1 R.num.length s2,.slice s3 R.den.length s4,.bool B.neg,.slice t1 B.num.length t2,.slice t3 B.den.length t4] 67);have x0:Ext w (w.alloc (.cells #[.slice a1 vl c1,.slice a2 pl c2,.bool R.neg,.slice s1 R.num.length s2,.slice s3 R.den.length s4,.bool B.neg,.slice t1 B.num.length t2,.slice t3 B.den.length t4] 67)):=((Ext.refl w).alloc _);have A0:=kI bb0;have X:=kI x0;clear x0 bb0;go_enter Tryz.func42,Tryz.ntmps42
 replace HV:=kI (HV.o.ext X.o);replace HR:=kI (HR.o.ext X.o);replace HB:=kI (HB.o.ext X.o);obtain ⟨aK,fA0,aJ⟩:=A0.o.q3;go_wp2_with fail;refine (tY _ V _ HV.o).mono ?_;rintro e w1 ⟨⟨r,rfl,-⟩,hx⟩;clear aK fA0 aJ;replace HV:=kI (HV.o.ext hx);replace HR:=kI (HR.o.ext hx);replace HB:=kI (HB.o.ext hx);replace A0:=kI (A0.o.ext hx);replace X:=kI (X.o.trans hx);clear hx;cases r;rotate_left
 ·go_wp2_with fail;go_ret;exact ⟨dY.mk _,X.o⟩
 by_cases h20:20 < pl
 ·have q1:(20:Int) < (pl:Int):=Z
  obtain ⟨aK,fA0,aJ⟩:=A0.o.q3;go_wp2_with fail;go_ret;exact ⟨dY.mk _,X.o⟩
 ·have q1:¬ (20:Int) < (pl:Int):=Z
  obtain ⟨aK,fA0,aJ⟩:=A0.o.q3;go_wp2_with fail;clear aK fA0 aJ;refine (cF _ [R] _ (dV (ag.new w1 #[.bool R.neg,.slice s1 R.num.length s2,.slice s3 R.den.length s4] 25) (HR.o.ext ((Ext.refl w1).alloc _))) cp).mono ?_;rintro e w2 ⟨⟨r1,rfl,-⟩,hx⟩;have hx:=((Ext.refl w1).alloc (.cells #[.bool R.neg,.slice s1 R.num.length s2,.slice s3 R.den.length s4] 25)).trans hx;replace HV:=kI (HV.o.ext hx);replace HR:=kI (HR.o.ext hx);replace HB:=kI (HB.o.ext hx);replace A0:=kI (A0.o.ext hx);replace X:=kI (X.o.trans hx);clear hx;cases r1;rotate_left
  ·go_wp2_with fail;go_ret;exact ⟨dY.mk _,X.o⟩
  obtain ⟨aK,fA0,aJ⟩:=A0.o.q3;go_wp2_with fail;clear aK fA0 aJ;refine (cF _ [B] _ (dV (ag.new w2 #[.bool B.neg,.slice t1 B.num.length t2,.slice t3 B.den.length t4] 25) (HB.o.ext ((Ext.refl w2).alloc _))) cp).mono ?_;rintro e w3 ⟨⟨r2,rfl,-⟩,hx⟩;have hx:=((Ext.refl w2).alloc (.cells #[.bool B.neg,.slice t1 B.num.length t2,.slice t3 B.den.length t4] 25)).trans hx;replace HV:=kI (HV.o.ext hx);replace HR:=kI (HR.o.ext hx);replace HB:=kI (HB.o.ext hx);replace A0:=kI (A0.o.ext hx);replace X:=kI (X.o.trans hx);clear hx;go_wp2_with fail;go_ret;exact ⟨dY.mk _,X.o⟩
def fG (l:List Int):List Int:=if l=[] then lim 1 else l
theorem yx (l:List Int):nv (fG l)=eJ l:=by unfold fG eJ;split <;> first|exact aG 1|rfl
theorem LH {l:List Int} (h:br l) (hz:cL l) (hn:l.length≤128):br (fG l)∧cL (fG l)∧(fG l).length≤128:=by
 unfold fG;split
 ·exact ⟨aR 1,aX 1,by decide⟩
 ·exact ⟨h,hz,hn⟩
theorem qw {a b c:Nat} {x y z:Nat} (ha:a < 4294967296 ^ x) (hb:b < 4294967296 ^ y) (hc:c < 4294967296 ^ z):a*b*c < 4294967296 ^ (x+y+z):=by
 rw [Nat.pow_add,Nat.pow_add];exact Nat.mul_lt_mul'' (Nat.mul_lt_mul'' ha hb) hc
structure N8 (l:List Int):Prop where
 lm:br l
 z:cL l
 n:l.length≤128
theorem N8.lt {l:List Int} (h:N8 l):nv l < 4294967296 ^ 128:=Nat.lt_of_lt_of_le (bX h.lm) (gZ h.n)
theorem Qu {l:List Int} (h:N8 l):mulS (lim 1) l=(lim (nv l),0):=by
 have e:=oF (l1:=lim 1) (l2:=l) ap (aX 1) (Nat.le_trans h.n ap) h.z (by rw [aG,Nat.one_mul];exact gM h.lt ap);rw [aG,Nat.one_mul] at e;exact e
theorem Qv {l1 l2:List Int} (h1:N8 l1) (h2:N8 l2):mulS (lim (nv l1)) l2=(lim (nv l1*nv l2),0):=by
 rw [dx h1.lm h1.z];exact oF (Nat.le_trans h1.n ap) h1.z (Nat.le_trans h2.n ap) h2.z (gM (k:=128+128) Wn ap)
theorem Qw {l1 l2 l3:List Int} (h1:N8 l1) (h2:N8 l2) (h3:N8 l3):mulS (lim (nv l1*nv l2)) l3=(lim (nv l1*nv l2*nv l3),0):=by
 have b:nv l1*nv l2 < mR:=gM (k:=128+128) Wn ap;have e:=oF (l1:=lim (nv l1*nv l2)) (l2:=l3) (lZ.2 b) (aX _) (Nat.le_trans h3.n ap) h3.z (by rw [aG];exact gM (qw h1.lt h2.lt h3.lt) ap);rw [aG] at e;exact e
theorem Qx {a b:Nat} (ha:a < mR) (hb:b < mR):qM (lim a) (lim b)=(eP a b,0):=by
 rw [Fv (lZ.2 ha) (aX _) (lZ.2 hb) (aX _),aG,aG]
theorem Eo {r:RR} (l:aC r) (c:aA r=0):N8 r.num∧N8 (fG r.den):=by
 obtain ⟨h1,h2,h3,h4,_⟩:=sU l c;obtain ⟨d1,d2,d3⟩:=LH l.2 h4 h2;exact ⟨⟨l.1,h3,h1⟩,⟨d1,d2,d3⟩⟩
theorem qx (v:Value) (r:RR) (w:World) (h:bh w v r) :
  Calls Tryz.prog 161 #[v] w fun e w'=>(∃ a c,e=.returned (.slice a (fG r.den).length c)∧bj .u32 w' (.slice a (fG r.den).length c) (fG r.den))∧Ext w w':=by
 obtain ⟨s1,s2,s3,s4,rfl⟩:=h.shape;obtain ⟨_,vd,e,_,hd⟩:=h;simp only [Value.agg.injEq] at e;have e2:=congrArg (fun a=>a[2]?) e;simp at e2;subst e2;have HD:=kI hd;clear hd e;obtain ⟨n,hn⟩:=gN (r.num.length);rw [← hn];clear hn;by_cases h0:r.den=[]
 ·have ed:fG r.den=lim 1:=if_pos h0;have e0:r.den.length=0:=by rw [h0];rfl
  rw [ed];rw [e0] at HD ⊢;clear h0 ed e0;have bb0:=(ag.new w #[.bool r.neg,.slice s1 n s2,.slice s3 0 s4] 25);have x0:Ext w (w.alloc (.cells #[.bool r.neg,.slice s1 n s2,.slice s3 0 s4] 25)):=((Ext.refl w).alloc _);have A0:=kI bb0;have X:=kI x0;clear x0 bb0;go_enter Tryz.func161,Tryz.ntmps161
  replace HD:=kI (Rd.ext HD.o X.o);obtain ⟨aK,fA0,aJ⟩:=A0.o.q3;go_wp2_with fail;clear aK fA0 aJ;refine (mg 1 1 _ ap rfl).mono ?_;rintro e w1 ⟨⟨v,rfl,nn⟩,hx⟩;obtain ⟨t1,t2,rfl⟩:=nn.shape;have NN:=kI nn.rd;replace X:=kI (X.o.trans hx);clear nn hx;go_wp2_with fail;go_ret;exact ⟨⟨_,_,rfl,NN.o⟩,X.o⟩
 ·have ed:fG r.den=r.den:=if_neg h0;rw [ed];obtain ⟨dl,hdl⟩:=gN (r.den.length);have q1:((dl:Int) == 0)=false:=by
   have:r.den.length≠0:=fun z=>h0 (List.length_eq_zero_iff.1 z);simp;omega
  rw [← hdl] at HD ⊢;clear h0 ed hdl;have bb0:=(ag.new w #[.bool r.neg,.slice s1 n s2,.slice s3 dl s4] 25);have x0:Ext w (w.alloc (.cells #[.bool r.neg,.slice s1 n s2,.slice s3 dl s4] 25)):=((Ext.refl w).alloc _);have A0:=kI bb0;have X:=kI x0;clear x0 bb0;go_enter Tryz.func161,Tryz.ntmps161
  replace HD:=kI (Rd.ext HD.o X.o);obtain ⟨aK,fA0,aJ⟩:=A0.o.q3;go_wp2_with fail;go_ret;exact ⟨⟨_,_,rfl,HD.o⟩,X.o⟩
theorem sy (g:Nat) (v1 v2 v3:Value) (l1 l2 l3:List Int) (w:World) (h:ag w g #[v1,v2,v3] 23) (h1:bj .u32 w v1 l1) (h2:bj .u32 w v2 l2) (h3:bj .u32 w v3 l3) (k1:N8 l1) (k2:N8 l2) (k3:N8 l3) :
  Calls Tryz.prog 158 #[.slice (some ⟨g,0,none⟩) 3 3] w fun e w'=>(∃ v,e=.returned v∧bM w w' v (lim (nv l1*nv l2*nv l3)))∧Ext w w':=by
 have M1:=kI (Qu k1);have M2:=kI (Qv k1 k2);have M3:=kI (Qw k1 k2 k3);obtain ⟨a,ha⟩:=gN (nv l1);obtain ⟨b,hb⟩:=gN (nv l1*nv l2);obtain ⟨c,hc⟩:=gN (nv l1*nv l2*nv l3);rw [← hc] at M3 ⊢;rw [← hb] at M2 M3;rw [← ha] at M1 M2;have A0:=kI h;have H1:=kI h1;have H2:=kI h2;have H3:=kI h3;have L1:=kI k1.lm;have L2:=kI k2.lm;have L3:=kI k3.lm;have X:Hid (Ext w w):=kI (Ext.refl w);clear h h1 h2 h3 k1 k2 k3 ha hb hc;go_enter Tryz.func158,Tryz.ntmps158
 go_wp2_with fail;refine (mg 1 1 _ ap rfl).mono ?_;rintro e w1 ⟨⟨v,rfl,nn⟩,hx⟩;obtain ⟨p1,p2,rfl⟩:=nn.shape;have NP:=kI nn.rd;replace A0:=kI (A0.o.ext hx);replace H1:=kI (Rd.ext H1.o hx);replace H2:=kI (Rd.ext H2.o hx);replace H3:=kI (Rd.ext H3.o hx);replace X:=kI (X.o.trans hx);clear nn hx;go_wp2_with fail;refine wp_loop_rounds 4 ?_;rw [rounds_succ];obtain ⟨aK,fA0,aJ⟩:=A0.o.q3;go_wp2_with fail;clear aK fA0 aJ;have hmu:=l6 _ _ _ _ _ NP.o H1.o (aR 1) L1.o;rw [M1.o] at hmu;refine hmu.mono ?_;rintro e w2 ⟨⟨v,rfl,nn⟩,hx⟩;clear hmu;obtain ⟨r01,r02,rfl⟩:=nn.shape;replace NP:=kI nn.rd;replace A0:=kI (A0.o.ext hx);replace H1:=kI (Rd.ext H1.o hx);replace H2:=kI (Rd.ext H2.o hx);replace H3:=kI (Rd.ext H3.o hx);replace X:=kI (X.o.trans hx);clear nn hx;go_wp2_with fail;rw [rounds_succ];obtain ⟨aK,fA0,aJ⟩:=A0.o.q3;go_wp2_with fail;clear aK fA0 aJ;have hmu:=l6 _ _ _ _ _ NP.o H2.o (aR _) L2.o;rw [M2.o] at hmu;refine hmu.mono ?_;rintro e w3 ⟨⟨v,rfl,nn⟩,hx⟩;clear hmu;obtain ⟨r11,r12,rfl⟩:=nn.shape;replace NP:=kI nn.rd;replace A0:=kI (A0.o.ext hx);replace H1:=kI (Rd.ext H1.o hx);replace H2:=kI (Rd.ext H2.o hx);replace H3:=kI (Rd.ext H3.o hx);replace X:=kI (X.o.trans hx);clear nn hx;go_wp2_with fail;rw [rounds_succ];obtain ⟨aK,fA0,aJ⟩:=A0.o.q3;go_wp2_with fail;clear aK fA0 aJ;have hmu:=l6 _ _ _ _ _ NP.o H3.o (aR _) L3.o;rw [M3.o] at hmu;refine hmu.mono ?_;rintro e w4 ⟨⟨v,rfl,nn⟩,hx⟩;clear hmu;have NV:=kI (nn.from X.o);obtain ⟨r21,r22,rfl⟩:=nn.shape;replace NP:=kI nn.rd;replace A0:=kI (A0.o.ext hx);replace H1:=kI (Rd.ext H1.o hx);replace H2:=kI (Rd.ext H2.o hx);replace H3:=kI (Rd.ext H3.o hx);replace X:=kI (X.o.trans hx);clear nn hx;go_wp2_with fail;rw [rounds_succ];go_wp2_with fail;go_ret;exact ⟨⟨_,rfl,NV.o⟩,X.o⟩
def V0 (Ab:Nat) (b f d:RR) (a1 a2 a3 a4 a5 a6:Option Addr) (c1 c2 c3 c4 c5 c6:Nat) (y:Int) (j:Nat) (v:Value) (W:World):Prop:=
 match j with
 | 0=>v=.func (.func 158) #[] #[]
 | 1=>v=.pointer (some ⟨Ab,1,none⟩)
 | 2=>∃ a c,v=.slice a b.num.length c∧bj .u32 W (.slice a b.num.length c) b.num
 | 3=>v=.pointer (some ⟨Ab+1,1,none⟩)
 | 4=>∃ a c,v=.slice a f.num.length c∧bj .u32 W (.slice a f.num.length c) f.num
 | 5=>v=.func (.func 161) #[] #[]
 | 6=>v=.agg #[.bool d.neg,.slice a5 d.num.length c5,.slice a6 d.den.length c6]
 | 7=>∃ a c,v=.slice a (fG d.den).length c∧bj .u32 W (.slice a (fG d.den).length c) (fG d.den)
 | 8=>∃ zb y1 z1 y2 z2 y3 z3,v=.slice (some ⟨zb,0,none⟩) 3 3∧ag W zb #[.slice y1 b.num.length z1,.slice y2 f.num.length z2,.slice y3 (fG d.den).length z3] 23∧bj .u32 W (.slice y1 b.num.length z1) b.num∧bj .u32 W (.slice y2 f.num.length z2) f.num∧bj .u32 W (.slice y3 (fG d.den).length z3) (fG d.den)
 | 9=>∃ a c,v=.slice a (lim (nv b.num*nv f.num*nv (fG d.den))).length c∧bj .u32 W (.slice a (lim (nv b.num*nv f.num*nv (fG d.den))).length c) (lim (nv b.num*nv f.num*nv (fG d.den)))
 | 10=>v=.func (.func 158) #[] #[]
 | 11=>v=.pointer (some ⟨Ab+1+1,1,none⟩)
 | 12=>∃ a c,v=.slice a d.num.length c∧bj .u32 W (.slice a d.num.length c) d.num
 | 13=>v=.func (.func 161) #[] #[]
 | 14=>v=.agg #[.bool false,.slice a1 b.num.length c1,.slice a2 b.den.length c2]
 | 15=>∃ a c,v=.slice a (fG b.den).length c∧bj .u32 W (.slice a (fG b.den).length c) (fG b.den)
 | 16=>v=.func (.func 161) #[] #[]
 | 17=>v=.agg #[.bool f.neg,.slice a3 f.num.length c3,.slice a4 f.den.length c4]
 | 18=>∃ a c,v=.slice a (fG f.den).length c∧bj .u32 W (.slice a (fG f.den).length c) (fG f.den)
 | 19=>∃ zb y1 z1 y2 z2 y3 z3,v=.slice (some ⟨zb,0,none⟩) 3 3∧ag W zb #[.slice y1 d.num.length z1,.slice y2 (fG b.den).length z2,.slice y3 (fG f.den).length z3] 23∧bj .u32 W (.slice y1 d.num.length z1) d.num∧bj .u32 W (.slice y2 (fG b.den).length z2) (fG b.den)∧bj .u32 W (.slice y3 (fG f.den).length z3) (fG f.den)
 | 20=>∃ a c,v=.slice a (lim (nv d.num*nv (fG b.den)*nv (fG f.den))).length c∧bj .u32 W (.slice a (lim (nv d.num*nv (fG b.den)*nv (fG f.den))).length c) (lim (nv d.num*nv (fG b.den)*nv (fG f.den)))
 | 21=>v=.tuple #[.int .i64 y,.int .i64 0]
 | 22=>v=.tuple #[.int .i64 y,.int .i64 0]
 | 23=>v=.int .i64 y
 | 24=>v=.int .i64 0
 | _=>True
theorem Ht {Ab:Nat} {b f d:RR} {a1 a2 a3 a4 a5 a6:Option Addr} {c1 c2 c3 c4 c5 c6:Nat} {y:Int} {j:Nat} {v:Value} {W W':World} (h:V0 Ab b f d a1 a2 a3 a4 a5 a6 c1 c2 c3 c4 c5 c6 y j v W) (xx:Ext W W'):V0 Ab b f d a1 a2 a3 a4 a5 a6 c1 c2 c3 c4 c5 c6 y j v W':=by
 match j,h with
 | 0,h=>exact h
 | 1,h=>exact h
 | 2,⟨s1,s2,h0,h1⟩=>exact ⟨s1,s2,h0,Rd.ext h1 xx⟩
 | 3,h=>exact h
 | 4,⟨s1,s2,h0,h1⟩=>exact ⟨s1,s2,h0,Rd.ext h1 xx⟩
 | 5,h=>exact h
 | 6,h=>exact h
 | 7,⟨s1,s2,h0,h1⟩=>exact ⟨s1,s2,h0,Rd.ext h1 xx⟩
 | 8,⟨s1,s2,s3,s4,s5,s6,s7,h0,h1,h2,h3,h4⟩=>exact ⟨s1,s2,s3,s4,s5,s6,s7,h0,h1.ext xx,Rd.ext h2 xx,Rd.ext h3 xx,Rd.ext h4 xx⟩
 | 9,⟨s1,s2,h0,h1⟩=>exact ⟨s1,s2,h0,Rd.ext h1 xx⟩
 | 10,h=>exact h
 | 11,h=>exact h
 | 12,⟨s1,s2,h0,h1⟩=>exact ⟨s1,s2,h0,Rd.ext h1 xx⟩
 | 13,h=>exact h
 | 14,h=>exact h
 | 15,⟨s1,s2,h0,h1⟩=>exact ⟨s1,s2,h0,Rd.ext h1 xx⟩
 | 16,h=>exact h
 | 17,h=>exact h
 | 18,⟨s1,s2,h0,h1⟩=>exact ⟨s1,s2,h0,Rd.ext h1 xx⟩
 | 19,⟨s1,s2,s3,s4,s5,s6,s7,h0,h1,h2,h3,h4⟩=>exact ⟨s1,s2,s3,s4,s5,s6,s7,h0,h1.ext xx,Rd.ext h2 xx,Rd.ext h3 xx,Rd.ext h4 xx⟩
 | 20,⟨s1,s2,h0,h1⟩=>exact ⟨s1,s2,h0,Rd.ext h1 xx⟩
 | 21,h=>exact h
 | 22,h=>exact h
 | 23,h=>exact h
 | 24,h=>exact h
 | _+25,_=>trivial
theorem wx (vb vf vd:Value) (b f d:RR) (w:World) (hb:bh w vb b) (hf:bh w vf f) (hd:bh w vd d) (lb:aC b) (lf:aC f) (ld:aC d) (cb:aA b=0) (cf:aA f=0) (cd:aA d=0) :
  Calls Tryz.prog 113 #[vb,vf,vd] w fun e w'=>e=.returned (.bool (mL b f d))∧Ext w w':=by
 obtain ⟨nb,db⟩:=Eo lb cb;obtain ⟨nf,df⟩:=Eo lf cf;obtain ⟨nd,dd⟩:=Eo ld cd;have hcm:qM (lim (nv b.num*nv f.num*nv (fG d.den))) (lim (nv d.num*nv (fG b.den)*nv (fG f.den)))=(eP (nv b.num*nv f.num*nv (fG d.den)) (nv d.num*nv (fG b.den)*nv (fG f.den)),0):=Qx (gM (qw nb.lt nf.lt dd.lt) ap) (gM (qw nd.lt db.lt df.lt) ap);have hcv:b.neg=false→mL b f d=decide (0≤eP (nv b.num*nv f.num*nv (fG d.den)) (nv d.num*nv (fG b.den)*nv (fG f.den))):=fun hn=>by
  unfold mL;rw [hn,if_neg ap,yx,yx,yx,Nat.mul_assoc (nv d.num)];unfold eP iW;by_cases h:nv d.num*(eJ b.den*eJ f.den)≤nv b.num*nv f.num*eJ d.den
  ·rw [decide_eq_true h];symm
   refine decide_eq_true ?_;split
   ·omega
   ·split <;> decide
  ·rw [decide_eq_false h];symm
   refine decide_eq_false ?_;rw [if_pos Z];decide
 have NB:=kI nb;have DB:=kI db;have NF:=kI nf;have DF:=kI df;have ND:=kI nd;have DD:=kI dd;have HB:=kI hb;have HF:=kI hf;have HD:=kI hd;obtain ⟨a1,c1,a2,c2,rfl⟩:=hb.shape;obtain ⟨a3,c3,a4,c4,rfl⟩:=hf.shape;obtain ⟨a5,c5,a6,c6,rfl⟩:=hd.shape;obtain ⟨y,hy⟩:=gN (eP (nv b.num*nv f.num*nv (fG d.den)) (nv d.num*nv (fG b.den)*nv (fG f.den)));rw [← hy] at hcm hcv;have HCM:=kI hcm;have GL:=kI hcv;clear nb db nf df nd dd hb hf hd lb lf ld cb cf cd hcm hcv hy;by_cases hn:b.neg=true
 ·have E:=kI (show mL b f d=false from if_pos hn);have hb':=HB.o;rw [hn] at hb' ⊢;replace HB:=kI hb';clear hn hb' GL;have bb0:=(((ag.new w #[.bool true,.slice a1 b.num.length c1,.slice a2 b.den.length c2] 25).alloc (.cells #[.bool f.neg,.slice a3 f.num.length c3,.slice a4 f.den.length c4] 25)).alloc (.cells #[.bool d.neg,.slice a5 d.num.length c5,.slice a6 d.den.length c6] 25));have bb1:=((ag.new (w.alloc (.cells #[.bool true,.slice a1 b.num.length c1,.slice a2 b.den.length c2] 25)) #[.bool f.neg,.slice a3 f.num.length c3,.slice a4 f.den.length c4] 25).alloc (.cells #[.bool d.neg,.slice a5 d.num.length c5,.slice a6 d.den.length c6] 25));have bb2:=(ag.new ((w.alloc (.cells #[.bool true,.slice a1 b.num.length c1,.slice a2 b.den.length c2] 25)).alloc (.cells #[.bool f.neg,.slice a3 f.num.length c3,.slice a4 f.den.length c4] 25)) #[.bool d.neg,.slice a5 d.num.length c5,.slice a6 d.den.length c6] 25);rw [World.size_alloc] at bb1;rw [World.size_alloc,World.size_alloc] at bb2;have x0:Ext w (((w.alloc (.cells #[.bool true,.slice a1 b.num.length c1,.slice a2 b.den.length c2] 25)).alloc (.cells #[.bool f.neg,.slice a3 f.num.length c3,.slice a4 f.den.length c4] 25)).alloc (.cells #[.bool d.neg,.slice a5 d.num.length c5,.slice a6 d.den.length c6] 25)):=((((Ext.refl w).alloc _).alloc _).alloc _);have A0:=kI bb0;have A1:=kI bb1;have A2:=kI bb2;have X:=kI x0;clear x0 bb0 bb1 bb2;replace HB:=kI (HB.o.ext X.o);replace HF:=kI (HF.o.ext X.o);replace HD:=kI (HD.o.ext X.o);go_enter Tryz.func113,Tryz.ntmps113
  obtain ⟨aK,fA0,aJ⟩:=A0.o.q3;obtain ⟨aY,aZ,lA1⟩:=A1.o.q3;obtain ⟨bA,bB,lA2⟩:=A2.o.q3;go_wp2_with fail;go_ret;exact ⟨by rw [E.o];rfl,X.o⟩
 ·replace hn:=Bool.eq_false_iff.2 hn;have E:=kI (GL.o hn);have hb':=HB.o;rw [hn] at hb' ⊢;replace HB:=kI hb';clear hn hb' GL;have bb0:=(((ag.new w #[.bool false,.slice a1 b.num.length c1,.slice a2 b.den.length c2] 25).alloc (.cells #[.bool f.neg,.slice a3 f.num.length c3,.slice a4 f.den.length c4] 25)).alloc (.cells #[.bool d.neg,.slice a5 d.num.length c5,.slice a6 d.den.length c6] 25));have bb1:=((ag.new (w.alloc (.cells #[.bool false,.slice a1 b.num.length c1,.slice a2 b.den.length c2] 25)) #[.bool f.neg,.slice a3 f.num.length c3,.slice a4 f.den.length c4] 25).alloc (.cells #[.bool d.neg,.slice a5 d.num.length c5,.slice a6 d.den.length c6] 25));have bb2:=(ag.new ((w.alloc (.cells #[.bool false,.slice a1 b.num.length c1,.slice a2 b.den.length c2] 25)).alloc (.cells #[.bool f.neg,.slice a3 f.num.length c3,.slice a4 f.den.length c4] 25)) #[.bool d.neg,.slice a5 d.num.length c5,.slice a6 d.den.length c6] 25);rw [World.size_alloc] at bb1;rw [World.size_alloc,World.size_alloc] at bb2;have x0:Ext w (((w.alloc (.cells #[.bool false,.slice a1 b.num.length c1,.slice a2 b.den.length c2] 25)).alloc (.cells #[.bool f.neg,.slice a3 f.num.length c3,.slice a4 f.den.length c4] 25)).alloc (.cells #[.bool d.neg,.slice a5 d.num.length c5,.slice a6 d.den.length c6] 25)):=((((Ext.refl w).alloc _).alloc _).alloc _);have A0:=kI bb0;have A1:=kI bb1;have A2:=kI bb2;have X:=kI x0;clear x0 bb0 bb1 bb2;replace HB:=kI (HB.o.ext X.o);replace HF:=kI (HF.o.ext X.o);replace HD:=kI (HD.o.ext X.o);go_enter Tryz.func113,Tryz.ntmps113
  obtain ⟨aK,fA0,aJ⟩:=A0.o.q3;obtain ⟨aY,aZ,lA1⟩:=A1.o.q3;obtain ⟨bA,bB,lA2⟩:=A2.o.q3;go_wp2_with fail;clear aK fA0 aJ aY aZ lA1 bA bB lA2;obtain ⟨wo,hwo⟩:=gN ((((w.alloc (.cells #[.bool false,.slice a1 b.num.length c1,.slice a2 b.den.length c2] 25)).alloc (.cells #[.bool f.neg,.slice a3 f.num.length c3,.slice a4 f.den.length c4] 25)).alloc (.cells #[.bool d.neg,.slice a5 d.num.length c5,.slice a6 d.den.length c6] 25)));rw [← hwo] at A0 A1 A2 X HB HF HD ⊢;clear hwo;obtain ⟨_,_,eb,hb1,hb2⟩:=HB.o;obtain ⟨_,_,ef,hf1,hf2⟩:=HF.o;obtain ⟨_,_,ed,hd1,hd2⟩:=HD.o;simp only [Value.agg.injEq] at eb ef ed;have Iq:=congrArg (fun a=>a[1]?) eb;have Y1:=congrArg (fun a=>a[1]?) ef;have Y2:=congrArg (fun a=>a[1]?) ed;simp at Iq Y1 Y2;subst Iq;subst Y1;subst Y2;have HB1:=kI hb1;have MY:=kI hf1;have HD1:=kI hd1;clear hb1 hb2 hf1 hf2 hd1 hd2 eb ef ed;refine dG 25 24 (V0 w.heap.size b f d a1 a2 a3 a4 a5 a6 c1 c2 c3 c4 c5 c6 y) rfl ax ax ax (fun _ _ _ _ h x=>Ht h x) (fun _ _ d _ _ h=>by cases d <;> exact h) ?_ ?_ ?_
  ·refine ⟨?_,?_,?_,?_,?_,?_,?_,?_,?_,?_,?_,?_,?_,?_,?_,?_,?_,?_,?_,?_,?_,?_,?_,?_,?_,trivial⟩
   ·intro a W hW hB hD K hK;have b7:=hB 7 rfl;simp only [sB] at b7;go_simp;exact hK _ _ (Ext.refl _) rfl
   ·intro a W hW hB hD K hK;have b3:=hB 3 rfl;simp only [sB] at b3;go_simp;exact hK _ _ (Ext.refl _) rfl
   ·intro a W hW hB hD K hK;obtain ⟨v15,e15,h15⟩:=aE (hD 1 _ 15 rfl rfl ax);obtain rfl:=h15;have q9:=(A0.o.ext hW).cell;have l9:=(A0.o.ext hW).lt;go_simp;exact hK _ _ (Ext.refl _) ⟨_,_,rfl,Rd.ext HB1.o hW⟩
   ·intro a W hW hB hD K hK;have b4:=hB 4 rfl;simp only [sB] at b4;go_simp;exact hK _ _ (Ext.refl _) rfl
   ·intro a W hW hB hD K hK;obtain ⟨v17,e17,h17⟩:=aE (hD 3 _ 17 rfl rfl ax);obtain rfl:=h17;have q9:=(A1.o.ext hW).cell;have l9:=(A1.o.ext hW).lt;go_simp;exact hK _ _ (Ext.refl _) ⟨_,_,rfl,Rd.ext MY.o hW⟩
   ·intro a W hW hB hD K hK;have b8:=hB 8 rfl;simp only [sB] at b8;go_simp;exact hK _ _ (Ext.refl _) rfl
   ·intro a W hW hB hD K hK;have b5:=hB 5 rfl;simp only [sB] at b5;have q9:=(A2.o.ext hW).cell;have l9:=(A2.o.ext hW).lt;go_simp;exact hK _ _ (Ext.refl _) rfl
   ·intro a W hW hB hD K hK;obtain ⟨v19,e19,h19⟩:=aE (hD 5 _ 19 rfl rfl ax);obtain rfl:=h19;obtain ⟨v20,e20,h20⟩:=aE (hD 6 _ 20 rfl rfl ax);obtain rfl:=h20;go_simp;refine (qx _ _ W (HD.o.ext hW)).mono ?_;rintro e w9 ⟨⟨s1,s2,rfl,hd⟩,hx⟩;exact hK _ _ hx ⟨_,_,rfl,hd⟩
   ·intro a W hW hB hD K hK;obtain ⟨v16,e16,h16⟩:=aE (hD 2 _ 16 rfl rfl ax);obtain ⟨Y3,Y4,rfl,Qy⟩:=h16;obtain ⟨v18,e18,h18⟩:=aE (hD 4 _ 18 rfl rfl ax);obtain ⟨y21,y22,rfl,Qz⟩:=h18;obtain ⟨v21,e21,h21⟩:=aE (hD 7 _ 21 rfl rfl ax);obtain ⟨y31,y32,rfl,V1⟩:=h21;go_simp;exact hK _ _ ((Ext.refl _).alloc _) ⟨_,_,_,_,_,_,_,rfl,ag.new _ _ _,Rd.ext Qy ((Ext.refl _).alloc _),Rd.ext Qz ((Ext.refl _).alloc _),Rd.ext V1 ((Ext.refl _).alloc _)⟩
   ·intro a W hW hB hD K hK;obtain ⟨v14,e14,EP⟩:=aE (hD 0 _ 14 rfl rfl ax);obtain rfl:=EP;obtain ⟨v22,e22,h22⟩:=aE (hD 8 _ 22 rfl rfl ax);obtain ⟨zb,z1,z2,z3,z4,z5,z6,rfl,V3,V8,V9,Wa⟩:=h22;go_simp;refine (sy _ _ _ _ _ _ _ W V3 V8 V9 Wa NB.o NF.o DD.o).mono ?_;rintro e w9 ⟨⟨v,rfl,nn⟩,hx⟩;obtain ⟨r1,r2,rfl⟩:=nn.shape;exact hK _ _ hx ⟨_,_,rfl,nn.rd⟩
   ·intro a W hW hB hD K hK;have b7:=hB 7 rfl;simp only [sB] at b7;go_simp;exact hK _ _ (Ext.refl _) rfl
   ·intro a W hW hB hD K hK;have b5:=hB 5 rfl;simp only [sB] at b5;go_simp;exact hK _ _ (Ext.refl _) rfl
   ·intro a W hW hB hD K hK;obtain ⟨v25,e25,Cw⟩:=aE (hD 11 _ 25 rfl rfl ax);obtain rfl:=Cw;have q9:=(A2.o.ext hW).cell;have l9:=(A2.o.ext hW).lt;go_simp;exact hK _ _ (Ext.refl _) ⟨_,_,rfl,Rd.ext HD1.o hW⟩
   ·intro a W hW hB hD K hK;have b8:=hB 8 rfl;simp only [sB] at b8;go_simp;exact hK _ _ (Ext.refl _) rfl
   ·intro a W hW hB hD K hK;have b3:=hB 3 rfl;simp only [sB] at b3;have q9:=(A0.o.ext hW).cell;have l9:=(A0.o.ext hW).lt;go_simp;exact hK _ _ (Ext.refl _) rfl
   ·intro a W hW hB hD K hK;obtain ⟨v27,e27,h27⟩:=aE (hD 13 _ 27 rfl rfl ax);obtain rfl:=h27;obtain ⟨v28,e28,h28⟩:=aE (hD 14 _ 28 rfl rfl ax);obtain rfl:=h28;go_simp;refine (qx _ _ W (HB.o.ext hW)).mono ?_;rintro e w9 ⟨⟨s1,s2,rfl,hd⟩,hx⟩;exact hK _ _ hx ⟨_,_,rfl,hd⟩
   ·intro a W hW hB hD K hK;have b8:=hB 8 rfl;simp only [sB] at b8;go_simp;exact hK _ _ (Ext.refl _) rfl
   ·intro a W hW hB hD K hK;have b4:=hB 4 rfl;simp only [sB] at b4;have q9:=(A1.o.ext hW).cell;have l9:=(A1.o.ext hW).lt;go_simp;exact hK _ _ (Ext.refl _) rfl
   ·intro a W hW hB hD K hK;obtain ⟨v30,e30,h30⟩:=aE (hD 16 _ 30 rfl rfl ax);obtain rfl:=h30;obtain ⟨v31,e31,h31⟩:=aE (hD 17 _ 31 rfl rfl ax);obtain rfl:=h31;go_simp;refine (qx _ _ W (HF.o.ext hW)).mono ?_;rintro e w9 ⟨⟨s1,s2,rfl,hd⟩,hx⟩;exact hK _ _ hx ⟨_,_,rfl,hd⟩
   ·intro a W hW hB hD K hK;obtain ⟨v26,e26,AA⟩:=aE (hD 12 _ 26 rfl rfl ax);obtain ⟨Y3,Y4,rfl,Qy⟩:=AA;obtain ⟨v29,e29,Dc⟩:=aE (hD 15 _ 29 rfl rfl ax);obtain ⟨y21,y22,rfl,Qz⟩:=Dc;obtain ⟨v32,e32,h32⟩:=aE (hD 18 _ 32 rfl rfl ax);obtain ⟨y31,y32,rfl,V1⟩:=h32;go_simp;exact hK _ _ ((Ext.refl _).alloc _) ⟨_,_,_,_,_,_,_,rfl,ag.new _ _ _,Rd.ext Qy ((Ext.refl _).alloc _),Rd.ext Qz ((Ext.refl _).alloc _),Rd.ext V1 ((Ext.refl _).alloc _)⟩
   ·intro a W hW hB hD K hK;obtain ⟨v24,e24,rO⟩:=aE (hD 10 _ 24 rfl rfl ax);obtain rfl:=rO;obtain ⟨v33,e33,Gu⟩:=aE (hD 19 _ 33 rfl rfl ax);obtain ⟨zb,z1,z2,z3,z4,z5,z6,rfl,V3,V8,V9,Wa⟩:=Gu;go_simp;refine (sy _ _ _ _ _ _ _ W V3 V8 V9 Wa ND.o DB.o DF.o).mono ?_;rintro e w9 ⟨⟨v,rfl,nn⟩,hx⟩;obtain ⟨r1,r2,rfl⟩:=nn.shape;exact hK _ _ hx ⟨_,_,rfl,nn.rd⟩
   ·intro a W hW hB hD K hK;obtain ⟨v23,e23,h23⟩:=aE (hD 9 _ 23 rfl rfl ax);obtain ⟨Y3,Y4,rfl,Qy⟩:=h23;obtain ⟨v34,e34,Ke⟩:=aE (hD 20 _ 34 rfl rfl ax);obtain ⟨y21,y22,rfl,Qz⟩:=Ke;go_simp;have hc:=BM _ _ _ _ W Qy Qz (aR _) (aR _);rw [HCM.o] at hc;refine hc.mono ?_;rintro e w9 ⟨rfl,hx⟩;exact hK _ _ hx rfl
   ·intro a W hW hB hD K hK;obtain ⟨v35,e35,h35⟩:=aE (hD 21 _ 35 rfl rfl ax);obtain rfl:=h35;go_simp;exact hK _ _ (Ext.refl _) rfl
   ·intro a W hW hB hD K hK;obtain ⟨v13,e13,h13⟩:=aE (hD 22 _ 13 rfl rfl ax);obtain rfl:=h13;go_simp;exact hK _ _ (Ext.refl _) rfl
   ·intro a W hW hB hD K hK;obtain ⟨v13,e13,h13⟩:=aE (hD 22 _ 13 rfl rfl ax);obtain rfl:=h13;go_simp;exact hK _ _ (Ext.refl _) rfl
  ·intro a W hW hB hD;have h13:=hD 22 _ 13 rfl rfl ax;obtain ⟨v13,e13⟩:∃ x,a.tmps.getD 13 undef=x:=⟨_,rfl⟩;rw [e13] at h13;obtain rfl:=h13;exact ⟨.int .i64 0,fun w9=>iM e13 rfl rfl w9,rfl⟩
  intro w7 hx;simp only [cW,List.take_succ_cons,List.take_zero,List.drop_succ_cons,List.drop_zero];rintro u0 - u1 - u2 - u3 - u4 - u5 - u6 - u7 - u8 - u9 - u10 - u11 - u12 - u13 - u14 - u15 - u16 - RO - RP - UL - u20 - u21 - u22 - u23 h23 u24 rO;obtain rfl:u23=.int .i64 y:=h23;obtain rfl:u24=.int .i64 0:=rO;simp only [Act.put,List.setIfInBounds_toArray,List.set_cons_zero,List.set_cons_succ];replace X:=kI (X.o.trans hx);clear hx;go_wp2_with fail;go_ret;exact ⟨by rw [E.o];rfl,X.o⟩
end Go.Proofs.YtnnjbaijcaiohaaGreat
