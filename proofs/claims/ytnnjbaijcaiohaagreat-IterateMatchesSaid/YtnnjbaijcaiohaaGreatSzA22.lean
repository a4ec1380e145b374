/- Walks and lemmas. -/
import Derived.Test.YtnnjbaijcaiohaaGreatSzA8
import Derived.WalkMore
import Derived.Test.YtnnjbaijcaiohaaGreatSzA16
import Derived.Test.YtnnjbaijcaiohaaGreatSzA5
import Derived.Test.YtnnjbaijcaiohaaGreatSzA4
import Derived.Test.YtnnjbaijcaiohaaGreatSzA18
import Derived.Test.YtnnjbaijcaiohaaGreatSzA9
import Derived.Test.YtnnjbaijcaiohaaGreatSzA14
set_option linter.unusedVariables false
set_option linter.unusedSimpArgs false
set_option maxRecDepth 100000
set_option maxHeartbeats 16000000
namespace Go.Proofs.YtnnjbaijcaiohaaGreat
open Go.RowKit
variable {a a0:Act} {listed:Array Bool} {T:Array Bool→World→Prop} {ops:Array Oper} {ps:Array Tmp} {args tmps:Array Value} {assign body:Code} {Q:Exit→Act→World→Prop} {F:Fence} {u:FrameMode} {f:FuncId} {c s:Int} {plan:List (List Int)} {ds:List Deferred} {l l1 l2 la lb lq:List Int} {rest:List Oper} {cs h vs xs:List Value} {An B C H L N b b0 bx c1 c2 cap d1 d2 fuel g i id j jn k m1 m2 n n1 n2 nf nn off xn y:Nat} {X:Nat→Prop} {oi om:Oper} {a1 a2 a3 xa:Option Addr} {P:Program} {R p p0 p1 p10 p11 p12 p13 p2 p3 p4 p5 p6 p7 p8 p9:Prop} {md:Region.Mode} {α:Type} {e t t1 t2 t3:TypeId} {lv v vb vr z:Value} {A W W' W0 w w' w0 w2 w3 w4 wB:World} {S S1 S2:World→Prop}
theorem mY (y:Out) (p1 p2 q1 q2:Option Addr) (d1 d2 e1 e2:Nat) (w:World) (h1:bH w (.agg #[.bool y.2.neg,.slice p1 y.2.num.length d1,.slice p2 y.2.den.length d2]) y.2) (h2:bH w (.agg #[.bool y.2.neg,.slice q1 y.2.num.length e1,.slice q2 y.2.den.length e2]) y.2) :
  Calls Tryz.prog 207 #[.agg #[.int .i64 y.1,.bool y.2.neg,.slice p1 y.2.num.length d1,.slice p2 y.2.den.length d2],.agg #[.int .i64 y.1,.bool y.2.neg,.slice q1 y.2.num.length e1,.slice q2 y.2.den.length e2]] w fun e w'=>e=.returned (.bool true)∧Ext w w':=by
 have hq:=fun W (x:Ext w W)=>eK _ _ _ _ W (h1.ext x) (h2.ext x);rw [decide_eq_true rfl] at hq;have HQ:=kI hq;clear hq h1 h2;have bb0:=((af.new w #[.int .i64 y.1,.bool y.2.neg,.slice p1 y.2.num.length d1,.slice p2 y.2.den.length d2] 80).alloc (.cells #[.int .i64 y.1,.bool y.2.neg,.slice q1 y.2.num.length e1,.slice q2 y.2.den.length e2] 80));have bb1:=(af.new (w.alloc (.cells #[.int .i64 y.1,.bool y.2.neg,.slice p1 y.2.num.length d1,.slice p2 y.2.den.length d2] 80)) #[.int .i64 y.1,.bool y.2.neg,.slice q1 y.2.num.length e1,.slice q2 y.2.den.length e2] 80);rw [World.size_alloc] at bb1;have x0:Ext w ((w.alloc (.cells #[.int .i64 y.1,.bool y.2.neg,.slice p1 y.2.num.length d1,.slice p2 y.2.den.length d2] 80)).alloc (.cells #[.int .i64 y.1,.bool y.2.neg,.slice q1 y.2.num.length e1,.slice q2 y.2.den.length e2] 80)):=(((Ext.refl w).alloc _).alloc _);obtain ⟨A0,A1,X⟩:=cC bb0 bb1 x0;clear x0 bb0 bb1;go_enter Tryz.func207,Tryz.ntmps207
 obtain ⟨aK,fA0,aJ⟩:=A0.o.q3;obtain ⟨cT,cU,lA1⟩:=A1.o.q3;go_wp2_with fail;refine (HQ.o _ X.o).mono ?_;rintro e w1 ⟨rfl,hx⟩;clear aK fA0 aJ cT cU lA1;revert A0 A1 X;refine lf hx ?_;intro A0 A1 X;clear HQ;exact zFj
theorem mC (v1 v2:Value) (g:List Out) (w:World) (h1:dD w v1 g) (h2:dD w v2 g) :
  Calls Tryz.prog 198 #[v1,v2] w fun e w'=>e=.returned (.bool true)∧Ext w w':=by
 have H1:=kI h1;have H2:=kI h2;obtain ⟨a1,c1,rfl,hgl⟩:=h1.shape;obtain ⟨a2,c2,rfl,_⟩:=h2.shape;clear h1 h2;go_enter Tryz.func198,Tryz.ntmps198
 go_wp2
 go_loopw [5] (fun i wr=>∃ k:Nat,k≤g.length∧i=.int .i64 k∧Ext w wr) (fun i _=>g.length - (intOf i).toNat)
 case atStart=>exact ⟨0,Nat.zero_le _,rfl,Ext.refl w⟩
 case round=>
  obtain ⟨wk,hwk⟩:=gN (wr);subst hwk;obtain ⟨k,hk,rfl,hext⟩:=hrel;by_cases hlt:k < g.length
  ·obtain ⟨b1,o1,p1,d1,p2,d2,rfl,r3⟩:=(H1.o.ext hext).at hlt;obtain ⟨b2,o2,q1',e1,q2',e2,rfl,s3⟩:=(H2.o.ext hext).at hlt;obtain ⟨u0,u1,u2,u3,u4,u5⟩:=r3;obtain ⟨x0,x1,x2,x3,x4,x5⟩:=s3;have heq:=fun W (x:Ext wk W)=>mY _ _ _ _ _ _ _ _ _ W (u5.ext x) (x5.ext x);obtain ⟨c,hc⟩:=gN (g.getD k dO);rw [← hc] at u1 u2 u3 u4 x1 x2 x3 x4 heq;clear u5 x5;have r3:=trivial;have s3:=trivial;have q1:(0:Int)≤(k:Int):=Z
   have q2:(k:Int) < (g.length:Int):=Z
   have HX:=kI hext;have HQ:=kI heq;clear r3 s3 hext heq hc;go_wp2_with fail;(refine aF ak ak ?_;(repeat (go_big_quiet_step ((go_at_call 207;exact iz (HQ.o _ (Later.ext _))))));refine wpQuiet_nil ?_;rintro w1 ⟨⟨_,hx1⟩,rfl⟩;(try dsimp only))
   exact Pg
  ·exact Pm
theorem nY (y:aL) (p1 p2 p3 q1 q2 q3:Option Addr) (d1 d2 d3 e1 e2 e3:Nat) (w:World) (h1:bH w (.agg #[.bool y.cost.neg,.slice p1 y.cost.num.length d1,.slice p2 y.cost.den.length d2]) y.cost) (h2:bH w (.agg #[.bool y.cost.neg,.slice q1 y.cost.num.length e1,.slice q2 y.cost.den.length e2]) y.cost) (k1:dD w (.slice p3 y.next.length d3) y.next) (k2:dD w (.slice q3 y.next.length e3) y.next) :
  Calls Tryz.prog 179 #[.agg #[.bool y.cost.neg,.slice p1 y.cost.num.length d1,.slice p2 y.cost.den.length d2,.slice p3 y.next.length d3],.agg #[.bool y.cost.neg,.slice q1 y.cost.num.length e1,.slice q2 y.cost.den.length e2,.slice q3 y.next.length e3]] w fun e w'=>e=.returned (.bool true)∧Ext w w':=by
 have hq:=fun W (x:Ext w W)=>eK _ _ _ _ W (h1.ext x) (h2.ext x);rw [decide_eq_true rfl] at hq;have HQ:=kI hq;have HP:=kI (fun W (x:Ext w W)=>mC _ _ _ W (k1.ext x) (k2.ext x));clear hq h1 h2 k1 k2;have bb0:=((af.new w #[.bool y.cost.neg,.slice p1 y.cost.num.length d1,.slice p2 y.cost.den.length d2,.slice p3 y.next.length d3] 83).alloc (.cells #[.bool y.cost.neg,.slice q1 y.cost.num.length e1,.slice q2 y.cost.den.length e2,.slice q3 y.next.length e3] 83));have bb1:=(af.new (w.alloc (.cells #[.bool y.cost.neg,.slice p1 y.cost.num.length d1,.slice p2 y.cost.den.length d2,.slice p3 y.next.length d3] 83)) #[.bool y.cost.neg,.slice q1 y.cost.num.length e1,.slice q2 y.cost.den.length e2,.slice q3 y.next.length e3] 83);rw [World.size_alloc] at bb1;have x0:Ext w ((w.alloc (.cells #[.bool y.cost.neg,.slice p1 y.cost.num.length d1,.slice p2 y.cost.den.length d2,.slice p3 y.next.length d3] 83)).alloc (.cells #[.bool y.cost.neg,.slice q1 y.cost.num.length e1,.slice q2 y.cost.den.length e2,.slice q3 y.next.length e3] 83)):=(((Ext.refl w).alloc _).alloc _);obtain ⟨A0,A1,X⟩:=cC bb0 bb1 x0;clear x0 bb0 bb1;go_enter Tryz.func179,Tryz.ntmps179
 exact zNh
theorem mZ (v1 v2:Value) (g:List aL) (w:World) (h1:fb w v1 g) (h2:fb w v2 g) :
  Calls Tryz.prog 141 #[v1,v2] w fun e w'=>e=.returned (.bool true)∧Ext w w':=by
 have H1:=kI h1;have H2:=kI h2;obtain ⟨a1,c1,rfl,hgl⟩:=h1.shape;obtain ⟨a2,c2,rfl,_⟩:=h2.shape;clear h1 h2;go_enter Tryz.func141,Tryz.ntmps141
 go_wp2
 go_loopw [5] (fun i wr=>∃ k:Nat,k≤g.length∧i=.int .i64 k∧Ext w wr) (fun i _=>g.length - (intOf i).toNat)
 case atStart=>exact ⟨0,Nat.zero_le _,rfl,Ext.refl w⟩
 case round=>
  obtain ⟨wk,hwk⟩:=gN (wr);subst hwk;obtain ⟨k,hk,rfl,hext⟩:=hrel;by_cases hlt:k < g.length
  ·obtain ⟨b1,o1,p1,d1,p2,d2,p3,d3,rfl,r3⟩:=(H1.o.ext hext).at hlt;obtain ⟨b2,o2,q1',e1,q2',e2,q3',e3,rfl,s3⟩:=(H2.o.ext hext).at hlt;obtain ⟨⟨u0,u1,u2,u3,u5⟩,u4,u6⟩:=r3;obtain ⟨⟨x0,x1,x2,x3,x5⟩,x4,x6⟩:=s3;have heq:=fun W (x:Ext wk W)=>nY _ _ _ _ _ _ _ _ _ _ _ _ _ W (u5.ext x) (x5.ext x) (u6.ext x) (x6.ext x);obtain ⟨c,hc⟩:=gN (g.getD k dA);rw [← hc] at u1 u2 u3 u4 x1 x2 x3 x4 heq;clear u5 x5 u6 x6;have r3:=trivial;have s3:=trivial;have q1:(0:Int)≤(k:Int):=Z
   have q2:(k:Int) < (g.length:Int):=Z
   have HX:=kI hext;have HQ:=kI heq;clear r3 s3 hext heq hc;go_wp2_with fail;(refine aF ak ak ?_;(repeat (go_big_quiet_step ((go_at_call 179;exact iz (HQ.o _ (Later.ext _))))));refine wpQuiet_nil ?_;rintro w1 ⟨⟨_,hx1⟩,rfl⟩;(try dsimp only))
   exact Pg
  ·exact Pm
theorem nZ (v1 v2:Value) (g:List (List aL)) (w:World) (h1:gh w v1 g) (h2:gh w v2 g) :
  Calls Tryz.prog 84 #[v1,v2] w fun e w'=>e=.returned (.bool true)∧Ext w w':=by
 have H1:=kI h1;have H2:=kI h2;obtain ⟨a1,c1,rfl,hgl⟩:=h1.shape;obtain ⟨a2,c2,rfl,_⟩:=h2.shape;clear h1 h2;go_enter Tryz.func84,Tryz.ntmps84
 go_wp2
 go_loopw [5] (fun i wr=>∃ k:Nat,k≤g.length∧i=.int .i64 k∧Ext w wr) (fun i _=>g.length - (intOf i).toNat)
 case atStart=>exact ⟨0,Nat.zero_le _,rfl,Ext.refl w⟩
 case round=>
  obtain ⟨wk,hwk⟩:=gN (wr);subst hwk;obtain ⟨k,hk,rfl,hext⟩:=hrel;by_cases hlt:k < g.length
  ·obtain ⟨b1,o1,p1,d1,rfl,r3⟩:=(H1.o.ext hext).at hlt;obtain ⟨b2,o2,q1',e1,rfl,s3⟩:=(H2.o.ext hext).at hlt;obtain ⟨u0,u1,u2⟩:=r3;obtain ⟨x0,x1,x2⟩:=s3;have heq:=fun W (x:Ext wk W)=>mZ _ _ _ W (u2.ext x) (x2.ext x);obtain ⟨c,hc⟩:=gN (g.getD k []);rw [← hc] at u1 x1 heq;clear u2 x2;have r3:=trivial;have s3:=trivial;have q1:(0:Int)≤(k:Int):=Z
   have q2:(k:Int) < (g.length:Int):=Z
   have HX:=kI hext;have HQ:=kI heq;clear r3 s3 hext heq hc;go_wp2_with fail;(refine aF ak ak ?_;(repeat (go_big_quiet_step ((go_at_call 141;exact iz (HQ.o _ (Later.ext _))))));refine wpQuiet_nil ?_;rintro w1 ⟨⟨_,hx1⟩,rfl⟩;(try dsimp only))
   exact Pg
  ·exact Pm
theorem rX (y:MD) (p1 p2 p3 q1 q2 q3:Option Addr) (d1 d2 d3 e1 e2 e3:Nat) (w:World) (h1:bH w (.agg #[.bool y.ag.neg,.slice p1 y.ag.num.length d1,.slice p2 y.ag.den.length d2]) y.ag) (h2:bH w (.agg #[.bool y.ag.neg,.slice q1 y.ag.num.length e1,.slice q2 y.ag.den.length e2]) y.ag) (k1:gh w (.slice p3 y.states.length d3) y.states) (k2:gh w (.slice q3 y.states.length e3) y.states) :
  Calls Tryz.prog 25 #[.agg #[.bool y.ag.neg,.slice p1 y.ag.num.length d1,.slice p2 y.ag.den.length d2,.slice p3 y.states.length d3],.agg #[.bool y.ag.neg,.slice q1 y.ag.num.length e1,.slice q2 y.ag.den.length e2,.slice q3 y.states.length e3]] w fun e w'=>e=.returned (.bool true)∧Ext w w':=by
 have hq:=fun W (x:Ext w W)=>eK _ _ _ _ W (h1.ext x) (h2.ext x);rw [decide_eq_true rfl] at hq;have HQ:=kI hq;have HP:=kI (fun W (x:Ext w W)=>nZ _ _ _ W (k1.ext x) (k2.ext x));clear hq h1 h2 k1 k2;have bb0:=((af.new w #[.bool y.ag.neg,.slice p1 y.ag.num.length d1,.slice p2 y.ag.den.length d2,.slice p3 y.states.length d3] 28).alloc (.cells #[.bool y.ag.neg,.slice q1 y.ag.num.length e1,.slice q2 y.ag.den.length e2,.slice q3 y.states.length e3] 28));have bb1:=(af.new (w.alloc (.cells #[.bool y.ag.neg,.slice p1 y.ag.num.length d1,.slice p2 y.ag.den.length d2,.slice p3 y.states.length d3] 28)) #[.bool y.ag.neg,.slice q1 y.ag.num.length e1,.slice q2 y.ag.den.length e2,.slice q3 y.states.length e3] 28);rw [World.size_alloc] at bb1;have x0:Ext w ((w.alloc (.cells #[.bool y.ag.neg,.slice p1 y.ag.num.length d1,.slice p2 y.ag.den.length d2,.slice p3 y.states.length d3] 28)).alloc (.cells #[.bool y.ag.neg,.slice q1 y.ag.num.length e1,.slice q2 y.ag.den.length e2,.slice q3 y.states.length e3] 28)):=(((Ext.refl w).alloc _).alloc _);obtain ⟨A0,A1,X⟩:=cC bb0 bb1 x0;clear x0 bb0 bb1;go_enter Tryz.func25,Tryz.ntmps25
 exact zNh
theorem uE (v1 v2:Value) (m:MD) (w:World) (h1:dd w v1 m) (h2:dd w v2 m) :
  Calls Tryz.prog 25 #[v1,v2] w fun e w'=>e=.returned (.bool true)∧Ext w w':=by
 obtain ⟨a1,c1,a2,c2,a3,c3,rfl,k1,k2⟩:=h1;obtain ⟨b1,e1,b2,e2,b3,e3,rfl,j1,j2⟩:=h2;exact rX m _ _ _ _ _ _ _ _ _ _ _ _ w k1 j1 k2 j2
def uF (B:Nat) (w:World) (v:Value) (l:List (List RR)):Prop:=
 au 29 1 (fun W h y=>∃ a c,h=[.slice a y.length c]∧Gp B W (.slice a y.length c) y) B w v l
theorem bA.ov {l:List (List RR)} (h:bA B w v l):uF B w v l:=by
 obtain ⟨hs,h1,h2,h3,h4⟩:=h;exact ⟨hs,h1,h2,h3,fun i x hi=>by obtain ⟨h,e1,a,c,e2,e3⟩:=h4 i x hi;exact ⟨h,e1,a,c,e2,bm.ov e3⟩⟩
theorem uF.gr {l:List (List RR)} (h:uF B w v l) (g:kM C w w'):uF B w' v l:=by
 exact jKq
theorem iV (v:Value) (l:List (List RR)) (B:Nat) (w:World) (h:uF B w v l) (hs:∀ (i:Nat) (y:List RR),l[i]?=some y→∀ (j:Nat) (z:RR),y[j]?=some z→z.num.length≤1000000∧z.den.length≤1000000) :
  Calls Tryz.prog 26 #[v] w fun e w'=>e=.returned (.tuple #[])∧kM B w w':=by
 have H:=kI h;have HS:=kI hs;obtain ⟨a,c,rfl,h1,h2,_⟩:=au.rh h;have hlb:l.length≤9223372036854775807:=Z
 clear h hs h1 h2;go_enter Tryz.func26,Tryz.ntmps26
 go_wp2_with fail;go_loopw [2] (fun i wr=>∃ k:Nat,k≤l.length∧i=.int .i64 k∧kM B w wr∧uF B wr (.slice a l.length c) l) (fun i _=>l.length - (intOf i).toNat)
 case atStart=>exact ⟨0,Nat.zero_le _,rfl,kM.cj (Ext.refl _),H.o⟩
 case round=>
  obtain ⟨wk,hwk⟩:=gN (wr);subst hwk;obtain ⟨k,hk,rfl,hgr,hrow⟩:=hrel;have HG:=kI hgr;have HR:=kI hrow;by_cases hlt:k < l.length
  ·obtain ⟨y,hy⟩:∃ y,l[k]?=some y:=⟨_,List.getElem?_eq_getElem hlt⟩;obtain ⟨a',cap,e1,_,_,hr⟩:=au.rh hrow;injection e1 with e1 e2 e3
   subst e1;clear e2 e3;obtain ⟨b,q,rfl,-,hb,-,hc,a1,c1,rfl,s1⟩:=hr k y hy;have z0:=hc 0 ah;have how:=gR _ y B wk s1 (HS.o k y hy);exact kDj
  ·exact Xf
def F5 (W:World) (g n:Nat):Prop:=∃ cur,af W g cur 3∧n≤cur.size
structure uO (A:Nat) (W W':World):Prop where
 keeps:Keeps A 3 W W'
 rows:∀ g n,F5 W g n→F5 W' g n
theorem uO.cj {A:Nat} (x:Ext W W'):uO A W W':=⟨Keeps.ext x,fun _ _ ⟨c,h,hn⟩=>⟨c,h.ext x,hn⟩⟩
theorem uO.trans {A:Nat} {a b c:World} (h:uO A a b) (k:uO A b c):uO A a c:=⟨h.keeps.trans k.keeps,fun g n r=>k.rows g n (h.rows g n r)⟩
instance {A:Nat} {a b c:World}:Lx (uO A b c) (uO A a b) (uO A a c):=⟨fun k h=>uO.trans h k⟩
def Ko (w:World) (A:Nat) (v:Value) (n:Nat):Prop:=(n=0∧v=.slice none 0 0)∨∃ g c,v=.slice (some ⟨g,0,none⟩) n c∧F5 w g n∧A≤g
theorem Ko.gr {A:Nat} (h:Ko W A v n) (k:uO C W W'):Ko W' A v n:=by
 exact jA8
theorem Ko.own (h:w.ownsRow B 3 1 v n xs):Ko w B v n:=by
 rcases h.2 with ⟨rfl,rfl⟩|⟨g,cap,cur,rfl,hA,hb,hnc,hcm,hcs,_⟩
 ·exact .inl ⟨rfl,rfl⟩
 ·exact .inr ⟨g,cap,rfl,⟨cur,hb,by omega⟩,hA⟩
theorem Cz (v:Value) (n B:Nat) (w:World) (h:Ko w B v n) (uJ:n≤1000000000) :
  Calls Tryz.prog 40 #[v] w fun e w'=>e=.returned (.tuple #[])∧uO B w w':=by
 rcases h with ⟨rfl,rfl⟩|⟨g,cap,rfl,⟨cur,hb,hs⟩,hA⟩
 ·go_enter Tryz.func40,Tryz.ntmps40
  go_wp2_with fail;go_loopw [2] (fun i wr=>i=.int .i64 0∧wr=w) (fun _ _=>0)
  case atStart=>exact ⟨rfl,rfl⟩
  case round=>
   obtain ⟨rfl,rfl⟩:=hrel;go_wp2
   go_end0
   exact ⟨rfl,uO.cj (Ext.refl _)⟩
 ·have HB:=kI hb;clear hb;go_enter Tryz.func40,Tryz.ntmps40
  go_wp2_with fail;go_loopw [2] (fun i wr=>∃ (k:Nat) (ck:Array Value),k≤n∧i=.int .i64 k∧Gr (some g) w wr∧ck.size=cur.size∧af wr g ck 3) (fun i _=>n - (intOf i).toNat)
  case atStart=>exact ⟨0,cur,by omega,rfl,Gr.refl _ _,rfl,HB.o⟩
  case round=>
   obtain ⟨k,ck,hk,rfl,hgr,hck,hbk⟩:=hrel;by_cases hlt:k < n
   ·have c1:=hbk.cell k;rw [Array.getElem?_eq_getElem (by omega:k < ck.size)] at c1;have f1:=hbk.free;have l1:=hbk.lt;have q1:(0:Int)≤(k:Int):=Z
    have q2:(k:Int) < (n:Int):=Z
    obtain ⟨y,hy⟩:=gN (ck[k]);rw [← hy] at c1;obtain ⟨HG,HR,HK⟩:=cC hgr hbk hck;clear hgr hbk hck hy;go_wp2_with fail;go_roundw
    case rel=>exact ⟨k+1,ck.setIfInBounds k (.int .i64 77),by omega,by go_num,HG.o.set _ _,(Array.size_setIfInBounds).trans HK.o,HR.o.set k _⟩
    case measure=>simp [intOf];omega
   ·obtain ⟨HG,HC,HS⟩:=cC hgr hbk hck;clear hgr hbk hck;go_wp2
    go_end0
    refine ⟨rfl,⟨⟨HG.o.os,HG.o.tape,HG.o.output,HG.o.size,fun i hi=>by omega⟩,fun i hi ho=>HG.o.block i hi (fun e=>?_)⟩,fun g9 n9 ⟨c9,h9,uJ⟩=>?_⟩
    ·exact jRv
    ·by_cases e:g9=g
     ·subst e;have hg2:=HB.o;unfold af at hg2 h9;rw [hg2] at h9;injection h9 with h9
      injection h9 with h7 _
      exact ⟨ck,HC.o,by rw [HS.o,h7];exact uJ⟩
     ·exact ⟨c9,(HG.o.block g9 h9.lt (fun h=>e (by injection h with h;first|done|exact h.symm))).trans h9,uJ⟩
def CE (B:Nat) (w:World) (v:Value) (l:List (List Int)):Prop:=
 au 53 1 (fun W h y=>∃ a c,h=[.slice a y.length c]∧Ko W B (.slice a y.length c) y.length) B w v l
theorem bX.ov {l:List (List Int)} (h:bX B w v l):CE B w v l:=by
 obtain ⟨hs,h1,h2,h3,h4⟩:=h;exact ⟨hs,h1,h2,h3,fun i x hi=>by obtain ⟨h,e1,a,c,e2,e3⟩:=h4 i x hi;exact ⟨h,e1,a,c,e2,Ko.own e3⟩⟩
theorem CE.gr {l:List (List Int)} (h:CE B w v l) (g:uO C w w'):CE B w' v l:=by
 exact jKq
theorem rY (v:Value) (l:List (List Int)) (B:Nat) (w:World) (h:CE B w v l) (hs:∀ (i:Nat) (y:List Int),l[i]?=some y→y.length≤1000000) :
  Calls Tryz.prog 27 #[v] w fun e w'=>e=.returned (.tuple #[])∧uO B w w':=by
 have H:=kI h;have HS:=kI hs;obtain ⟨a,c,rfl,h1,h2,_⟩:=au.rh h;have hlb:l.length≤9223372036854775807:=Z
 clear h hs h1 h2;go_enter Tryz.func27,Tryz.ntmps27
 go_wp2_with fail;go_loopw [2] (fun i wr=>∃ k:Nat,k≤l.length∧i=.int .i64 k∧uO B w wr∧CE B wr (.slice a l.length c) l) (fun i _=>l.length - (intOf i).toNat)
 case atStart=>exact ⟨0,Nat.zero_le _,rfl,uO.cj (Ext.refl _),H.o⟩
 case round=>
  obtain ⟨wk,hwk⟩:=gN (wr);subst hwk;obtain ⟨k,hk,rfl,hgr,hrow⟩:=hrel;have HG:=kI hgr;have HR:=kI hrow;by_cases hlt:k < l.length
  ·obtain ⟨y,hy⟩:∃ y,l[k]?=some y:=⟨_,List.getElem?_eq_getElem hlt⟩;obtain ⟨a',cap,e1,_,_,hr⟩:=au.rh hrow;injection e1 with e1 e2 e3
   subst e1;clear e2 e3;obtain ⟨b,q,rfl,-,hb,-,hc,a1,c1,rfl,s1⟩:=hr k y hy;have z0:=hc 0 ah;have how:=Cz _ _ B wk s1 (by have:=HS.o k y hy;omega);exact kDj
  ·exact Xf
def zy (one three:RR):MD:=⟨one,[[⟨one,[((0:Int),one)]⟩,⟨three,[((1:Int),one)]⟩],[⟨zR,[((1:Int),one)]⟩]]⟩
def yg:MD:=zy (rep ((1:Int):Rat)) (rep ((3:Int):Rat))
theorem aO.sfS {r:RR} (h:aO w0 w (.agg #[.bool r.neg,.slice a1 r.num.length c1,.slice a2 r.den.length c2]) r) (hB:B≤w0.heap.size):gB B w (.slice a1 r.num.length c1) r.num∧gB B w (.slice a2 r.den.length c2) r.den:=by
 exact zPe
theorem Dg {t:Int} {r:RR} {ty:TypeId} (hb:af W b #[.int .i64 t,.bool r.neg,.slice a1 r.num.length c1,.slice a2 r.den.length c2] ty) (h:bH W (.agg #[.bool r.neg,.slice a1 r.num.length c1,.slice a2 r.den.length c2]) r):dD W (.slice (some ⟨b,0,none⟩) 1 1) [(t,r)]:=
 ⟨_,_,rfl,Nat.le_refl _,by decide,fun i hi=>by
  obtain rfl:i=0:=by simp at hi;omega
  exact ⟨b,0,a1,c1,a2,c2,rfl,hb.lt,hb.cell 0,hb.cell 1,hb.cell 2,hb.cell 3,h⟩⟩
theorem F7 {x:aL} {c3:Nat} {ty:TypeId} (hb:af W b #[.bool x.cost.neg,.slice a1 x.cost.num.length c1,.slice a2 x.cost.den.length c2,.slice a3 x.next.length c3] ty) (h:bH W (.agg #[.bool x.cost.neg,.slice a1 x.cost.num.length c1,.slice a2 x.cost.den.length c2]) x.cost) (g:dD W (.slice a3 x.next.length c3) x.next):fb W (.slice (some ⟨b,0,none⟩) 1 1) [x]:=
 ⟨_,_,rfl,Nat.le_refl _,by decide,fun i hi=>by
  obtain rfl:i=0:=by simp at hi;omega
  exact ⟨b,0,a1,c1,a2,c2,a3,c3,rfl,⟨hb.lt,hb.cell 0,hb.cell 1,hb.cell 2,h⟩,hb.cell 3,g⟩⟩
theorem F8 {x y:aL} {c3:Nat} {b1:Option Addr} {b2:Option Addr} {b3:Option Addr} {d3:Nat} {ty:TypeId} 
  (hb:af W b #[.bool x.cost.neg,.slice a1 x.cost.num.length c1,.slice a2 x.cost.den.length c2,.slice a3 x.next.length c3,.bool y.cost.neg,.slice b1 y.cost.num.length d1,.slice b2 y.cost.den.length d2,.slice b3 y.next.length d3] ty) (h:bH W (.agg #[.bool x.cost.neg,.slice a1 x.cost.num.length c1,.slice a2 x.cost.den.length c2]) x.cost) (g:dD W (.slice a3 x.next.length c3) x.next)
  (h2:bH W (.agg #[.bool y.cost.neg,.slice b1 y.cost.num.length d1,.slice b2 y.cost.den.length d2]) y.cost) (g2:dD W (.slice b3 y.next.length d3) y.next):fb W (.slice (some ⟨b,0,none⟩) 2 2) [x,y]:=
 ⟨_,_,rfl,Nat.le_refl _,by decide,fun i hi=>by
  match i,hi with
  | 0,_=>exact ⟨b,0,a1,c1,a2,c2,a3,c3,rfl,⟨hb.lt,hb.cell 0,hb.cell 1,hb.cell 2,h⟩,hb.cell 3,g⟩
  | 1,_=>exact ⟨b,0,b1,d1,b2,d2,b3,d3,rfl,⟨hb.lt,hb.cell 4,hb.cell 5,hb.cell 6,h2⟩,hb.cell 7,g2⟩⟩
theorem F9 {x y:List aL} {ty:TypeId} (hb:af W b #[.slice a1 x.length c1,.slice a2 y.length c2] ty) (h:fb W (.slice a1 x.length c1) x) (g:fb W (.slice a2 y.length c2) y):gh W (.slice (some ⟨b,0,none⟩) 2 2) [x,y]:=
 ⟨_,_,rfl,Nat.le_refl _,by decide,fun i hi=>by
  match i,hi with
  | 0,_=>exact ⟨b,0,a1,c1,rfl,hb.lt,hb.cell 0,h⟩
  | 1,_=>exact ⟨b,0,a2,c2,rfl,hb.lt,hb.cell 1,g⟩⟩
def smJ (one three:RR) (o1 o3:Option Addr) (o2 o4:Nat) (j:Nat) (v:Value) (W:World):Prop:=
 match j with
 | 0=>v=.agg #[.bool one.neg,.slice o1 one.num.length o2,.slice o3 one.den.length o4]
 | 1=>v=.agg #[.bool one.neg,.slice o1 one.num.length o2,.slice o3 one.den.length o4]
 | 2=>v=.agg #[.bool one.neg,.slice o1 one.num.length o2,.slice o3 one.den.length o4]
 | 3=>v=.agg #[.int .i64 0,.bool one.neg,.slice o1 one.num.length o2,.slice o3 one.den.length o4]
 | 4=>∀ W9,Keeps 0 28 W W9→dD W9 v [((0:Int),one)]
 | 5=>∀ W9,Keeps 0 28 W W9→ee W9 v ⟨one,[((0:Int),one)]⟩
 | 6=>∃ s1 s2 s3 s4,v=.agg #[.bool three.neg,.slice s1 three.num.length s2,.slice s3 three.den.length s4]∧∀ W9,Keeps 0 28 W W9→bH W9 (.agg #[.bool three.neg,.slice s1 three.num.length s2,.slice s3 three.den.length s4]) three
 | 7=>v=.agg #[.bool one.neg,.slice o1 one.num.length o2,.slice o3 one.den.length o4]
 | 8=>v=.agg #[.int .i64 1,.bool one.neg,.slice o1 one.num.length o2,.slice o3 one.den.length o4]
 | 9=>∀ W9,Keeps 0 28 W W9→dD W9 v [((1:Int),one)]
 | 10=>∀ W9,Keeps 0 28 W W9→ee W9 v ⟨three,[((1:Int),one)]⟩
 | 11=>∀ W9,Keeps 0 28 W W9→fb W9 v [⟨one,[((0:Int),one)]⟩,⟨three,[((1:Int),one)]⟩]
 | 12=>v=.agg #[.bool one.neg,.slice o1 one.num.length o2,.slice o3 one.den.length o4]
 | 13=>v=.agg #[.int .i64 1,.bool one.neg,.slice o1 one.num.length o2,.slice o3 one.den.length o4]
 | 14=>∀ W9,Keeps 0 28 W W9→dD W9 v [((1:Int),one)]
 | 15=>∀ W9,Keeps 0 28 W W9→ee W9 v ⟨zR,[((1:Int),one)]⟩
 | 16=>∀ W9,Keeps 0 28 W W9→fb W9 v [⟨zR,[((1:Int),one)]⟩]
 | 17=>∀ W9,Keeps 0 28 W W9→gh W9 v [[⟨one,[((0:Int),one)]⟩,⟨three,[((1:Int),one)]⟩],[⟨zR,[((1:Int),one)]⟩]]
 | 18=>∀ W9,Keeps 0 28 W W9→dd W9 v (zy one three)
 | _=>True
theorem Jk {one three:RR} {o1 o3:Option Addr} {o2 o4:Nat} (h:smJ one three o1 o3 o2 o4 j v W) (x:Ext W W'):smJ one three o1 o3 o2 o4 j v W':=by
 match j,h with
 | 0,h=>exact h
 | 1,h=>exact h
 | 2,h=>exact h
 | 3,h=>exact h
 | 4,h=>exact fun W9 k=>h W9 ((Keeps.ext x).trans k)
 | 5,h=>exact fun W9 k=>h W9 ((Keeps.ext x).trans k)
 | 6,⟨s1,s2,s3,s4,h1,h2⟩=>exact ⟨s1,s2,s3,s4,h1,fun W9 k=>h2 W9 ((Keeps.ext x).trans k)⟩
 | 7,h=>exact h
 | 8,h=>exact h
 | 9,h=>exact fun W9 k=>h W9 ((Keeps.ext x).trans k)
 | 10,h=>exact fun W9 k=>h W9 ((Keeps.ext x).trans k)
 | 11,h=>exact fun W9 k=>h W9 ((Keeps.ext x).trans k)
 | 12,h=>exact h
 | 13,h=>exact h
 | 14,h=>exact fun W9 k=>h W9 ((Keeps.ext x).trans k)
 | 15,h=>exact fun W9 k=>h W9 ((Keeps.ext x).trans k)
 | 16,h=>exact fun W9 k=>h W9 ((Keeps.ext x).trans k)
 | 17,h=>exact fun W9 k=>h W9 ((Keeps.ext x).trans k)
 | 18,h=>exact fun W9 k=>h W9 ((Keeps.ext x).trans k)
 | _+19,_=>trivial
theorem j8 (w:World) :
  Calls Tryz.prog 59 #[] w fun e w'=>(∃ v,e=.returned v∧dd w' v yg)∧Ext w w':=by
 have bb0:=(af.new w #[.bool false,.slice none 0 0,.slice none 0 0,.slice none 0 0] 28);have x0:Ext w (w.alloc (.cells #[.bool false,.slice none 0 0,.slice none 0 0,.slice none 0 0] 28)):=((Ext.refl w).alloc _);have A0:=kI bb0;have X:=kI x0;clear x0 bb0;go_enter Tryz.func59,Tryz.ntmps59
 go_wp2_with fail;refine (il 1 _ ah ah).mono ?_;rintro e w1 ⟨⟨v,rfl,nn⟩,hx⟩;obtain ⟨one,hone⟩:=gN (rep ((1:Int):Rat));rw [← hone] at nn;have ys:=kI hone;obtain ⟨o1,o2,o3,o4,rfl⟩:=nn.shape;obtain ⟨hs1,hs2⟩:=nn.sfS (B:=0) (Nat.zero_le _);have ORK:Hid (∀ W9,Keeps 0 28 w1 W9→bH W9 (.agg #[.bool one.neg,.slice o1 one.num.length o2,.slice o3 one.den.length o4]) one):=kI (fun W9 k=>⟨_,_,rfl,(hs1.keeps k ah).rd,(hs2.keeps k ah).rd⟩);revert A0 X;refine lf hx ?_;intro A0 X;clear nn hx hone hs1 hs2;go_wp2_with fail;obtain ⟨bo,Kn⟩:=gN (w1.heap.size);obtain ⟨w2,hw2⟩:=gN (w1.alloc (.cells #[.bool one.neg,.slice o1 one.num.length o2,.slice o3 one.den.length o4] 25));have hx:Ext w1 w2:=by rw [hw2];exact (Ext.refl _).alloc _
 have hb:af w2 bo #[.bool one.neg,.slice o1 one.num.length o2,.slice o3 one.den.length o4] 25:=by rw [hw2,Kn];exact af.new _ _ _
 rw [← Kn,← hw2];have OR:=kI (fun W9 (k:Keeps 0 28 w2 W9)=>ORK.o W9 ((Keeps.ext hx).trans k));have BY:=kI hb;obtain ⟨three,zA⟩:=gN (rep ((3:Int):Rat));have MR:=kI zA;have hc3:=fun W=>il 3 W ah ah;simp only [← zA] at hc3;have Us:=kI hc3;revert A0 X;refine lf hx ?_;intro A0 X;clear hw2 Kn hx hb zA hc3;refine bE 19 (smJ one three o1 o3 o2 o4) ak ak ak (fun _ _ _ _ h x=>Jk h x) ?_ ?_
 ·refine ⟨?_,?_,?_,?_,?_,?_,?_,?_,?_,?_,?_,?_,?_,?_,?_,?_,?_,?_,?_,trivial⟩
  ·exact Pq
  ·exact Pq
  ·exact Pq
  ·intro a W hW hB hD K hK;obtain ⟨v5,e5,h5⟩:=aQ (hD 2 _ 5 rfl rfl ak);obtain rfl:=h5;exact fu
  ·intro a W hW hB hD K hK;obtain ⟨v6,e6,h6⟩:=aQ (hD 3 _ 6 rfl rfl ak);obtain rfl:=h6;exact Wx
  ·intro a W hW hB hD K hK;obtain ⟨v4,e4,h4⟩:=aQ (hD 1 _ 4 rfl rfl ak);obtain rfl:=h4;obtain ⟨v7,e7,h7⟩:=aQ (hD 4 _ 7 rfl rfl ak);have hh:=h7 W (Keeps.ext (Ext.refl W));obtain ⟨a9,c9,rfl,l9,m9,r9⟩:=hh;have h7':∀ W9,Keeps 0 28 W W9→dD W9 (.slice a9 1 c9) [((0:Int),one)]:=h7;go_simp;exact hK _ _ (Ext.refl _) (fun W9 k=>⟨_,_,_,_,_,_,rfl,(OR.o W9 ((Keeps.ext hW).trans k)),h7' W9 k⟩)
  ·intro a W hW hB hD K hK;go_simp;refine (Us.o _).mono ?_;rintro e w9 ⟨⟨v,rfl,nn⟩,hx⟩;obtain ⟨s1,s2,s3,s4,rfl⟩:=nn.shape;obtain ⟨hs1,hs2⟩:=nn.sfS (B:=0) (Nat.zero_le _);exact hK _ _ hx ⟨_,_,_,_,rfl,fun W9 k=>⟨_,_,rfl,(hs1.keeps k ah).rd,(hs2.keeps k ah).rd⟩⟩
  ·exact Pq
  ·intro a W hW hB hD K hK;obtain ⟨v10,e10,h10⟩:=aQ (hD 7 _ 10 rfl rfl ak);obtain rfl:=h10;exact fu
  ·intro a W hW hB hD K hK;obtain ⟨v11,e11,h11⟩:=aQ (hD 8 _ 11 rfl rfl ak);obtain rfl:=h11;exact Wx
  ·intro a W hW hB hD K hK;obtain ⟨v9,e9,h9⟩:=aQ (hD 6 _ 9 rfl rfl ak);obtain ⟨s1,s2,s3,s4,rfl,h2⟩:=h9;obtain ⟨v12,e12,h12⟩:=aQ (hD 9 _ 12 rfl rfl ak);have hh:=h12 W (Keeps.ext (Ext.refl W));obtain ⟨a9,c9,rfl,l9,m9,r9⟩:=hh;have ac4:∀ W9,Keeps 0 28 W W9→dD W9 (.slice a9 1 c9) [((1:Int),one)]:=h12;go_simp;exact hK _ _ (Ext.refl _) (fun W9 k=>⟨_,_,_,_,_,_,rfl,h2 W9 k,ac4 W9 k⟩)
  ·intro a W hW hB hD K hK;obtain ⟨v8,e8,h8⟩:=aQ (hD 5 _ 8 rfl rfl ak);obtain ⟨v13,e13,h13⟩:=aQ (hD 10 _ 13 rfl rfl ak);have hh8:=h8 W (Keeps.ext (Ext.refl W));obtain ⟨x81,x82,x83,x84,x85,x86,rfl,-,-⟩:=hh8;have g8:∀ W9,Keeps 0 28 W W9→bH W9 (.agg #[.bool (⟨one,[((0:Int),one)]⟩:aL).cost.neg,.slice x81 (⟨one,[((0:Int),one)]⟩:aL).cost.num.length x82,.slice x83 (⟨one,[((0:Int),one)]⟩:aL).cost.den.length x84]) (⟨one,[((0:Int),one)]⟩:aL).cost∧dD W9 (.slice x85 (⟨one,[((0:Int),one)]⟩:aL).next.length x86) (⟨one,[((0:Int),one)]⟩:aL).next:=fun W9 k=>by
    obtain ⟨_,_,_,_,_,_,e,f1,f2⟩:=h8 W9 k;exact WB
   have ac5:=h13 W (Keeps.ext (Ext.refl W));obtain ⟨ac6,ac7,ac8,ac9,ad0,ad1,rfl,-,-⟩:=ac5;have g13:∀ W9,Keeps 0 28 W W9→bH W9 (.agg #[.bool (⟨three,[((1:Int),one)]⟩:aL).cost.neg,.slice ac6 (⟨three,[((1:Int),one)]⟩:aL).cost.num.length ac7,.slice ac8 (⟨three,[((1:Int),one)]⟩:aL).cost.den.length ac9]) (⟨three,[((1:Int),one)]⟩:aL).cost∧dD W9 (.slice ad0 (⟨three,[((1:Int),one)]⟩:aL).next.length ad1) (⟨three,[((1:Int),one)]⟩:aL).next:=fun W9 k=>by
    obtain ⟨_,_,_,_,_,_,e,f1,f2⟩:=h13 W9 k;exact WB
   go_simp;refine hK _ _ ((Ext.refl _).alloc _) (fun W9 k=>?_);have kk:=(Keeps.ext ((Ext.refl W).alloc _)).trans k;have bb:=(af.new W _ _).keeps k ah;exact F8 (x:=⟨one,[((0:Int),one)]⟩) (y:=⟨three,[((1:Int),one)]⟩) bb (g8 W9 kk).1 (g8 W9 kk).2 (g13 W9 kk).1 (g13 W9 kk).2
  ·exact Pq
  ·intro a W hW hB hD K hK;obtain ⟨v15,e15,h15⟩:=aQ (hD 12 _ 15 rfl rfl ak);obtain rfl:=h15;exact fu
  ·intro a W hW hB hD K hK;obtain ⟨v16,e16,h16⟩:=aQ (hD 13 _ 16 rfl rfl ak);obtain rfl:=h16;exact Wx
  ·intro a W hW hB hD K hK;obtain ⟨v17,e17,h17⟩:=aQ (hD 14 _ 17 rfl rfl ak);have hh:=h17 W (Keeps.ext (Ext.refl W));obtain ⟨a9,c9,rfl,l9,m9,r9⟩:=hh;have ad2:∀ W9,Keeps 0 28 W W9→dD W9 (.slice a9 1 c9) [((1:Int),one)]:=h17;go_simp;exact hK _ _ (Ext.refl _) (fun W9 k=>⟨_,_,_,_,_,_,rfl,aO.rd (aO.zero W9 W9),ad2 W9 k⟩)
  ·intro a W hW hB hD K hK;obtain ⟨v18,e18,h18⟩:=aQ (hD 15 _ 18 rfl rfl ak);have ad3:=h18 W (Keeps.ext (Ext.refl W));obtain ⟨ad4,ad5,ad6,ad7,ad8,ad9,rfl,-,-⟩:=ad3;have g18:∀ W9,Keeps 0 28 W W9→bH W9 (.agg #[.bool (⟨zR,[((1:Int),one)]⟩:aL).cost.neg,.slice ad4 (⟨zR,[((1:Int),one)]⟩:aL).cost.num.length ad5,.slice ad6 (⟨zR,[((1:Int),one)]⟩:aL).cost.den.length ad7]) (⟨zR,[((1:Int),one)]⟩:aL).cost∧dD W9 (.slice ad8 (⟨zR,[((1:Int),one)]⟩:aL).next.length ad9) (⟨zR,[((1:Int),one)]⟩:aL).next:=fun W9 k=>by
    obtain ⟨_,_,_,_,_,_,e,f1,f2⟩:=h18 W9 k;exact WB
   go_simp;refine hK _ _ ((Ext.refl _).alloc _) (fun W9 k=>?_);have kk:=(Keeps.ext ((Ext.refl W).alloc _)).trans k;have bb:=(af.new W _ _).keeps k ah;exact F7 (x:=⟨zR,[((1:Int),one)]⟩) bb (g18 W9 kk).1 (g18 W9 kk).2
  ·intro a W hW hB hD K hK;obtain ⟨v14,e14,zW⟩:=aQ (hD 11 _ 14 rfl rfl ak);obtain ⟨v19,e19,h19⟩:=aQ (hD 16 _ 19 rfl rfl ak);have hh:=zW W (Keeps.ext (Ext.refl W));obtain ⟨a9,c9,rfl,-,-,-⟩:=hh;have hh:=h19 W (Keeps.ext (Ext.refl W));obtain ⟨b9,d9,rfl,-,-,-⟩:=hh;have k1:∀ W9,Keeps 0 28 W W9→fb W9 (.slice a9 2 c9) [⟨one,[((0:Int),one)]⟩,⟨three,[((1:Int),one)]⟩]:=zW;have k2:∀ W9,Keeps 0 28 W W9→fb W9 (.slice b9 1 d9) [⟨zR,[((1:Int),one)]⟩]:=h19;go_simp;refine hK _ _ ((Ext.refl _).alloc _) (fun W9 k=>?_);have kk:=(Keeps.ext ((Ext.refl W).alloc _)).trans k;have bb:=(af.new W _ _).keeps k ah;exact F9 (x:=[⟨one,[((0:Int),one)]⟩,⟨three,[((1:Int),one)]⟩]) (y:=[⟨zR,[((1:Int),one)]⟩]) bb (k1 W9 kk) (k2 W9 kk)
  ·intro a W hW hB hD K hK;obtain ⟨v3,e3,h3⟩:=aQ (hD 0 _ 3 rfl rfl ak);obtain rfl:=h3;obtain ⟨v20,e20,h20⟩:=aQ (hD 17 _ 20 rfl rfl ak);have hh:=h20 W (Keeps.ext (Ext.refl W));obtain ⟨a9,c9,rfl,-,-,-⟩:=hh;have k1:∀ W9,Keeps 0 28 W W9→gh W9 (.slice a9 2 c9) [[⟨one,[((0:Int),one)]⟩,⟨three,[((1:Int),one)]⟩],[⟨zR,[((1:Int),one)]⟩]]:=h20;go_simp;exact hK _ _ (Ext.refl _) (fun W9 k=>⟨_,_,_,_,_,_,rfl,(OR.o W9 ((Keeps.ext hW).trans k)),k1 W9 k⟩)
 intro w9 hx;simp only [dR,List.take_succ_cons,List.take_zero,List.drop_succ_cons,List.drop_zero];rintro u0 - u1 - u2 - u3 - u4 - u5 - u6 - u7 - u8 - u9 - u10 - u11 - u12 - u13 - u14 - u15 - u16 - u17 - u18 h18;obtain ⟨e1,e2,e3,e4,e5,e6,rfl,-,-⟩:=h18 w9 (Keeps.ext (Ext.refl w9));simp only [Act.put,List.setIfInBounds_toArray,List.set_cons_zero,List.set_cons_succ];have G1:=kI h18;revert A0 X;refine lf hx ?_;intro A0 X;clear hx h18;obtain ⟨aK,fA0,aJ⟩:=A0.o.q3;go_wp2_with fail;clear aK fA0 aJ;obtain ⟨wf,hwf⟩:=gN ((((w9.setCell ⟨w.heap.size,0,none⟩ (.bool (zy one three).ag.neg)).setCell ⟨w.heap.size,1,none⟩ (.slice e1 (zy one three).ag.num.length e2)).setCell ⟨w.heap.size,2,none⟩ (.slice e3 (zy one three).ag.den.length e4)).setCell ⟨w.heap.size,3,none⟩ (.slice e5 (zy one three).states.length e6));have hk:Keeps 0 28 w9 wf:=by
  rw [hwf];exact (((aB A0.o 0 _).trans (aB (A0.o.set 0 _) 1 _)).trans (aB ((A0.o.set 0 _).set 1 _) 2 _)).trans (aB (((A0.o.set 0 _).set 1 _).set 2 _) 3 _)
 have hbf:af wf w.heap.size #[.bool (zy one three).ag.neg,.slice e1 (zy one three).ag.num.length e2,.slice e3 (zy one three).ag.den.length e4,.slice e5 (zy one three).states.length e6] 28:=by rw [hwf];exact (((A0.o.set 0 _).set 1 _).set 2 _).set 3 _
 have rg:Ext w wf:=by
  rw [hwf];exact Below.setCell (Below.setCell (Below.setCell (Below.setCell X.o (Nat.le_refl _) _) (Nat.le_refl _) _) (Nat.le_refl _) _) (Nat.le_refl _) _
 have hrd:=G1.o wf hk;rw [← hwf];clear hwf;have hsm:yg=zy one three:=by unfold yg;rw [ys.o,MR.o]
 rw [hsm];have c0:=hbf.cell 0;have c1:=hbf.cell 1;have c2:=hbf.cell 2;have c3:=hbf.cell 3;have lf:=hbf.lt;simp only [List.getElem?_toArray,List.getElem?_cons_zero,List.getElem?_cons_succ] at c0 c1 c2 c3;refine bodyPost_ret (v:=.agg #[.bool (zy one three).ag.neg,.slice e1 (zy one three).ag.num.length e2,.slice e3 (zy one three).ag.den.length e4,.slice e5 (zy one three).states.length e6]) (by simp only [results,Tryz.results59];go_simp) rfl ?_;exact ⟨⟨_,rfl,hrd⟩,rg⟩
abbrev zB (An:Nat):Deferred:={ target:=.fn (.func 77) #[.pointer (some ⟨An+1+1,0,none⟩),.pointer (some ⟨An+1,0,none⟩)],args:=#[] }
def Jl (tmps:Array Value) (An:Nat):Prop:=tmps.getD 4 undef=.pointer (some ⟨An+1,0,none⟩)∧tmps.getD 5 undef=.pointer (some ⟨An+1+1,0,none⟩)
theorem nz (h:Jl tmps An) {W:World} {xa:Option Addr} {xn xc:Nat} {c:Int} {t1 t2:TypeId} (b1:af W (An+1) #[.slice xa xn xc] t1) (b2:af W (An+1+1) #[.int .i64 c] t2) :
  (results Tryz.f20 tmps).run Tryz.prog W=.ok (.tuple #[.slice xa xn xc,.int .i64 c]) W:=by
 obtain ⟨h6,h7⟩:=h;have k1:=b1.cell 0;have k2:=b2.cell 0;simp only [List.getElem?_toArray,List.getElem?_cons_zero] at k1 k2;have l1:=b1.lt;have l2:=b2.lt;simp only [Array.getD_eq_getD_getElem?] at h6 h7;simp only [results,Tryz.results20];simp [h6,h7,go_sem,k1,k2]
theorem kF {mm:MD} {vals:List RR} {e0:Int} (hc:c≠0) {tmps:Array Value} (ht:Jl tmps An) {x1:Value} {t1:TypeId} (b1:af W (An+1) #[x1] t1) (b3:af W (An+1+1) #[.int .i64 e0] 37) (hx:Ext w W) (hA:w.heap.size≤An) (he:bT mm vals=([],c)) :
  Leaves Tryz.prog Tryz.f20 tmps (fun e w'=>kj w w' e (bT mm vals)∧Ext w w') [zB An] (.panicking [dC c]) W:=by
 refine leaves_cons (f:=77) (args:=#[.pointer (some ⟨An+1+1,0,none⟩),.pointer (some ⟨An+1,0,none⟩)]) dc Gm ?_;refine (rG (An+1+1) (An+1) c e0 hc [] W _ _ b3 b1 Z).mono ?_;rintro e u' w'' ⟨rfl,rfl,rfl⟩;obtain ⟨wf,hwf⟩:=gN ((W.setCell ⟨An+1+1,0,none⟩ (.int .i64 c)).setCell ⟨An+1,0,none⟩ (.slice none 0 0));have f1:af wf (An+1) #[.slice none 0 0] t1:=by
  exact qFp
 have f3:af wf (An+1+1) #[.int .i64 c] 37:=by
  exact kSr
 have rg:Ext w wf:=by
  exact kKl
 rw [← hwf];clear hwf;have hr:=nz ht f1.drew f3.drew;simp only [Leaves,settle,dC];exact ⟨_,hr,kj.mk (bA.nil _ _) he,rg.drew⟩
theorem rZ {mm:MD} {vals:List RR} (ht:Jl tmps An) {xa:Option Addr} {xn xc:Nat} {g:List (List RR)} (b1:af W (An+1) #[.slice xa xn xc] 36) (b3:af W (An+1+1) #[.int .i64 0] 37) (hx:Ext w W) (hA:w.heap.size≤An)
  (ov:bA w.heap.size W (.slice xa xn xc) g) (he:bT mm vals=(g,0)) :
  Leaves Tryz.prog Tryz.f20 tmps (fun e w'=>kj w w' e (bT mm vals)∧Ext w w') [zB An] .returning W:=by
 refine leaves_cons (f:=77) (args:=#[.pointer (some ⟨An+1+1,0,none⟩),.pointer (some ⟨An+1,0,none⟩)]) dc Gm ?_;refine (rF (An+1+1) (An+1) W b3).mono ?_;rintro e u' w'' ⟨rfl,rfl,rfl⟩;obtain ⟨wf,hwf⟩:=gN (W.setCell ⟨An+1+1,0,none⟩ (.int .i64 0));have hk:Keeps 0 37 W wf:=by rw [hwf];exact aB b3 0 _
 have f1:=b1.keeps hk ah;have f3:af wf (An+1+1) #[.int .i64 0] 37:=by rw [hwf];exact b3.set 0 (.int .i64 0)
 have rg:Ext w wf:=by rw [hwf];exact Below.setCell hx aD _
 have SH:=bA.ext' (ov.keeps hk ah ah ah) (Ext.refl wf).drew;rw [← hwf];clear hwf;have hr:=nz ht f1.drew f3.drew;simp only [Leaves,settle];exact ⟨_,hr,kj.mk SH he,rg.drew⟩
def MS (A:Nat) (mv lv sv av xv:Value) (k:Nat) (a:Nat) (sb so ab ao:Nat) (r:RR) (e:Int) (wB:World) (j:Nat) (v:Value) (W:World):Prop:=
 match j with
 | 0=>v=mv
 | 1=>v=lv
 | 2=>v=.pointer (some ⟨A,3,none⟩)
 | 3=>v=sv
 | 4=>v=.int .i64 (k:Nat)
 | 5=>v=.pointer (some ⟨sb,so+k,none⟩)
 | 6=>v=av
 | 7=>v=.int .i64 (a:Nat)
 | 8=>v=.pointer (some ⟨ab,ao+a*4,none⟩)
 | 9=>v=xv
 | 10=>∃ s1 s2 s3 s4,v=.tuple #[.agg #[.bool r.neg,.slice s1 r.num.length s2,.slice s3 r.den.length s4],.int .i64 e]∧aO wB W (.agg #[.bool r.neg,.slice s1 r.num.length s2,.slice s3 r.den.length s4]) r
 | 11=>∃ s1 s2 s3 s4,v=.agg #[.bool r.neg,.slice s1 r.num.length s2,.slice s3 r.den.length s4]∧aO wB W (.agg #[.bool r.neg,.slice s1 r.num.length s2,.slice s3 r.den.length s4]) r
 | 12=>v=.int .i64 e
 | _=>True
theorem Ga {A:Nat} {mv sv av xv:Value} {a:Nat} {sb so ab ao:Nat} {r:RR} {e:Int} (h:MS A mv lv sv av xv k a sb so ab ao r e wB j v W) (x:Ext W W'):MS A mv lv sv av xv k a sb so ab ao r e wB j v W':=by
 match j,h with
 | 0,h=>exact h
 | 1,h=>exact h
 | 2,h=>exact h
 | 3,h=>exact h
 | 4,h=>exact h
 | 5,h=>exact h
 | 6,h=>exact h
 | 7,h=>exact h
 | 8,h=>exact h
 | 9,h=>exact h
 | 10,⟨s1,s2,s3,s4,h1,h2⟩=>exact ⟨s1,s2,s3,s4,h1,h2.ext x⟩
 | 11,⟨s1,s2,s3,s4,h1,h2⟩=>exact ⟨s1,s2,s3,s4,h1,h2.ext x⟩
 | 12,h=>exact h
 | _+13,_=>trivial
theorem xQ (mv vv:Value) (m:MD) (vals:List RR) (k ia:Nat) (w:World) (hm:dd w mv m) (hv:aT w vv vals) (hlm:eG m) (hlv:bQ vals) (hE:cJ m vals=0) (hks:k < m.states.length) (hia:ia < (m.states.getD k []).length) :
  Calls Tryz.prog 137 #[mv,vv,.int .i64 (k:Nat),.int .i64 (ia:Nat)] w fun e w'=>bG w w' e (aC m vals (m.act k ia))∧Ext w w':=by
 have hck:=fun W mv vv (h:dd W mv m) (k:aT W vv vals)=>iF mv vv m vals W h k hlm;have hsc:=fun W mv vv xv (h:dd W mv m) (g:aT W vv vals) (hx:ee W xv (m.act k ia))=>jC mv vv xv m vals k ia W h g hx hlm hlv hE hks hia;have HM:=kI hm;have HV:=kI hv;obtain ⟨m1,n1,m2,n2,m3,n3,rfl,hmd,hst⟩:=hm;have hsl:m.states.length≤9223372036854775807:=by obtain ⟨_,_,_,h⟩:=hst.shape;exact h
 obtain ⟨av,cv,rfl,rA,hvm,fv,hvf⟩:=hv.get;have hvl:vals.length≤9223372036854775807:=by omega
 obtain ⟨sb,so,ai,ci,rfl,t0,t1,t2⟩:=hst.at hks;have hact:m.act k ia=(m.states.getD k []).getD ia dA:=rfl;obtain ⟨ac,hac⟩:=gN (m.states.getD k []);rw [← hac] at t1 t2 hact hia;have hal:ac.length≤9223372036854775807:=by obtain ⟨_,_,_,h⟩:=t2.shape;exact h
 obtain ⟨ab,ao,p1,e1,p2,e2,p3,e3,rfl,zz⟩:=t2.at hia;have hrd:=zz.rd;obtain ⟨⟨y0,y1,y2,y3,-⟩,y4,-⟩:=zz;obtain ⟨x,hxx⟩:=gN (m.act k ia);rw [← hxx] at hact hsc ⊢;rw [← hact] at y1 y2 y3 y4 hrd;obtain ⟨R,hR⟩:=gN (aC m vals x);rw [← hR] at hsc ⊢;obtain ⟨r,e⟩:=R;unfold bG at hsc ⊢;dsimp only at hsc ⊢;obtain ⟨HE,gY,yv,RX⟩:=dW hE hck hsc hrd;have g1:(0:Int)≤(k:Int):=by omega
 have g2:(k:Int) < (m.states.length:Int):=by omega
 have g3:(0:Int)≤(ia:Int):=by omega
 have g4:(ia:Int) < (ac.length:Int):=by omega
 have g5:decide ((k:Int) < 0)=false:=decide_eq_false Z;have g6:decide ((m.states.length:Int)≤(k:Int))=false:=decide_eq_false Z;have g7:decide ((ia:Int) < 0)=false:=decide_eq_false Z;have g8:decide ((ac.length:Int)≤(ia:Int))=false:=decide_eq_false Z;clear hv hmd hst rA hvm fv hvf t2 hrd hact hac hxx hR hsc hck hlm hlv hE;have bb0:=((af.new w #[.bool m.ag.neg,.slice m1 m.ag.num.length n1,.slice m2 m.ag.den.length n2,.slice (some ⟨sb,so,none⟩) m.states.length n3] 28).alloc (.cells #[.bool false,.slice none 0 0,.slice none 0 0] 25));have bb1:=(af.new (w.alloc (.cells #[.bool m.ag.neg,.slice m1 m.ag.num.length n1,.slice m2 m.ag.den.length n2,.slice (some ⟨sb,so,none⟩) m.states.length n3] 28)) #[.bool false,.slice none 0 0,.slice none 0 0] 25);rw [World.size_alloc] at bb1;have x0:Ext w ((w.alloc (.cells #[.bool m.ag.neg,.slice m1 m.ag.num.length n1,.slice m2 m.ag.den.length n2,.slice (some ⟨sb,so,none⟩) m.states.length n3] 28)).alloc (.cells #[.bool false,.slice none 0 0,.slice none 0 0] 25)):=(((Ext.refl w).alloc _).alloc _);obtain ⟨A0,A1,X⟩:=cC bb0 bb1 x0;clear x0 bb0 bb1;replace HM:=kI (HM.o.ext X.o);replace HV:=kI (HV.o.ext X.o);replace RX:=kI (RX.o.ext X.o);obtain ⟨ws,hws⟩:=gN (w);go_enter Tryz.func137,Tryz.ntmps137
 obtain ⟨aK,fA0,aJ⟩:=A0.o.q3;go_wp2_with fail;refine (gY.o _ _ _ HM.o HV.o).mono ?_;rintro e w1 ⟨rfl,hx⟩;clear aK fA0 aJ;replace HM:=HM.x hx;replace HV:=HV.x hx;replace RX:=RX.x hx;replace A0:=A0.x hx;replace A1:=A1.x hx;replace X:=X.x hx;have XW1:=kI X.o;clear hx gY;rw [HE.o];have t0':=Nat.lt_of_lt_of_le t0 X.o.size;have t1':=(X.o.cell (p:=⟨sb,so+k,none⟩) t0).trans t1;have z0:=Nat.lt_of_lt_of_le y0 X.o.size;have z1:=(X.o.cell (p:=⟨ab,ao+ia*4,none⟩) y0).trans y1;have z2:=(X.o.cell (p:=⟨ab,ao+ia*4+1,none⟩) y0).trans y2;have z3:=(X.o.cell (p:=⟨ab,ao+ia*4+2,none⟩) y0).trans y3;have z4:=(X.o.cell (p:=⟨ab,ao+ia*4+3,none⟩) y0).trans y4;clear t0 t1 y0 y1 y2 y3 y4;obtain ⟨An,hAn⟩:=gN (w.heap.size);rw [← hAn] at A0 A1 ⊢;have WA:Hid (w.heap.size≤An):=kI PG;clear hws hAn;obtain ⟨aK,fA0,aJ⟩:=A0.o.q3;go_wp2_with fail;clear aK fA0 aJ;have wkE:=kI (Eq.refl w1);refine bE 13 (MS An (.agg #[.bool m.ag.neg,.slice m1 m.ag.num.length n1,.slice m2 m.ag.den.length n2,.slice (some ⟨sb,so,none⟩) m.states.length n3]) (.slice av vals.length cv) (.slice (some ⟨sb,so,none⟩) m.states.length n3) (.slice (some ⟨ab,ao,none⟩) ac.length ci) (.agg #[.bool x.cost.neg,.slice p1 x.cost.num.length e1,.slice p2 x.cost.den.length e2,.slice p3 x.next.length e3]) k ia sb so ab ao r e w1) ak ak ak (fun _ _ _ _ h x=>Ga h x) ?_ ?_
 ·refine ⟨?_,?_,?_,?_,?_,?_,?_,?_,?_,?_,?_,?_,?_,trivial⟩
  ·intro a W hW hB hD K hK;have b4:=hB 4 rfl;simp only [sB] at b4;have q9:=(A0.o.ext hW).cell;have l9:=(A0.o.ext hW).lt;go_simp;exact hK _ _ (Ext.refl _) rfl
  ·intro a W hW hB hD K hK;have b1:=hB 1 rfl;simp only [sB] at b1;go_simp;exact hK _ _ (Ext.refl _) rfl
  ·intro a W hW hB hD K hK;have b4:=hB 4 rfl;simp only [sB] at b4;go_simp;exact hK _ _ (Ext.refl _) rfl
  ·intro a W hW hB hD K hK;obtain ⟨v46,e46,h46⟩:=aQ (hD 2 _ 46 rfl rfl ak);obtain rfl:=h46;have q9:=(A0.o.ext hW).cell;have l9:=(A0.o.ext hW).lt;go_simp;exact hK _ _ (Ext.refl _) rfl
  ·intro a W hW hB hD K hK;have b2:=hB 2 rfl;simp only [sB] at b2;go_simp;exact hK _ _ (Ext.refl _) rfl
  ·intro a W hW hB hD K hK;obtain ⟨v47,e47,h47⟩:=aQ (hD 3 _ 47 rfl rfl ak);obtain rfl:=h47;obtain ⟨v48,e48,h48⟩:=aQ (hD 4 _ 48 rfl rfl ak);obtain rfl:=h48;go_simp;exact hK _ _ (Ext.refl _) rfl
  ·intro a W hW hB hD K hK;obtain ⟨v49,e49,Gt⟩:=aQ (hD 5 _ 49 rfl rfl ak);obtain rfl:=Gt;have q9:=(hW.cell (p:=⟨sb,so+k,none⟩) t0').trans t1';have l9:=Nat.lt_of_lt_of_le t0' hW.size;go_simp;exact hK _ _ (Ext.refl _) rfl
  ·intro a W hW hB hD K hK;have b3:=hB 3 rfl;simp only [sB] at b3;go_simp;exact hK _ _ (Ext.refl _) rfl
  ·intro a W hW hB hD K hK;obtain ⟨v50,e50,h50⟩:=aQ (hD 6 _ 50 rfl rfl ak);obtain rfl:=h50;obtain ⟨v51,e51,Q8⟩:=aQ (hD 7 _ 51 rfl rfl ak);obtain rfl:=Q8;go_simp;exact hK _ _ (Ext.refl _) rfl
  ·intro a W hW hB hD K hK;obtain ⟨v52,e52,Q9⟩:=aQ (hD 8 _ 52 rfl rfl ak);obtain rfl:=Q9;have k1:=(hW.cell (p:=⟨ab,ao+ia*4,none⟩) z0).trans z1;have k2:=(hW.cell (p:=⟨ab,ao+ia*4+1,none⟩) z0).trans z2;have k3:=(hW.cell (p:=⟨ab,ao+ia*4+2,none⟩) z0).trans z3;have k4:=(hW.cell (p:=⟨ab,ao+ia*4+3,none⟩) z0).trans z4;have l9:=Nat.lt_of_lt_of_le z0 hW.size;go_simp;exact hK _ _ (Ext.refl _) rfl
  ·intro a W hW hB hD K hK;obtain ⟨v44,e44,h44⟩:=aQ (hD 0 _ 44 rfl rfl ak);obtain rfl:=h44;obtain ⟨v45,e45,h45⟩:=aQ (hD 1 _ 45 rfl rfl ak);obtain rfl:=h45;obtain ⟨v53,e53,Ra⟩:=aQ (hD 9 _ 53 rfl rfl ak);obtain rfl:=Ra;go_simp;refine (yv.o _ _ _ _ (HM.o.ext hW) (HV.o.ext hW) (RX.o.ext hW)).mono ?_;rintro e9 w9 ⟨⟨v,rfl,nn⟩,hx⟩;obtain ⟨s1,s2,s3,s4,rfl⟩:=nn.shape;exact hK _ _ hx ⟨_,_,_,_,rfl,nn.from hW⟩
  ·intro a W hW hB hD K hK;obtain ⟨v54,e54,LF⟩:=aQ (hD 10 _ 54 rfl rfl ak);obtain ⟨s1,s2,s3,s4,rfl,hn⟩:=LF;go_simp;exact hK _ _ (Ext.refl _) ⟨_,_,_,_,rfl,hn⟩
  ·intro a W hW hB hD K hK;obtain ⟨v54,e54,LF⟩:=aQ (hD 10 _ 54 rfl rfl ak);obtain ⟨s1,s2,s3,s4,rfl,hn⟩:=LF;go_simp;exact hK _ _ (Ext.refl _) rfl
 intro w9 hx;simp only [dR,List.take_succ_cons,List.take_zero,List.drop_succ_cons,List.drop_zero];rintro u0 - u1 - u2 - u3 - u4 - u5 - u6 - u7 - u8 - u9 - u10 - u11 h11 u12 h12;obtain ⟨x1,x2,x3,x4,rfl,hn⟩:=h11;obtain rfl:u12=.int .i64 e:=h12;simp only [Act.put,List.setIfInBounds_toArray,List.set_cons_zero,List.set_cons_succ];have NN:=kI (hn.from X.o);replace HM:=HM.x hx;replace HV:=HV.x hx;replace RX:=RX.x hx;replace A0:=A0.x hx;replace A1:=A1.x hx;replace X:=X.x hx;clear hx hn t0' t1' z0 z1 z2 z3 z4 wkE;obtain ⟨cT,cU,lA1⟩:=A1.o.q3;go_wp2_with fail;clear cT cU lA1;obtain ⟨wf,hwf⟩:=gN ((((w9.setCell ⟨An+1,0,none⟩ (.bool r.neg)).setCell ⟨An+1,1,none⟩ (.slice x1 r.num.length x2)).setCell ⟨An+1,2,none⟩ (.slice x3 r.den.length x4)));have bf:af wf (An+1) #[.bool r.neg,.slice x1 r.num.length x2,.slice x3 r.den.length x4] 25:=by rw [hwf];exact A1.o.ep _ _ _
 have nf:aO w wf (.agg #[.bool r.neg,.slice x1 r.num.length x2,.slice x3 r.den.length x4]) r:=by rw [hwf];exact NN.o.ib A1.o ah _ _ _
 have xf:Ext w wf:=by rw [hwf];exact cw (o:=0) X.o (by have:=WA.o;omega)
 rw [← hwf];clear hwf;have cf:=bf.cell;have lf:=bf.lt;refine bodyPost_ret (v:=.tuple #[.agg #[.bool r.neg,.slice x1 r.num.length x2,.slice x3 r.den.length x4],.int .i64 e]) ?_ rfl ⟨⟨_,rfl,nf⟩,xf⟩;(simp only [results,Tryz.results137];go_simp)
def r0 (e:Ending) (c:Int):Prop:=if c=0 then e=.returned (.tuple #[]) else e=.panicked [dC c]
theorem r0.ok (h:c=0):r0 (.returned (.tuple #[])) c:=by unfold r0;rw [if_pos h]
theorem r0.bad {d:Int} (h:d≠0) (e:c=d):r0 (.panicked [dC d]) c:=by unfold r0;rw [e,if_neg h]
theorem Gb {m:MD} {v:List RR} (h:∀ s,s < m.states.length→∀ a,a < (m.states.getD s []).length→(aC m v (m.act s a)).2=0):li m v=0:=bg (fun s hs=>bg (h s hs))
theorem MT {m:MD} {v:List RR} (hk:k < m.states.length) (h1:∀ s,s < k→∀ a,a < (m.states.getD s []).length→(aC m v (m.act s a)).2=0) (hj:j < (m.states.getD k []).length) (h2:∀ a,a < j→(aC m v (m.act k a)).2=0) {c:Int} (h3:(aC m v (m.act k j)).2=c) (hc:c≠0):li m v=c:=by
 have e1:gS m v (m.states.getD k [])=c:=by
  exact qOc
 have:=cz (f:=fun s=>gS m v (m.states.getD s [])) (k:=k) (fun s hs=>bg (h1 s hs)) (by rw [e1];exact hc) hk;exact this.trans e1
theorem first_any (mv vv:Value) (m:MD) (vals:List RR) (w:World) (hm:dd w mv m) (hv:aT w vv vals) (hlm:eG m) (hlv:bQ vals) (hE:cJ m vals=0) :
  Calls Tryz.prog 79 #[mv,vv] w fun e w'=>r0 e (li m vals)∧Ext w w':=by
 have hsc:=fun W k ia (x:Ext w W) hk hi=>xQ mv vv m vals k ia W (hm.ext x) (hv.ext x) hlm hlv hE hk hi;have hz:=Gb (m:=m) (v:=vals);have hb:=fun k j=>MT (m:=m) (v:=vals) (k:=k) (j:=j);obtain ⟨E0,hE0⟩:=gN (li m vals);rw [← hE0] at hz hb ⊢;clear hE0;obtain ⟨m1,n1,m2,n2,m3,n3,rfl,hmd,hst⟩:=hm;have hsl:m.states.length≤9223372036854775807:=by obtain ⟨_,_,_,h⟩:=hst.shape;exact h
 obtain ⟨av,cv,rfl,-,-,-⟩:=hv.get;obtain ⟨HST,nL,HZ,HB⟩:=dW hst hsc hz hb;clear hv hmd hst hsc hz hb hlm hlv hE;have bb0:=af.new w #[.bool m.ag.neg,.slice m1 m.ag.num.length n1,.slice m2 m.ag.den.length n2,.slice m3 m.states.length n3] 28;have x0:Ext w (w.alloc (.cells #[.bool m.ag.neg,.slice m1 m.ag.num.length n1,.slice m2 m.ag.den.length n2,.slice m3 m.states.length n3] 28)):=(Ext.refl w).alloc _;have A0:=kI bb0;have X:=kI x0;clear bb0 x0;go_enter Tryz.func79,Tryz.ntmps79
 have q0:=A0.o.cell;have l0:=A0.o.lt;go_wp2_with fail;clear q0 l0;obtain ⟨wl,hwl⟩:=gN ((w.alloc (.cells #[.bool m.ag.neg,.slice m1 m.ag.num.length n1,.slice m2 m.ag.den.length n2,.slice m3 m.states.length n3] 28)));rw [← hwl] at A0 X ⊢;clear hwl;obtain ⟨An,hAn⟩:=gN (w.heap.size);rw [← hAn] at A0 ⊢;clear hAn;go_loopw [12] (fun i wr=>∃ k:Nat,k≤m.states.length∧i=.int .i64 k∧(∀ s,s < k→∀ a,a < (m.states.getD s []).length→(aC m vals (m.act s a)).2=0)∧Ext wl wr) (fun i _=>m.states.length - (intOf i).toNat)
 case atStart=>exact ⟨0,by omega,rfl,(fun s hs=>by omega),Ext.refl _⟩
 case round=>
  obtain ⟨wk,hwk⟩:=gN (wr);subst hwk;obtain ⟨k,hk,rfl,hok,hx⟩:=hrel;have XW:Hid (Ext w wk):=kI (X.o.trans hx);have BK:=A0.x hx;have OK:=kI hok;have XL:=kI hx;clear hok hx;by_cases hlt:k < m.states.length
  ·obtain ⟨sb,so,ai,ci,rfl,t0,t1,t2⟩:=(HST.o.ext XW.o).at hlt;have hal:(m.states.getD k []).length≤9223372036854775807:=by obtain ⟨_,_,_,h⟩:=t2.shape;exact h
   have hsk:=fun W ia (x:Ext w W) hi=>nL.o W k ia x hlt hi;have hbk:=fun j=>HB.o k j hlt OK.o;have hzz:∀ s,s < k+1→(∀ a,a < (m.states.getD k []).length→(aC m vals (m.act k a)).2=0)→∀ a,a < (m.states.getD s []).length→(aC m vals (m.act s a)).2=0:=fun s hs h=>by
    by_cases e:s=k
    ·rw [e];exact h
    ·exact OK.o s Z
   obtain ⟨al,hall⟩:=gN ((m.states.getD k []).length);have am2:=kI hall;rw [← hall] at t1 hal hsk hbk hzz;obtain ⟨HSK,Sv,HZZ⟩:=cC hsk hbk hzz;have q1:(0:Int)≤(k:Int):=Z
   have q2:(k:Int) < (m.states.length:Int):=Z
   clear t2 hall hsk hbk hzz;go_wp2_with fail;clear t0 t1 q1 q2;go_loopw [19] (fun i wq=>∃ j:Nat,j≤al∧i=.int .i64 j∧(∀ a,a < j→(aC m vals (m.act k a)).2=0)∧Ext wk wq) (fun i _=>al - (intOf i).toNat)
   case atStart=>exact ⟨0,by omega,rfl,(fun s hs=>by omega),Ext.refl _⟩
   case round=>
    obtain ⟨wj,qZ⟩:=gN (wr);subst qZ;obtain ⟨j,hj,rfl,hok,hx⟩:=hrel;have XJ:Hid (Ext w wj):=kI (XW.o.trans hx);have BJ:=BK.x hx;have OKJ:=kI hok;have XQ:=kI hx;clear hok hx;by_cases hjl:j < al
    ·have hs:=fun W (x:Ext w W)=>HSK.o W j x hjl;have hb:=fun c=>Sv.o j hjl OKJ.o (c:=c);have hn:(aC m vals (m.act k j)).2=0→∀ a,a < j+1→(aC m vals (m.act k a)).2=0:=fun h a ha=>by
      by_cases e:a=j
      ·rw [e];exact h
      ·exact OKJ.o a Z
     obtain ⟨R,hR⟩:=gN (aC m vals (m.act k j));rw [← hR] at hs hb hn;obtain ⟨r,e⟩:=R;unfold bG at hs;dsimp only at hs hb hn;obtain ⟨HS,HBJ,HNJ⟩:=cC hs hb hn;have q0:=BJ.o.cell;have l0:=BJ.o.lt;clear hs hb hn hR;go_wp2_with fail;refine (HS.o wj XJ.o).mono ?_;rintro e9 w2 ⟨⟨v,rfl,nn⟩,hx2⟩;obtain ⟨s1,s2,s3,s4,rfl⟩:=nn.shape;have X2:=kI hx2;clear nn hx2 q0 l0;go_wp2_with fail;by_cases he:e=0
     ·subst he;refine (iK _).mono ?_;rintro e9 w3 ⟨rfl,rfl⟩;go_wp2_with fail;go_roundw
      case rel=>exact ⟨j+1,by omega,by go_num,HNJ.o uY,(XQ.o.trans X2.o).alloc _⟩
      case measure=>simp [intOf];omega
     ·refine (bB he _).mono ?_;rintro e9 w3 ⟨rfl,rfl⟩;simp +zetaDelta only [Exit.then,Exit.inBlock];exact cH rfl ⟨r0.bad he (HBJ.o e uY he),(XJ.o.trans X2.o).alloc _⟩
    ·obtain rfl:j=al:=Z
     have q1:¬ (j:Int) < (j:Int):=Z
     go_wp2_with fail;go_roundw
     case rel=>exact ⟨k+1,by omega,by go_num,(fun s hs=>HZZ.o s hs OKJ.o),XL.o.trans XQ.o⟩
     case measure=>simp [intOf];omega
  ·obtain rfl:k=m.states.length:=Z
   have q1:¬ (m.states.length:Int) < (m.states.length:Int):=Z
   go_wp2_with fail;go_end0
   exact ⟨r0.ok (HZ.o OK.o),XW.o⟩
end Go.Proofs.YtnnjbaijcaiohaaGreat
