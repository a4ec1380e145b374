/- Walks and lemmas. -/
import Derived.Test.YtnnjbaijcaiohaaGreatSzA4
import Derived.Lib.Bytealg
import Derived.Lib.Strings
import Derived.Lib.IndexLaws
import Derived.Laws.Externs
import Derived.Test.YtnnjbaijcaiohaaGreatSzA0
import Derived.Test.YtnnjbaijcaiohaaGreatSzA1
set_option linter.unusedVariables false
set_option linter.unusedSimpArgs false
set_option maxRecDepth 100000
set_option maxHeartbeats 16000000
namespace Go.Proofs.YtnnjbaijcaiohaaGreat
open Go.RowKit
variable {a a0:Act} {listed:Array Bool} {T:Array Bool→World→Prop} {ops:Array Oper} {ps:Array Tmp} {args tmps:Array Value} {assign body:Code} {Q:Exit→Act→World→Prop} {F:Fence} {u:FrameMode} {f:FuncId} {c s:Int} {plan:List (List Int)} {ds:List Deferred} {l l1 l2 la lb lq:List Int} {rest:List Oper} {cs h vs xs:List Value} {An B C H L N b b0 bx c1 c2 cap d1 d2 fuel g i id j jn k m1 m2 n n1 n2 nf nn off xn y:Nat} {X:Nat→Prop} {oi om:Oper} {a1 a2 a3 xa:Option Addr} {P:Program} {R p p0 p1 p10 p11 p12 p13 p2 p3 p4 p5 p6 p7 p8 p9:Prop} {md:Region.Mode} {α:Type} {e t t1 t2 t3:TypeId} {lv v vb vr z:Value} {A W W' W0 w w' w0 w2 w3 w4 wB:World} {S S1 S2:World→Prop}
theorem tN {r:RR} (h:bH w v r) (hl:bj r):∀ W,Ext w W→Calls Tryz.prog 111 #[v] W fun e w'=>e=.returned (.int .i64 (aE r))∧Ext W w':=fun W x=>iy v r W (h.ext x) hl
theorem ni (g:Nat) (eg:∀ args w,(callFunc g args).run Tryz.prog w=.ok (.enter g args) w) (va vb:Value) (ra rb:RR) (w:World) (ha:bH w va ra) (hb:bH w vb rb) (la:bj ra) (lb:bj rb) (T:Bool × Nat × Nat)
  (hT:cK ra rb=0→T.2.2≠0∧(lim T.2.1).length≤512∧(lim T.2.2).length≤512)
  (hf:cK ra rb=0→∀ W v1 v2,BH W v1 ra.neg ra.num (dl ra.den)→BH W v2 rb.neg rb.num (dl rb.den)→Calls Tryz.prog g #[v1,v2] W fun e w'=>(∃ v',e=.returned v'∧BH w' v' T.1 (lim T.2.1) (lim T.2.2))∧Ext W w') :
  Calls Tryz.prog 118 #[va,vb,.func (.func g) #[] #[]] w fun e w'=>bG w w' e (ng ra rb (dv (vq T)))∧Ext w w':=by
 have qW:=kI (tN ha la);have BR:=kI (tN hb lb);have HA:=kI ha;have HB:=kI hb;obtain ⟨a1,c1,a2,c2,rfl⟩:=ha.shape;obtain ⟨a3,c3,a4,c4,rfl⟩:=hb.shape;obtain ⟨s1,l1,l2⟩:=ra;obtain ⟨s2,l3,l4⟩:=rb;dsimp only at qW BR HA HB hf ⊢;clear ha hb;have HT:=kI hT;have HF:=kI hf;clear hT hf;have b0:=((af.new w #[.bool s1,.slice a1 l1.length c1,.slice a2 l2.length c2] 25).alloc (.cells #[.bool s2,.slice a3 l3.length c3,.slice a4 l4.length c4] 25)).alloc (.cells #[.bool false,.slice none 0 0,.slice none 0 0] 25);have b1:=(af.new (w.alloc (.cells #[.bool s1,.slice a1 l1.length c1,.slice a2 l2.length c2] 25)) #[.bool s2,.slice a3 l3.length c3,.slice a4 l4.length c4] 25).alloc (.cells #[.bool false,.slice none 0 0,.slice none 0 0] 25);have b2:=af.new ((w.alloc (.cells #[.bool s1,.slice a1 l1.length c1,.slice a2 l2.length c2] 25)).alloc (.cells #[.bool s2,.slice a3 l3.length c3,.slice a4 l4.length c4] 25)) #[.bool false,.slice none 0 0,.slice none 0 0] 25;rw [World.size_alloc] at b1;rw [World.size_alloc,World.size_alloc] at b2;have x0:Ext w (((w.alloc (.cells #[.bool s1,.slice a1 l1.length c1,.slice a2 l2.length c2] 25)).alloc (.cells #[.bool s2,.slice a3 l3.length c3,.slice a4 l4.length c4] 25)).alloc (.cells #[.bool false,.slice none 0 0,.slice none 0 0] 25)):=(((Ext.refl w).alloc _).alloc _).alloc _;obtain ⟨A0,A1,A2⟩:=cC b0 b1 b2;clear b0 b1 b2;by_cases hc:cK ⟨s1,l1,l2⟩ ⟨s2,l3,l4⟩=0
 ·have eo:ng ⟨s1,l1,l2⟩ ⟨s2,l3,l4⟩ (dv (vq T))=dv (vq T):=by unfold ng;rw [if_pos hc]
  rw [eo];obtain ⟨hca,hcb⟩:=dE hc;rw [hca] at qW;rw [hcb] at BR;have HC:=kI hc;clear hc hca hcb eo;go_enter Tryz.func118,Tryz.ntmps118
  go_wp2_with fail;have hmx:Tryz.prog.follows .mixedOrders=true:=ak
  go_region_held3 (fun W=>(af W w.heap.size #[.bool s1,.slice a1 l1.length c1,.slice a2 l2.length c2] 25∧W.cell? ⟨w.heap.size,0,none⟩=some (.bool s1)∧W.cell? ⟨w.heap.size,1,none⟩=some (.slice a1 l1.length c1)∧W.cell? ⟨w.heap.size,2,none⟩=some (.slice a2 l2.length c2))∧(af W (w.heap.size+1) #[.bool s2,.slice a3 l3.length c3,.slice a4 l4.length c4] 25∧W.cell? ⟨w.heap.size+1,0,none⟩=some (.bool s2)∧W.cell? ⟨w.heap.size+1,1,none⟩=some (.slice a3 l3.length c3)∧W.cell? ⟨w.heap.size+1,2,none⟩=some (.slice a4 l4.length c4)))
   ((refine ⟨af.s3 ?_,af.s3 ?_⟩ <;> (repeat (first|exact A0.o|exact A1.o|exact k1|exact k2|exact k4|exact k5|exact k7|exact k8|refine af.setOther ?_ aD _|refine af.alloc ?_ _|refine af.drew ?_))))
   (first|(go_at_call_of 111 (Value.slice a1 l1.length c1);refine (qW.o _ eX).mono ?_;rintro e W4 ⟨rfl,hx4⟩;have x4:=Ext.trans x0 (Ext.trans eX hx4);have k1:=A0.o.ext (Ext.trans eX hx4);have k2:=A1.o.ext (Ext.trans eX hx4);have k3:=A2.o.ext (Ext.trans eX hx4))|(go_at_call_of 111 (Value.slice a3 l3.length c3);refine (BR.o _ eX).mono ?_;rintro e W5 ⟨rfl,hx5⟩;have x5:=x4.trans hx5;have k4:=k1.ext hx5;have k5:=k2.ext hx5;have k6:=k3.ext hx5)|(go_at_call 121;refine (lO _ _ _ _ (af.new W5 _ _)).mono ?_;rintro e W6 ⟨rfl,hx6⟩;have x6:=(x5.alloc _).trans hx6;have k7:=(k4.alloc _).ext hx6;have k8:=(k5.alloc _).ext hx6;have k9:=(k6.alloc _).ext hx6))
  obtain ⟨G6,H6,R6,X6⟩:=dW k7 k8 k9 x6;clear k1 k2 k3 k4 k5 k6 k7 k8 k9 hx4 hx5 hx6 x4 x5 x6 A0 A1 A2 x0;go_wp2_with fail;have hlow:=fun W v (h:BH W v T.1 (lim T.2.1) (lim T.2.2))=>Hv v T.1 (lim T.2.1) (lim T.2.2) W h (aH _) (aH _) (aW _) (aW _) (HT.o HC.o).2.1 (HT.o HC.o).2.2 (by rw [aA];exact (HT.o HC.o).1);rw [aA,aA] at hlow;have hlow1:∀ W v,BH W v T.1 (lim T.2.1) (lim T.2.2)→Calls Tryz.prog 166 #[v] W fun e w'=>(∃ v',e=.returned v'∧aO W w' v' (rep (vq T)))∧Ext W w':=hlow;obtain ⟨RS,hRS⟩:=gN (rep (vq T));rw [← hRS] at hlow1;have hoa:=fun W (x:Ext w W)=>oG _ _ W (HA.o.ext x);have hob:=fun W (x:Ext w W)=>oG _ _ W (HB.o.ext x);dsimp only at hoa hob;obtain ⟨Ku,XX,Og,Oh⟩:=dW hRS hlow1 hoa hob;have x6:=X6.o;have g6:=G6.o;have h6:=H6.o;have r6:=R6.o;have lt6:=r6.lt;clear hlow hlow1 hRS hoa hob;go_region_held3 (fun W=>(af W w.heap.size #[.bool s1,.slice a1 l1.length c1,.slice a2 l2.length c2] 25∧W.cell? ⟨w.heap.size,0,none⟩=some (.bool s1)∧W.cell? ⟨w.heap.size,1,none⟩=some (.slice a1 l1.length c1)∧W.cell? ⟨w.heap.size,2,none⟩=some (.slice a2 l2.length c2))∧(af W (w.heap.size+1) #[.bool s2,.slice a3 l3.length c3,.slice a4 l4.length c4] 25∧W.cell? ⟨w.heap.size+1,0,none⟩=some (.bool s2)∧W.cell? ⟨w.heap.size+1,1,none⟩=some (.slice a3 l3.length c3)∧W.cell? ⟨w.heap.size+1,2,none⟩=some (.slice a4 l4.length c4)))
   ((refine ⟨af.s3 ?_,af.s3 ?_⟩ <;> (repeat (first|exact g6|exact h6|exact g7|exact h7|exact g8|exact h8|exact g9|exact h9|exact g10|exact h10|refine af.setOther ?_ aD _|refine af.alloc ?_ _|refine af.drew ?_))))
   (first
    | (go_at_call_of 122 (Value.slice a1 l1.length c1);refine (Og.o _ eX).mono ?_;rintro e W7 ⟨⟨v7,rfl,vn7,vd7,rfl,XY,hd7⟩,hx7⟩;obtain ⟨p7,q7,rfl⟩:=am XY;obtain ⟨p8,q8,rfl⟩:=am hd7;have e7:Ext W6 W7:=Ext.trans eX hx7;have t7:=e7.size;have x7:=x6.trans e7;have g7:=g6.ext e7;have h7:=h6.ext e7;have r7:=r6.ext e7;skip;have HN7:=kI XY;have HD7:=kI hd7;clear XY hd7)
    | (go_at_call_of 122 (Value.slice a3 l3.length c3);refine (Oh.o _ eX).mono ?_;rintro e W8 ⟨⟨v8,rfl,vn8,vd8,rfl,Ya,hd8⟩,yl⟩;obtain ⟨p9,q9,rfl⟩:=am Ya;obtain ⟨p10,q10,rfl⟩:=am hd8;have e8:Ext W7 W8:=Ext.trans eX yl;have t8:=e8.size;have x8:=x7.trans e8;have g8:=g7.ext e8;have h8:=h7.ext e8;have r8:=r7.ext e8;skip;have HN8:=kI Ya;have HD8:=kI hd8;have Yb:=kI (HN7.o.ext e8);have Yc:=kI (HD7.o.ext e8);clear Ya hd8)
    | (go_at_fn g;refine (HF.o HC.o _ _ _ ⟨_,_,rfl,Yb.out.ext eX,Yc.out.ext eX⟩ ⟨_,_,rfl,HN8.o.ext eX,HD8.o.ext eX⟩).mono ?_;rintro e W9 ⟨⟨v9,rfl,vn9,vd9,rfl,uJ,hd9⟩,eF⟩;obtain ⟨p11,q11,rfl⟩:=am uJ;obtain ⟨p12,q12,rfl⟩:=am hd9;have e9:Ext W8 W9:=Ext.trans eX eF;have t9:=e9.size;have x9:=x8.trans e9;have g9:=g8.ext e9;have h9:=h8.ext e9;have r9:=r8.ext e9;skip;have JJ:=kI uJ;have HD9:=kI hd9;clear uJ hd9)
    | (go_at_call 166;refine (XX.o _ _ ⟨_,_,rfl,JJ.o.ext eX,HD9.o.ext eX⟩).mono ?_;rintro e Aq ⟨⟨v10,rfl,n10⟩,kf⟩;obtain ⟨p13,q13,gZ,kl,rfl⟩:=n10.shape;have e10:Ext W9 Aq:=Ext.trans eX kf;have t10:=e10.size;have x10:=x9.trans e10;have g10:=g9.ext e10;have h10:=h9.ext e10;have r10:=r9.ext e10;have y9:=kf;have y8:=eF.trans e10;have y7:=yl.trans (e9.trans e10);have y6:=hx7.trans (e8.trans (e9.trans e10));have q6:=fun h=>(y6.cO (b:=W6.heap.size) h).1;have f6:=fun h=>(y6.cO (b:=W6.heap.size) h).2;have u6:=fun (h:W6.heap.size < _)=>Nat.lt_of_lt_of_le h y6.size;(try simp only [World.size_alloc,World.size_drew,Nat.lt_add_one,Nat.lt_irrefl,true_implies,false_implies,forall_const] at q6 f6 u6);have q7:=fun h=>(y7.cO (b:=W7.heap.size) h).1;have f7:=fun h=>(y7.cO (b:=W7.heap.size) h).2;have u7:=fun (h:W7.heap.size < _)=>Nat.lt_of_lt_of_le h y7.size;(try simp only [World.size_alloc,World.size_drew,Nat.lt_add_one,Nat.lt_irrefl,true_implies,false_implies,forall_const] at q7 f7 u7);have q8:=fun h=>(y8.cO (b:=W8.heap.size) h).1;have f8:=fun h=>(y8.cO (b:=W8.heap.size) h).2;have u8:=fun (h:W8.heap.size < _)=>Nat.lt_of_lt_of_le h y8.size;(try simp only [World.size_alloc,World.size_drew,Nat.lt_add_one,Nat.lt_irrefl,true_implies,false_implies,forall_const] at q8 f8 u8);have q9:=fun h=>(y9.cO (b:=W9.heap.size) h).1;have f9:=fun h=>(y9.cO (b:=W9.heap.size) h).2;have u9:=fun (h:W9.heap.size < _)=>Nat.lt_of_lt_of_le h y9.size;(try simp only [World.size_alloc,World.size_drew,Nat.lt_add_one,Nat.lt_irrefl,true_implies,false_implies,forall_const] at q9 f9 u9);have Da:=kI (n10.from (x9.trans eX));clear n10))
  ·have B11:Hid (af (Aq.alloc (.cells #[.bool RS.neg,.slice p13 RS.num.length q13,.slice gZ RS.den.length kl] 25)) Aq.heap.size #[.bool RS.neg,.slice p13 RS.num.length q13,.slice gZ RS.den.length kl] 25):=kI (af.new _ _ _);have R11:=kI (r10.alloc (.cells #[.bool RS.neg,.slice p13 RS.num.length q13,.slice gZ RS.den.length kl] 25));have CP:=kI (x10.alloc (.cells #[.bool RS.neg,.slice p13 RS.num.length q13,.slice gZ RS.den.length kl] 25));have Gj:=kI (Da.o.ext ((Ext.refl Aq).alloc (.cells #[.bool RS.neg,.slice p13 RS.num.length q13,.slice gZ RS.den.length kl] 25)));obtain ⟨bx,hbx⟩:=gN (Aq.heap.size);obtain ⟨uM,hw⟩:=gN (Aq.alloc (.cells #[.bool RS.neg,.slice p13 RS.num.length q13,.slice gZ RS.den.length kl] 25));rw [← hbx] at B11 ⊢;rw [← hw] at B11 R11 CP Gj ⊢;have hlt:w.heap.size+1+1 < bx:=Z
   clear hw hbx;exact kWh
  ·have hB:=((af.new W9 #[.bool false,.slice none 0 0,.slice none 0 0] 25)).ext y9;have B11:Hid (af (((Aq.setCell ⟨W9.heap.size,0,none⟩ (.bool RS.neg)).setCell ⟨W9.heap.size,1,none⟩ (.slice p13 RS.num.length q13)).setCell ⟨W9.heap.size,2,none⟩ (.slice gZ RS.den.length kl)) W9.heap.size #[.bool RS.neg,.slice p13 RS.num.length q13,.slice gZ RS.den.length kl] 25):=by
    exact TN
   have R11:=kI (((r10.setOther (a:=⟨W9.heap.size,0,none⟩) aD (.bool RS.neg)).setOther (a:=⟨W9.heap.size,1,none⟩) aD (.slice p13 RS.num.length q13)).setOther (a:=⟨W9.heap.size,2,none⟩) aD (.slice gZ RS.den.length kl));have CP:=kI (((x10.set (p:=⟨W9.heap.size,0,none⟩) aD (.bool RS.neg)).set (p:=⟨W9.heap.size,1,none⟩) aD (.slice p13 RS.num.length q13)).set (p:=⟨W9.heap.size,2,none⟩) aD (.slice gZ RS.den.length kl));have Gj:=kI (aO.cW Da.o hB ah (.bool RS.neg) (.slice p13 RS.num.length q13) (.slice gZ RS.den.length kl));obtain ⟨uM,hw⟩:=gN (((Aq.setCell ⟨W9.heap.size,0,none⟩ (.bool RS.neg)).setCell ⟨W9.heap.size,1,none⟩ (.slice p13 RS.num.length q13)).setCell ⟨W9.heap.size,2,none⟩ (.slice gZ RS.den.length kl));rw [← hw] at B11 R11 CP Gj ⊢;obtain ⟨bx,hbx⟩:=gN (W9.heap.size);exact T0
  ·have hB:=((af.new W8 #[.bool false,.slice none 0 0,.slice none 0 0] 25)).ext y8;have B11:Hid (af (((Aq.setCell ⟨W8.heap.size,0,none⟩ (.bool RS.neg)).setCell ⟨W8.heap.size,1,none⟩ (.slice p13 RS.num.length q13)).setCell ⟨W8.heap.size,2,none⟩ (.slice gZ RS.den.length kl)) W8.heap.size #[.bool RS.neg,.slice p13 RS.num.length q13,.slice gZ RS.den.length kl] 25):=by
    exact TN
   have R11:=kI (((r10.setOther (a:=⟨W8.heap.size,0,none⟩) aD (.bool RS.neg)).setOther (a:=⟨W8.heap.size,1,none⟩) aD (.slice p13 RS.num.length q13)).setOther (a:=⟨W8.heap.size,2,none⟩) aD (.slice gZ RS.den.length kl));have CP:=kI (((x10.set (p:=⟨W8.heap.size,0,none⟩) aD (.bool RS.neg)).set (p:=⟨W8.heap.size,1,none⟩) aD (.slice p13 RS.num.length q13)).set (p:=⟨W8.heap.size,2,none⟩) aD (.slice gZ RS.den.length kl));have Gj:=kI (aO.cW Da.o hB ah (.bool RS.neg) (.slice p13 RS.num.length q13) (.slice gZ RS.den.length kl));obtain ⟨uM,hw⟩:=gN (((Aq.setCell ⟨W8.heap.size,0,none⟩ (.bool RS.neg)).setCell ⟨W8.heap.size,1,none⟩ (.slice p13 RS.num.length q13)).setCell ⟨W8.heap.size,2,none⟩ (.slice gZ RS.den.length kl));rw [← hw] at B11 R11 CP Gj ⊢;obtain ⟨bx,hbx⟩:=gN (W8.heap.size);exact T0
  ·have hB:=((af.new W7 #[.bool false,.slice none 0 0,.slice none 0 0] 25)).ext y7;have B11:Hid (af (((Aq.setCell ⟨W7.heap.size,0,none⟩ (.bool RS.neg)).setCell ⟨W7.heap.size,1,none⟩ (.slice p13 RS.num.length q13)).setCell ⟨W7.heap.size,2,none⟩ (.slice gZ RS.den.length kl)) W7.heap.size #[.bool RS.neg,.slice p13 RS.num.length q13,.slice gZ RS.den.length kl] 25):=by
    exact TN
   have R11:=kI (((r10.setOther (a:=⟨W7.heap.size,0,none⟩) aD (.bool RS.neg)).setOther (a:=⟨W7.heap.size,1,none⟩) aD (.slice p13 RS.num.length q13)).setOther (a:=⟨W7.heap.size,2,none⟩) aD (.slice gZ RS.den.length kl));have CP:=kI (((x10.set (p:=⟨W7.heap.size,0,none⟩) aD (.bool RS.neg)).set (p:=⟨W7.heap.size,1,none⟩) aD (.slice p13 RS.num.length q13)).set (p:=⟨W7.heap.size,2,none⟩) aD (.slice gZ RS.den.length kl));have Gj:=kI (aO.cW Da.o hB ah (.bool RS.neg) (.slice p13 RS.num.length q13) (.slice gZ RS.den.length kl));obtain ⟨uM,hw⟩:=gN (((Aq.setCell ⟨W7.heap.size,0,none⟩ (.bool RS.neg)).setCell ⟨W7.heap.size,1,none⟩ (.slice p13 RS.num.length q13)).setCell ⟨W7.heap.size,2,none⟩ (.slice gZ RS.den.length kl));rw [← hw] at B11 R11 CP Gj ⊢;obtain ⟨bx,hbx⟩:=gN (W7.heap.size);exact T0
  ·have hB:=((af.new W6 #[.bool false,.slice none 0 0,.slice none 0 0] 25).drew).ext y6;have B11:Hid (af (((Aq.setCell ⟨W6.heap.size,0,none⟩ (.bool RS.neg)).setCell ⟨W6.heap.size,1,none⟩ (.slice p13 RS.num.length q13)).setCell ⟨W6.heap.size,2,none⟩ (.slice gZ RS.den.length kl)) W6.heap.size #[.bool RS.neg,.slice p13 RS.num.length q13,.slice gZ RS.den.length kl] 25):=by
    exact TN
   have R11:=kI (((r10.setOther (a:=⟨W6.heap.size,0,none⟩) aD (.bool RS.neg)).setOther (a:=⟨W6.heap.size,1,none⟩) aD (.slice p13 RS.num.length q13)).setOther (a:=⟨W6.heap.size,2,none⟩) aD (.slice gZ RS.den.length kl));have CP:=kI (((x10.set (p:=⟨W6.heap.size,0,none⟩) aD (.bool RS.neg)).set (p:=⟨W6.heap.size,1,none⟩) aD (.slice p13 RS.num.length q13)).set (p:=⟨W6.heap.size,2,none⟩) aD (.slice gZ RS.den.length kl));have Gj:=kI (aO.cW Da.o hB ah (.bool RS.neg) (.slice p13 RS.num.length q13) (.slice gZ RS.den.length kl));obtain ⟨uM,hw⟩:=gN (((Aq.setCell ⟨W6.heap.size,0,none⟩ (.bool RS.neg)).setCell ⟨W6.heap.size,1,none⟩ (.slice p13 RS.num.length q13)).setCell ⟨W6.heap.size,2,none⟩ (.slice gZ RS.den.length kl));rw [← hw] at B11 R11 CP Gj ⊢;obtain ⟨bx,hbx⟩:=gN (W6.heap.size);exact T0
 ·have eo:ng ⟨s1,l1,l2⟩ ⟨s2,l3,l4⟩ (dv (vq T))=(zR,cK ⟨s1,l1,l2⟩ ⟨s2,l3,l4⟩):=by unfold ng;rw [if_neg hc]
  unfold cK at eo hc;obtain ⟨ca,hca⟩:=gN (aE ⟨s1,l1,l2⟩);obtain ⟨cb,hcb⟩:=gN (aE ⟨s2,l3,l4⟩);rw [← hca] at qW eo hc;rw [← hcb] at BR eo hc;obtain ⟨cc,hcc⟩:=gN (z6 ca cb);rw [← hcc] at eo hc;have EO:=kI eo;have hor:=fun g W h=>lO ca cb g W h;rw [← hcc] at hor;have Dd:=kI hor;have hcb':(cc != 0)=true:=by simpa using hc
  clear hca hcb hcc eo hor hc HT HF;go_enter Tryz.func118,Tryz.ntmps118
  go_wp2_with fail;have hmx:Tryz.prog.follows .mixedOrders=true:=ak
  go_region_held3 (fun W=>(af W w.heap.size #[.bool s1,.slice a1 l1.length c1,.slice a2 l2.length c2] 25∧W.cell? ⟨w.heap.size,0,none⟩=some (.bool s1)∧W.cell? ⟨w.heap.size,1,none⟩=some (.slice a1 l1.length c1)∧W.cell? ⟨w.heap.size,2,none⟩=some (.slice a2 l2.length c2))∧(af W (w.heap.size+1) #[.bool s2,.slice a3 l3.length c3,.slice a4 l4.length c4] 25∧W.cell? ⟨w.heap.size+1,0,none⟩=some (.bool s2)∧W.cell? ⟨w.heap.size+1,1,none⟩=some (.slice a3 l3.length c3)∧W.cell? ⟨w.heap.size+1,2,none⟩=some (.slice a4 l4.length c4)))
   ((refine ⟨af.s3 ?_,af.s3 ?_⟩ <;> (repeat (first|exact A0.o|exact A1.o|exact k1|exact k2|exact k4|exact k5|exact k7|exact k8|refine af.setOther ?_ aD _|refine af.alloc ?_ _|refine af.drew ?_))))
   (first|(go_at_call_of 111 (Value.slice a1 l1.length c1);refine (qW.o _ eX).mono ?_;rintro e W4 ⟨rfl,hx4⟩;have x4:=Ext.trans x0 (Ext.trans eX hx4);have k1:=A0.o.ext (Ext.trans eX hx4);have k2:=A1.o.ext (Ext.trans eX hx4);have k3:=A2.o.ext (Ext.trans eX hx4))|(go_at_call_of 111 (Value.slice a3 l3.length c3);refine (BR.o _ eX).mono ?_;rintro e W5 ⟨rfl,hx5⟩;have x5:=x4.trans hx5;have k4:=k1.ext hx5;have k5:=k2.ext hx5;have k6:=k3.ext hx5)|(go_at_call 121;refine (Dd.o _ _ (af.new W5 _ _)).mono ?_;rintro e W6 ⟨rfl,hx6⟩;have x6:=(x5.alloc _).trans hx6;have k7:=(k4.alloc _).ext hx6;have k8:=(k5.alloc _).ext hx6;have k9:=(k6.alloc _).ext hx6))
  have K9:=kI k9;have X6:=kI x6;have c9:=k9.cell;have f9:=k9.free;have l9:=k9.lt;go_wp2_with fail;refine bodyPost_ret (v:=.tuple #[.agg #[.bool false,.slice none 0 0,.slice none 0 0],.int .i64 cc]) TF rfl ⟨bG.mk (aO.zero _ _) EO.o,?_⟩;have:=X6.o;exact eX
theorem cM {r:RR} (hl:bj r) (h:aE r=0):r.num.length≤128∧(dl r.den).length≤128∧df r.num∧df (dl r.den)∧nv (dl r.den)≠0∧bk (dl r.den):=by
 obtain ⟨h1,h2,h3,h4,_⟩:=pJ hl h;refine ⟨h1,pM h2 Z,h3,Lh h4,?_,pL hl.2⟩;rw [D4];exact Hu hl h
def l6 (r:RR):Bool × Nat × Nat:=(r.neg,nv r.num,nv (dl r.den))
theorem fe (r:RR):l6 r=J5 r:=by unfold l6 J5;rw [D4]
theorem sC {a b:RR} {x y:RR × Int} (h:cK a b=0→x=y):ng a b x=ng a b y:=by
 unfold ng;by_cases hc:cK a b=0
 ·rw [if_pos hc,if_pos hc,h hc]
 ·rw [if_neg hc,if_neg hc]
theorem Hx (a b:Bool × Nat × Nat):(eP a b).2.1≤a.2.1*b.2.2+b.2.1*a.2.2:=by
 unfold eP;split
 ·exact Nat.le_refl _
 ·split
  ·dsimp only;omega
  ·dsimp only;omega
theorem pP (a b:Bool × Nat × Nat):(eP a b).2.2=a.2.2*b.2.2:=by
 unfold eP;split
 ·rfl
 ·split <;> rfl
theorem Hy {x a:Nat} (hx:x < 4294967296 ^ a) (hy:y < 4294967296 ^ b):x*y < 4294967296 ^ (a+b):=by
 rw [Nat.pow_add];exact Nat.mul_lt_mul'' hx hy
theorem sD (h:bk l) (hk:l.length≤k):nv l < 4294967296 ^ k:=Nat.lt_of_lt_of_le (bJ h) (f5 hk)
theorem d7 (h1:bk l1) (h2:bk l2) (k1:l1.length≤k) (k2:l2.length≤k):(lim (nv l1*nv l2)).length≤k+k:=aG.2 (Hy (sD h1 k1) (sD h2 k2))
theorem Ar {x:Nat} (hx:(lim x).length≤k) (hy:(lim y).length≤k) {z:Nat} (hz:z≤x+y):(lim z).length≤k+1:=
 aG.2 (Nat.lt_of_le_of_lt hz (yE k k k (Nat.le_refl _) (Nat.le_refl _) (aG.1 hx) (aG.1 hy)))
theorem BT {ra rb:RR} (s:Bool) (la:bj ra) (lb:bj rb) (ha:aE ra=0) (hb:aE rb=0):
  (eP (l6 ra) (s,nv rb.num,nv (dl rb.den))).2.2≠0∧(lim (eP (l6 ra) (s,nv rb.num,nv (dl rb.den))).2.1).length≤512∧(lim (eP (l6 ra) (s,nv rb.num,nv (dl rb.den))).2.2).length≤512:=by
 obtain ⟨p1,p2,p3,p4,p5,p6⟩:=cM la ha;obtain ⟨q1,q2,q3,q4,q5,q6⟩:=cM lb hb;have e1:=d7 la.1 q6 p1 q2;have e2:=d7 lb.1 p6 q1 p2;have e3:=d7 p6 q6 p2 q2;have e4:=Ar e1 e2 (Hx (l6 ra) (s,nv rb.num,nv (dl rb.den)));refine ⟨?_,by omega,?_⟩
 ·rw [pP];exact Nat.mul_ne_zero p5 q5
 ·rw [pP];exact Nat.le_trans e3 Z
theorem Lk (s:Bool) (n d:Nat):vq (!s,n,d) = - vq (s,n,d):=by
 unfold vq;dsimp only;rw [Rat.neg_mkRat];congr 1
 cases s <;> simp [sg]
theorem vU (va vb:Value) (ra rb:RR) (w:World) (ha:bH w va ra) (hb:bH w vb rb) (la:bj ra) (lb:bj rb):
  Calls Tryz.prog 118 #[va,vb,.func (.func 119) #[] #[]] w fun e w'=>bG w w' e (bL ra rb)∧Ext w w':=by
 have h:=ni 119 (enters_of Tryz.func119 ak rfl) va vb ra rb w ha hb la lb (eP (l6 ra) (rb.neg,nv rb.num,nv (dl rb.den)))
  (fun hc=>BT rb.neg la lb (dE hc).1 (dE hc).2)
  (fun hc W v1 v2 h1 h2=>by
   obtain ⟨p1,p2,p3,p4,p5,p6⟩:=cM la (dE hc).1;obtain ⟨q1,q2,q3,q4,q5,q6⟩:=cM lb (dE hc).2;exact vR v1 v2 ra.neg rb.neg ra.num (dl ra.den) rb.num (dl rb.den) W h1 h2 la.1 p6 lb.1 q6 p3 p4 q3 q4 Z Z Z Z)
 have e:ng ra rb (dv (vq (eP (l6 ra) (rb.neg,nv rb.num,nv (dl rb.den)))))=bL ra rb:=sC fun hc=>by
  obtain ⟨p1,p2,p3,p4,p5,p6⟩:=cM la (dE hc).1;obtain ⟨q1,q2,q3,q4,q5,q6⟩:=cM lb (dE hc).2;rw [yO p5 q5,fe,iC];show dv (qv ra+vq (l6 rb))=_;rw [fe,iC]
 rwa [e] at h
theorem vV (va vb:Value) (ra rb:RR) (w:World) (ha:bH w va ra) (hb:bH w vb rb) (la:bj ra) (lb:bj rb):
  Calls Tryz.prog 118 #[va,vb,.func (.func 120) #[] #[]] w fun e w'=>bG w w' e (mulR ra rb)∧Ext w w':=by
 have h:=ni 120 (enters_of Tryz.func120 ak rfl) va vb ra rb w ha hb la lb (Am (l6 ra) (l6 rb))
  (fun hc=>by
   obtain ⟨p1,p2,p3,p4,p5,p6⟩:=cM la (dE hc).1;obtain ⟨q1,q2,q3,q4,q5,q6⟩:=cM lb (dE hc).2;exact ⟨Nat.mul_ne_zero p5 q5,Nat.le_trans (d7 la.1 lb.1 p1 q1) Z,Nat.le_trans (d7 p6 q6 p2 q2) Z⟩)
  (fun hc W v1 v2 h1 h2=>by
   obtain ⟨p1,p2,p3,p4,p5,p6⟩:=cM la (dE hc).1;obtain ⟨q1,q2,q3,q4,q5,q6⟩:=cM lb (dE hc).2;exact tL v1 v2 ra.neg rb.neg ra.num (dl ra.den) rb.num (dl rb.den) W h1 h2 la.1 p6 lb.1 q6 p3 p4 q3 q4 Z Z Z Z)
 have e:ng ra rb (dv (vq (Am (l6 ra) (l6 rb))))=mulR ra rb:=sC fun hc=>by
  rw [Ao,fe,fe,iC,iC]
 rwa [e] at h
theorem ma (va vb:Value) (ra rb:RR) (w:World) (ha:bH w va ra) (hb:bH w vb rb) (la:bj ra) (lb:bj rb):
  Calls Tryz.prog 53 #[va,vb] w fun e w'=>bG w w' e (bL ra rb)∧Ext w w':=by
 have ho:=fun W (x:Ext w W)=>vU va vb ra rb W (ha.ext x) (hb.ext x) la lb;obtain ⟨a1,c1,a2,c2,rfl⟩:=ha.shape;obtain ⟨a3,c3,a4,c4,rfl⟩:=hb.shape;obtain ⟨R,hR⟩:=gN (bL ra rb);rw [← hR] at ho ⊢;obtain ⟨s1,l1,l2⟩:=ra;obtain ⟨s2,l3,l4⟩:=rb;dsimp only at ho ⊢;have HO:=kI ho;clear hR ho ha hb la lb;have b2:=af.new ((w.alloc (.cells #[.bool s1,.slice a1 l1.length c1,.slice a2 l2.length c2] 25)).alloc (.cells #[.bool s2,.slice a3 l3.length c3,.slice a4 l4.length c4] 25)) #[.bool false,.slice none 0 0,.slice none 0 0] 25;rw [World.size_alloc,World.size_alloc] at b2;have B2:=kI b2;have X0:=kI (show Ext w (((w.alloc (.cells #[.bool s1,.slice a1 l1.length c1,.slice a2 l2.length c2] 25)).alloc (.cells #[.bool s2,.slice a3 l3.length c3,.slice a4 l4.length c4] 25)).alloc (.cells #[.bool false,.slice none 0 0,.slice none 0 0] 25)) from (((Ext.refl w).alloc _).alloc _).alloc _);clear b2;go_enter Tryz.func53,Tryz.ntmps53
 go_wp2_with fail;refine (HO.o _ X0.o).mono ?_;rintro e w1 ⟨⟨v1,rfl,n1⟩,hx1⟩;obtain ⟨a5,c5,a6,c6,rfl⟩:=n1.shape;have B1:=B2.x hx1;have X1:=X0.x hx1;have N1:=kI (n1.from X0.o);clear hx1 n1;have c0:=B1.o.cell;have f0:=B1.o.free;have l0:=B1.o.lt;obtain ⟨R1,R2⟩:=R;dsimp only at *;go_wp2_with fail;refine bodyPost_ret (v:=.tuple #[.agg #[.bool R1.neg,.slice a5 R1.num.length c5,.slice a6 R1.den.length c6],.int .i64 R2]) (by simp only [results,Tryz.results53];go_simp) rfl ⟨bG.mk (aO.cW N1.o B1.o ah _ _ _) rfl,?_⟩;have:=X1.o;exact eX
theorem mb (va vb:Value) (ra rb:RR) (w:World) (ha:bH w va ra) (hb:bH w vb rb) (la:bj ra) (lb:bj rb):
  Calls Tryz.prog 55 #[va,vb] w fun e w'=>bG w w' e (mulR ra rb)∧Ext w w':=by
 have ho:=fun W (x:Ext w W)=>vV va vb ra rb W (ha.ext x) (hb.ext x) la lb;obtain ⟨a1,c1,a2,c2,rfl⟩:=ha.shape;obtain ⟨a3,c3,a4,c4,rfl⟩:=hb.shape;obtain ⟨R,hR⟩:=gN (mulR ra rb);rw [← hR] at ho ⊢;obtain ⟨s1,l1,l2⟩:=ra;obtain ⟨s2,l3,l4⟩:=rb;dsimp only at ho ⊢;have HO:=kI ho;clear hR ho ha hb la lb;have b2:=af.new ((w.alloc (.cells #[.bool s1,.slice a1 l1.length c1,.slice a2 l2.length c2] 25)).alloc (.cells #[.bool s2,.slice a3 l3.length c3,.slice a4 l4.length c4] 25)) #[.bool false,.slice none 0 0,.slice none 0 0] 25;rw [World.size_alloc,World.size_alloc] at b2;have B2:=kI b2;have X0:=kI (show Ext w (((w.alloc (.cells #[.bool s1,.slice a1 l1.length c1,.slice a2 l2.length c2] 25)).alloc (.cells #[.bool s2,.slice a3 l3.length c3,.slice a4 l4.length c4] 25)).alloc (.cells #[.bool false,.slice none 0 0,.slice none 0 0] 25)) from (((Ext.refl w).alloc _).alloc _).alloc _);clear b2;go_enter Tryz.func55,Tryz.ntmps55
 go_wp2_with fail;refine (HO.o _ X0.o).mono ?_;rintro e w1 ⟨⟨v1,rfl,n1⟩,hx1⟩;obtain ⟨a5,c5,a6,c6,rfl⟩:=n1.shape;have B1:=B2.x hx1;have X1:=X0.x hx1;have N1:=kI (n1.from X0.o);clear hx1 n1;have c0:=B1.o.cell;have f0:=B1.o.free;have l0:=B1.o.lt;obtain ⟨R1,R2⟩:=R;dsimp only at *;go_wp2_with fail;refine bodyPost_ret (v:=.tuple #[.agg #[.bool R1.neg,.slice a5 R1.num.length c5,.slice a6 R1.den.length c6],.int .i64 R2]) (by simp only [results,Tryz.results55];go_simp) rfl ⟨bG.mk (aO.cW N1.o B1.o ah _ _ _) rfl,?_⟩;have:=X1.o;exact eX
def sl (s:ByteArray):Int:=Lib.indexByte s.data.toList 47
theorem bH.parts {r:RR} (h:bH w v r):∃ a c a2 c2,v=.agg #[.bool r.neg,.slice a r.num.length c,.slice a2 r.den.length c2]∧aY .u32 w (.slice a r.num.length c) r.num∧aY .u32 w (.slice a2 r.den.length c2) r.den:=by
 obtain ⟨vn,vd,rfl,h1,h2⟩:=h;obtain ⟨a,c,rfl⟩:=am h1;obtain ⟨a2,c2,rfl⟩:=am h2;exact ⟨a,c,a2,c2,rfl,h1,h2⟩
theorem eK (v1 v2:Value) (r1 r2:RR) (w:World) (h1:bH w v1 r1) (h2:bH w v2 r2):
  Calls Tryz.prog 52 #[v1,v2] w fun e w'=>e=.returned (.bool (decide (r1=r2)))∧Ext w w':=by
 obtain ⟨a1,c1,a2,c2,rfl,n1,d1⟩:=h1.parts;obtain ⟨a3,c3,a4,c4,rfl,n2,d2⟩:=h2.parts;obtain ⟨s1,l1,l2⟩:=r1;obtain ⟨s2,l3,l4⟩:=r2;dsimp only at n1 d1 n2 d2 ⊢;obtain ⟨N1,D1,N2,D2⟩:=dW n1 d1 n2 d2;clear n1 d1 n2 d2 h1 h2;have b0:=(af.new w #[.bool s1,.slice a1 l1.length c1,.slice a2 l2.length c2] 25).alloc (.cells #[.bool s2,.slice a3 l3.length c3,.slice a4 l4.length c4] 25);have b1:=af.new (w.alloc (.cells #[.bool s1,.slice a1 l1.length c1,.slice a2 l2.length c2] 25)) #[.bool s2,.slice a3 l3.length c3,.slice a4 l4.length c4] 25;rw [World.size_alloc] at b1;have x0:Ext w ((w.alloc (.cells #[.bool s1,.slice a1 l1.length c1,.slice a2 l2.length c2] 25)).alloc (.cells #[.bool s2,.slice a3 l3.length c3,.slice a4 l4.length c4] 25)):=((Ext.refl w).alloc _).alloc _;obtain ⟨B0,B1,X0⟩:=cC b0 b1 x0;clear b0 b1 x0;by_cases hs:s1=s2
 ·subst hs;have he1:=fun W h h'=>dQ (.slice a1 l1.length c1) (.slice a3 l3.length c3) l1 l3 W h h';have he2:=fun W h h'=>dQ (.slice a2 l2.length c2) (.slice a4 l4.length c4) l2 l4 W h h';by_cases hn:l1=l3
  ·rw [decide_eq_true hn] at he1;have e:decide ((⟨s1,l1,l2⟩:RR)=⟨s1,l3,l4⟩)=decide (l2=l4):=by
    rw [hn];simp
   obtain ⟨r,hr⟩:=gN (decide (l2=l4));rw [← hr] at he2 e;rw [e];have Yd:=kI he1;have HE2:=kI he2;clear he1 he2 hn e hr;cases s1;all_goals
    go_enter Tryz.func52,Tryz.ntmps52
    go_wp2_with fail;refine (Yd.o _ (N1.o.ext X0.o) (N2.o.ext X0.o)).mono ?_;rintro e w1 ⟨rfl,hx1⟩;have P0:=B0.x hx1;have P1:=B1.x hx1;have X1:=X0.x hx1;clear hx1;have k0:=P0.o.cell;have k1:=P1.o.cell;have m0:=P0.o.lt;have m1:=P1.o.lt;go_wp2_with fail;refine (HE2.o _ (D1.o.ext X1.o) (D2.o.ext X1.o)).mono ?_;rintro e w2 ⟨rfl,hx2⟩;have X2:=X1.x hx2;clear hx2 k0 k1 m0 m1;go_wp2_with fail;go_ret;exact ⟨rfl,X2.o⟩
  ·rw [decide_eq_false hn] at he1;have e:decide ((⟨s1,l1,l2⟩:RR)=⟨s1,l3,l4⟩)=false:=by
    rw [decide_eq_false_iff_not];intro h;injection h with _ h2;exact hn h2
   rw [e];have Yd:=kI he1;clear he1 he2 hn e;cases s1;all_goals
    go_enter Tryz.func52,Tryz.ntmps52
    go_wp2_with fail;refine (Yd.o _ (N1.o.ext X0.o) (N2.o.ext X0.o)).mono ?_;rintro e w1 ⟨rfl,hx1⟩;have X1:=X0.x hx1;clear hx1;go_wp2_with fail;go_ret;exact ⟨rfl,X1.o⟩
 ·have e:decide ((⟨s1,l1,l2⟩:RR)=⟨s2,l3,l4⟩)=false:=by
   rw [decide_eq_false_iff_not];intro h;injection h with h2;exact hs h2
  rw [e];clear e;cases s1 <;> cases s2
  all_goals first
   | exact absurd rfl hs
   | skip
  all_goals
   clear hs;go_enter Tryz.func52,Tryz.ntmps52
   go_wp2_with fail;go_ret;exact ⟨rfl,X0.o⟩
structure Keeps (B:Nat) (t:TypeId) (w w':World):Prop where
 zero:Below 0 w w'
 block:∀ i,i < w.heap.size→(i < B∨∃ cur u,af w i cur u∧u≠t)→w'.heap[i]?=w.heap[i]?
theorem Keeps.size (h:Keeps B t w w'):w.heap.size≤w'.heap.size:=h.zero.size
theorem Keeps.ext (h:Ext w w'):Keeps B t w w':=⟨h.mono (Nat.zero_le _),fun i hi _=>h.block i hi⟩
theorem Keeps.trans {a b c:World} (h:Keeps B t a b) (k:Keeps B t b c):Keeps B t a c:=
 ⟨h.zero.trans k.zero,fun i hi ho=>(k.block i (Nat.lt_of_lt_of_le hi h.size) (by
  rcases ho with ho|⟨cur,u,h1,h2⟩
  ·exact .inl ho
  ·exact .inr ⟨cur,u,(h.block i hi (.inr ⟨cur,u,h1,h2⟩)).trans h1,h2⟩)).trans (h.block i hi ho)⟩
instance {a b c:World}:Lx (Keeps B t b c) (Keeps B t a b) (Keeps B t a c):=⟨fun k h=>Keeps.trans h k⟩
theorem Keeps.below (h:Keeps B t w w') (hB:B≤w.heap.size):Below B w w':=
 ⟨h.zero.os,h.zero.tape,h.zero.output,h.zero.size,fun i hi=>h.block i (Nat.lt_of_lt_of_le hi hB) (.inl hi)⟩
theorem Keeps.mono (h:Keeps B t w w') (hB:C≤B):Keeps C t w w':=
 ⟨h.zero,fun i hi ho=>h.block i hi (ho.imp (fun h=>Nat.lt_of_lt_of_le h hB) id)⟩
theorem af.keeps {u:TypeId} {c:Array Value} (h:af w b c u) (k:Keeps B t w w') (hu:u≠t):af w' b c u:=(k.block b h.lt (.inr ⟨c,u,h,hu⟩)).trans h
def gw (B:Nat) (w:World) (v:Value) (l:List Int):Prop:=
 ∃ a cap,v=.slice a l.length cap∧l.length≤cap∧cap≤9223372036854775807∧
  ∀ i,i < l.length→∃ b off,a=some ⟨b,off,none⟩∧b < w.heap.size∧w.cell? ⟨b,off+i,none⟩=some (.int .u32 (l.getD i 0))∧(b < B∨∃ cur,af w b cur 157)
theorem gw.rd (h:gw B w v l):aY .u32 w v l:=by
 obtain ⟨a,cap,rfl,h1,h2,h3⟩:=h;exact lh.to (p:=fun _=>True) ⟨a,cap,rfl,h1,h2,fun i hi=>by obtain ⟨b,off,e1,e2,e3,_⟩:=h3 i hi;exact ⟨b,off,e1,trivial,e2,e3⟩⟩
theorem gw.keeps (h:gw B w v l) (k:Keeps B t w w') (ht:157≠t):gw B w' v l:=by
 obtain ⟨a,cap,rfl,h1,h2,h3⟩:=h;refine ⟨a,cap,rfl,h1,h2,fun i hi=>?_⟩;obtain ⟨b,off,e1,e2,e3,e4⟩:=h3 i hi;have hb:w'.heap[b]?=w.heap[b]?:=k.block b e2 (e4.imp id fun ⟨cur,hc⟩=>⟨cur,_,hc,ht⟩);exact zRu
theorem gw.old (h:aY .u32 w v l) (hB:w.heap.size≤B):gw B w v l:=by
 obtain ⟨a,cap,rfl,h1,h2,h3⟩:=fC h;refine ⟨a,cap,rfl,h1,h2,fun i hi=>?_⟩;obtain ⟨b,off,e1,e2,e3⟩:=h3 i hi;exact ⟨b,off,e1,e2,e3,.inl (Nat.lt_of_lt_of_le e2 hB)⟩
theorem gw.ext (h:gw B w v l) (k:Ext w w'):gw B w' v l:=by
 obtain ⟨a,cap,rfl,h1,h2,h3⟩:=h;refine ⟨a,cap,rfl,h1,h2,fun i hi=>?_⟩;obtain ⟨b,off,e1,e2,e3,e4⟩:=h3 i hi;have hb:w'.heap[b]?=w.heap[b]?:=k.block b e2;exact zRu
instance:Lx (Ext w w') (gw B w v l) (gw B w' v l):=⟨fun k h=>gw.ext h k⟩
theorem gw.mono (h:gw B w v l) (hB:B≤C):gw C w v l:=by
 obtain ⟨a,cap,rfl,h1,h2,h3⟩:=h;refine ⟨a,cap,rfl,h1,h2,fun i hi=>?_⟩;obtain ⟨b,off,e1,e2,e3,e4⟩:=h3 i hi;exact ⟨b,off,e1,e2,e3,e4.imp (fun h=>Nat.lt_of_lt_of_le h hB) id⟩
theorem gw.new (h:bv w0 w v l):gw B w v l:=by
 obtain ⟨o,h1,h2⟩:=h;rcases h1 with ⟨_,rfl,a,ha,rfl⟩|⟨g,cap,ho,rfl,hr⟩
 ·exact ⟨a,0,rfl,Nat.le_refl _,by omega,fun i hi=>by cases hi⟩
 ·refine ⟨_,cap,rfl,hr.le,hr.most,fun i hi=>⟨g,0,rfl,hr.lt,by rw [Nat.zero_add];exact hr.cell hi,.inr ?_⟩⟩;obtain ⟨cur,hb,_⟩:=hr.blk;exact ⟨cur,hb⟩
def gB (B:Nat) (w:World) (v:Value) (l:List Int):Prop:=
 gw 0 w v l∧((l.length=0∧∃ a c,v=.slice a 0 c)∨∃ g c cur,v=.slice (some ⟨g,0,none⟩) l.length c∧af w g cur 157∧l.length≤cur.size∧B≤g)
theorem gB.rd (h:gB B w v l):aY .u32 w v l:=h.1.rd
theorem gB.keeps (h:gB B w v l) (k:Keeps C t w w') (ht:157≠t):gB B w' v l:=
 ⟨h.1.keeps (k.mono (Nat.zero_le _)) ht,h.2.imp id fun ⟨g,c,cur,e,hb,hs,hB⟩=>⟨g,c,cur,e,hb.keeps k ht,hs,hB⟩⟩
theorem gB.ext (h:gB B w v l) (k:Ext w w'):gB B w' v l:=
 ⟨h.1.ext k,h.2.imp id fun ⟨g,c,cur,e,hb,hs,hB⟩=>⟨g,c,cur,e,hb.ext k,hs,hB⟩⟩
instance:Lx (Ext w w') (gB B w v l) (gB B w' v l):=⟨fun k h=>gB.ext h k⟩
theorem gB.mono (h:gB B w v l) (hB:C≤B):gB C w v l:=
 ⟨h.1,h.2.imp id fun ⟨g,c,cur,e,hb,hs,hB'⟩=>⟨g,c,cur,e,hb,hs,Nat.le_trans hB hB'⟩⟩
theorem gB.new (h:bv w0 w v l) (hB:B≤w0.heap.size):gB B w v l:=by
 refine ⟨gw.new h,?_⟩;obtain ⟨o,h1,h2⟩:=h;rcases h1 with ⟨_,rfl,a,ha,rfl⟩|⟨g,cap,ho,rfl,hr⟩
 ·exact .inl ⟨rfl,_,_,rfl⟩
 ·obtain ⟨cur,hb,hs,ht⟩:=hr.blk;exact .inr ⟨g,cap,cur,rfl,hb,by rw [hs];exact hr.le,Nat.le_trans hB (h2 g ho)⟩
def au (e:TypeId) (size:Nat) (El:World→List Value→α→Prop) (B:Nat) (w:World) (v:Value) (l:List α):Prop:=
 ∃ hs:List (List Value),w.ownsRow B e size v l.length hs.flatten∧hs.length=l.length∧(∀ h ∈ hs,h.length=size)∧∀ (i:Nat) x,l[i]?=some x→∃ h,hs[i]?=some h∧El w h x
theorem au.nil (e:TypeId) (size:Nat) (El:World→List Value→α→Prop) (B:Nat) (w:World):au e size El B w (.slice none 0 0) []:=
 ⟨[],World.ownsRow_nil _ _ _ _,rfl,(fun h hh=>by cases hh),fun i x h=>by simp at h⟩
theorem au.ext {size:Nat} {El:World→List Value→α→Prop} {l:List α} (h:au e size El B w v l) (x:Ext w w')
  (hEl:∀ h y,El w h y→El w' h y):au e size El B w' v l:=by
 obtain ⟨hs,h1,h2,h3,h4⟩:=h;exact ⟨hs,jU h1 x,h2,h3,fun i y hi=>by obtain ⟨h,e1,e2⟩:=h4 i y hi;exact ⟨h,e1,hEl _ _ e2⟩⟩
theorem au.rh {size:Nat} {El:World→List Value→α→Prop} {l:List α} (h:au e size El B w v l):
  ∃ a cap,v=.slice a l.length cap∧l.length≤cap∧cap≤9223372036854775807∧∀ (i:Nat) x,l[i]?=some x→∃ b h,a=some ⟨b,0,none⟩∧B≤b∧b < w.heap.size∧h.length=size∧(∀ j,j < size→w.cell? ⟨b,i*size+j,none⟩=h[j]?)∧El w h x:=by
 obtain ⟨hs,h1,h2,h3,h4⟩:=h;rw [← h2] at h1;have hr:=GJ h1 h3;rcases h1.2 with ⟨rfl,h0⟩|⟨g,cap,cur,rfl,hb,hg,hn,hm,hs',ht⟩
 ·refine ⟨none,0,by rw [← h2,h0],by omega,by omega,fun i x hi=>?_⟩;have:=(List.getElem?_eq_some_iff.1 hi).1;omega
 ·obtain ⟨a,cap',hv,hc,hm2,hr⟩:=hr;injection hv with e1 e2 e3
  subst e1;subst e3;refine ⟨_,cap,by rw [h2],by omega,hm2,fun i x hi=>?_⟩;have hil:=(List.getElem?_eq_some_iff.1 hi).1;obtain ⟨h,e4,e5⟩:=h4 i x hi;obtain ⟨b,off,e6,e7,e8⟩:=hr i Z;injection e6 with e6
  injection e6 with e6 e9
  subst e6;subst e9;refine ⟨g,h,rfl,hb,e7,h3 h (List.mem_of_getElem? e4),fun j hj=>?_,e5⟩;have:=e8 j hj;rw [Nat.zero_add] at this;rw [this,List.getD_eq_getElem?_getD,e4];rfl
theorem aN (W:World) {o:Oper} (hgd:o.guard=none) (s x:Operand) (t:TypeId)
  (ho:o.op=.call { callee:=.builtin .append,args:=#[s,x],argTypes:=#[t,t] })
  (B:Nat) (e:TypeId) (z:Value) (size bytes:Nat) (ht:P.underlying t=some (.slice e)) (hinfo:(P.info? e).map (fun i=>(i.zero,i.size,i.bytes))=some (some z,size,bytes))
  (hzs:z.cells.size=size) (hsz:0 < size) {α:Type} {El:World→List Value→α→Prop} (hEl:∀ w w' h y,El w h y→Keeps B e w w'→El w' h y) (v:Value) (l:List α) (hown:au e size El B W v l) (hs:a.eval s=v)
  (cs:List Value) (hcs:cs.length=size) (h1c:∀ u ∈ cs,u.oneCell'=true) (y:α) (hy:El W cs y) (hx:a.eval x=.slice (some ⟨W.heap.size,0,none⟩) 1 1)
  (h63:l.length+1≤9223372036854775807) (hbytes:(l.length+1)*bytes≤140737488355328) (hB:B≤W.heap.size)
  (h:∀ g cap w',au e size El B w' (.slice (some ⟨g,0,none⟩) (l.length+1) cap) (l ++ [y])→Keeps B e W w'→wpList P ops Q rest (a.put o.dst (.slice (some ⟨g,0,none⟩) (l.length+1) cap)) w') :
  wpList P ops Q (o :: rest) a (W.alloc (.cells cs.toArray e)):=by
 obtain ⟨i0,hi,hz0,hz1,hz2⟩:=info_parts hinfo;obtain ⟨hs0,h1,h2,h3,h4⟩:=hown;refine wpList_append_own _ hgd s x t ho B e i0 z size bytes ht hi hz0 hz1 hz2 hzs hsz v l.length hs0.flatten hs (h1.alloc _) ⟨W.heap.size,0,none⟩ 1 1 cs hx PK ?_ h1c PH hbytes oZ ?_
 ·exact Wu
 ·exact zSh
def aT (w:World) (v:Value) (l:List RR):Prop:=
 ∃ a cap,v=.slice a l.length cap∧l.length≤cap∧cap≤9223372036854775807∧
  ∀ i,i < l.length→∃ b off a1 c1 a2 c2,a=some ⟨b,off,none⟩∧b < w.heap.size∧
   w.cell? ⟨b,off+i*3,none⟩=some (.bool (l.getD i zR).neg)∧w.cell? ⟨b,off+i*3+1,none⟩=some (.slice a1 (l.getD i zR).num.length c1)∧w.cell? ⟨b,off+i*3+2,none⟩=some (.slice a2 (l.getD i zR).den.length c2)∧
   aY .u32 w (.slice a1 (l.getD i zR).num.length c1) (l.getD i zR).num∧aY .u32 w (.slice a2 (l.getD i zR).den.length c2) (l.getD i zR).den
theorem aT.ext {l:List RR} (h:aT w v l) (e:Ext w w'):aT w' v l:=by
 obtain ⟨a,cap,hv,hc,hm,hr⟩:=h;refine ⟨a,cap,hv,hc,hm,fun i hi=>?_⟩;obtain ⟨b,off,a1,c1,a2,c2,ha,hb,x0,x1,x2,r1,r2⟩:=hr i hi;exact ⟨b,off,a1,c1,a2,c2,ha,Nat.lt_of_lt_of_le hb e.size,(e.cell (p:=⟨b,off+i*3,none⟩) hb).trans x0,(e.cell (p:=⟨b,off+i*3+1,none⟩) hb).trans x1,(e.cell (p:=⟨b,off+i*3+2,none⟩) hb).trans x2,r1.ext e,r2.ext e⟩
instance {l:List RR}:Lx (Ext w w') (aT w v l) (aT w' v l):=⟨fun k h=>aT.ext h k⟩
theorem aT.get {l:List RR} (h:aT w v l):∃ a cap,v=.slice a l.length cap∧l.length≤cap∧cap≤9223372036854775807∧
  ∃ f:Nat→(Option Addr × Nat) × (Option Addr × Nat),∀ i,i < l.length→∃ b off,a=some ⟨b,off,none⟩∧b < w.heap.size∧
   w.cell? ⟨b,off+i*3,none⟩=some (.bool (l.getD i zR).neg)∧w.cell? ⟨b,off+i*3+1,none⟩=some (.slice (f i).1.1 (l.getD i zR).num.length (f i).1.2)∧w.cell? ⟨b,off+i*3+2,none⟩=some (.slice (f i).2.1 (l.getD i zR).den.length (f i).2.2)∧
   bH w (.agg #[.bool (l.getD i zR).neg,.slice (f i).1.1 (l.getD i zR).num.length (f i).1.2,.slice (f i).2.1 (l.getD i zR).den.length (f i).2.2]) (l.getD i zR):=by
 obtain ⟨a,cap,hv,hc,hm,hr⟩:=h;have h2:∀ i:Nat,∃ y:(Option Addr × Nat) × (Option Addr × Nat),i < l.length→∃ b off,a=some ⟨b,off,none⟩∧b < w.heap.size∧
   w.cell? ⟨b,off+i*3,none⟩=some (.bool (l.getD i zR).neg)∧w.cell? ⟨b,off+i*3+1,none⟩=some (.slice y.1.1 (l.getD i zR).num.length y.1.2)∧w.cell? ⟨b,off+i*3+2,none⟩=some (.slice y.2.1 (l.getD i zR).den.length y.2.2)∧
   bH w (.agg #[.bool (l.getD i zR).neg,.slice y.1.1 (l.getD i zR).num.length y.1.2,.slice y.2.1 (l.getD i zR).den.length y.2.2]) (l.getD i zR):=by
  intro i;by_cases hi:i < l.length
  ·obtain ⟨b,off,a1,c1,a2,c2,ha,hb,x0,x1,x2,r1,r2⟩:=hr i hi;exact ⟨((a1,c1),(a2,c2)),fun _=>⟨b,off,ha,hb,x0,x1,x2,_,_,rfl,r1,r2⟩⟩
  ·exact ⟨((none,0),(none,0)),fun h=>absurd h hi⟩
 exact ⟨a,cap,hv,hc,hm,fun i=>Classical.choose (h2 i),fun i hi=>Classical.choose_spec (h2 i) hi⟩
-- WALKS (written by ah1.py)
theorem vW (v:Value) (r:RR) (w:World) (h:bH w v r) (hs:r.num.length≤1000000∧r.den.length≤1000000):
  Calls Tryz.prog 61 #[v] w fun e w'=>(∃ v',e=.returned v'∧aO w w' v' r)∧Ext w w':=by
 obtain ⟨a1,c1,a2,c2,rfl,hn,hd⟩:=h.parts;obtain ⟨b,l1,l2⟩:=r;dsimp only at hn hd hs ⊢;obtain ⟨hs1,hs2⟩:=hs;have HN:=kI hn;have HD:=kI hd;clear hn hd h;have bb0:=((af.new w #[.bool b,.slice a1 l1.length c1,.slice a2 l2.length c2] 25).alloc (.cells #[.bool false,.slice none 0 0,.slice none 0 0] 25));have bb1:=(af.new (w.alloc (.cells #[.bool b,.slice a1 l1.length c1,.slice a2 l2.length c2] 25)) #[.bool false,.slice none 0 0,.slice none 0 0] 25);rw [World.size_alloc] at bb1;have x0:Ext w ((w.alloc (.cells #[.bool b,.slice a1 l1.length c1,.slice a2 l2.length c2] 25)).alloc (.cells #[.bool false,.slice none 0 0,.slice none 0 0] 25)):=(((Ext.refl w).alloc _).alloc _);obtain ⟨A0,A1,X⟩:=cC bb0 bb1 x0;clear x0 bb0 bb1;have HN:=kI (HN.o.ext X.o);have HD:=kI (HD.o.ext X.o);go_enter Tryz.func61,Tryz.ntmps61
 go_wp2_with fail;refine wp_region_held_drew (S:=(fun W=>(af W w.heap.size #[.bool b,.slice a1 l1.length c1,.slice a2 l2.length c2] 25∧W.cell? ⟨w.heap.size,0,none⟩=some (.bool b)∧W.cell? ⟨w.heap.size,1,none⟩=some (.slice a1 l1.length c1)∧W.cell? ⟨w.heap.size,2,none⟩=some (.slice a2 l2.length c2)))) ak ?_ (fun hHeld=>?_)
 ·exact af.s3 A0.o.drew
 refine tk 0 ?_;refine tk 1 ?_;refine tk 2 ?_;refine tk 3 ?_;refine tk 5 ?_;refine tk 6 ?_;have x1:=X.o;refine dt [4] ?_;refine rc (fun K hK=>?_);go_simp;refine (ey (.slice a1 l1.length c1) l1 _ (HN.o.ext gM) Z).mono ?_;rintro e w1 ⟨⟨v,rfl,nn⟩,hx⟩;have hx:=Ext.trans (show Ext ((w.alloc (.cells #[.bool b,.slice a1 l1.length c1,.slice a2 l2.length c2] 25)).alloc (.cells #[.bool false,.slice none 0 0,.slice none 0 0] 25)) _ from by first|exact Ext.refl _|exact (Ext.refl _).drew) hx;revert A0 A1 X HN HD;refine lf hx ?_;intro A0 A1 X HN HD;obtain ⟨n1,n2,rfl⟩:=nn.shape;have On:=kI (nn.from (Ext.trans x1 eX));clear nn hx x1;(try go_wp2_with fail);refine hK.out _ _ ?_ (fun hHeld=>?_)
 ·exact af.s3 A0.o
 clear hK K;(try simp only [sP]);have x1:=X.o;refine dt [7] ?_;refine rc (fun K hK=>?_);go_simp;refine (ey (.slice a2 l2.length c2) l2 _ (HD.o.ext gM) Z).mono ?_;exact jD8
def lg (B:Nat) (w:World) (h:List Value) (r:RR):Prop:=∃ a1 c1 a2 c2,h=[.bool r.neg,.slice a1 r.num.length c1,.slice a2 r.den.length c2]∧gw B w (.slice a1 r.num.length c1) r.num∧gw B w (.slice a2 r.den.length c2) r.den
theorem lg.keeps (ht:157≠t) (w w':World) (h:List Value) (r:RR) (e:lg B w h r) (k:Keeps B t w w'):lg B w' h r:=by
 obtain ⟨a1,c1,a2,c2,e1,e2,e3⟩:=e;exact ⟨a1,c1,a2,c2,e1,e2.keeps k ht,e3.keeps k ht⟩
theorem lg.ext {r:RR} (e:lg B w h r) (k:Ext w w'):lg B w' h r:=by
 exact jHu
instance {r:RR}:Lx (Ext w w') (lg B w h r) (lg B w' h r):=⟨fun k h=>lg.ext h k⟩
theorem lg.old {r:RR} (h:bH w (.agg #[.bool r.neg,.slice a1 r.num.length c1,.slice a2 r.den.length c2]) r) (hB:w.heap.size≤B):lg B w [.bool r.neg,.slice a1 r.num.length c1,.slice a2 r.den.length c2] r:=by
 obtain ⟨vn,vd,e,h1,h2⟩:=h;injection e with e
 simp only [Array.mk.injEq,List.cons.injEq,and_true,true_and] at e;obtain ⟨rfl,rfl⟩:=e;exact ⟨a1,c1,a2,c2,rfl,gw.old h1 hB,gw.old h2 hB⟩
abbrev bI (B:Nat) (w:World) (v:Value) (l:List RR):Prop:=au 25 3 (lg B) B w v l
theorem bI.ext' {l:List RR} (h:bI B w v l) (x:Ext w w'):bI B w' v l:=au.ext h x (fun _ _ e=>e.ext x)
instance {l:List RR}:Lx (Ext w w') (bI B w v l) (bI B w' v l):=⟨fun k h=>bI.ext' h k⟩
theorem bI.rd {l:List RR} (h:bI B w v l):aT w v l:=by
 obtain ⟨a,cap,hv,hc,hm,hr⟩:=au.rh h;refine ⟨a,cap,hv,hc,hm,fun i hi=>?_⟩;have hl:l[i]?=some (l.getD i zR):=by rw [List.getD_eq_getElem?_getD,List.getElem?_eq_getElem hi];rfl
 obtain ⟨b,h,e1,_,e2,e3,e4,a1,c1,a2,c2,e5,e6,e7⟩:=hr i _ hl;subst e5;refine ⟨b,0,a1,c1,a2,c2,e1,e2,?_,?_,?_,e6.rd,e7.rd⟩
 ·rw [Nat.zero_add];exact e4 0 Z
 ·rw [Nat.zero_add];exact e4 1 Z
 ·rw [Nat.zero_add];exact e4 2 Z
theorem Tryz.dH:(Tryz.prog.info? 25).map (fun i=>(i.zero,i.size,i.bytes))=some (some (.agg #[.bool false,.slice none 0 0,.slice none 0 0]),3,56):=ak
theorem bC (l:List α) (k:Nat) (d:α) (h:k < l.length):l.take (k+1)=l.take k ++ [l.getD k d]:=by
 rw [List.take_succ_eq_append_getElem h,List.getD_eq_getElem?_getD,List.getElem?_eq_getElem h];rfl
theorem dz (v1 v2:Value) (l1 l2:List RR) (w:World) (h1:aT w v1 l1) (h2:aT w v2 l2):
  Calls Tryz.prog 24 #[v1,v2] w fun e w'=>e=.returned (.bool (decide (l1=l2)))∧Ext w w':=by
 obtain ⟨a1,c1,rfl,hc1,hm1,f1,hr1⟩:=h1.get;obtain ⟨a2,c2,rfl,hc2,hm2,f2,hr2⟩:=h2.get;clear h1 h2;by_cases hlen:l1.length=l2.length
 ·have H1:=kI hr1;clear hr1;have H2:=kI hr2;clear hr2;rw [← hlen];rw [← hlen] at H2 hc2;have HL:=kI hlen;clear hlen;go_enter Tryz.func24,Tryz.ntmps24
  go_wp2
  go_loopw [5] (fun i wr=>∃ k:Nat,k≤l1.length∧i=.int .i64 k∧l1.take k=l2.take k∧Ext w wr) (fun i _=>l1.length - (intOf i).toNat)
  case atStart=>exact ⟨0,Nat.zero_le _,rfl,rfl,Ext.refl w⟩
  case round=>
   obtain ⟨k,hk,rfl,htake,hext⟩:=hrel;have HT:=kI htake;clear htake;by_cases hlt:k < l1.length
   ·obtain ⟨b1,o1,rfl,hb1,x0,x1,x2,QF⟩:=H1.o k hlt;obtain ⟨b2,o2,rfl,hb2,z0,z1,z2,mI⟩:=H2.o k hlt;have y0:=(hext.cell (p:=⟨b1,o1+k*3,none⟩) hb1).trans x0;have y1:=(hext.cell (p:=⟨b1,o1+k*3+1,none⟩) hb1).trans x1;have y2:=(hext.cell (p:=⟨b1,o1+k*3+2,none⟩) hb1).trans x2;have y3:=(hext.cell (p:=⟨b2,o2+k*3,none⟩) hb2).trans z0;have y4:=(hext.cell (p:=⟨b2,o2+k*3+1,none⟩) hb2).trans z1;have y5:=(hext.cell (p:=⟨b2,o2+k*3+2,none⟩) hb2).trans z2;have heq:=fun W (x:Ext wr W)=>eK _ _ _ _ W (QF.ext (hext.trans x)) (mI.ext (hext.trans x));have g1:l1.take (k+1)=l1.take k ++ [l1.getD k zR]:=bC l1 k zR hlt;have g2:l2.take (k+1)=l2.take k ++ [l2.getD k zR]:=bC l2 k zR (HL.o ▸ hlt);obtain ⟨r1,hr1⟩:=gN (l1.getD k zR);obtain ⟨r2,hr2⟩:=gN (l2.getD k zR);rw [← hr1] at y0 y1 y2 heq g1;rw [← hr2] at y3 y4 y5 heq g2;have q1:(0:Int)≤(k:Int):=Z
    have q2:(k:Int) < (l1.length:Int):=Z
    have hz:=hext.size;have Ul:b1 < wr.heap.size:=by have:=hext.size;omega
    have XH:b2 < wr.heap.size:=by have:=hext.size;omega
    obtain ⟨G1,G2,HX⟩:=cC g1 g2 hext;clear x0 x1 x2 z0 z1 z2 QF mI hr1 hr2 g1 g2 hext;by_cases he:r1=r2
    ·rw [decide_eq_true he] at heq;have HE:=kI he;have HQ:=kI heq;clear he heq;go_wp2_with fail;(refine aF ak ak ?_;(repeat (go_big_quiet_step ((go_at_call 52;exact iz (HQ.o _ (Later.ext _))))));refine wpQuiet_nil ?_;rintro w1 ⟨⟨_,hx1⟩,rfl⟩;(try dsimp only);have hz1:=hx1.size;(try simp only [World.size_alloc,World.size_setCell,World.size_drew,fX] at hz1);obtain ⟨hc1,hf1⟩:=hx1.old (B:=w.heap.size) Ua)
     have yq:=HX.x hx1;clear hx1;go_wp2
     go_roundw
     case rel=>exact ⟨k+1,by omega,by go_num,by rw [G1.o,G2.o,HT.o,HE.o],yq.o⟩
     case measure=>simp [intOf];omega
    ·rw [decide_eq_false he] at heq;have HE:=kI he;have HQ:=kI heq;clear he heq;go_wp2_with fail;(refine aF ak ak ?_;(repeat (go_big_quiet_step ((go_at_call 52;exact iz (HQ.o _ (Later.ext _))))));refine wpQuiet_nil ?_;rintro w1 ⟨⟨_,hx1⟩,rfl⟩;(try dsimp only);have hz1:=hx1.size;(try simp only [World.size_alloc,World.size_setCell,World.size_drew,fX] at hz1);obtain ⟨hc1,hf1⟩:=hx1.old (B:=w.heap.size) Ua)
     have yq:=HX.x hx1;clear hx1;go_wp2
     go_ret;refine ⟨ii ?_,yq.o⟩;rw [eq_comm,decide_eq_false_iff_not];rintro rfl;have:=G1.o.symm.trans G2.o;have:=List.append_cancel_left this;exact HE.o (by injection this)
   ·have HX:=kI hext;clear hext;go_wp2
    go_ret;refine ⟨ii ?_,HX.o⟩;have:=HT.o;rw [List.take_of_length_le Z,List.take_of_length_le (by have:=HL.o;omega)] at this;simp [this]
 ·have hb:(l1.length != l2.length)=true:=by simpa using hlen
  go_enter Tryz.func24,Tryz.ntmps24
  exact WJ
section
open Go.RowKit Go.ChangeShapes Go.WideShapes Go.ChangeAt Go.Deep
section
variable {H:Type} {enc:TypeId × Value→H} {w:World} {base:Nat} {spare:Nat→Bool} {held:Bool}
/-- A slice, by its reading: m cells an element, each of which has a property. -/
theorem fm {m:Nat} {Pp:List Value→Prop} {x:DataW H × List MemPlace} (ht:Tryz.prog.underlying t=some (.slice e)) (hm:Tryz.prog.cellsOf e=m) (hm0:0 < m)
  (hel:∀ n cs x,DataW.trod enc Tryz.prog w base spare held n e cs=some x→Pp cs∧cs.length=m) (h:DataW.trod enc Tryz.prog w base spare held n t cs=some x) :
  ∃ (a:Option Addr) (len cap:Nat),cs=[.slice a len cap]∧len≤cap∧cap≤9223372036854775807∧∀ i,i < len→∃ b off es,a=some ⟨b,off,none⟩∧b < w.heap.size∧Pp es∧es.length=m∧∀ j,j < m→w.cell? ⟨b,off+i*m+j,none⟩=es[j]?:=by
 rcases open_slice ht h with ⟨rfl,_⟩|⟨a,len,cap,k,n',D,Pl,rfl,hb,hlc,hcm,hk,_,hall⟩
 ·exact ⟨none,0,0,rfl,by omega,by omega,fun i hi=>by omega⟩
 ·have hlk:len≤k:=by rw [hk];split <;> omega
  have hex:∀ i,i < len→∃ es,w.cells? base (a.add (i*m)) m=some es∧Pp es∧es.length=m:=by
   intro i hi;obtain ⟨cs',h1,h2⟩:=hall i Z;obtain ⟨h3,h4⟩:=hel _ _ _ h2;exact ⟨cs',by rw [hm] at h1;exact h1,h3,h4⟩
  refine ⟨some a,len,cap,rfl,hlc,by unfold maxLen at hcm;omega,fun i hi=>?_⟩;obtain ⟨es,h1,h2,h3⟩:=hex i hi;obtain ⟨es0,g1,g2,g3⟩:=hex 0 Z;obtain ⟨_,_,hcell⟩:=World.cells?_some h1;have hblk:=World.cells?_block h1 hm0;obtain ⟨b,off,spot⟩:=a;obtain ⟨_,_,hc0⟩:=World.cells?_some g1;have hsome:w.cell? (((Addr.mk b off spot).add (0*m)).add 0)=some (es0[0]'(by rw [g3];exact hm0)):=by rw [hc0 0 hm0,List.getElem?_eq_getElem]
  have hspot:spot=none:=by simpa [Addr.add] using World.cell?_spot hsome
  subst hspot;rw [Go.WideShapes.add_plain] at hblk;refine ⟨b,off,es,rfl,hblk,h2,h3,fun j hj=>?_⟩;have h5:=hcell j hj;rw [Go.WideShapes.add_plain,Go.WideShapes.add_plain] at h5;exact h5
/-- A slice of api.ah2, by its reading. -/
theorem tO {x:DataW H × List MemPlace} (h:DataW.trod enc Tryz.prog w base spare held n 29 cs=some x):
  ∃ (v:Value) (l:List RR),cs=[v]∧aT w v l∧∀ i,i < l.length→bj (l.getD i zR):=by
 obtain ⟨a,len,cap,rfl,h1,h2,h3⟩:=fm (m:=3) (Pp:=fun cs=>∃ (b:Bool) (v u:Value) (l m:List Int),cs=[.bool b,v,u]∧aY .u32 w v l∧bk l∧aY .u32 w u m∧bk m) Tryz.underlying29 Tryz.pN Z
  (fun n cs x hx=>by
   refine ⟨jt hx,?_⟩;obtain ⟨b,v,u,l,m,e,_⟩:=jt hx;rw [e];rfl) h
 have hex:∀ i,∃ r:RR,i < len→∃ b off a1 c1 a2 c2,a=some ⟨b,off,none⟩∧b < w.heap.size∧
   w.cell? ⟨b,off+i*3,none⟩=some (.bool r.neg)∧w.cell? ⟨b,off+i*3+1,none⟩=some (.slice a1 r.num.length c1)∧w.cell? ⟨b,off+i*3+2,none⟩=some (.slice a2 r.den.length c2)∧
   aY .u32 w (.slice a1 r.num.length c1) r.num∧aY .u32 w (.slice a2 r.den.length c2) r.den∧bj r:=by
  intro i;by_cases hi:i < len
  ·obtain ⟨b,off,es,e1,e2,⟨bb,v,u,l,m,e3,e4,e5,e6,e7⟩,e8,e9⟩:=h3 i hi;obtain ⟨a1,c1,rfl⟩:=am e4;obtain ⟨a2,c2,rfl⟩:=am e6;subst e3;exact ⟨⟨bb,l,m⟩,fun _=>⟨b,off,a1,c1,a2,c2,e1,e2,e9 0 Z,e9 1 Z,e9 2 Z,e4,e6,e5,e7⟩⟩
  ·exact ⟨zR,fun h=>absurd h hi⟩
 refine ⟨_,(List.range len).map fun i=>Classical.choose (hex i),rfl,⟨a,cap,by simp,by simpa using h1,h2,fun i hi=>?_⟩,fun i hi=>?_⟩
 ·have hi':i < len:=by simpa using hi
  have e:((List.range len).map fun i=>Classical.choose (hex i)).getD i zR=Classical.choose (hex i):=by simp [hi']
  rw [e];obtain ⟨b,off,a1,c1,a2,c2,e1,e2,e3,e4,e5,e6,e7,_⟩:=Classical.choose_spec (hex i) hi';exact ⟨b,off,a1,c1,a2,c2,e1,e2,e3,e4,e5,e6,e7⟩
 ·have hi':i < len:=by simpa using hi
  have e:((List.range len).map fun i=>Classical.choose (hex i)).getD i zR=Classical.choose (hex i):=by simp [hi']
  rw [e];obtain ⟨b,off,a1,c1,a2,c2,e1,e2,e3,e4,e5,e6,e7,e8⟩:=Classical.choose_spec (hex i) hi';exact e8
theorem At {r:Reach} {v':Value} (ht:Tryz.prog.underlying t=some (.slice e)) (hv:Value.okWide Tryz.prog w r b0 t v) (h:v.cells.toList=[v']):v'=v:=by
 obtain ⟨a,len,cap,rfl⟩:=okWide_slice ht hv;simpa [Value.cells] using h.symm
theorem BU {r:Reach} {d:DataW H} {p:List MemPlace} (hv:Value.okWide Tryz.prog w r b0 29 v) (h:DataW.Trod enc Tryz.prog w base spare held 29 v d p):
  ∃ l:List RR,aT w v l∧∀ i,i < l.length→bj (l.getD i zR):=by
 obtain ⟨n,hf⟩:=h;obtain ⟨v',l,e,h1,h2⟩:=tO hf;rw [At Tryz.underlying29 hv e] at h1;exact ⟨l,h1,h2⟩
end
end
section
open Go.ChangeShapes Go.RowKit
section
variable {H:Type} {enc:TypeId × Value→H} {P:Program} {w:World} {base:Nat} {spare:Nat→Bool} {held:Bool}
theorem tP {t' t'' t4:TypeId} {ds:List (DataW H)} {ps:List MemPlace} (h:DataW.TrodAll enc P w base spare held [t,t',t'',t3,t4] args.toList ds ps):
  ∃ v v' v'' v3 v4 d d' d'' d3 d4 p p' p'' p3 p4,args=#[v,v',v'',v3,v4]∧ds=[d,d',d'',d3,d4]∧ps=p ++ p' ++ p'' ++ p3 ++ p4∧DataW.Trod enc P w base spare held t v d p∧DataW.Trod enc P w base spare held t' v' d' p'∧DataW.Trod enc P w base spare held t'' v'' d'' p''∧DataW.Trod enc P w base spare held t3 v3 d3 p3∧DataW.Trod enc P w base spare held t4 v4 d4 p4:=by
 obtain ⟨v,vs,d,ds',p,q,hargs,rfl,rfl,hd,hrest⟩:=trodAll_cons h;obtain ⟨v',vs',d',ds'',p',q',rfl,rfl,rfl,hd',hrest'⟩:=trodAll_cons hrest;obtain ⟨v'',vs'',d'',ds''',p'',q'',rfl,rfl,rfl,hd'',hrest''⟩:=trodAll_cons hrest';obtain ⟨v3,vs3,d3,ds3,p3,q3,rfl,rfl,rfl,hd3,hrest3⟩:=trodAll_cons hrest'';obtain ⟨v4,vs4,d4,ds4,p4,q4,rfl,rfl,rfl,hd4,Ll⟩:=trodAll_cons hrest3;obtain ⟨rfl,rfl,rfl⟩:=trodAll_nil Ll;exact ⟨v,v',v'',v3,v4,d,d',d'',d3,d4,p,p',p'',p3,p4,by cases args;simp_all,rfl,by simp,hd,hd',hd'',hd3,hd4⟩
theorem vX {t' t'' t4:TypeId} {v' v'' v3 v4:Value} {d d' d'' d3 d4:DataW H} {p p' p'' p3 p4:List MemPlace} (h:DataW.Trod enc P w base spare held t v d p) (h':DataW.Trod enc P w base spare held t' v' d' p')
  (h'':DataW.Trod enc P w base spare held t'' v'' d'' p'') (h3:DataW.Trod enc P w base spare held t3 v3 d3 p3) (h4:DataW.Trod enc P w base spare held t4 v4 d4 p4):DataW.TrodAll enc P w base spare held [t,t',t'',t3,t4] [v,v',v'',v3,v4] [d,d',d'',d3,d4] (p ++ (p' ++ (p'' ++ (p3 ++ p4)))):=
 ⟨p,p' ++ (p'' ++ (p3 ++ p4)),h,trodAll_mk4 h' h'' h3 h4,rfl⟩
end
end
def tQ (w:World) (g n:Nat):Prop:=∃ cur,af w g cur 157∧n≤cur.size
theorem tQ.ext (h:tQ w g n) (x:Ext w w'):tQ w' g n:=by
 obtain ⟨c,h1,h2⟩:=h;exact ⟨c,h1.ext x,h2⟩
instance:Lx (Ext w w') (tQ w g n) (tQ w' g n):=⟨fun k h=>tQ.ext h k⟩
structure kM (A:Nat) (W W':World):Prop where
 keeps:Keeps A 157 W W'
 rows:∀ g n,tQ W g n→tQ W' g n
theorem kM.cj {A:Nat} (x:Ext W W'):kM A W W':=⟨Keeps.ext x,fun _ _ h=>h.ext x⟩
theorem kM.trans {A:Nat} {a b c:World} (h:kM A a b) (k:kM A b c):kM A a c:=⟨h.keeps.trans k.keeps,fun g n r=>k.rows g n (h.rows g n r)⟩
instance {A:Nat} {a b c:World}:Lx (kM A b c) (kM A a b) (kM A a c):=⟨fun k h=>kM.trans h k⟩
theorem kM.ext {A:Nat} (x:Ext w W) (k:kM A W W') (h:w.heap.size≤A):Ext w W':=
 Below.trans x ((k.keeps.mono h).below x.size)
def sE (w:World) (A:Nat) (v:Value) (n:Nat):Prop:=(n=0∧∃ a c,v=.slice a 0 c)∨∃ g c,v=.slice (some ⟨g,0,none⟩) n c∧tQ w g n∧A≤g
theorem sE.gr {A:Nat} (h:sE W A v n) (k:kM C W W'):sE W' A v n:=by
 exact jA8
theorem sE.ext {A:Nat} (h:sE W A v n) (k:Ext W W'):sE W' A v n:=h.gr (kM.cj (A:=A) k)
instance {A:Nat}:Lx (Ext W W') (sE W A v n) (sE W' A v n):=⟨fun k h=>sE.ext h k⟩
theorem gB.wr (h:gB B w v l):sE w B v l.length:=by
 rcases h.2 with h|⟨g,c,cur,e,hb,hs,hB⟩
 ·exact .inl h
 ·exact .inr ⟨g,c,e,⟨cur,hb,hs⟩,hB⟩
theorem pQ (v:Value) (n A:Nat) (w:World) (h:sE w A v n) (hn:n≤1000000000):
  Calls Tryz.prog 180 #[v] w fun e w'=>e=.returned (.tuple #[])∧kM A w w':=by
 rcases h with ⟨rfl,a,c,rfl⟩|⟨g,cap,rfl,h,hA⟩
 ·go_enter Tryz.func180,Tryz.ntmps180
  go_wp2_with fail;go_loopw [2] (fun i wr=>i=.int .i64 0∧wr=w) (fun _ _=>0)
  case atStart=>exact ⟨rfl,rfl⟩
  case round=>
   obtain ⟨rfl,rfl⟩:=hrel;go_wp2
   go_end0
   exact ⟨rfl,kM.cj (Ext.refl _)⟩
 ·obtain ⟨cur,hb,hs⟩:=h;have HB:=kI hb;clear hb;go_enter Tryz.func180,Tryz.ntmps180
  go_wp2_with fail;go_loopw [2] (fun i wr=>∃ (k:Nat) (ck:Array Value),k≤n∧i=.int .i64 k∧Gr (some g) w wr∧ck.size=cur.size∧af wr g ck 157) (fun i _=>n - (intOf i).toNat)
  case atStart=>exact ⟨0,cur,by omega,rfl,Gr.refl _ _,rfl,HB.o⟩
  case round=>
   obtain ⟨k,ck,hk,rfl,hgr,hck,hbk⟩:=hrel;by_cases hlt:k < n
   ·have c1:=hbk.cell k;rw [Array.getElem?_eq_getElem (by omega:k < ck.size)] at c1;have f1:=hbk.free;have l1:=hbk.lt;have q1:(0:Int)≤(k:Int):=Z
    have q2:(k:Int) < (n:Int):=Z
    obtain ⟨y,hy⟩:=gN (ck[k]);rw [← hy] at c1;obtain ⟨HG,HR,HK⟩:=cC hgr hbk hck;clear hgr hbk hck hy;go_wp2_with fail;go_roundw
    case rel=>exact ⟨k+1,ck.setIfInBounds k (.int .u32 77),by omega,by go_num,HG.o.set _ _,(Array.size_setIfInBounds).trans HK.o,HR.o.set k _⟩
    case measure=>simp [intOf];omega
   ·obtain ⟨HG,HR,HK⟩:=cC hgr hbk hck;clear hgr hbk hck;go_wp2
    go_end0
    refine ⟨rfl,⟨⟨⟨HG.o.os,HG.o.tape,HG.o.output,HG.o.size,fun i hi=>by omega⟩,fun i hi ho=>HG.o.block i hi (fun e=>?_)⟩,fun g' m hr=>?_⟩⟩
    ·exact jRv
    obtain ⟨c',h1,h2⟩:=hr;by_cases e:g'=g
    ·subst e;have e2:c'=cur:=by
      have a1:w.heap[g']?=_:=h1;have a2:w.heap[g']?=_:=HB.o;rw [a1] at a2;injection a2 with a2
      injection a2
     subst e2;exact ⟨ck,HR.o,by rw [HK.o];exact h2⟩
    ·exact ⟨c',(HG.o.block g' h1.lt (fun h=>e (Option.some.inj h))).trans h1,h2⟩
theorem mc (v:Value) (n A:Nat) (w:World) (h:sE w A v n) (hn:n≤1000000000):
  Calls Tryz.prog 142 #[v] w fun e w'=>e=.returned (.tuple #[])∧kM A w w':=by
 have H:=kI h;have hv:∃ a n c,v=.slice a n c:=by
  rcases h with ⟨_,a,c,rfl⟩|⟨g,cap,rfl,_⟩
  ·exact ⟨_,_,_,rfl⟩
  ·exact ⟨_,_,_,rfl⟩
 obtain ⟨a,m,c,rfl⟩:=hv;clear h;go_enter Tryz.func142,Tryz.ntmps142
 go_wp2_with fail;refine (pQ _ n A _ H.o hn).mono ?_;rintro e w1 ⟨rfl,hx1⟩;have HX:=kI hx1;clear hx1;go_wp2
 go_end0
 exact ⟨rfl,HX.o⟩
theorem tR (b:Bool) (vn vd:Value) (n d A:Nat) (w:World) (h2:sE w A vn n) (h4:sE w A vd d) (hs:n≤1000000∧d≤1000000):
  Calls Tryz.prog 85 #[.agg #[.bool b,vn,vd]] w fun e w'=>e=.returned (.tuple #[])∧kM A w w':=by
 have sh:∀ {v:Value} {n:Nat},sE w A v n→∃ a c,v=.slice a n c:=fun h=>by
  rcases h with ⟨rfl,a,c,rfl⟩|⟨g,cap,rfl,_⟩
  ·exact ⟨_,_,rfl⟩
  ·exact ⟨_,_,rfl⟩
 obtain ⟨a1,c1,rfl⟩:=sh h2;obtain ⟨a2,c2,rfl⟩:=sh h4;have H2:=kI h2;have H4:=kI h4;clear h2 h4 sh;have B0:=kI (af.new w #[.bool b,.slice a1 n c1,.slice a2 d c2] 25);have X0:=kI ((Ext.refl w).alloc (.cells #[.bool b,.slice a1 n c1,.slice a2 d c2] 25));go_enter Tryz.func85,Tryz.ntmps85
 go_wp2_with fail;refine (mc _ _ A _ (H2.o.ext X0.o) Z).mono ?_;rintro e w1 ⟨rfl,hg1⟩;have B1:Hid (af w1 w.heap.size #[.bool b,.slice a1 n c1,.slice a2 d c2] 25):=kI (B0.o.keeps hg1.keeps ah);have G1:=kI ((kM.cj (A:=A) X0.o).trans hg1);have H4:=kI ((H4.o.ext X0.o).gr hg1);clear hg1;have k0:=B1.o.cell;have l0:=B1.o.lt;go_wp2_with fail;refine (mc _ _ A _ H4.o Z).mono ?_;rintro e w2 ⟨rfl,hg2⟩;have G2:=G1.x hg2;clear hg2 k0 l0;go_wp2_with fail;go_end0
 exact ⟨rfl,G2.o⟩
def fW (B:Nat) (w:World) (h:List Value) (r:RR):Prop:=∃ a1 c1 a2 c2,h=[.bool r.neg,.slice a1 r.num.length c1,.slice a2 r.den.length c2]∧gB B w (.slice a1 r.num.length c1) r.num∧gB B w (.slice a2 r.den.length c2) r.den
theorem fW.keeps (ht:157≠t) (w w':World) (h:List Value) (r:RR) (e:fW B w h r) (k:Keeps C t w w'):fW B w' h r:=by
 obtain ⟨a1,c1,a2,c2,rfl,h1,h2⟩:=e;exact ⟨a1,c1,a2,c2,rfl,h1.keeps k ht,h2.keeps k ht⟩
theorem fW.ext {r:RR} (e:fW B w h r) (k:Ext w w'):fW B w' h r:=by
 obtain ⟨a1,c1,a2,c2,rfl,h1,h2⟩:=e;exact ⟨a1,c1,a2,c2,rfl,h1.ext k,h2.ext k⟩
instance {r:RR}:Lx (Ext w w') (fW B w h r) (fW B w' h r):=⟨fun k h=>fW.ext h k⟩
theorem fW.new {r:RR} (h:aO w0 w (.agg #[.bool r.neg,.slice a1 r.num.length c1,.slice a2 r.den.length c2]) r) (hB:B≤w0.heap.size):fW B w [.bool r.neg,.slice a1 r.num.length c1,.slice a2 r.den.length c2] r:=by
 obtain ⟨vn,vd,e,h1,h2⟩:=h;injection e with e
 simp only [Array.mk.injEq,List.cons.injEq,and_true,true_and] at e;obtain ⟨rfl,rfl⟩:=e;exact ⟨_,_,_,_,rfl,gB.new h1 hB,gB.new h2 hB⟩
theorem fW.rs {r:RR} (e:fW B w h r):lg B w h r:=by
 obtain ⟨a1,c1,a2,c2,rfl,h1,h2⟩:=e;exact ⟨a1,c1,a2,c2,rfl,h1.1.mono (Nat.zero_le _),h2.1.mono (Nat.zero_le _)⟩
abbrev bm (B:Nat) (w:World) (v:Value) (l:List RR):Prop:=au 25 3 (fW B) B w v l
theorem bm.ext' {l:List RR} (h:bm B w v l) (x:Ext w w'):bm B w' v l:=au.ext h x (fun _ _ e=>e.ext x)
instance {l:List RR}:Lx (Ext w w') (bm B w v l) (bm B w' v l):=⟨fun k h=>bm.ext' h k⟩
theorem bm.rs {l:List RR} (h:bm B w v l):bI B w v l:=by
 obtain ⟨hs,h1,h2,h3,h4⟩:=h;exact ⟨hs,h1,h2,h3,fun i x hi=>by obtain ⟨h,e1,e2⟩:=h4 i x hi;exact ⟨h,e1,e2.rs⟩⟩
theorem bm.rd {l:List RR} (h:bm B w v l):aT w v l:=bI.rd h.rs
theorem bm.shape {l:List RR} (h:bm B w v l):∃ a c,v=.slice a l.length c:=by
 exact NH
theorem eY {size:Nat} (h:w.ownsRow B e size v n xs) (k:Keeps C t w w') (ht:e≠t):w'.ownsRow B e size v n xs:=by
 exact qEi
theorem bm.keeps {l:List RR} (h:bm B w v l) (k:Keeps C t w w') (ht:25≠t) (hu:157≠t):bm B w' v l:=by
 obtain ⟨hs,h1,h2,h3,h4⟩:=h;exact ⟨hs,eY h1 k ht,h2,h3,fun i x hi=>by obtain ⟨h,e1,e2⟩:=h4 i x hi;exact ⟨h,e1,e2.keeps hu _ _ _ _ k⟩⟩
theorem bm.mono {l:List RR} (h:bm B w v l) (hB:C≤B):bm C w v l:=by
 obtain ⟨hs,h1,h2,h3,h4⟩:=h;refine ⟨hs,fZ h1 hB,h2,h3,fun i x hi=>?_⟩;obtain ⟨h,e1,a1,c1,a2,c2,e2,s1,s2⟩:=h4 i x hi;exact ⟨h,e1,a1,c1,a2,c2,e2,s1.mono hB,s2.mono hB⟩
theorem bm.nil (B:Nat) (w:World):bm B w (.slice none 0 0) []:=au.nil _ _ _ _ _
theorem bm.tS {l:List RR} (h:bm B w v l) {q:Nat} (hq:w.heap.size≤q):v.ownBlock≠some q:=by
 obtain ⟨hs,h1,_⟩:=h;rcases h1.2 with ⟨rfl,_⟩|⟨g,cap,cur,rfl,hb,hg,_⟩
 ·intro e;cases e
 ·intro e;have h2:g < w.heap.size:=(Array.getElem?_eq_some_iff.1 hg).1;injection e with e
  dsimp only at e;omega
theorem bm.BA {l:List RR} (h:bm B w v l) {c:Array Value} (hb:af w b c 25) (hne:v.ownBlock≠some b) (o:Nat) (x:Value):bm B (w.setCell ⟨b,o,none⟩ x) v l:=by
 have hk:Keeps b 25 w (w.setCell ⟨b,o,none⟩ x):=⟨(Below.refl 0 w).setCell (Nat.zero_le _) x,fun i hi ho=>Below.heap_setCell w ⟨b,o,none⟩ x i (fun (e:i=b)=>by
  subst e;rcases ho with h1|⟨cur,u,h1,h2⟩
  ·omega
  ·unfold af at hb h1;rw [hb] at h1;injection h1 with h1
   injection h1 with _ h3
   exact h2 h3.symm)⟩
 obtain ⟨hs,h1,h2,h3,h4⟩:=h;refine ⟨hs,?_,h2,h3,fun i y hi=>by obtain ⟨h,e1,e2⟩:=h4 i y hi;exact ⟨h,e1,e2.keeps ah _ _ _ _ hk⟩⟩;refine ⟨h1.1,?_⟩;rcases h1.2 with hn|⟨g,cap,cur,rfl,h1',hg,rest⟩
 ·exact .inl hn
 ·have hgb:g≠b:=fun e=>hne (by rw [e];rfl);exact .inr ⟨g,cap,cur,rfl,h1',af.setOther (show af w g cur _ from hg) (a:=⟨b,o,none⟩) hgb x,rest⟩
theorem uQ {l:List RR} (h:bm B w v l) {c:Array Value} (hb:af w b c 25) (hne:v.ownBlock≠some b) {o:Nat} {x y:Value}:bm B (((w.setCell ⟨b,o,none⟩ x).setCell ⟨b,o+1,none⟩ y).setCell ⟨b,o+2,none⟩ z) v l:=
 ((h.BA hb hne _ _).BA (hb.set _ _) hne _ _).BA ((hb.set _ _).set _ _) hne _ _
def dN (w w':World) (e:Ending) (r:List RR × Int):Prop:=∃ v,e=.returned (.tuple #[v,.int .i64 r.2])∧bm w.heap.size w' v r.1
theorem dN.mk {l:List RR} {x:Int} {r:List RR × Int} (h:bm w.heap.size w' v l) (e:r=(l,x)):dN w w' (.returned (.tuple #[v,.int .i64 x])) r:=by subst e;exact ⟨v,rfl,h⟩
def Gp (B:Nat) (w:World) (v:Value) (l:List RR):Prop:=
 au 25 3 (fun W h y=>∃ a1 c1 a2 c2,h=[.bool y.neg,.slice a1 y.num.length c1,.slice a2 y.den.length c2]∧sE W B (.slice a1 y.num.length c1) y.num.length∧sE W B (.slice a2 y.den.length c2) y.den.length) B w v l
theorem bm.ov {l:List RR} (h:bm B w v l):Gp B w v l:=by
 obtain ⟨hs,h1,h2,h3,h4⟩:=h;exact ⟨hs,h1,h2,h3,fun i x hi=>by obtain ⟨h,e1,a1,c1,a2,c2,e2,s1,s2⟩:=h4 i x hi;exact ⟨h,e1,a1,c1,a2,c2,e2,s1.wr,s2.wr⟩⟩
theorem Gp.gr {l:List RR} (h:Gp B w v l) (g:kM C w w'):Gp B w' v l:=by
 obtain ⟨hs,h1,h2,h3,h4⟩:=h;exact ⟨hs,eY h1 g.keeps ah,h2,h3,fun i x hi=>by obtain ⟨h,e1,a1,c1,a2,c2,e2,s1,s2⟩:=h4 i x hi;exact ⟨h,e1,a1,c1,a2,c2,e2,s1.gr g,s2.gr g⟩⟩
theorem gR (v:Value) (l:List RR) (B:Nat) (w:World) (h:Gp B w v l) (hs:∀ (i:Nat) (y:RR),l[i]?=some y→y.num.length≤1000000∧y.den.length≤1000000):
  Calls Tryz.prog 28 #[v] w fun e w'=>e=.returned (.tuple #[])∧kM B w w':=by
 have H:=kI h;have HS:=kI hs;obtain ⟨a,c,rfl,h1,h2,_⟩:=au.rh h;have hlb:l.length≤9223372036854775807:=Z
 clear h hs h1 h2;go_enter Tryz.func28,Tryz.ntmps28
 go_wp2_with fail;go_loopw [2] (fun i wr=>∃ k:Nat,k≤l.length∧i=.int .i64 k∧kM B w wr∧Gp B wr (.slice a l.length c) l) (fun i _=>l.length - (intOf i).toNat)
 case atStart=>exact ⟨0,Nat.zero_le _,rfl,kM.cj (Ext.refl _),H.o⟩
 case round=>
  obtain ⟨wk,hwk⟩:=gN (wr);subst hwk;obtain ⟨k,hk,rfl,hgr,hrow⟩:=hrel;have HG:=kI hgr;have HR:=kI hrow;by_cases hlt:k < l.length
  ·obtain ⟨y,hy⟩:∃ y,l[k]?=some y:=⟨_,List.getElem?_eq_getElem hlt⟩;obtain ⟨a',cap,e1,_,_,hr⟩:=au.rh hrow;injection e1 with e1 e2 e3
   subst e1;clear e2 e3;obtain ⟨b,q,rfl,-,hb,-,hc,a1,c1,a2,c2,rfl,s1,s2⟩:=hr k y hy;have z0:=hc 0 ah;have z1:=hc 1 ah;have z2:=hc 2 ah;have how:=tR y.neg _ _ _ _ B wk s1 s2 (HS.o k y hy);have HOW:=kI how;simp only [List.getElem?_cons_zero,List.getElem?_cons_succ,Nat.add_zero] at z0 z1 z2;have q1:(0:Int)≤(k:Int):=Z
   have q2:(k:Int) < (l.length:Int):=Z
   clear hr hc how s1 s2 hgr hrow hy;exact kK9
  ·exact Xf
end Go.Proofs.YtnnjbaijcaiohaaGreat
