/- Walks and lemmas. -/
import Derived.Test.YtnnjbaijcaiohaaGreatSvA4
import Derived.Test.YtnnjbaijcaiohaaGreatSvA5
import Derived.Lib.Bytealg
import Derived.Lib.Strings
import Derived.Lib.IndexLaws
import Derived.Laws.Externs
set_option linter.unusedVariables false
set_option linter.unusedSimpArgs false
set_option maxRecDepth 100000
set_option maxHeartbeats 16000000
namespace Go.Proofs.YtnnjbaijcaiohaaGreat
open Go.RowKit
section
open Go.RowKit Go.ChangeShapes Go.WideShapes Go.ChangeAt Go.Deep
section
variable {H:Type} {enc:TypeId × Value→H} {w:World} {base:Nat} {spare:Nat→Bool} {held:Bool}
theorem Tryz.cellsB:Tryz.prog.cellsOf 4=1:=ax
theorem Tryz.Jk:Tryz.prog.cellsOf 23=1:=ax
theorem Tryz.sY:Tryz.prog.cellsOf 25=3:=ax
theorem Ob {α:Type} {l:List α} (h:l.length=3):∃ a b c,l=[a,b,c]:=by match l,h with|[a,b,c],_=>exact ⟨a,b,c,rfl⟩
theorem pt {n:Nat} {cs:List Value} {x:DataW H × List MemPlace} (h:DataW.trod enc Tryz.prog w base spare held n 23 cs=some x):∃ (v:Value) (l:List Int),cs=[v]∧bj .u32 w v l∧br l:=by
 have inst:Inhabited { x:Int // (Lit.int .u32 x).wf=true }:=⟨⟨0,by decide⟩⟩;obtain ⟨v',l,hcs,hr⟩:=nz (m:=1) (f:=fun x:{ x:Int // (Lit.int .u32 x).wf=true }=>[Value.int .u32 x.1]) Tryz.underlying23 Tryz.cells50 Z (fun _=>rfl)
  (fun n cs x hx=>by obtain ⟨a,e0,_,wa⟩:=DataW.trod_int Tryz.underlying157 hx;exact ⟨⟨a,wa⟩,e0⟩) h
 refine ⟨v',l.map (·.1),hcs,?_,fun y hy=>?_⟩
 ·have:=pp (f:=fun x:{ x:Int // (Lit.int .u32 x).wf=true }=>Value.int .u32 x.1) hr;unfold bj;rw [List.map_map];exact this
 ·obtain ⟨z,_,rfl⟩:=List.mem_map.1 hy;have:=z.2;simp [Lit.wf,IntKind.min,IntKind.max,IntKind.signed,IntKind.bits] at this;omega
theorem mh {n:Nat} {cs:List Value} {x:DataW H × List MemPlace} (h:DataW.trod enc Tryz.prog w base spare held n 25 cs=some x) :
  ∃ (b:Bool) (v u:Value) (l m:List Int),cs=[.bool b,v,u]∧bj .u32 w v l∧br l∧bj .u32 w u m∧br m:=by
 obtain ⟨xs,m,_,_,hl,hx,hf⟩:=DataW.trod_struct Tryz.underlying25 h;obtain ⟨c0,c1,c2,rfl⟩:=Ob (hl.trans Tryz.sY);obtain ⟨y0,y1,y2,rfl⟩:=Ob hx;have h0:=hf 0 _ rfl;have h1:=hf 1 _ rfl;have h2:=hf 2 _ rfl;simp [Tryz.cellsB,Tryz.Jk] at h0 h1 h2;obtain ⟨a,e0,_⟩:=DataW.trod_bool Tryz.underlying4 h0;obtain ⟨v,l,e1,k1,k2⟩:=pt h1;obtain ⟨u,m,e2,k3,k4⟩:=pt h2;simp at e0 e1 e2;exact ⟨a,v,u,l,m,by rw [e0,e1,e2],k1,k2,k3,k4⟩
/-- An api.Rat of the arguments. -/
theorem Cj {r:Reach} {b0:Nat} {v:Value} {d:DataW H} {p:List MemPlace} (hv:Value.okWide Tryz.prog w r b0 25 v) (h:DataW.Trod enc Tryz.prog w base spare held 25 v d p) :
  ∃ r:RR,bh w v r∧aC r:=by
 obtain ⟨cs,rfl,_⟩:=okWide_struct Tryz.underlying25 hv;obtain ⟨n,hf⟩:=h;obtain ⟨b,v,u,l,m,hcs,k1,k2,k3,k4⟩:=mh hf;refine ⟨⟨b,l,m⟩,⟨v,u,?_,k1,k3⟩,k2,k4⟩;rw [← Array.toArray_toList (xs:=cs)];exact congrArg _ (congrArg _ hcs)
end
end
theorem mW {w:World} {v:Value} {r:RR} (h:bh w v r) (hl:aC r):∀ W,Ext w W→Calls Tryz.prog 111 #[v] W fun e w'=>e=.returned (.int .i64 (aA r))∧Ext W w':=fun W x=>ee v r W (h.ext x) hl
theorem gO (g:Nat) (eg:∀ args w,(callFunc g args).run Tryz.prog w=.ok (.enter g args) w) (va vb:Value) (ra rb:RR) (w:World) (ha:bh w va ra) (hb:bh w vb rb) (la:aC ra) (lb:aC rb) (T:Bool × Nat × Nat)
  (hT:cP ra rb=0→T.2.2≠0∧(lim T.2.1).length≤512∧(lim T.2.2).length≤512)
  (hf:cP ra rb=0→∀ W v1 v2,sW W v1 ra.neg ra.num (dl ra.den)→sW W v2 rb.neg rb.num (dl rb.den)→Calls Tryz.prog g #[v1,v2] W fun e w'=>(∃ v',e=.returned v'∧sW w' v' T.1 (lim T.2.1) (lim T.2.2))∧Ext W w') :
  Calls Tryz.prog 118 #[va,vb,.func (.func g) #[] #[]] w fun e w'=>bU w w' e (i9 ra rb (dK (vq T)))∧Ext w w':=by
 have rD:=kI (mW ha la);have xI:=kI (mW hb lb);have HA:=kI ha;have HB:=kI hb;obtain ⟨a1,c1,a2,c2,rfl⟩:=ha.shape;obtain ⟨a3,c3,a4,c4,rfl⟩:=hb.shape;obtain ⟨s1,l1,l2⟩:=ra;obtain ⟨s2,l3,l4⟩:=rb;dsimp only at rD xI HA HB hf ⊢;clear ha hb;have HT:=kI hT;have HF:=kI hf;clear hT hf;have b0:=((ag.new w #[.bool s1,.slice a1 l1.length c1,.slice a2 l2.length c2] 25).alloc (.cells #[.bool s2,.slice a3 l3.length c3,.slice a4 l4.length c4] 25)).alloc (.cells #[.bool false,.slice none 0 0,.slice none 0 0] 25);have b1:=(ag.new (w.alloc (.cells #[.bool s1,.slice a1 l1.length c1,.slice a2 l2.length c2] 25)) #[.bool s2,.slice a3 l3.length c3,.slice a4 l4.length c4] 25).alloc (.cells #[.bool false,.slice none 0 0,.slice none 0 0] 25);have b2:=ag.new ((w.alloc (.cells #[.bool s1,.slice a1 l1.length c1,.slice a2 l2.length c2] 25)).alloc (.cells #[.bool s2,.slice a3 l3.length c3,.slice a4 l4.length c4] 25)) #[.bool false,.slice none 0 0,.slice none 0 0] 25;rw [World.size_alloc] at b1;rw [World.size_alloc,World.size_alloc] at b2;have x0:Ext w (((w.alloc (.cells #[.bool s1,.slice a1 l1.length c1,.slice a2 l2.length c2] 25)).alloc (.cells #[.bool s2,.slice a3 l3.length c3,.slice a4 l4.length c4] 25)).alloc (.cells #[.bool false,.slice none 0 0,.slice none 0 0] 25)):=(((Ext.refl w).alloc _).alloc _).alloc _;have A0:=kI b0;have A1:=kI b1;have A2:=kI b2;clear b0 b1 b2;by_cases hc:cP ⟨s1,l1,l2⟩ ⟨s2,l3,l4⟩=0
 ·have eo:i9 ⟨s1,l1,l2⟩ ⟨s2,l3,l4⟩ (dK (vq T))=dK (vq T):=by unfold i9;rw [if_pos hc]
  rw [eo];obtain ⟨hca,hcb⟩:=bD hc;rw [hca] at rD;rw [hcb] at xI;have HC:=kI hc;clear hc hca hcb eo;go_enter Tryz.func118,Tryz.ntmps118
  go_wp2_with fail;have hmx:Tryz.prog.follows .mixedOrders=true:=ax
  go_region_held3 (fun W=>(ag W w.heap.size #[.bool s1,.slice a1 l1.length c1,.slice a2 l2.length c2] 25∧W.cell? ⟨w.heap.size,0,none⟩=some (.bool s1)∧W.cell? ⟨w.heap.size,1,none⟩=some (.slice a1 l1.length c1)∧W.cell? ⟨w.heap.size,2,none⟩=some (.slice a2 l2.length c2))∧(ag W (w.heap.size+1) #[.bool s2,.slice a3 l3.length c3,.slice a4 l4.length c4] 25∧W.cell? ⟨w.heap.size+1,0,none⟩=some (.bool s2)∧W.cell? ⟨w.heap.size+1,1,none⟩=some (.slice a3 l3.length c3)∧W.cell? ⟨w.heap.size+1,2,none⟩=some (.slice a4 l4.length c4)))
   ((refine ⟨ag.s3 ?_,ag.s3 ?_⟩ <;> (repeat (first|exact A0.o|exact A1.o|exact k1|exact k2|exact k4|exact k5|exact k7|exact k8|refine ag.setOther ?_ au _|refine ag.alloc ?_ _|refine ag.drew ?_))))
   (first|(go_at_call_of 111 (Value.slice a1 l1.length c1);refine (rD.o _ eX).mono ?_;rintro e W4 ⟨rfl,hx4⟩;have x4:=Ext.trans x0 (Ext.trans eX hx4);have k1:=A0.o.ext (Ext.trans eX hx4);have k2:=A1.o.ext (Ext.trans eX hx4);have k3:=A2.o.ext (Ext.trans eX hx4))|(go_at_call_of 111 (Value.slice a3 l3.length c3);refine (xI.o _ eX).mono ?_;rintro e W5 ⟨rfl,hx5⟩;have x5:=x4.trans hx5;have k4:=k1.ext hx5;have k5:=k2.ext hx5;have k6:=k3.ext hx5)|(go_at_call 121;refine (j0 _ _ _ _ (ag.new W5 _ _)).mono ?_;rintro e W6 ⟨rfl,hx6⟩;have x6:=(x5.alloc _).trans hx6;have k7:=(k4.alloc _).ext hx6;have k8:=(k5.alloc _).ext hx6;have k9:=(k6.alloc _).ext hx6))
  have G6:=kI k7;have H6:=kI k8;have R6:=kI k9;have X6:=kI x6;clear k1 k2 k3 k4 k5 k6 k7 k8 k9 hx4 hx5 hx6 x4 x5 x6 A0 A1 A2 x0;go_wp2_with fail;have hlow:=fun W v (h:sW W v T.1 (lim T.2.1) (lim T.2.2))=>yP v T.1 (lim T.2.1) (lim T.2.2) W h (aR _) (aR _) (aX _) (aX _) (HT.o HC.o).2.1 (HT.o HC.o).2.2 (by rw [aG];exact (HT.o HC.o).1);rw [aG,aG] at hlow;have hlow1:∀ W v,sW W v T.1 (lim T.2.1) (lim T.2.2)→Calls Tryz.prog 166 #[v] W fun e w'=>(∃ v',e=.returned v'∧aV W w' v' (rep (vq T)))∧Ext W w':=hlow;obtain ⟨RS,hRS⟩:=gN (rep (vq T));rw [← hRS] at hlow1;have hoa:=fun W (x:Ext w W)=>oH _ _ W (HA.o.ext x);have hob:=fun W (x:Ext w W)=>oH _ _ W (HB.o.ext x);dsimp only at hoa hob;have uq:=kI hRS;have Tl:=kI hlow1;have Mx:=kI hoa;have My:=kI hob;have x6:=X6.o;have g6:=G6.o;have h6:=H6.o;have r6:=R6.o;have ZL:=r6.lt;clear hlow hlow1 hRS hoa hob;go_region_held3 (fun W=>(ag W w.heap.size #[.bool s1,.slice a1 l1.length c1,.slice a2 l2.length c2] 25∧W.cell? ⟨w.heap.size,0,none⟩=some (.bool s1)∧W.cell? ⟨w.heap.size,1,none⟩=some (.slice a1 l1.length c1)∧W.cell? ⟨w.heap.size,2,none⟩=some (.slice a2 l2.length c2))∧(ag W (w.heap.size+1) #[.bool s2,.slice a3 l3.length c3,.slice a4 l4.length c4] 25∧W.cell? ⟨w.heap.size+1,0,none⟩=some (.bool s2)∧W.cell? ⟨w.heap.size+1,1,none⟩=some (.slice a3 l3.length c3)∧W.cell? ⟨w.heap.size+1,2,none⟩=some (.slice a4 l4.length c4)))
   ((refine ⟨ag.s3 ?_,ag.s3 ?_⟩ <;> (repeat (first|exact g6|exact h6|exact g7|exact h7|exact g8|exact h8|exact g9|exact h9|exact g10|exact h10|refine ag.setOther ?_ au _|refine ag.alloc ?_ _|refine ag.drew ?_))))
   (first
    | (go_at_call_of 122 (Value.slice a1 l1.length c1);refine (Mx.o _ eX).mono ?_;rintro e W7 ⟨⟨v7,rfl,vn7,vd7,rfl,Tm,hd7⟩,hx7⟩;obtain ⟨p7,q7,rfl⟩:=az Tm;obtain ⟨p8,q8,rfl⟩:=az hd7;have e7:Ext W6 W7:=Ext.trans eX hx7;have t7:=e7.size;have x7:=x6.trans e7;have g7:=g6.ext e7;have h7:=h6.ext e7;have r7:=r6.ext e7;skip;have ZM:=kI Tm;have HD7:=kI hd7;clear Tm hd7)
    | (go_at_call_of 122 (Value.slice a3 l3.length c3);refine (My.o _ eX).mono ?_;rintro e W8 ⟨⟨v8,rfl,vn8,vd8,rfl,Mz,hd8⟩,xH⟩;obtain ⟨p9,q9,rfl⟩:=az Mz;obtain ⟨p10,q10,rfl⟩:=az hd8;have e8:Ext W7 W8:=Ext.trans eX xH;have t8:=e8.size;have x8:=x7.trans e8;have g8:=g7.ext e8;have h8:=h7.ext e8;have r8:=r7.ext e8;skip;have Tn:=kI Mz;have ZO:=kI hd8;have To:=kI (ZM.o.ext e8);have Tp:=kI (HD7.o.ext e8);clear Mz hd8)
    | (go_at_fn g;refine (HF.o HC.o _ _ _ ⟨_,_,rfl,To.out.ext eX,Tp.out.ext eX⟩ ⟨_,_,rfl,Tn.o.ext eX,ZO.o.ext eX⟩).mono ?_;rintro e W9 ⟨⟨v9,rfl,vn9,vd9,rfl,Ck,hd9⟩,lh⟩;obtain ⟨p11,q11,rfl⟩:=az Ck;obtain ⟨p12,q12,rfl⟩:=az hd9;have e9:Ext W8 W9:=Ext.trans eX lh;have t9:=e9.size;have x9:=x8.trans e9;have g9:=g8.ext e9;have h9:=h8.ext e9;have r9:=r8.ext e9;skip;have Tq:=kI Ck;have ZP:=kI hd9;clear Ck hd9)
    | (go_at_call 166;refine (Tl.o _ _ ⟨_,_,rfl,Tq.o.ext eX,ZP.o.ext eX⟩).mono ?_;rintro e yR ⟨⟨v10,rfl,n10⟩,dN⟩;obtain ⟨p13,q13,iI,iJ,rfl⟩:=n10.shape;have e10:Ext W9 yR:=Ext.trans eX dN;have t10:=e10.size;have x10:=x9.trans e10;have g10:=g9.ext e10;have h10:=h9.ext e10;have r10:=r9.ext e10;have y9:=dN;have y8:=lh.trans e10;have y7:=xH.trans (e9.trans e10);have y6:=hx7.trans (e8.trans (e9.trans e10));have q6:=fun h=>(y6.cK (b:=W6.heap.size) h).1;have f6:=fun h=>(y6.cK (b:=W6.heap.size) h).2;have u6:=fun (h:W6.heap.size < _)=>Nat.lt_of_lt_of_le h y6.size;(try simp only [World.size_alloc,World.size_drew,Nat.lt_add_one,Nat.lt_irrefl,true_implies,false_implies,forall_const] at q6 f6 u6);have q7:=fun h=>(y7.cK (b:=W7.heap.size) h).1;have f7:=fun h=>(y7.cK (b:=W7.heap.size) h).2;have u7:=fun (h:W7.heap.size < _)=>Nat.lt_of_lt_of_le h y7.size;(try simp only [World.size_alloc,World.size_drew,Nat.lt_add_one,Nat.lt_irrefl,true_implies,false_implies,forall_const] at q7 f7 u7);have q8:=fun h=>(y8.cK (b:=W8.heap.size) h).1;have f8:=fun h=>(y8.cK (b:=W8.heap.size) h).2;have u8:=fun (h:W8.heap.size < _)=>Nat.lt_of_lt_of_le h y8.size;(try simp only [World.size_alloc,World.size_drew,Nat.lt_add_one,Nat.lt_irrefl,true_implies,false_implies,forall_const] at q8 f8 u8);have q9:=fun h=>(y9.cK (b:=W9.heap.size) h).1;have f9:=fun h=>(y9.cK (b:=W9.heap.size) h).2;have u9:=fun (h:W9.heap.size < _)=>Nat.lt_of_lt_of_le h y9.size;(try simp only [World.size_alloc,World.size_drew,Nat.lt_add_one,Nat.lt_irrefl,true_implies,false_implies,forall_const] at q9 f9 u9);have rG:=kI (n10.from (x9.trans eX));clear n10))
  ·have B11:Hid (ag (yR.alloc (.cells #[.bool RS.neg,.slice p13 RS.num.length q13,.slice iI RS.den.length iJ] 25)) yR.heap.size #[.bool RS.neg,.slice p13 RS.num.length q13,.slice iI RS.den.length iJ] 25):=kI (ag.new _ _ _);have R11:=kI (r10.alloc (.cells #[.bool RS.neg,.slice p13 RS.num.length q13,.slice iI RS.den.length iJ] 25));have oI:=kI (x10.alloc (.cells #[.bool RS.neg,.slice p13 RS.num.length q13,.slice iI RS.den.length iJ] 25));have yS:=kI (rG.o.ext ((Ext.refl yR).alloc (.cells #[.bool RS.neg,.slice p13 RS.num.length q13,.slice iI RS.den.length iJ] 25)));obtain ⟨bx,hbx⟩:=gN (yR.heap.size);obtain ⟨nJ,hw⟩:=gN (yR.alloc (.cells #[.bool RS.neg,.slice p13 RS.num.length q13,.slice iI RS.den.length iJ] 25));rw [← hbx] at B11 ⊢;rw [← hw] at B11 R11 oI yS ⊢;have hlt:w.heap.size+1+1 < bx:=Z
   clear hw hbx;clear hx7 xH lh dN y6 y7 y8 y9 g6 g7 g8 g9 g10 h6 h7 h8 h9 h10 r6 r7 r8 r9 r10 rG;have b11:=B11.o.cell;have FC:=B11.o.free;have FD:=B11.o.lt;have r11:=R11.o.cell;have FE:=R11.o.free;have FF:=R11.o.lt;by_cases h1:128 < RS.num.length
   ·have q1:(128:Int) < (RS.num.length:Int):=Z
    have E:=kI (du (q:=vq T) (fun h=>by have:=h.1;rw [← uq.o] at this;omega));clear h1;go_wp2_with fail;refine bodyPost_ret (v:=.tuple #[.agg #[.bool false,.slice none 0 0,.slice none 0 0],.int .i64 4]) wH rfl ⟨bU.mk (aV.zero _ _) E.o,?_⟩;have:=oI.o;exact eX
   ·have q1:¬ (128:Int) < (RS.num.length:Int):=Z
    by_cases h2:128 < RS.den.length
    ·have q2:(128:Int) < (RS.den.length:Int):=Z
     have E:=kI (du (q:=vq T) (fun h=>by have:=h.2;rw [← uq.o] at this;omega));clear h1 h2;go_wp2_with fail;refine bodyPost_ret (v:=.tuple #[.agg #[.bool false,.slice none 0 0,.slice none 0 0],.int .i64 4]) wH rfl ⟨bU.mk (aV.zero _ _) E.o,?_⟩;have:=oI.o;exact eX
    ·have q2:¬ (128:Int) < (RS.den.length:Int):=Z
     have E:=kI (mc (q:=vq T) M9);clear h1 h2;go_wp2_with fail;refine bodyPost_ret (v:=.tuple #[.agg #[.bool RS.neg,.slice p13 RS.num.length q13,.slice iI RS.den.length iJ],.int .i64 0]) wH rfl ⟨bU.mk (aV.cM yS.o R11.o ap _ _ _) (E.o.trans Nh),?_⟩;have:=oI.o;exact eX
  ·have hB:=((ag.new W9 #[.bool false,.slice none 0 0,.slice none 0 0] 25)).ext y9;have B11:Hid (ag (((yR.setCell ⟨W9.heap.size,0,none⟩ (.bool RS.neg)).setCell ⟨W9.heap.size,1,none⟩ (.slice p13 RS.num.length q13)).setCell ⟨W9.heap.size,2,none⟩ (.slice iI RS.den.length iJ)) W9.heap.size #[.bool RS.neg,.slice p13 RS.num.length q13,.slice iI RS.den.length iJ] 25):=by
    have h2:=((hB.set 0 (.bool RS.neg)).set 1 (.slice p13 RS.num.length q13)).set 2 (.slice iI RS.den.length iJ);exact kI yB
   have R11:=kI (((r10.setOther (a:=⟨W9.heap.size,0,none⟩) au (.bool RS.neg)).setOther (a:=⟨W9.heap.size,1,none⟩) au (.slice p13 RS.num.length q13)).setOther (a:=⟨W9.heap.size,2,none⟩) au (.slice iI RS.den.length iJ));have oI:=kI (((x10.set (p:=⟨W9.heap.size,0,none⟩) au (.bool RS.neg)).set (p:=⟨W9.heap.size,1,none⟩) au (.slice p13 RS.num.length q13)).set (p:=⟨W9.heap.size,2,none⟩) au (.slice iI RS.den.length iJ));have yS:=kI (aV.cM rG.o hB ap (.bool RS.neg) (.slice p13 RS.num.length q13) (.slice iI RS.den.length iJ));obtain ⟨nJ,hw⟩:=gN (((yR.setCell ⟨W9.heap.size,0,none⟩ (.bool RS.neg)).setCell ⟨W9.heap.size,1,none⟩ (.slice p13 RS.num.length q13)).setCell ⟨W9.heap.size,2,none⟩ (.slice iI RS.den.length iJ));rw [← hw] at B11 R11 oI yS ⊢;obtain ⟨bx,hbx⟩:=gN (W9.heap.size);have hlt:w.heap.size+1+1 < bx:=Z
   rw [← hbx] at B11 ⊢;clear hw hbx hB;clear hx7 xH lh dN y6 y7 y8 y9 g6 g7 g8 g9 g10 h6 h7 h8 h9 h10 r6 r7 r8 r9 r10 rG;have b11:=B11.o.cell;have FC:=B11.o.free;have FD:=B11.o.lt;have r11:=R11.o.cell;have FE:=R11.o.free;have FF:=R11.o.lt;by_cases h1:128 < RS.num.length
   ·have q1:(128:Int) < (RS.num.length:Int):=Z
    have E:=kI (du (q:=vq T) (fun h=>by have:=h.1;rw [← uq.o] at this;omega));clear h1;go_wp2_with fail;refine bodyPost_ret (v:=.tuple #[.agg #[.bool false,.slice none 0 0,.slice none 0 0],.int .i64 4]) wH rfl ⟨bU.mk (aV.zero _ _) E.o,?_⟩;have:=oI.o;exact eX
   ·have q1:¬ (128:Int) < (RS.num.length:Int):=Z
    by_cases h2:128 < RS.den.length
    ·have q2:(128:Int) < (RS.den.length:Int):=Z
     have E:=kI (du (q:=vq T) (fun h=>by have:=h.2;rw [← uq.o] at this;omega));clear h1 h2;go_wp2_with fail;refine bodyPost_ret (v:=.tuple #[.agg #[.bool false,.slice none 0 0,.slice none 0 0],.int .i64 4]) wH rfl ⟨bU.mk (aV.zero _ _) E.o,?_⟩;have:=oI.o;exact eX
    ·have q2:¬ (128:Int) < (RS.den.length:Int):=Z
     have E:=kI (mc (q:=vq T) M9);clear h1 h2;go_wp2_with fail;refine bodyPost_ret (v:=.tuple #[.agg #[.bool RS.neg,.slice p13 RS.num.length q13,.slice iI RS.den.length iJ],.int .i64 0]) wH rfl ⟨bU.mk (aV.cM yS.o R11.o ap _ _ _) (E.o.trans Nh),?_⟩;have:=oI.o;exact eX
  ·have hB:=((ag.new W8 #[.bool false,.slice none 0 0,.slice none 0 0] 25)).ext y8;have B11:Hid (ag (((yR.setCell ⟨W8.heap.size,0,none⟩ (.bool RS.neg)).setCell ⟨W8.heap.size,1,none⟩ (.slice p13 RS.num.length q13)).setCell ⟨W8.heap.size,2,none⟩ (.slice iI RS.den.length iJ)) W8.heap.size #[.bool RS.neg,.slice p13 RS.num.length q13,.slice iI RS.den.length iJ] 25):=by
    have h2:=((hB.set 0 (.bool RS.neg)).set 1 (.slice p13 RS.num.length q13)).set 2 (.slice iI RS.den.length iJ);exact kI yB
   have R11:=kI (((r10.setOther (a:=⟨W8.heap.size,0,none⟩) au (.bool RS.neg)).setOther (a:=⟨W8.heap.size,1,none⟩) au (.slice p13 RS.num.length q13)).setOther (a:=⟨W8.heap.size,2,none⟩) au (.slice iI RS.den.length iJ));have oI:=kI (((x10.set (p:=⟨W8.heap.size,0,none⟩) au (.bool RS.neg)).set (p:=⟨W8.heap.size,1,none⟩) au (.slice p13 RS.num.length q13)).set (p:=⟨W8.heap.size,2,none⟩) au (.slice iI RS.den.length iJ));have yS:=kI (aV.cM rG.o hB ap (.bool RS.neg) (.slice p13 RS.num.length q13) (.slice iI RS.den.length iJ));obtain ⟨nJ,hw⟩:=gN (((yR.setCell ⟨W8.heap.size,0,none⟩ (.bool RS.neg)).setCell ⟨W8.heap.size,1,none⟩ (.slice p13 RS.num.length q13)).setCell ⟨W8.heap.size,2,none⟩ (.slice iI RS.den.length iJ));rw [← hw] at B11 R11 oI yS ⊢;obtain ⟨bx,hbx⟩:=gN (W8.heap.size);have hlt:w.heap.size+1+1 < bx:=Z
   rw [← hbx] at B11 ⊢;clear hw hbx hB;clear hx7 xH lh dN y6 y7 y8 y9 g6 g7 g8 g9 g10 h6 h7 h8 h9 h10 r6 r7 r8 r9 r10 rG;have b11:=B11.o.cell;have FC:=B11.o.free;have FD:=B11.o.lt;have r11:=R11.o.cell;have FE:=R11.o.free;have FF:=R11.o.lt;by_cases h1:128 < RS.num.length
   ·have q1:(128:Int) < (RS.num.length:Int):=Z
    have E:=kI (du (q:=vq T) (fun h=>by have:=h.1;rw [← uq.o] at this;omega));clear h1;go_wp2_with fail;refine bodyPost_ret (v:=.tuple #[.agg #[.bool false,.slice none 0 0,.slice none 0 0],.int .i64 4]) wH rfl ⟨bU.mk (aV.zero _ _) E.o,?_⟩;have:=oI.o;exact eX
   ·have q1:¬ (128:Int) < (RS.num.length:Int):=Z
    by_cases h2:128 < RS.den.length
    ·have q2:(128:Int) < (RS.den.length:Int):=Z
     have E:=kI (du (q:=vq T) (fun h=>by have:=h.2;rw [← uq.o] at this;omega));clear h1 h2;go_wp2_with fail;refine bodyPost_ret (v:=.tuple #[.agg #[.bool false,.slice none 0 0,.slice none 0 0],.int .i64 4]) wH rfl ⟨bU.mk (aV.zero _ _) E.o,?_⟩;have:=oI.o;exact eX
    ·have q2:¬ (128:Int) < (RS.den.length:Int):=Z
     have E:=kI (mc (q:=vq T) M9);clear h1 h2;go_wp2_with fail;refine bodyPost_ret (v:=.tuple #[.agg #[.bool RS.neg,.slice p13 RS.num.length q13,.slice iI RS.den.length iJ],.int .i64 0]) wH rfl ⟨bU.mk (aV.cM yS.o R11.o ap _ _ _) (E.o.trans Nh),?_⟩;have:=oI.o;exact eX
  ·have hB:=((ag.new W7 #[.bool false,.slice none 0 0,.slice none 0 0] 25)).ext y7;have B11:Hid (ag (((yR.setCell ⟨W7.heap.size,0,none⟩ (.bool RS.neg)).setCell ⟨W7.heap.size,1,none⟩ (.slice p13 RS.num.length q13)).setCell ⟨W7.heap.size,2,none⟩ (.slice iI RS.den.length iJ)) W7.heap.size #[.bool RS.neg,.slice p13 RS.num.length q13,.slice iI RS.den.length iJ] 25):=by
    have h2:=((hB.set 0 (.bool RS.neg)).set 1 (.slice p13 RS.num.length q13)).set 2 (.slice iI RS.den.length iJ);exact kI yB
   have R11:=kI (((r10.setOther (a:=⟨W7.heap.size,0,none⟩) au (.bool RS.neg)).setOther (a:=⟨W7.heap.size,1,none⟩) au (.slice p13 RS.num.length q13)).setOther (a:=⟨W7.heap.size,2,none⟩) au (.slice iI RS.den.length iJ));have oI:=kI (((x10.set (p:=⟨W7.heap.size,0,none⟩) au (.bool RS.neg)).set (p:=⟨W7.heap.size,1,none⟩) au (.slice p13 RS.num.length q13)).set (p:=⟨W7.heap.size,2,none⟩) au (.slice iI RS.den.length iJ));have yS:=kI (aV.cM rG.o hB ap (.bool RS.neg) (.slice p13 RS.num.length q13) (.slice iI RS.den.length iJ));obtain ⟨nJ,hw⟩:=gN (((yR.setCell ⟨W7.heap.size,0,none⟩ (.bool RS.neg)).setCell ⟨W7.heap.size,1,none⟩ (.slice p13 RS.num.length q13)).setCell ⟨W7.heap.size,2,none⟩ (.slice iI RS.den.length iJ));rw [← hw] at B11 R11 oI yS ⊢;obtain ⟨bx,hbx⟩:=gN (W7.heap.size);have hlt:w.heap.size+1+1 < bx:=Z
   rw [← hbx] at B11 ⊢;clear hw hbx hB;clear hx7 xH lh dN y6 y7 y8 y9 g6 g7 g8 g9 g10 h6 h7 h8 h9 h10 r6 r7 r8 r9 r10 rG;have b11:=B11.o.cell;have FC:=B11.o.free;have FD:=B11.o.lt;have r11:=R11.o.cell;have FE:=R11.o.free;have FF:=R11.o.lt;by_cases h1:128 < RS.num.length
   ·have q1:(128:Int) < (RS.num.length:Int):=Z
    have E:=kI (du (q:=vq T) (fun h=>by have:=h.1;rw [← uq.o] at this;omega));clear h1;go_wp2_with fail;refine bodyPost_ret (v:=.tuple #[.agg #[.bool false,.slice none 0 0,.slice none 0 0],.int .i64 4]) wH rfl ⟨bU.mk (aV.zero _ _) E.o,?_⟩;have:=oI.o;exact eX
   ·have q1:¬ (128:Int) < (RS.num.length:Int):=Z
    by_cases h2:128 < RS.den.length
    ·have q2:(128:Int) < (RS.den.length:Int):=Z
     have E:=kI (du (q:=vq T) (fun h=>by have:=h.2;rw [← uq.o] at this;omega));clear h1 h2;go_wp2_with fail;refine bodyPost_ret (v:=.tuple #[.agg #[.bool false,.slice none 0 0,.slice none 0 0],.int .i64 4]) wH rfl ⟨bU.mk (aV.zero _ _) E.o,?_⟩;have:=oI.o;exact eX
    ·have q2:¬ (128:Int) < (RS.den.length:Int):=Z
     have E:=kI (mc (q:=vq T) M9);clear h1 h2;go_wp2_with fail;refine bodyPost_ret (v:=.tuple #[.agg #[.bool RS.neg,.slice p13 RS.num.length q13,.slice iI RS.den.length iJ],.int .i64 0]) wH rfl ⟨bU.mk (aV.cM yS.o R11.o ap _ _ _) (E.o.trans Nh),?_⟩;have:=oI.o;exact eX
  ·have hB:=((ag.new W6 #[.bool false,.slice none 0 0,.slice none 0 0] 25).drew).ext y6;have B11:Hid (ag (((yR.setCell ⟨W6.heap.size,0,none⟩ (.bool RS.neg)).setCell ⟨W6.heap.size,1,none⟩ (.slice p13 RS.num.length q13)).setCell ⟨W6.heap.size,2,none⟩ (.slice iI RS.den.length iJ)) W6.heap.size #[.bool RS.neg,.slice p13 RS.num.length q13,.slice iI RS.den.length iJ] 25):=by
    have h2:=((hB.set 0 (.bool RS.neg)).set 1 (.slice p13 RS.num.length q13)).set 2 (.slice iI RS.den.length iJ);exact kI yB
   have R11:=kI (((r10.setOther (a:=⟨W6.heap.size,0,none⟩) au (.bool RS.neg)).setOther (a:=⟨W6.heap.size,1,none⟩) au (.slice p13 RS.num.length q13)).setOther (a:=⟨W6.heap.size,2,none⟩) au (.slice iI RS.den.length iJ));have oI:=kI (((x10.set (p:=⟨W6.heap.size,0,none⟩) au (.bool RS.neg)).set (p:=⟨W6.heap.size,1,none⟩) au (.slice p13 RS.num.length q13)).set (p:=⟨W6.heap.size,2,none⟩) au (.slice iI RS.den.length iJ));have yS:=kI (aV.cM rG.o hB ap (.bool RS.neg) (.slice p13 RS.num.length q13) (.slice iI RS.den.length iJ));obtain ⟨nJ,hw⟩:=gN (((yR.setCell ⟨W6.heap.size,0,none⟩ (.bool RS.neg)).setCell ⟨W6.heap.size,1,none⟩ (.slice p13 RS.num.length q13)).setCell ⟨W6.heap.size,2,none⟩ (.slice iI RS.den.length iJ));rw [← hw] at B11 R11 oI yS ⊢;obtain ⟨bx,hbx⟩:=gN (W6.heap.size);have hlt:w.heap.size+1+1 < bx:=Z
   rw [← hbx] at B11 ⊢;clear hw hbx hB;clear hx7 xH lh dN y6 y7 y8 y9 g6 g7 g8 g9 g10 h6 h7 h8 h9 h10 r6 r7 r8 r9 r10 rG;have b11:=B11.o.cell;have FC:=B11.o.free;have FD:=B11.o.lt;have r11:=R11.o.cell;have FE:=R11.o.free;have FF:=R11.o.lt;by_cases h1:128 < RS.num.length
   ·have q1:(128:Int) < (RS.num.length:Int):=Z
    have E:=kI (du (q:=vq T) (fun h=>by have:=h.1;rw [← uq.o] at this;omega));clear h1;go_wp2_with fail;refine bodyPost_ret (v:=.tuple #[.agg #[.bool false,.slice none 0 0,.slice none 0 0],.int .i64 4]) wH rfl ⟨bU.mk (aV.zero _ _) E.o,?_⟩;have:=oI.o;exact eX
   ·have q1:¬ (128:Int) < (RS.num.length:Int):=Z
    by_cases h2:128 < RS.den.length
    ·have q2:(128:Int) < (RS.den.length:Int):=Z
     have E:=kI (du (q:=vq T) (fun h=>by have:=h.2;rw [← uq.o] at this;omega));clear h1 h2;go_wp2_with fail;refine bodyPost_ret (v:=.tuple #[.agg #[.bool false,.slice none 0 0,.slice none 0 0],.int .i64 4]) wH rfl ⟨bU.mk (aV.zero _ _) E.o,?_⟩;have:=oI.o;exact eX
    ·have q2:¬ (128:Int) < (RS.den.length:Int):=Z
     have E:=kI (mc (q:=vq T) M9);clear h1 h2;go_wp2_with fail;refine bodyPost_ret (v:=.tuple #[.agg #[.bool RS.neg,.slice p13 RS.num.length q13,.slice iI RS.den.length iJ],.int .i64 0]) wH rfl ⟨bU.mk (aV.cM yS.o R11.o ap _ _ _) (E.o.trans Nh),?_⟩;have:=oI.o;exact eX
 ·have eo:i9 ⟨s1,l1,l2⟩ ⟨s2,l3,l4⟩ (dK (vq T))=(zR,cP ⟨s1,l1,l2⟩ ⟨s2,l3,l4⟩):=by unfold i9;rw [if_neg hc]
  unfold cP at eo hc;obtain ⟨ca,hca⟩:=gN (aA ⟨s1,l1,l2⟩);obtain ⟨cb,hcb⟩:=gN (aA ⟨s2,l3,l4⟩);rw [← hca] at rD eo hc;rw [← hcb] at xI eo hc;obtain ⟨cc,hcc⟩:=gN (wX ca cb);rw [← hcc] at eo hc;have EO:=kI eo;have hor:=fun g W h=>j0 ca cb g W h;rw [← hcc] at hor;have Fp:=kI hor;have hcb':(cc != 0)=true:=by simpa using hc
  clear hca hcb hcc eo hor hc HT HF;go_enter Tryz.func118,Tryz.ntmps118
  go_wp2_with fail;have hmx:Tryz.prog.follows .mixedOrders=true:=ax
  go_region_held3 (fun W=>(ag W w.heap.size #[.bool s1,.slice a1 l1.length c1,.slice a2 l2.length c2] 25∧W.cell? ⟨w.heap.size,0,none⟩=some (.bool s1)∧W.cell? ⟨w.heap.size,1,none⟩=some (.slice a1 l1.length c1)∧W.cell? ⟨w.heap.size,2,none⟩=some (.slice a2 l2.length c2))∧(ag W (w.heap.size+1) #[.bool s2,.slice a3 l3.length c3,.slice a4 l4.length c4] 25∧W.cell? ⟨w.heap.size+1,0,none⟩=some (.bool s2)∧W.cell? ⟨w.heap.size+1,1,none⟩=some (.slice a3 l3.length c3)∧W.cell? ⟨w.heap.size+1,2,none⟩=some (.slice a4 l4.length c4)))
   ((refine ⟨ag.s3 ?_,ag.s3 ?_⟩ <;> (repeat (first|exact A0.o|exact A1.o|exact k1|exact k2|exact k4|exact k5|exact k7|exact k8|refine ag.setOther ?_ au _|refine ag.alloc ?_ _|refine ag.drew ?_))))
   (first|(go_at_call_of 111 (Value.slice a1 l1.length c1);refine (rD.o _ eX).mono ?_;rintro e W4 ⟨rfl,hx4⟩;have x4:=Ext.trans x0 (Ext.trans eX hx4);have k1:=A0.o.ext (Ext.trans eX hx4);have k2:=A1.o.ext (Ext.trans eX hx4);have k3:=A2.o.ext (Ext.trans eX hx4))|(go_at_call_of 111 (Value.slice a3 l3.length c3);refine (xI.o _ eX).mono ?_;rintro e W5 ⟨rfl,hx5⟩;have x5:=x4.trans hx5;have k4:=k1.ext hx5;have k5:=k2.ext hx5;have k6:=k3.ext hx5)|(go_at_call 121;refine (Fp.o _ _ (ag.new W5 _ _)).mono ?_;rintro e W6 ⟨rfl,hx6⟩;have x6:=(x5.alloc _).trans hx6;have k7:=(k4.alloc _).ext hx6;have k8:=(k5.alloc _).ext hx6;have k9:=(k6.alloc _).ext hx6))
  have K9:=kI k9;have X6:=kI x6;have c9:=k9.cell;have f9:=k9.free;have l9:=k9.lt;go_wp2_with fail;refine bodyPost_ret (v:=.tuple #[.agg #[.bool false,.slice none 0 0,.slice none 0 0],.int .i64 cc]) wH rfl ⟨bU.mk (aV.zero _ _) EO.o,?_⟩;have:=X6.o;exact eX
theorem bl {r:RR} (hl:aC r) (h:aA r=0):r.num.length≤128∧(dl r.den).length≤128∧cL r.num∧cL (dl r.den)∧nv (dl r.den)≠0∧br (dl r.den):=by
 obtain ⟨h1,h2,h3,h4,_⟩:=sU hl h;refine ⟨h1,I9 h2 Z,h3,I8 h4,?_,I7 hl.2⟩;rw [Ch];exact oG hl h
def nY (r:RR):Bool × Nat × Nat:=(r.neg,nv r.num,nv (dl r.den))
theorem fM (r:RR):nY r=Ij r:=by unfold nY Ij;rw [Ch]
theorem kd {a b:RR} {x y:RR × Int} (h:cP a b=0→x=y):i9 a b x=i9 a b y:=by
 unfold i9;by_cases hc:cP a b=0
 ·rw [if_pos hc,if_pos hc,h hc]
 ·rw [if_neg hc,if_neg hc]
theorem FG (a b:Bool × Nat × Nat):(dU a b).2.1≤a.2.1*b.2.2+b.2.1*a.2.2:=by
 unfold dU;split
 ·exact Nat.le_refl _
 ·split
  ·dsimp only;omega
  ·dsimp only;omega
theorem pu (a b:Bool × Nat × Nat):(dU a b).2.2=a.2.2*b.2.2:=by
 unfold dU;split
 ·rfl
 ·split <;> rfl
theorem FH {x y a b:Nat} (hx:x < 4294967296 ^ a) (hy:y < 4294967296 ^ b):x*y < 4294967296 ^ (a+b):=by
 rw [Nat.pow_add];exact Nat.mul_lt_mul'' hx hy
theorem rH {l:List Int} (h:br l) {k:Nat} (hk:l.length≤k):nv l < 4294967296 ^ k:=Nat.lt_of_lt_of_le (bX h) (gZ hk)
theorem gu {l1 l2:List Int} (h1:br l1) (h2:br l2) {k:Nat} (k1:l1.length≤k) (k2:l2.length≤k):(lim (nv l1*nv l2)).length≤k+k:=aL.2 (FH (rH h1 k1) (rH h2 k2))
theorem FK {x y k:Nat} (hx:(lim x).length≤k) (hy:(lim y).length≤k) {z:Nat} (hz:z≤x+y):(lim z).length≤k+1:=
 aL.2 (Nat.lt_of_le_of_lt hz (xk k k k (Nat.le_refl _) (Nat.le_refl _) (aL.1 hx) (aL.1 hy)))
theorem rI {ra rb:RR} (s:Bool) (la:aC ra) (lb:aC rb) (ha:aA ra=0) (hb:aA rb=0) :
  (dU (nY ra) (s,nv rb.num,nv (dl rb.den))).2.2≠0∧(lim (dU (nY ra) (s,nv rb.num,nv (dl rb.den))).2.1).length≤512∧(lim (dU (nY ra) (s,nv rb.num,nv (dl rb.den))).2.2).length≤512:=by
 obtain ⟨p1,p2,p3,p4,p5,p6⟩:=bl la ha;obtain ⟨q1,q2,q3,q4,q5,q6⟩:=bl lb hb;have e1:=gu la.1 q6 p1 q2;have e2:=gu lb.1 p6 q1 p2;have e3:=gu p6 q6 p2 q2;have e4:=FK e1 e2 (FG (nY ra) (s,nv rb.num,nv (dl rb.den)));refine ⟨?_,by omega,?_⟩
 ·rw [pu];exact Nat.mul_ne_zero p5 q5
 ·rw [pu];exact Nat.le_trans e3 Z
theorem Cl (s:Bool) (n d:Nat):vq (!s,n,d) = - vq (s,n,d):=by
 unfold vq;dsimp only;rw [Rat.neg_mkRat];congr 1
 cases s <;> simp [sg]
theorem Jl {b:RR} (hl:aC b) (h:aA b=0) (h0:b.num≠[]):vq (b.neg,nv (dl b.den),nv b.num)=(qv b)⁻¹:=by
 have hn:nv b.num≠0:=yM hl.1 (sU hl h).2.2.1 h0;have e:=(eQ hl h).1;have e2:=(eQ hl h).2.1;rw [Rat.inv_def,e,e2,Ch];unfold vq;dsimp only;cases b.neg
 ·show mkRat (sg false _) _=Rat.divInt (eJ b.den:Int) (sg false (nv b.num));unfold sg;simp
 ·show mkRat (sg true _) _=Rat.divInt (eJ b.den:Int) (sg true (nv b.num));unfold sg;simp only [if_true];rw [Rat.divInt_neg',Rat.divInt_ofNat]
theorem uO (va vb:Value) (ra rb:RR) (w:World) (ha:bh w va ra) (hb:bh w vb rb) (la:aC ra) (lb:aC rb) :
  Calls Tryz.prog 118 #[va,vb,.func (.func 119) #[] #[]] w fun e w'=>bU w w' e (cz ra rb)∧Ext w w':=by
 have h:=gO 119 (enters_of Tryz.func119 ax rfl) va vb ra rb w ha hb la lb (dU (nY ra) (rb.neg,nv rb.num,nv (dl rb.den)))
  (fun hc=>rI rb.neg la lb (bD hc).1 (bD hc).2)
  (fun hc W v1 v2 h1 h2=>by
   obtain ⟨p1,p2,p3,p4,p5,p6⟩:=bl la (bD hc).1;obtain ⟨q1,q2,q3,q4,q5,q6⟩:=bl lb (bD hc).2;exact pr v1 v2 ra.neg rb.neg ra.num (dl ra.den) rb.num (dl rb.den) W h1 h2 la.1 p6 lb.1 q6 p3 p4 q3 q4 Z Z Z Z)
 have e:i9 ra rb (dK (vq (dU (nY ra) (rb.neg,nv rb.num,nv (dl rb.den)))))=cz ra rb:=kd fun hc=>by
  obtain ⟨p1,p2,p3,p4,p5,p6⟩:=bl la (bD hc).1;obtain ⟨q1,q2,q3,q4,q5,q6⟩:=bl lb (bD hc).2;rw [xE p5 q5,fM,jl];show dK (qv ra+vq (nY rb))=_;rw [fM,jl]
 rwa [e] at h
theorem uP (va vb:Value) (ra rb:RR) (w:World) (ha:bh w va ra) (hb:bh w vb rb) (la:aC ra) (lb:aC rb) :
  Calls Tryz.prog 118 #[va,vb,.func (.func 123) #[] #[]] w fun e w'=>bU w w' e (bR ra rb)∧Ext w w':=by
 have h:=gO 123 (enters_of Tryz.func123 ax rfl) va vb ra rb w ha hb la lb (dU (nY ra) (!rb.neg,nv rb.num,nv (dl rb.den)))
  (fun hc=>rI (!rb.neg) la lb (bD hc).1 (bD hc).2)
  (fun hc W v1 v2 h1 h2=>by
   obtain ⟨p1,p2,p3,p4,p5,p6⟩:=bl la (bD hc).1;obtain ⟨q1,q2,q3,q4,q5,q6⟩:=bl lb (bD hc).2;exact Ac v1 v2 ra.neg rb.neg ra.num (dl ra.den) rb.num (dl rb.den) W h1 h2 la.1 p6 lb.1 q6 p3 p4 q3 q4 Z Z Z Z)
 have e:i9 ra rb (dK (vq (dU (nY ra) (!rb.neg,nv rb.num,nv (dl rb.den)))))=bR ra rb:=kd fun hc=>by
  obtain ⟨p1,p2,p3,p4,p5,p6⟩:=bl la (bD hc).1;obtain ⟨q1,q2,q3,q4,q5,q6⟩:=bl lb (bD hc).2;rw [xE p5 q5,fM,jl,Cl];show dK (qv ra + - vq (nY rb))=_;rw [fM,jl,← Rat.sub_eq_add_neg]
 rwa [e] at h
theorem uQ (va vb:Value) (ra rb:RR) (w:World) (ha:bh w va ra) (hb:bh w vb rb) (la:aC ra) (lb:aC rb) :
  Calls Tryz.prog 118 #[va,vb,.func (.func 120) #[] #[]] w fun e w'=>bU w w' e (mulR ra rb)∧Ext w w':=by
 have h:=gO 120 (enters_of Tryz.func120 ax rfl) va vb ra rb w ha hb la lb (rF (nY ra) (nY rb))
  (fun hc=>by
   obtain ⟨p1,p2,p3,p4,p5,p6⟩:=bl la (bD hc).1;obtain ⟨q1,q2,q3,q4,q5,q6⟩:=bl lb (bD hc).2;exact ⟨Nat.mul_ne_zero p5 q5,Nat.le_trans (gu la.1 lb.1 p1 q1) Z,Nat.le_trans (gu p6 q6 p2 q2) Z⟩)
  (fun hc W v1 v2 h1 h2=>by
   obtain ⟨p1,p2,p3,p4,p5,p6⟩:=bl la (bD hc).1;obtain ⟨q1,q2,q3,q4,q5,q6⟩:=bl lb (bD hc).2;exact mf v1 v2 ra.neg rb.neg ra.num (dl ra.den) rb.num (dl rb.den) W h1 h2 la.1 p6 lb.1 q6 p3 p4 q3 q4 Z Z Z Z)
 have e:i9 ra rb (dK (vq (rF (nY ra) (nY rb))))=mulR ra rb:=kd fun hc=>by
  rw [yO,fM,fM,jl,jl]
 rwa [e] at h
theorem uR (va vb:Value) (ra rb:RR) (w:World) (ha:bh w va ra) (hb:bh w vb rb) (la:aC ra) (lb:aC rb) (h0:rb.num≠[]) :
  Calls Tryz.prog 118 #[va,vb,.func (.func 154) #[] #[]] w fun e w'=>bU w w' e (i9 ra rb (dK (qv ra / qv rb)))∧Ext w w':=by
 have h:=gO 154 (enters_of Tryz.func154 ax rfl) va vb ra rb w ha hb la lb (rF (nY ra) (rb.neg,nv (dl rb.den),nv rb.num))
  (fun hc=>by
   obtain ⟨p1,p2,p3,p4,p5,p6⟩:=bl la (bD hc).1;obtain ⟨q1,q2,q3,q4,q5,q6⟩:=bl lb (bD hc).2;exact ⟨Nat.mul_ne_zero p5 (yM lb.1 q3 h0),Nat.le_trans (gu la.1 q6 p1 q2) Z,Nat.le_trans (gu p6 lb.1 p2 q1) Z⟩)
  (fun hc W v1 v2 h1 h2=>by
   obtain ⟨p1,p2,p3,p4,p5,p6⟩:=bl la (bD hc).1;obtain ⟨q1,q2,q3,q4,q5,q6⟩:=bl lb (bD hc).2;exact Ad v1 v2 ra.neg rb.neg ra.num (dl ra.den) rb.num (dl rb.den) W h1 h2 la.1 p6 lb.1 q6 p3 p4 q3 q4 Z Z Z Z)
 have e:i9 ra rb (dK (vq (rF (nY ra) (rb.neg,nv (dl rb.den),nv rb.num))))=i9 ra rb (dK (qv ra / qv rb)):=kd fun hc=>by
  rw [yO,fM,jl,Jl lb (bD hc).2 h0,Rat.div_def]
 rwa [e] at h
theorem jn (va vb:Value) (ra rb:RR) (w:World) (ha:bh w va ra) (hb:bh w vb rb) (la:aC ra) (lb:aC rb) :
  Calls Tryz.prog 53 #[va,vb] w fun e w'=>bU w w' e (cz ra rb)∧Ext w w':=by
 have ho:=fun W (x:Ext w W)=>uO va vb ra rb W (ha.ext x) (hb.ext x) la lb;obtain ⟨a1,c1,a2,c2,rfl⟩:=ha.shape;obtain ⟨a3,c3,a4,c4,rfl⟩:=hb.shape;obtain ⟨R,hR⟩:=gN (cz ra rb);rw [← hR] at ho ⊢;obtain ⟨s1,l1,l2⟩:=ra;obtain ⟨s2,l3,l4⟩:=rb;dsimp only at ho ⊢;have HO:=kI ho;clear hR ho ha hb la lb;have b2:=ag.new ((w.alloc (.cells #[.bool s1,.slice a1 l1.length c1,.slice a2 l2.length c2] 25)).alloc (.cells #[.bool s2,.slice a3 l3.length c3,.slice a4 l4.length c4] 25)) #[.bool false,.slice none 0 0,.slice none 0 0] 25;rw [World.size_alloc,World.size_alloc] at b2;have B2:=kI b2;have X0:=kI (show Ext w (((w.alloc (.cells #[.bool s1,.slice a1 l1.length c1,.slice a2 l2.length c2] 25)).alloc (.cells #[.bool s2,.slice a3 l3.length c3,.slice a4 l4.length c4] 25)).alloc (.cells #[.bool false,.slice none 0 0,.slice none 0 0] 25)) from (((Ext.refl w).alloc _).alloc _).alloc _);clear b2;go_enter Tryz.func53,Tryz.ntmps53
 go_wp2_with fail;refine (HO.o _ X0.o).mono ?_;rintro e w1 ⟨⟨v1,rfl,n1⟩,hx1⟩;obtain ⟨a5,c5,a6,c6,rfl⟩:=n1.shape;have B1:=kI (B2.o.ext hx1);have X1:=kI (X0.o.trans hx1);have N1:=kI (n1.from X0.o);clear hx1 n1;have c0:=B1.o.cell;have f0:=B1.o.free;have l0:=B1.o.lt;obtain ⟨R1,R2⟩:=R;dsimp only at *;go_wp2_with fail;refine bodyPost_ret (v:=.tuple #[.agg #[.bool R1.neg,.slice a5 R1.num.length c5,.slice a6 R1.den.length c6],.int .i64 R2]) (by simp only [results,Tryz.results53];go_simp) rfl ⟨bU.mk (aV.cM N1.o B1.o ap _ _ _) rfl,?_⟩;have:=X1.o;exact eX
theorem gw (va vb:Value) (ra rb:RR) (w:World) (ha:bh w va ra) (hb:bh w vb rb) (la:aC ra) (lb:aC rb) :
  Calls Tryz.prog 57 #[va,vb] w fun e w'=>bU w w' e (bR ra rb)∧Ext w w':=by
 have ho:=fun W (x:Ext w W)=>uP va vb ra rb W (ha.ext x) (hb.ext x) la lb;obtain ⟨a1,c1,a2,c2,rfl⟩:=ha.shape;obtain ⟨a3,c3,a4,c4,rfl⟩:=hb.shape;obtain ⟨R,hR⟩:=gN (bR ra rb);rw [← hR] at ho ⊢;obtain ⟨s1,l1,l2⟩:=ra;obtain ⟨s2,l3,l4⟩:=rb;dsimp only at ho ⊢;have HO:=kI ho;clear hR ho ha hb la lb;have b2:=ag.new ((w.alloc (.cells #[.bool s1,.slice a1 l1.length c1,.slice a2 l2.length c2] 25)).alloc (.cells #[.bool s2,.slice a3 l3.length c3,.slice a4 l4.length c4] 25)) #[.bool false,.slice none 0 0,.slice none 0 0] 25;rw [World.size_alloc,World.size_alloc] at b2;have B2:=kI b2;have X0:=kI (show Ext w (((w.alloc (.cells #[.bool s1,.slice a1 l1.length c1,.slice a2 l2.length c2] 25)).alloc (.cells #[.bool s2,.slice a3 l3.length c3,.slice a4 l4.length c4] 25)).alloc (.cells #[.bool false,.slice none 0 0,.slice none 0 0] 25)) from (((Ext.refl w).alloc _).alloc _).alloc _);clear b2;go_enter Tryz.func57,Tryz.ntmps57
 go_wp2_with fail;refine (HO.o _ X0.o).mono ?_;rintro e w1 ⟨⟨v1,rfl,n1⟩,hx1⟩;obtain ⟨a5,c5,a6,c6,rfl⟩:=n1.shape;have B1:=kI (B2.o.ext hx1);have X1:=kI (X0.o.trans hx1);have N1:=kI (n1.from X0.o);clear hx1 n1;have c0:=B1.o.cell;have f0:=B1.o.free;have l0:=B1.o.lt;obtain ⟨R1,R2⟩:=R;dsimp only at *;go_wp2_with fail;refine bodyPost_ret (v:=.tuple #[.agg #[.bool R1.neg,.slice a5 R1.num.length c5,.slice a6 R1.den.length c6],.int .i64 R2]) (by simp only [results,Tryz.results57];go_simp) rfl ⟨bU.mk (aV.cM N1.o B1.o ap _ _ _) rfl,?_⟩;have:=X1.o;exact eX
theorem fg (va vb:Value) (ra rb:RR) (w:World) (ha:bh w va ra) (hb:bh w vb rb) (la:aC ra) (lb:aC rb) :
  Calls Tryz.prog 55 #[va,vb] w fun e w'=>bU w w' e (mulR ra rb)∧Ext w w':=by
 have ho:=fun W (x:Ext w W)=>uQ va vb ra rb W (ha.ext x) (hb.ext x) la lb;obtain ⟨a1,c1,a2,c2,rfl⟩:=ha.shape;obtain ⟨a3,c3,a4,c4,rfl⟩:=hb.shape;obtain ⟨R,hR⟩:=gN (mulR ra rb);rw [← hR] at ho ⊢;obtain ⟨s1,l1,l2⟩:=ra;obtain ⟨s2,l3,l4⟩:=rb;dsimp only at ho ⊢;have HO:=kI ho;clear hR ho ha hb la lb;have b2:=ag.new ((w.alloc (.cells #[.bool s1,.slice a1 l1.length c1,.slice a2 l2.length c2] 25)).alloc (.cells #[.bool s2,.slice a3 l3.length c3,.slice a4 l4.length c4] 25)) #[.bool false,.slice none 0 0,.slice none 0 0] 25;rw [World.size_alloc,World.size_alloc] at b2;have B2:=kI b2;have X0:=kI (show Ext w (((w.alloc (.cells #[.bool s1,.slice a1 l1.length c1,.slice a2 l2.length c2] 25)).alloc (.cells #[.bool s2,.slice a3 l3.length c3,.slice a4 l4.length c4] 25)).alloc (.cells #[.bool false,.slice none 0 0,.slice none 0 0] 25)) from (((Ext.refl w).alloc _).alloc _).alloc _);clear b2;go_enter Tryz.func55,Tryz.ntmps55
 go_wp2_with fail;refine (HO.o _ X0.o).mono ?_;rintro e w1 ⟨⟨v1,rfl,n1⟩,hx1⟩;obtain ⟨a5,c5,a6,c6,rfl⟩:=n1.shape;have B1:=kI (B2.o.ext hx1);have X1:=kI (X0.o.trans hx1);have N1:=kI (n1.from X0.o);clear hx1 n1;have c0:=B1.o.cell;have f0:=B1.o.free;have l0:=B1.o.lt;obtain ⟨R1,R2⟩:=R;dsimp only at *;go_wp2_with fail;refine bodyPost_ret (v:=.tuple #[.agg #[.bool R1.neg,.slice a5 R1.num.length c5,.slice a6 R1.den.length c6],.int .i64 R2]) (by simp only [results,Tryz.results55];go_simp) rfl ⟨bU.mk (aV.cM N1.o B1.o ap _ _ _) rfl,?_⟩;have:=X1.o;exact eX
theorem pw (va vb:Value) (ra rb:RR) (w:World) (ha:bh w va ra) (hb:bh w vb rb) (la:aC ra) (lb:aC rb) :
  Calls Tryz.prog 108 #[va,vb] w fun e w'=>bU w w' e (bJ ra rb)∧Ext w w':=by
 have rD:=kI (mW ha la);have xI:=kI (mW hb lb);have ho:=fun h0 W (x:Ext w W)=>uR va vb ra rb W (ha.ext x) (hb.ext x) la lb h0;obtain ⟨a1,c1,a2,c2,rfl⟩:=ha.shape;obtain ⟨a3,c3,a4,c4,rfl⟩:=hb.shape;obtain ⟨s1,l1,l2⟩:=ra;obtain ⟨s2,l3,l4⟩:=rb;dsimp only at rD xI ho ⊢;clear ha hb;have b0:=((ag.new w #[.bool s1,.slice a1 l1.length c1,.slice a2 l2.length c2] 25).alloc (.cells #[.bool s2,.slice a3 l3.length c3,.slice a4 l4.length c4] 25)).alloc (.cells #[.bool false,.slice none 0 0,.slice none 0 0] 25);have b1:=(ag.new (w.alloc (.cells #[.bool s1,.slice a1 l1.length c1,.slice a2 l2.length c2] 25)) #[.bool s2,.slice a3 l3.length c3,.slice a4 l4.length c4] 25).alloc (.cells #[.bool false,.slice none 0 0,.slice none 0 0] 25);have b2:=ag.new ((w.alloc (.cells #[.bool s1,.slice a1 l1.length c1,.slice a2 l2.length c2] 25)).alloc (.cells #[.bool s2,.slice a3 l3.length c3,.slice a4 l4.length c4] 25)) #[.bool false,.slice none 0 0,.slice none 0 0] 25;rw [World.size_alloc] at b1;rw [World.size_alloc,World.size_alloc] at b2;have x0:Ext w (((w.alloc (.cells #[.bool s1,.slice a1 l1.length c1,.slice a2 l2.length c2] 25)).alloc (.cells #[.bool s2,.slice a3 l3.length c3,.slice a4 l4.length c4] 25)).alloc (.cells #[.bool false,.slice none 0 0,.slice none 0 0] 25)):=(((Ext.refl w).alloc _).alloc _).alloc _;have A0:=kI b0;have A1:=kI b1;have A2:=kI b2;clear b0 b1 b2;obtain ⟨ca,hca⟩:=gN (aA ⟨s1,l1,l2⟩);obtain ⟨cb,hcb⟩:=gN (aA ⟨s2,l3,l4⟩);have hdef:cP ⟨s1,l1,l2⟩ ⟨s2,l3,l4⟩=wX ca cb:=by unfold cP;rw [hca,hcb]
 rw [← hca] at rD;rw [← hcb] at xI;have hor:=fun g W h=>j0 ca cb g W h;rw [← hdef] at hor;obtain ⟨cc,hcc⟩:=gN (cP ⟨s1,l1,l2⟩ ⟨s2,l3,l4⟩);rw [← hcc] at hor;have Fp:=kI hor;obtain ⟨R,hR⟩:=gN (bJ ⟨s1,l1,l2⟩ ⟨s2,l3,l4⟩);rw [← hR];have HR:=kI hR;have oJ:=kI hcc;have HO:=kI ho;clear hca hcb hdef hor hcc hR ho;go_enter Tryz.func108,Tryz.ntmps108
 go_wp2_with fail;have hmx:Tryz.prog.follows .mixedOrders=true:=ax
 go_region_held3 (fun W=>(ag W w.heap.size #[.bool s1,.slice a1 l1.length c1,.slice a2 l2.length c2] 25∧W.cell? ⟨w.heap.size,0,none⟩=some (.bool s1)∧W.cell? ⟨w.heap.size,1,none⟩=some (.slice a1 l1.length c1)∧W.cell? ⟨w.heap.size,2,none⟩=some (.slice a2 l2.length c2))∧(ag W (w.heap.size+1) #[.bool s2,.slice a3 l3.length c3,.slice a4 l4.length c4] 25∧W.cell? ⟨w.heap.size+1,0,none⟩=some (.bool s2)∧W.cell? ⟨w.heap.size+1,1,none⟩=some (.slice a3 l3.length c3)∧W.cell? ⟨w.heap.size+1,2,none⟩=some (.slice a4 l4.length c4)))
  ((refine ⟨ag.s3 ?_,ag.s3 ?_⟩ <;> (repeat (first|exact A0.o|exact A1.o|exact k1|exact k2|exact k4|exact k5|exact k7|exact k8|refine ag.setOther ?_ au _|refine ag.alloc ?_ _|refine ag.drew ?_))))
  (first|(go_at_call_of 111 (Value.slice a1 l1.length c1);refine (rD.o _ eX).mono ?_;rintro e W4 ⟨rfl,hx4⟩;have x4:=Ext.trans x0 (Ext.trans eX hx4);have k1:=A0.o.ext (Ext.trans eX hx4);have k2:=A1.o.ext (Ext.trans eX hx4);have k3:=A2.o.ext (Ext.trans eX hx4))|(go_at_call_of 111 (Value.slice a3 l3.length c3);refine (xI.o _ eX).mono ?_;rintro e W5 ⟨rfl,hx5⟩;have x5:=x4.trans hx5;have k4:=k1.ext hx5;have k5:=k2.ext hx5;have k6:=k3.ext hx5)|(go_at_call 121;refine (Fp.o _ _ (ag.new W5 _ _)).mono ?_;rintro e W6 ⟨rfl,hx6⟩;have x6:=(x5.alloc _).trans hx6;have k7:=(k4.alloc _).ext hx6;have k8:=(k5.alloc _).ext hx6;have k9:=(k6.alloc _).ext hx6))
 have G6:=kI k7;have H6:=kI k8;have R6:=kI k9;have X6:=kI x6;clear k1 k2 k3 k4 k5 k6 k7 k8 k9 hx4 hx5 hx6 x4 x5 x6 A0 A1 A2 x0;have c9:=R6.o.cell;have f9:=R6.o.free;have l9:=R6.o.lt;have g9:=G6.o.cell;have ZQ:=G6.o.lt;have h9:=H6.o.cell;have ZR:=H6.o.lt;by_cases hc:cc=0
 ·have hcb':(cc != 0)=false:=by simpa using hc
  by_cases hz:l3.length=0
  ·have hz':((l3.length:Int) == 0)=true:=by simpa using hz
   have e:R=(zR,14):=by rw [HR.o];unfold bJ i9;rw [if_pos (oJ.o.symm.trans hc),if_pos (List.length_eq_zero_iff.1 hz)]
   have E:=kI e;clear e hc hz;go_wp2_with fail;refine bodyPost_ret (v:=.tuple #[.agg #[.bool false,.slice none 0 0,.slice none 0 0],.int .i64 14]) Sw rfl ⟨bU.mk (aV.zero _ _) E.o,?_⟩;have:=X6.o;exact eX
  ·have hz':((l3.length:Int) == 0)=false:=by simpa using hz
   have e:R=i9 ⟨s1,l1,l2⟩ ⟨s2,l3,l4⟩ (dK (qv ⟨s1,l1,l2⟩ / qv ⟨s2,l3,l4⟩)):=by
    rw [HR.o];unfold bJ;rw [if_neg (fun e=>hz (by rw [show l3=[] from e];rfl))]
   have ho:=HO.o (fun e=>hz (by rw [show l3=[] from e];rfl));rw [← e] at ho;have Tr:=kI ho;clear e hc hz ho;go_wp2_with fail;refine (Tr.o _ X6.o).mono ?_;rintro e w1 ⟨⟨v1,rfl,n1⟩,hx1⟩;obtain ⟨a5,c5,a6,c6,rfl⟩:=n1.shape;have B1:=kI (R6.o.ext hx1);have X1:=kI (X6.o.trans hx1);have N1:=kI (n1.from X6.o);clear hx1 n1 c9 f9 l9 g9 ZQ h9 ZR;have c0:=B1.o.cell;have f0:=B1.o.free;have l0:=B1.o.lt;obtain ⟨R1,R2⟩:=R;dsimp only at *;go_wp2_with fail;refine bodyPost_ret (v:=.tuple #[.agg #[.bool R1.neg,.slice a5 R1.num.length c5,.slice a6 R1.den.length c6],.int .i64 R2]) Sw rfl ⟨bU.mk (aV.cM N1.o B1.o ap _ _ _) rfl,?_⟩;have:=X1.o;exact eX
 ·have hcb':(cc != 0)=true:=by simpa using hc
  have e:R=(zR,cc):=by rw [HR.o];unfold bJ i9;rw [if_neg (fun e=>hc (oJ.o.trans e)),← oJ.o]
  have E:=kI e;clear e hc;go_wp2_with fail;refine bodyPost_ret (v:=.tuple #[.agg #[.bool false,.slice none 0 0,.slice none 0 0],.int .i64 cc]) Sw rfl ⟨bU.mk (aV.zero _ _) E.o,?_⟩;have:=X6.o;exact eX
def sl (s:ByteArray):Int:=Lib.indexByte s.data.toList 47
theorem bh.parts {w:World} {v:Value} {r:RR} (h:bh w v r):∃ a c a2 c2,v=.agg #[.bool r.neg,.slice a r.num.length c,.slice a2 r.den.length c2]∧bj .u32 w (.slice a r.num.length c) r.num∧bj .u32 w (.slice a2 r.den.length c2) r.den:=by
 obtain ⟨vn,vd,rfl,h1,h2⟩:=h;obtain ⟨a,c,rfl⟩:=az h1;obtain ⟨a2,c2,rfl⟩:=az h2;exact ⟨a,c,a2,c2,rfl,h1,h2⟩
theorem iK (v1 v2:Value) (r1 r2:RR) (w:World) (h1:bh w v1 r1) (h2:bh w v2 r2) :
  Calls Tryz.prog 52 #[v1,v2] w fun e w'=>e=.returned (.bool (decide (r1=r2)))∧Ext w w':=by
 obtain ⟨a1,c1,a2,c2,rfl,n1,d1⟩:=h1.parts;obtain ⟨a3,c3,a4,c4,rfl,n2,d2⟩:=h2.parts;obtain ⟨s1,l1,l2⟩:=r1;obtain ⟨s2,l3,l4⟩:=r2;dsimp only at n1 d1 n2 d2 ⊢;have N1:=kI n1;have D1:=kI d1;have N2:=kI n2;have D2:=kI d2;clear n1 d1 n2 d2 h1 h2;have b0:=(ag.new w #[.bool s1,.slice a1 l1.length c1,.slice a2 l2.length c2] 25).alloc (.cells #[.bool s2,.slice a3 l3.length c3,.slice a4 l4.length c4] 25);have b1:=ag.new (w.alloc (.cells #[.bool s1,.slice a1 l1.length c1,.slice a2 l2.length c2] 25)) #[.bool s2,.slice a3 l3.length c3,.slice a4 l4.length c4] 25;rw [World.size_alloc] at b1;have x0:Ext w ((w.alloc (.cells #[.bool s1,.slice a1 l1.length c1,.slice a2 l2.length c2] 25)).alloc (.cells #[.bool s2,.slice a3 l3.length c3,.slice a4 l4.length c4] 25)):=((Ext.refl w).alloc _).alloc _;have B0:=kI b0;have B1:=kI b1;have X0:=kI x0;clear b0 b1 x0;by_cases hs:s1=s2
 ·subst hs;have he1:=fun W h h'=>lX (.slice a1 l1.length c1) (.slice a3 l3.length c3) l1 l3 W h h';have he2:=fun W h h'=>lX (.slice a2 l2.length c2) (.slice a4 l4.length c4) l2 l4 W h h';by_cases hn:l1=l3
  ·rw [decide_eq_true hn] at he1;have e:decide ((⟨s1,l1,l2⟩:RR)=⟨s1,l3,l4⟩)=decide (l2=l4):=by
    rw [hn];simp
   obtain ⟨r,hr⟩:=gN (decide (l2=l4));rw [← hr] at he2 e;rw [e];have Ts:=kI he1;have HE2:=kI he2;clear he1 he2 hn e hr;cases s1;all_goals
    go_enter Tryz.func52,Tryz.ntmps52
    go_wp2_with fail;refine (Ts.o _ (N1.o.ext X0.o) (N2.o.ext X0.o)).mono ?_;rintro e w1 ⟨rfl,hx1⟩;have P0:=kI (B0.o.ext hx1);have P1:=kI (B1.o.ext hx1);have X1:=kI (X0.o.trans hx1);clear hx1;have k0:=P0.o.cell;have k1:=P1.o.cell;have m0:=P0.o.lt;have m1:=P1.o.lt;go_wp2_with fail;refine (HE2.o _ (D1.o.ext X1.o) (D2.o.ext X1.o)).mono ?_;rintro e w2 ⟨rfl,hx2⟩;have X2:=kI (X1.o.trans hx2);clear hx2 k0 k1 m0 m1;go_wp2_with fail;go_ret;exact ⟨rfl,X2.o⟩
  ·rw [decide_eq_false hn] at he1;have e:decide ((⟨s1,l1,l2⟩:RR)=⟨s1,l3,l4⟩)=false:=by
    rw [decide_eq_false_iff_not];intro h;injection h with _ h2;exact hn h2
   rw [e];have Ts:=kI he1;clear he1 he2 hn e;cases s1;all_goals
    go_enter Tryz.func52,Tryz.ntmps52
    go_wp2_with fail;refine (Ts.o _ (N1.o.ext X0.o) (N2.o.ext X0.o)).mono ?_;rintro e w1 ⟨rfl,hx1⟩;have X1:=kI (X0.o.trans hx1);clear hx1;go_wp2_with fail;go_ret;exact ⟨rfl,X1.o⟩
 ·have e:decide ((⟨s1,l1,l2⟩:RR)=⟨s2,l3,l4⟩)=false:=by
   rw [decide_eq_false_iff_not];intro h;injection h with h2;exact hs h2
  rw [e];clear e;cases s1 <;> cases s2
  all_goals first
   | exact absurd rfl hs
   | skip
  all_goals
   clear hs;go_enter Tryz.func52,Tryz.ntmps52
   go_wp2_with fail;go_ret;exact ⟨rfl,X0.o⟩
end Go.Proofs.YtnnjbaijcaiohaaGreat
