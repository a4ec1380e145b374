/- Walks and lemmas. -/
import Derived.Test.YtnnjbaijcaiohaaGreatSzA22
import Derived.Test.YtnnjbaijcaiohaaGreatSzA19
import Derived.Test.YtnnjbaijcaiohaaGreatSzA23
import Derived.Test.YtnnjbaijcaiohaaGreatSzA20
import Derived.KernelRfl
import Derived.Test.YtnnjbaijcaiohaaGreatSzA7
import Derived.Test.YtnnjbaijcaiohaaGreatSzA5
import Derived.Test.YtnnjbaijcaiohaaGreatSzA10
import Derived.WalkMore
import Derived.Test.YtnnjbaijcaiohaaGreatSzA18
import Derived.Test.YtnnjbaijcaiohaaGreatSzA21
import Derived.Test.YtnnjbaijcaiohaaGreatSzA12
set_option linter.unusedVariables false
set_option linter.unusedSimpArgs false
set_option maxRecDepth 100000
set_option maxHeartbeats 16000000
namespace Go.Proofs.YtnnjbaijcaiohaaGreat
open Go.RowKit
variable {a a0:Act} {listed:Array Bool} {T:Array Bool→World→Prop} {ops:Array Oper} {ps:Array Tmp} {args tmps:Array Value} {assign body:Code} {Q:Exit→Act→World→Prop} {F:Fence} {u:FrameMode} {f:FuncId} {c s:Int} {plan:List (List Int)} {ds:List Deferred} {l l1 l2 la lb lq:List Int} {rest:List Oper} {cs h vs xs:List Value} {An B C H L N b b0 bx c1 c2 cap d1 d2 fuel g i id j jn k m1 m2 n n1 n2 nf nn off xn y:Nat} {X:Nat→Prop} {oi om:Oper} {a1 a2 a3 xa:Option Addr} {P:Program} {R p p0 p1 p10 p11 p12 p13 p2 p3 p4 p5 p6 p7 p8 p9:Prop} {md:Region.Mode} {α:Type} {e t t1 t2 t3:TypeId} {lv v vb vr z:Value} {A W W' W0 w w' w0 w2 w3 w4 wB:World} {S S1 S2:World→Prop}
theorem xS {cs:Array Value} (g:List (List RR)) (n:Nat) (h:af W b cs t) (hn:g.length=n) (hs:n≤1000) (hr:∀ i,i < n→∃ ai ci,cs[i]?=some (.slice ai (g.getD i []).length ci)∧aT W (.slice ai (g.getD i []).length ci) (g.getD i [])):ki W (.slice (some ⟨b,0,none⟩) n n) g:=by
 exact qHf
theorem qP {cs:Array Value} (g:List (List Int)) (n:Nat) (h:af W b cs t) (hn:g.length=n) (hs:n≤1000) (hr:∀ i,i < n→∃ ai ci,cs[i]?=some (.slice ai (g.getD i []).length ci)∧aY .i64 W (.slice ai (g.getD i []).length ci) (g.getD i [])):dL W (.slice (some ⟨b,0,none⟩) n n) g:=by
 exact qHf
theorem qQ (l:List Int):bQ (eM l):=fun i hi=>by
 unfold eM at hi ⊢;rw [List.length_map] at hi;rw [List.getD_eq_getElem?_getD,List.getElem?_map,List.getElem?_eq_getElem hi];exact cG _
theorem oK:eG yg:=by
 refine ⟨cG _,fun s a=>?_⟩;have h0:pW dA:=⟨bO,fun i=>by cases i <;> exact bO⟩;have hx:∀ c t,bj c→pW ⟨c,[(t,rep ((1:Int):Rat))]⟩:=fun c t hc=>⟨hc,fun i=>by
  match i with
  | 0=>exact cG _
  | _+1=>exact bO⟩
 match s,a with
 | 0,0=>exact hx _ _ (cG _)
 | 0,1=>exact hx _ _ (cG _)
 | 0,_+2=>exact h0
 | 1,0=>exact hx _ _ bO
 | 1,_+1=>exact h0
 | _+2,_=>exact h0
theorem kX {l:List RR} (h:(l.all fun r=>decide (r.num.length≤1000000∧r.den.length≤1000000))=true):jE l:=fun i hi=>by
 have:=List.all_eq_true.1 h (l.getD i zR) (by rw [List.getD_eq_getElem?_getD,List.getElem?_eq_getElem hi];exact List.getElem_mem hi);exact of_decide_eq_true this
theorem af3:cg yg (eM [5,0]) 2=([eM [5,0],eM [3,0],eM [3,0]],[[1,0],[1,0]],0):=ak
theorem af4:bT yg (eM [3,0])=([eM [4,3],eM [0]],0):=ak
theorem af5:dU yg (eM [5,0]) [[0,0],[0,0]]=(eM [7,0],0):=ak
theorem af6:aM yg [[1,0]] 0=(eM [0,1],0):=ak
theorem nB (w:World):Calls Tryz.prog 10 #[] w fun e w'=>e=.returned (.bool true)∧Ext w w':=by
 obtain ⟨lA,hlA⟩:=gN (eM [5,0]);obtain ⟨lB,hlB⟩:=gN (eM [3,0]);obtain ⟨lC,hlC⟩:=gN (eM [7,0]);obtain ⟨lD,hlD⟩:=gN (eM [4,3]);obtain ⟨lE,hlE⟩:=gN (eM [0]);obtain ⟨lF,hlF⟩:=gN (eM [0,1]);have kS:=af3;have kC:=af4;have kP:=af5;have kH:=af6;rw [← hlA,← hlB] at kS;rw [← hlB,← hlD,← hlE] at kC;rw [← hlA,← hlC] at kP;rw [← hlF] at kH;have hst:=fun W mv vv (h:dd W mv yg) (k:aT W vv lA)=>nw mv vv yg lA 2 W h k oK (by rw [hlA];exact qQ _) (by rw [hlA];exact kX ak);have hsc:=fun W mv vv (h:dd W mv yg) (k:aT W vv lB)=>nA mv vv yg lB W h k oK (by rw [hlB];exact qQ _) (by rw [hlB];exact kX ak);have hpl:=fun W mv vv pv (h:dd W mv yg) (k:aT W vv lA) (g:dL W pv [[0,0],[0,0]])=>tg mv vv pv yg lA [[0,0],[0,0]] W h k g oK (by rw [hlA];exact qQ _) (by rw [hlA];exact kX ak);have hch:=fun W mv pv (h:dd W mv yg) (g:dL W pv [[1,0]])=>mB mv pv yg [[1,0]] 0 W h g oK;rw [kS] at hst;rw [kC] at hsc;rw [kP] at hpl;rw [kH] at hch;unfold kg at hst;unfold kj at hsc;unfold dN at hpl hch;dsimp only at hst hsc hpl hch;have hnA:=fun W v (h:aY .i64 W v [5,0])=>eE v [5,0] W h ah ah;rw [← hlA] at hnA;have hnB:=fun W v (h:aY .i64 W v [3,0])=>eE v [3,0] W h ah ah;rw [← hlB] at hnB;have hnC:=fun W v (h:aY .i64 W v [7,0])=>eE v [7,0] W h ah ah;rw [← hlC] at hnC;have hnD:=fun W v (h:aY .i64 W v [4,3])=>eE v [4,3] W h ah ah;rw [← hlD] at hnD;have hnE:=fun W v (h:aY .i64 W v [0])=>eE v [0] W h ah ah;rw [← hlE] at hnE;have hnF:=fun W v (h:aY .i64 W v [0,1])=>eE v [0,1] W h ah ah;rw [← hlF] at hnF;obtain ⟨Hst,Hsc,Hpl,Hch,HnA,HnB,HnC,HnD,HnE,HnF⟩:=Gv hst hsc hpl hch hnA hnB hnC hnD hnE hnF
 clear kS kC kP kH hst hsc hpl hch hnA hlA hnB hlB hnC hlC hnD hlD hnE hlE hnF hlF;have X:Hid (Ext w w):=kI (Ext.refl w);go_enter Tryz.func10,Tryz.ntmps10
 go_wp2_with fail;refine (j8 w).mono ?_;rintro e w1 ⟨⟨v,rfl,hm⟩,hx⟩;replace X:=X.x hx;obtain ⟨MA1,MA2,MA3,MA4,MA5,MA6,rfl,-,-⟩:=id hm;have MA:=kI hm;clear hm;clear hx;go_wp2_with fail;obtain ⟨s2,hs2⟩:=gN (w1.heap.size);rw [← hs2];obtain ⟨w2,hw2⟩:=gN ((w1.alloc (.cells #[.int .i64 5,.int .i64 0] 3)));have hx:Ext w1 w2:=by rw [hw2];exact (Ext.refl _).alloc _
 have bb0:af w2 (s2) #[.int .i64 5,.int .i64 0] 3:=by
  have h:=(af.new w1 #[.int .i64 5,.int .i64 0] 3);rw [← hw2,← hs2] at h;exact h
 rw [← hw2];replace MA:=MA.x hx;replace X:=X.x hx;have IA:=kI bb0;clear hx hw2 hs2 bb0;refine (HnA.o w2 _ (cA [5,0] 2 IA.o rfl ah)).mono ?_;rintro e w3 ⟨⟨v,rfl,ow⟩,hx⟩;replace MA:=MA.x hx;replace IA:=IA.x hx;replace X:=X.x hx;obtain ⟨VAa,VAc,rfl⟩:=ow.shape;have VA:=kI ow.rd;clear ow;clear hx;go_wp2_with fail;refine (Hst.o w3 _ _ MA.o VA.o).mono ?_;rintro e w4 ⟨⟨v,p,rfl,ov,op⟩,hx⟩;replace MA:=MA.x hx;replace IA:=IA.x hx;replace VA:=VA.x hx;replace X:=X.x hx;obtain ⟨R1a,R1c,rfl⟩:=ov.shape;obtain ⟨P1a,P1c,rfl⟩:=op.shape;have R1:=kI ov.rd;have P1:=kI op.UX;clear ov op;clear hx;go_wp2_with fail;refine (j8 w4).mono ?_;rintro e w5 ⟨⟨v,rfl,hm⟩,hx⟩;replace MA:=MA.x hx;replace IA:=IA.x hx;replace VA:=VA.x hx;replace R1:=R1.x hx;replace P1:=P1.x hx;replace X:=X.x hx;obtain ⟨MB1,MB2,MB3,MB4,MB5,MB6,rfl,-,-⟩:=id hm;have MB:=kI hm;clear hm;clear hx;go_wp2_with fail;obtain ⟨s6,hs6⟩:=gN (w5.heap.size);rw [← hs6];obtain ⟨w6,hw6⟩:=gN ((w5.alloc (.cells #[.int .i64 3,.int .i64 0] 3)));have hx:Ext w5 w6:=by rw [hw6];exact (Ext.refl _).alloc _
 have bb0:af w6 (s6) #[.int .i64 3,.int .i64 0] 3:=by
  have h:=(af.new w5 #[.int .i64 3,.int .i64 0] 3);rw [← hw6,← hs6] at h;exact h
 rw [← hw6];replace MA:=MA.x hx;replace IA:=IA.x hx;replace VA:=VA.x hx;replace R1:=R1.x hx;replace P1:=P1.x hx;replace MB:=MB.x hx;replace X:=X.x hx;have IB:=kI bb0;clear hx hw6 hs6 bb0;refine (HnB.o w6 _ (cA [3,0] 2 IB.o rfl ah)).mono ?_;rintro e w7 ⟨⟨v,rfl,ow⟩,hx⟩;replace MA:=MA.x hx;replace IA:=IA.x hx;replace VA:=VA.x hx;replace R1:=R1.x hx;replace P1:=P1.x hx;replace MB:=MB.x hx;replace IB:=IB.x hx;replace X:=X.x hx;obtain ⟨VBa,VBc,rfl⟩:=ow.shape;have VB:=kI ow.rd;clear ow;clear hx;go_wp2_with fail;refine (Hsc.o w7 _ _ MB.o VB.o).mono ?_;rintro e w8 ⟨⟨v,rfl,ov⟩,hx⟩;replace MA:=MA.x hx;replace IA:=IA.x hx;replace VA:=VA.x hx;replace R1:=R1.x hx;replace P1:=P1.x hx;replace MB:=MB.x hx;replace IB:=IB.x hx;replace VB:=VB.x hx;replace X:=X.x hx;obtain ⟨R2a,R2c,rfl⟩:=ov.shape;have R2:=kI ov.rd;clear ov;clear hx;go_wp2_with fail;refine (j8 w8).mono ?_;rintro e w9 ⟨⟨v,rfl,hm⟩,hx⟩;replace MA:=MA.x hx;replace IA:=IA.x hx;replace VA:=VA.x hx;replace R1:=R1.x hx;replace P1:=P1.x hx;replace MB:=MB.x hx;replace IB:=IB.x hx;replace VB:=VB.x hx;replace R2:=R2.x hx;replace X:=X.x hx;obtain ⟨MC1,MC2,MC3,MC4,MC5,MC6,rfl,-,-⟩:=id hm;have MC:=kI hm;clear hm;clear hx;go_wp2_with fail;obtain ⟨s10,hs10⟩:=gN (w9.heap.size);rw [← hs10];obtain ⟨w10,Jn⟩:=gN ((w9.alloc (.cells #[.int .i64 5,.int .i64 0] 3)));have hx:Ext w9 w10:=by rw [Jn];exact (Ext.refl _).alloc _
 have bb0:af w10 (s10) #[.int .i64 5,.int .i64 0] 3:=by
  have h:=(af.new w9 #[.int .i64 5,.int .i64 0] 3);rw [← Jn,← hs10] at h;exact h
 rw [← Jn];replace MA:=MA.x hx;replace IA:=IA.x hx;replace VA:=VA.x hx;replace R1:=R1.x hx;replace P1:=P1.x hx;replace MB:=MB.x hx;replace IB:=IB.x hx;replace VB:=VB.x hx;replace R2:=R2.x hx;replace MC:=MC.x hx;replace X:=X.x hx;have IC:=kI bb0;clear hx Jn hs10 bb0;refine (HnA.o w10 _ (cA [5,0] 2 IC.o rfl ah)).mono ?_;rintro e uM ⟨⟨v,rfl,ow⟩,hx⟩;replace MA:=MA.x hx;replace IA:=IA.x hx;replace VA:=VA.x hx;replace R1:=R1.x hx;replace P1:=P1.x hx;replace MB:=MB.x hx;replace IB:=IB.x hx;replace VB:=VB.x hx;replace R2:=R2.x hx;replace MC:=MC.x hx;replace IC:=IC.x hx;replace X:=X.x hx;obtain ⟨VCa,VCc,rfl⟩:=ow.shape;have VC:=kI ow.rd;clear ow;clear hx;go_wp2_with fail;obtain ⟨s12,Gc⟩:=gN (uM.heap.size);rw [← Gc];obtain ⟨w12,CG⟩:=gN ((((uM.alloc (.cells #[.int .i64 0,.int .i64 0] 3)).alloc (.cells #[.int .i64 0,.int .i64 0] 3)).alloc (.cells #[.slice (some ⟨s12,0,none⟩) 2 2,.slice (some ⟨s12+1,0,none⟩) 2 2] 53)));have hx:Ext uM w12:=by rw [CG];exact (((Ext.refl _).alloc _).alloc _).alloc _
 have bb0:af w12 (s12) #[.int .i64 0,.int .i64 0] 3:=by
  have h:=(((af.new uM #[.int .i64 0,.int .i64 0] 3).alloc (.cells #[.int .i64 0,.int .i64 0] 3)).alloc (.cells #[.slice (some ⟨s12,0,none⟩) 2 2,.slice (some ⟨s12+1,0,none⟩) 2 2] 53));rw [← CG,← Gc] at h;exact h
 have bb1:af w12 (s12+1) #[.int .i64 0,.int .i64 0] 3:=by
  have h:=((af.new (uM.alloc (.cells #[.int .i64 0,.int .i64 0] 3)) #[.int .i64 0,.int .i64 0] 3).alloc (.cells #[.slice (some ⟨s12,0,none⟩) 2 2,.slice (some ⟨s12+1,0,none⟩) 2 2] 53));rw [World.size_alloc] at h;rw [← CG,← Gc] at h;exact h
 have bb2:af w12 (s12+1+1) #[.slice (some ⟨s12,0,none⟩) 2 2,.slice (some ⟨s12+1,0,none⟩) 2 2] 53:=by
  have h:=(af.new ((uM.alloc (.cells #[.int .i64 0,.int .i64 0] 3)).alloc (.cells #[.int .i64 0,.int .i64 0] 3)) #[.slice (some ⟨s12,0,none⟩) 2 2,.slice (some ⟨s12+1,0,none⟩) 2 2] 53);rw [World.size_alloc,World.size_alloc] at h;rw [← CG,← Gc] at h;exact h
 rw [← CG];replace MA:=MA.x hx;replace IA:=IA.x hx;replace VA:=VA.x hx;replace R1:=R1.x hx;replace P1:=P1.x hx;replace MB:=MB.x hx;replace IB:=IB.x hx;replace VB:=VB.x hx;replace R2:=R2.x hx;replace MC:=MC.x hx;replace IC:=IC.x hx;replace VC:=VC.x hx;replace X:=X.x hx;obtain ⟨fp,fq,ft⟩:=cC bb0 bb1 bb2;clear hx CG Gc bb0 bb1 bb2;have PA:Hid (dL w12 (.slice (some ⟨s12+1+1,0,none⟩) 2 2) [[0,0],[0,0]]):=kI (qP _ 2 ft.o rfl ah (fun i hi=>by
  match i,hi with
  | 0,_=>exact ⟨_,_,rfl,cA [0,0] 2 fp.o rfl ah⟩
  | 1,_=>exact ⟨_,_,rfl,cA [0,0] 2 fq.o rfl ah⟩))
 refine (Hpl.o w12 _ _ _ MC.o VC.o PA.o).mono ?_;rintro e w13 ⟨⟨v,rfl,ov⟩,hx⟩;replace MA:=MA.x hx;replace IA:=IA.x hx;replace VA:=VA.x hx;replace R1:=R1.x hx;replace P1:=P1.x hx;replace MB:=MB.x hx;replace IB:=IB.x hx;replace VB:=VB.x hx;replace R2:=R2.x hx;replace MC:=MC.x hx;replace IC:=IC.x hx;replace VC:=VC.x hx;replace fp:=fp.x hx;replace fq:=fq.x hx;replace ft:=ft.x hx;replace PA:=PA.x hx;replace X:=X.x hx;obtain ⟨R3a,R3c,rfl⟩:=ov.shape;have R3:=kI ov.rd;clear ov;clear hx;go_wp2_with fail;refine (j8 w13).mono ?_;rintro e OE ⟨⟨v,rfl,hm⟩,hx⟩;replace MA:=MA.x hx;replace IA:=IA.x hx;replace VA:=VA.x hx;replace R1:=R1.x hx;replace P1:=P1.x hx;replace MB:=MB.x hx;replace IB:=IB.x hx;replace VB:=VB.x hx;replace R2:=R2.x hx;replace MC:=MC.x hx;replace IC:=IC.x hx;replace VC:=VC.x hx;replace fp:=fp.x hx;replace fq:=fq.x hx;replace ft:=ft.x hx;replace PA:=PA.x hx;replace R3:=R3.x hx;replace X:=X.x hx;obtain ⟨MD1,MD2,MD3,MD4,MD5,MD6,rfl,-,-⟩:=id hm;have MD:=kI hm;clear hm;clear hx;go_wp2_with fail;obtain ⟨s15,Jo⟩:=gN (OE.heap.size);rw [← Jo];obtain ⟨OF,Gd⟩:=gN (((OE.alloc (.cells #[.int .i64 1,.int .i64 0] 3)).alloc (.cells #[.slice (some ⟨s15,0,none⟩) 2 2] 53)));have hx:Ext OE OF:=by rw [Gd];exact ((Ext.refl _).alloc _).alloc _
 have bb0:af OF (s15) #[.int .i64 1,.int .i64 0] 3:=by
  have h:=((af.new OE #[.int .i64 1,.int .i64 0] 3).alloc (.cells #[.slice (some ⟨s15,0,none⟩) 2 2] 53));rw [← Gd,← Jo] at h;exact h
 have bb1:af OF (s15+1) #[.slice (some ⟨s15,0,none⟩) 2 2] 53:=by
  have h:=(af.new (OE.alloc (.cells #[.int .i64 1,.int .i64 0] 3)) #[.slice (some ⟨s15,0,none⟩) 2 2] 53);rw [World.size_alloc] at h;rw [← Gd,← Jo] at h;exact h
 rw [← Gd];replace MA:=MA.x hx;replace IA:=IA.x hx;replace VA:=VA.x hx;replace R1:=R1.x hx;replace P1:=P1.x hx;replace MB:=MB.x hx;replace IB:=IB.x hx;replace VB:=VB.x hx;replace R2:=R2.x hx;replace MC:=MC.x hx;replace IC:=IC.x hx;replace VC:=VC.x hx;replace fp:=fp.x hx;replace fq:=fq.x hx;replace ft:=ft.x hx;replace PA:=PA.x hx;replace R3:=R3.x hx;replace MD:=MD.x hx;replace X:=X.x hx;have gn:=kI bb0;have gu:=kI bb1;clear hx Gd Jo bb0 bb1;have PB:Hid (dL OF (.slice (some ⟨s15+1,0,none⟩) 1 1) [[1,0]]):=kI (qP _ 1 gu.o rfl ah (fun i hi=>by
  match i,hi with
  | 0,_=>exact ⟨_,_,rfl,cA [1,0] 2 gn.o rfl ah⟩))
 refine (Hch.o OF _ _ MD.o PB.o).mono ?_;rintro e w16 ⟨⟨v,rfl,ov⟩,hx⟩;replace MA:=MA.x hx;replace IA:=IA.x hx;replace VA:=VA.x hx;replace R1:=R1.x hx;replace P1:=P1.x hx;replace MB:=MB.x hx;replace IB:=IB.x hx;replace VB:=VB.x hx;replace R2:=R2.x hx;replace MC:=MC.x hx;replace IC:=IC.x hx;replace VC:=VC.x hx;replace fp:=fp.x hx;replace fq:=fq.x hx;replace ft:=ft.x hx;replace PA:=PA.x hx;replace R3:=R3.x hx;replace MD:=MD.x hx;replace gn:=gn.x hx;replace gu:=gu.x hx;replace PB:=PB.x hx;replace X:=X.x hx;obtain ⟨R4a,R4c,rfl⟩:=ov.shape;have R4:=kI ov.rd;clear ov;clear hx;go_wp2_with fail;obtain ⟨s17,M6⟩:=gN (w16.heap.size);rw [← M6];obtain ⟨Vs,Jq⟩:=gN ((w16.alloc (.cells #[.int .i64 5,.int .i64 0] 3)));have hx:Ext w16 Vs:=by rw [Jq];exact (Ext.refl _).alloc _
 have bb0:af Vs (s17) #[.int .i64 5,.int .i64 0] 3:=by
  have h:=(af.new w16 #[.int .i64 5,.int .i64 0] 3);rw [← Jq,← M6] at h;exact h
 rw [← Jq];replace MA:=MA.x hx;replace IA:=IA.x hx;replace VA:=VA.x hx;replace R1:=R1.x hx;replace P1:=P1.x hx;replace MB:=MB.x hx;replace IB:=IB.x hx;replace VB:=VB.x hx;replace R2:=R2.x hx;replace MC:=MC.x hx;replace IC:=IC.x hx;replace VC:=VC.x hx;replace fp:=fp.x hx;replace fq:=fq.x hx;replace ft:=ft.x hx;replace PA:=PA.x hx;replace R3:=R3.x hx;replace MD:=MD.x hx;replace gn:=gn.x hx;replace gu:=gu.x hx;replace PB:=PB.x hx;replace R4:=R4.x hx;replace X:=X.x hx;have gX:=kI bb0;clear hx Jq M6 bb0;refine (HnA.o Vs _ (cA [5,0] 2 gX.o rfl ah)).mono ?_;rintro e Tl ⟨⟨v,rfl,ow⟩,hx⟩;replace MA:=MA.x hx;replace IA:=IA.x hx;replace VA:=VA.x hx;replace R1:=R1.x hx;replace P1:=P1.x hx;replace MB:=MB.x hx;replace IB:=IB.x hx;replace VB:=VB.x hx;replace R2:=R2.x hx;replace MC:=MC.x hx;replace IC:=IC.x hx;replace VC:=VC.x hx;replace fp:=fp.x hx;replace fq:=fq.x hx;replace ft:=ft.x hx;replace PA:=PA.x hx;replace R3:=R3.x hx;replace MD:=MD.x hx;replace gn:=gn.x hx;replace gu:=gu.x hx;replace PB:=PB.x hx;replace R4:=R4.x hx;replace gX:=gX.x hx;replace X:=X.x hx;obtain ⟨N1a,N1c,rfl⟩:=ow.shape;have N1:=kI ow.rd;clear ow;clear hx;go_wp2_with fail;obtain ⟨s19,M8⟩:=gN (Tl.heap.size);rw [← M8];obtain ⟨Vt,Jr⟩:=gN ((Tl.alloc (.cells #[.int .i64 3,.int .i64 0] 3)));have hx:Ext Tl Vt:=by rw [Jr];exact (Ext.refl _).alloc _
 have bb0:af Vt (s19) #[.int .i64 3,.int .i64 0] 3:=by
  have h:=(af.new Tl #[.int .i64 3,.int .i64 0] 3);rw [← Jr,← M8] at h;exact h
 rw [← Jr];replace MA:=MA.x hx;replace IA:=IA.x hx;replace VA:=VA.x hx;replace R1:=R1.x hx;replace P1:=P1.x hx;replace MB:=MB.x hx;replace IB:=IB.x hx;replace VB:=VB.x hx;replace R2:=R2.x hx;replace MC:=MC.x hx;replace IC:=IC.x hx;replace VC:=VC.x hx;replace fp:=fp.x hx;replace fq:=fq.x hx;replace ft:=ft.x hx;replace PA:=PA.x hx;replace R3:=R3.x hx;replace MD:=MD.x hx;replace gn:=gn.x hx;replace gu:=gu.x hx;replace PB:=PB.x hx;replace R4:=R4.x hx;replace gX:=gX.x hx;replace N1:=N1.x hx;replace X:=X.x hx;have iQ:=kI bb0;clear hx Jr M8 bb0;refine (HnB.o Vt _ (cA [3,0] 2 iQ.o rfl ah)).mono ?_;rintro e Tm ⟨⟨v,rfl,ow⟩,hx⟩;replace MA:=MA.x hx;replace IA:=IA.x hx;replace VA:=VA.x hx;replace R1:=R1.x hx;replace P1:=P1.x hx;replace MB:=MB.x hx;replace IB:=IB.x hx;replace VB:=VB.x hx;replace R2:=R2.x hx;replace MC:=MC.x hx;replace IC:=IC.x hx;replace VC:=VC.x hx;replace fp:=fp.x hx;replace fq:=fq.x hx;replace ft:=ft.x hx;replace PA:=PA.x hx;replace R3:=R3.x hx;replace MD:=MD.x hx;replace gn:=gn.x hx;replace gu:=gu.x hx;replace PB:=PB.x hx;replace R4:=R4.x hx;replace gX:=gX.x hx;replace N1:=N1.x hx;replace iQ:=iQ.x hx;replace X:=X.x hx;obtain ⟨N2a,N2c,rfl⟩:=ow.shape;have N2:=kI ow.rd;clear ow;clear hx;go_wp2_with fail;obtain ⟨s21,M9⟩:=gN (Tm.heap.size);rw [← M9];obtain ⟨Vu,Js⟩:=gN ((Tm.alloc (.cells #[.int .i64 3,.int .i64 0] 3)));have hx:Ext Tm Vu:=by rw [Js];exact (Ext.refl _).alloc _
 have bb0:af Vu (s21) #[.int .i64 3,.int .i64 0] 3:=by
  have h:=(af.new Tm #[.int .i64 3,.int .i64 0] 3);rw [← Js,← M9] at h;exact h
 rw [← Js];replace MA:=MA.x hx;replace IA:=IA.x hx;replace VA:=VA.x hx;replace R1:=R1.x hx;replace P1:=P1.x hx;replace MB:=MB.x hx;replace IB:=IB.x hx;replace VB:=VB.x hx;replace R2:=R2.x hx;replace MC:=MC.x hx;replace IC:=IC.x hx;replace VC:=VC.x hx;replace fp:=fp.x hx;replace fq:=fq.x hx;replace ft:=ft.x hx;replace PA:=PA.x hx;replace R3:=R3.x hx;replace MD:=MD.x hx;replace gn:=gn.x hx;replace gu:=gu.x hx;replace PB:=PB.x hx;replace R4:=R4.x hx;replace gX:=gX.x hx;replace N1:=N1.x hx;replace iQ:=iQ.x hx;replace N2:=N2.x hx;replace X:=X.x hx;have jQ:=kI bb0;clear hx Js M9 bb0;refine (HnB.o Vu _ (cA [3,0] 2 jQ.o rfl ah)).mono ?_;rintro e Tn ⟨⟨v,rfl,ow⟩,hx⟩;replace MA:=MA.x hx;replace IA:=IA.x hx;replace VA:=VA.x hx;replace R1:=R1.x hx;replace P1:=P1.x hx;replace MB:=MB.x hx;replace IB:=IB.x hx;replace VB:=VB.x hx;replace R2:=R2.x hx;replace MC:=MC.x hx;replace IC:=IC.x hx;replace VC:=VC.x hx;replace fp:=fp.x hx;replace fq:=fq.x hx;replace ft:=ft.x hx;replace PA:=PA.x hx;replace R3:=R3.x hx;replace MD:=MD.x hx;replace gn:=gn.x hx;replace gu:=gu.x hx;replace PB:=PB.x hx;replace R4:=R4.x hx;replace gX:=gX.x hx;replace N1:=N1.x hx;replace iQ:=iQ.x hx;replace N2:=N2.x hx;replace jQ:=jQ.x hx;replace X:=X.x hx;obtain ⟨N3a,N3c,rfl⟩:=ow.shape;have N3:=kI ow.rd;clear ow;clear hx;go_wp2_with fail;obtain ⟨s23,Na⟩:=gN (Tn.heap.size);rw [← Na];obtain ⟨To,Jt⟩:=gN ((Tn.alloc (.cells #[.slice N1a lA.length N1c,.slice N2a lB.length N2c,.slice N3a lB.length N3c] 29)))
 have hx:Ext Tn To:=by rw [Jt];exact (Ext.refl _).alloc _
 have bb0:af To (s23) #[.slice N1a lA.length N1c,.slice N2a lB.length N2c,.slice N3a lB.length N3c] 29:=by
  have h:=(af.new Tn #[.slice N1a lA.length N1c,.slice N2a lB.length N2c,.slice N3a lB.length N3c] 29);rw [← Jt,← Na] at h;exact h
 rw [← Jt];replace MA:=MA.x hx;replace IA:=IA.x hx;replace VA:=VA.x hx;replace R1:=R1.x hx;replace P1:=P1.x hx;replace MB:=MB.x hx;replace IB:=IB.x hx;replace VB:=VB.x hx;replace R2:=R2.x hx;replace MC:=MC.x hx;replace IC:=IC.x hx;replace VC:=VC.x hx;replace fp:=fp.x hx;replace fq:=fq.x hx;replace ft:=ft.x hx;replace PA:=PA.x hx;replace R3:=R3.x hx;replace MD:=MD.x hx;replace gn:=gn.x hx;replace gu:=gu.x hx;replace PB:=PB.x hx;replace R4:=R4.x hx;replace gX:=gX.x hx;replace N1:=N1.x hx;replace iQ:=iQ.x hx;replace N2:=N2.x hx;replace jQ:=jQ.x hx;replace N3:=N3.x hx;replace X:=X.x hx;have kY:=kI bb0;clear hx Jt Na bb0;have G1:Hid (ki To (.slice (some ⟨s23,0,none⟩) 3 3) [lA,lB,lB]):=kI (xS _ 3 kY.o rfl ah (fun i hi=>by
  match i,hi with
  | 0,_=>exact ⟨_,_,rfl,N1.o⟩
  | 1,_=>exact ⟨_,_,rfl,N2.o⟩
  | 2,_=>exact ⟨_,_,rfl,N3.o⟩))
 refine (dF _ _ _ To R1.o G1.o).mono ?_;rintro e Nb ⟨rfl,hx⟩;replace MA:=MA.x hx;replace IA:=IA.x hx;replace VA:=VA.x hx;replace R1:=R1.x hx;replace P1:=P1.x hx;replace MB:=MB.x hx;replace IB:=IB.x hx;replace VB:=VB.x hx;replace R2:=R2.x hx;replace MC:=MC.x hx;replace IC:=IC.x hx;replace VC:=VC.x hx;replace fp:=fp.x hx;replace fq:=fq.x hx;replace ft:=ft.x hx;replace PA:=PA.x hx;replace R3:=R3.x hx;replace MD:=MD.x hx;replace gn:=gn.x hx;replace gu:=gu.x hx;replace PB:=PB.x hx;replace R4:=R4.x hx;replace gX:=gX.x hx;replace N1:=N1.x hx;replace iQ:=iQ.x hx;replace N2:=N2.x hx;replace jQ:=jQ.x hx;replace N3:=N3.x hx;replace kY:=kY.x hx;replace G1:=G1.x hx;replace X:=X.x hx;clear hx;go_wp2_with fail;obtain ⟨A4,Ge⟩:=gN (Nb.heap.size);rw [← Ge];obtain ⟨Nc,CI⟩:=gN ((((Nb.alloc (.cells #[.int .i64 1,.int .i64 0] 3)).alloc (.cells #[.int .i64 1,.int .i64 0] 3)).alloc (.cells #[.slice (some ⟨A4,0,none⟩) 2 2,.slice (some ⟨A4+1,0,none⟩) 2 2] 53)));have hx:Ext Nb Nc:=by rw [CI];exact (((Ext.refl _).alloc _).alloc _).alloc _
 have bb0:af Nc (A4) #[.int .i64 1,.int .i64 0] 3:=by
  have h:=(((af.new Nb #[.int .i64 1,.int .i64 0] 3).alloc (.cells #[.int .i64 1,.int .i64 0] 3)).alloc (.cells #[.slice (some ⟨A4,0,none⟩) 2 2,.slice (some ⟨A4+1,0,none⟩) 2 2] 53));rw [← CI,← Ge] at h;exact h
 have bb1:af Nc (A4+1) #[.int .i64 1,.int .i64 0] 3:=by
  have h:=((af.new (Nb.alloc (.cells #[.int .i64 1,.int .i64 0] 3)) #[.int .i64 1,.int .i64 0] 3).alloc (.cells #[.slice (some ⟨A4,0,none⟩) 2 2,.slice (some ⟨A4+1,0,none⟩) 2 2] 53));rw [World.size_alloc] at h;rw [← CI,← Ge] at h;exact h
 have bb2:af Nc (A4+1+1) #[.slice (some ⟨A4,0,none⟩) 2 2,.slice (some ⟨A4+1,0,none⟩) 2 2] 53:=by
  have h:=(af.new ((Nb.alloc (.cells #[.int .i64 1,.int .i64 0] 3)).alloc (.cells #[.int .i64 1,.int .i64 0] 3)) #[.slice (some ⟨A4,0,none⟩) 2 2,.slice (some ⟨A4+1,0,none⟩) 2 2] 53);rw [World.size_alloc,World.size_alloc] at h;rw [← CI,← Ge] at h;exact h
 rw [← CI];replace MA:=MA.x hx;replace IA:=IA.x hx;replace VA:=VA.x hx;replace R1:=R1.x hx;replace P1:=P1.x hx;replace MB:=MB.x hx;replace IB:=IB.x hx;replace VB:=VB.x hx;replace R2:=R2.x hx;replace MC:=MC.x hx;replace IC:=IC.x hx;replace VC:=VC.x hx;replace fp:=fp.x hx;replace fq:=fq.x hx;replace ft:=ft.x hx;replace PA:=PA.x hx;replace R3:=R3.x hx;replace MD:=MD.x hx;replace gn:=gn.x hx;replace gu:=gu.x hx;replace PB:=PB.x hx;replace R4:=R4.x hx;replace gX:=gX.x hx;replace N1:=N1.x hx;replace iQ:=iQ.x hx;replace N2:=N2.x hx;replace jQ:=jQ.x hx;replace N3:=N3.x hx;replace kY:=kY.x hx;replace G1:=G1.x hx;replace X:=X.x hx;obtain ⟨m5,m6,m7⟩:=cC bb0 bb1 bb2;clear hx CI Ge bb0 bb1 bb2;have PC:Hid (dL Nc (.slice (some ⟨A4+1+1,0,none⟩) 2 2) [[1,0],[1,0]]):=kI (qP _ 2 m7.o rfl ah (fun i hi=>by
  match i,hi with
  | 0,_=>exact ⟨_,_,rfl,cA [1,0] 2 m5.o rfl ah⟩
  | 1,_=>exact ⟨_,_,rfl,cA [1,0] 2 m6.o rfl ah⟩))
 refine (iO _ _ _ Nc P1.o PC.o).mono ?_;rintro e Vv ⟨rfl,hx⟩;replace MA:=MA.x hx;replace IA:=IA.x hx;replace VA:=VA.x hx;replace R1:=R1.x hx;replace P1:=P1.x hx;replace MB:=MB.x hx;replace IB:=IB.x hx;replace VB:=VB.x hx;replace R2:=R2.x hx;replace MC:=MC.x hx;replace IC:=IC.x hx;replace VC:=VC.x hx;replace fp:=fp.x hx;replace fq:=fq.x hx;replace ft:=ft.x hx;replace PA:=PA.x hx;replace R3:=R3.x hx;replace MD:=MD.x hx;replace gn:=gn.x hx;replace gu:=gu.x hx;replace PB:=PB.x hx;replace R4:=R4.x hx;replace gX:=gX.x hx;replace N1:=N1.x hx;replace iQ:=iQ.x hx;replace N2:=N2.x hx;replace jQ:=jQ.x hx;replace N3:=N3.x hx;replace kY:=kY.x hx;replace G1:=G1.x hx;replace m5:=m5.x hx;replace m6:=m6.x hx;replace m7:=m7.x hx;replace PC:=PC.x hx;replace X:=X.x hx;clear hx;go_wp2_with fail;obtain ⟨s27,Nf⟩:=gN (Vv.heap.size);rw [← Nf];obtain ⟨w27,Ju⟩:=gN ((Vv.alloc (.cells #[.int .i64 4,.int .i64 3] 3)));have hx:Ext Vv w27:=by rw [Ju];exact (Ext.refl _).alloc _
 have bb0:af w27 (s27) #[.int .i64 4,.int .i64 3] 3:=by
  have h:=(af.new Vv #[.int .i64 4,.int .i64 3] 3);rw [← Ju,← Nf] at h;exact h
 rw [← Ju];replace MA:=MA.x hx;replace IA:=IA.x hx;replace VA:=VA.x hx;replace R1:=R1.x hx;replace P1:=P1.x hx;replace MB:=MB.x hx;replace IB:=IB.x hx;replace VB:=VB.x hx;replace R2:=R2.x hx;replace MC:=MC.x hx;replace IC:=IC.x hx;replace VC:=VC.x hx;replace fp:=fp.x hx;replace fq:=fq.x hx;replace ft:=ft.x hx;replace PA:=PA.x hx;replace R3:=R3.x hx;replace MD:=MD.x hx;replace gn:=gn.x hx;replace gu:=gu.x hx;replace PB:=PB.x hx;replace R4:=R4.x hx;replace gX:=gX.x hx;replace N1:=N1.x hx;replace iQ:=iQ.x hx;replace N2:=N2.x hx;replace jQ:=jQ.x hx;replace N3:=N3.x hx;replace kY:=kY.x hx;replace G1:=G1.x hx;replace m5:=m5.x hx;replace m6:=m6.x hx;replace m7:=m7.x hx;replace PC:=PC.x hx;replace X:=X.x hx;have qR:=kI bb0;clear hx Ju Nf bb0;refine (HnD.o w27 _ (cA [4,3] 2 qR.o rfl ah)).mono ?_;rintro e Vw ⟨⟨v,rfl,ow⟩,hx⟩;replace MA:=MA.x hx;replace IA:=IA.x hx;replace VA:=VA.x hx;replace R1:=R1.x hx;replace P1:=P1.x hx;replace MB:=MB.x hx;replace IB:=IB.x hx;replace VB:=VB.x hx;replace R2:=R2.x hx;replace MC:=MC.x hx;replace IC:=IC.x hx;replace VC:=VC.x hx;replace fp:=fp.x hx;replace fq:=fq.x hx;replace ft:=ft.x hx;replace PA:=PA.x hx;replace R3:=R3.x hx;replace MD:=MD.x hx;replace gn:=gn.x hx;replace gu:=gu.x hx;replace PB:=PB.x hx;replace R4:=R4.x hx;replace gX:=gX.x hx;replace N1:=N1.x hx;replace iQ:=iQ.x hx;replace N2:=N2.x hx;replace jQ:=jQ.x hx;replace N3:=N3.x hx;replace kY:=kY.x hx;replace G1:=G1.x hx;replace m5:=m5.x hx;replace m6:=m6.x hx;replace m7:=m7.x hx;replace PC:=PC.x hx;replace qR:=qR.x hx;replace X:=X.x hx
 obtain ⟨N4a,N4c,rfl⟩:=ow.shape;have N4:=kI ow.rd;clear ow;clear hx;go_wp2_with fail;obtain ⟨s29,Ng⟩:=gN (Vw.heap.size);rw [← Ng];obtain ⟨w29,Jv⟩:=gN ((Vw.alloc (.cells #[.int .i64 0] 3)));have hx:Ext Vw w29:=by rw [Jv];exact (Ext.refl _).alloc _
 have bb0:af w29 (s29) #[.int .i64 0] 3:=by
  have h:=(af.new Vw #[.int .i64 0] 3);rw [← Jv,← Ng] at h;exact h
 rw [← Jv];replace MA:=MA.x hx;replace IA:=IA.x hx;replace VA:=VA.x hx;replace R1:=R1.x hx;replace P1:=P1.x hx;replace MB:=MB.x hx;replace IB:=IB.x hx;replace VB:=VB.x hx;replace R2:=R2.x hx;replace MC:=MC.x hx;replace IC:=IC.x hx;replace VC:=VC.x hx;replace fp:=fp.x hx;replace fq:=fq.x hx;replace ft:=ft.x hx;replace PA:=PA.x hx;replace R3:=R3.x hx;replace MD:=MD.x hx;replace gn:=gn.x hx;replace gu:=gu.x hx;replace PB:=PB.x hx;replace R4:=R4.x hx;replace gX:=gX.x hx;replace N1:=N1.x hx;replace iQ:=iQ.x hx;replace N2:=N2.x hx;replace jQ:=jQ.x hx;replace N3:=N3.x hx;replace kY:=kY.x hx;replace G1:=G1.x hx;replace m5:=m5.x hx;replace m6:=m6.x hx;replace m7:=m7.x hx;replace PC:=PC.x hx;replace qR:=qR.x hx;replace N4:=N4.x hx;replace X:=X.x hx;have uG:=kI bb0;clear hx Jv Ng bb0;refine (HnE.o w29 _ (cA [0] 1 uG.o rfl ah)).mono ?_;rintro e Vx ⟨⟨v,rfl,ow⟩,hx⟩;replace MA:=MA.x hx;replace IA:=IA.x hx;replace VA:=VA.x hx;replace R1:=R1.x hx;replace P1:=P1.x hx;replace MB:=MB.x hx;replace IB:=IB.x hx;replace VB:=VB.x hx;replace R2:=R2.x hx;replace MC:=MC.x hx;replace IC:=IC.x hx;replace VC:=VC.x hx;replace fp:=fp.x hx;replace fq:=fq.x hx;replace ft:=ft.x hx;replace PA:=PA.x hx;replace R3:=R3.x hx;replace MD:=MD.x hx;replace gn:=gn.x hx;replace gu:=gu.x hx;replace PB:=PB.x hx;replace R4:=R4.x hx;replace gX:=gX.x hx;replace N1:=N1.x hx;replace iQ:=iQ.x hx;replace N2:=N2.x hx;replace jQ:=jQ.x hx;replace N3:=N3.x hx;replace kY:=kY.x hx;replace G1:=G1.x hx;replace m5:=m5.x hx;replace m6:=m6.x hx;replace m7:=m7.x hx;replace PC:=PC.x hx;replace qR:=qR.x hx;replace N4:=N4.x hx;replace uG:=uG.x hx;replace X:=X.x hx
 obtain ⟨N5a,N5c,rfl⟩:=ow.shape;have N5:=kI ow.rd;clear ow;clear hx;go_wp2_with fail;obtain ⟨s31,Nh⟩:=gN (Vx.heap.size);rw [← Nh];obtain ⟨Vy,Jw⟩:=gN ((Vx.alloc (.cells #[.slice N4a lD.length N4c,.slice N5a lE.length N5c] 29)));have hx:Ext Vx Vy:=by rw [Jw];exact (Ext.refl _).alloc _
 have bb0:af Vy (s31) #[.slice N4a lD.length N4c,.slice N5a lE.length N5c] 29:=by
  have h:=(af.new Vx #[.slice N4a lD.length N4c,.slice N5a lE.length N5c] 29);rw [← Jw,← Nh] at h;exact h
 rw [← Jw];replace MA:=MA.x hx;replace IA:=IA.x hx;replace VA:=VA.x hx;replace R1:=R1.x hx;replace P1:=P1.x hx;replace MB:=MB.x hx;replace IB:=IB.x hx;replace VB:=VB.x hx;replace R2:=R2.x hx;replace MC:=MC.x hx;replace IC:=IC.x hx;replace VC:=VC.x hx;replace fp:=fp.x hx;replace fq:=fq.x hx;replace ft:=ft.x hx;replace PA:=PA.x hx;replace R3:=R3.x hx;replace MD:=MD.x hx;replace gn:=gn.x hx;replace gu:=gu.x hx;replace PB:=PB.x hx;replace R4:=R4.x hx;replace gX:=gX.x hx;replace N1:=N1.x hx;replace iQ:=iQ.x hx;replace N2:=N2.x hx;replace jQ:=jQ.x hx;replace N3:=N3.x hx;replace kY:=kY.x hx;replace G1:=G1.x hx;replace m5:=m5.x hx;replace m6:=m6.x hx;replace m7:=m7.x hx;replace PC:=PC.x hx;replace qR:=qR.x hx;replace N4:=N4.x hx;replace uG:=uG.x hx;replace N5:=N5.x hx;replace X:=X.x hx;have zD:=kI bb0;clear hx Jw Nh bb0;have G2:Hid (ki Vy (.slice (some ⟨s31,0,none⟩) 2 2) [lD,lE]):=kI (xS _ 2 zD.o rfl ah (fun i hi=>by
  match i,hi with
  | 0,_=>exact ⟨_,_,rfl,N4.o⟩
  | 1,_=>exact ⟨_,_,rfl,N5.o⟩))
 refine (dF _ _ _ Vy R2.o G2.o).mono ?_;rintro e w32 ⟨rfl,hx⟩;replace MA:=MA.x hx;replace IA:=IA.x hx;replace VA:=VA.x hx;replace R1:=R1.x hx;replace P1:=P1.x hx;replace MB:=MB.x hx;replace IB:=IB.x hx;replace VB:=VB.x hx;replace R2:=R2.x hx;replace MC:=MC.x hx;replace IC:=IC.x hx;replace VC:=VC.x hx;replace fp:=fp.x hx;replace fq:=fq.x hx;replace ft:=ft.x hx;replace PA:=PA.x hx;replace R3:=R3.x hx;replace MD:=MD.x hx;replace gn:=gn.x hx;replace gu:=gu.x hx;replace PB:=PB.x hx;replace R4:=R4.x hx;replace gX:=gX.x hx;replace N1:=N1.x hx;replace iQ:=iQ.x hx;replace N2:=N2.x hx;replace jQ:=jQ.x hx;replace N3:=N3.x hx;replace kY:=kY.x hx;replace G1:=G1.x hx;replace m5:=m5.x hx;replace m6:=m6.x hx;replace m7:=m7.x hx;replace PC:=PC.x hx;replace qR:=qR.x hx;replace N4:=N4.x hx;replace uG:=uG.x hx;replace N5:=N5.x hx;replace zD:=zD.x hx;replace G2:=G2.x hx;replace X:=X.x hx;clear hx;go_wp2_with fail;obtain ⟨s33,Ni⟩:=gN (w32.heap.size);rw [← Ni];obtain ⟨w33,Jy⟩:=gN ((w32.alloc (.cells #[.int .i64 7,.int .i64 0] 3)));have hx:Ext w32 w33:=by rw [Jy];exact (Ext.refl _).alloc _
 have bb0:af w33 (s33) #[.int .i64 7,.int .i64 0] 3:=by
  have h:=(af.new w32 #[.int .i64 7,.int .i64 0] 3);rw [← Jy,← Ni] at h;exact h
 rw [← Jy];replace MA:=MA.x hx;replace IA:=IA.x hx;replace VA:=VA.x hx;replace R1:=R1.x hx;replace P1:=P1.x hx;replace MB:=MB.x hx;replace IB:=IB.x hx;replace VB:=VB.x hx;replace R2:=R2.x hx;replace MC:=MC.x hx;replace IC:=IC.x hx;replace VC:=VC.x hx;replace fp:=fp.x hx;replace fq:=fq.x hx;replace ft:=ft.x hx;replace PA:=PA.x hx;replace R3:=R3.x hx;replace MD:=MD.x hx;replace gn:=gn.x hx;replace gu:=gu.x hx;replace PB:=PB.x hx;replace R4:=R4.x hx;replace gX:=gX.x hx;replace N1:=N1.x hx;replace iQ:=iQ.x hx;replace N2:=N2.x hx;replace jQ:=jQ.x hx;replace N3:=N3.x hx;replace kY:=kY.x hx;replace G1:=G1.x hx;replace m5:=m5.x hx;replace m6:=m6.x hx;replace m7:=m7.x hx;replace PC:=PC.x hx;replace qR:=qR.x hx;replace N4:=N4.x hx;replace uG:=uG.x hx;replace N5:=N5.x hx;replace zD:=zD.x hx;replace G2:=G2.x hx;replace X:=X.x hx;have Gf:=kI bb0;clear hx Jy Ni bb0;refine (HnC.o w33 _ (cA [7,0] 2 Gf.o rfl ah)).mono ?_;rintro e w34 ⟨⟨v,rfl,ow⟩,hx⟩;replace MA:=MA.x hx;replace IA:=IA.x hx;replace VA:=VA.x hx;replace R1:=R1.x hx;replace P1:=P1.x hx;replace MB:=MB.x hx;replace IB:=IB.x hx;replace VB:=VB.x hx;replace R2:=R2.x hx;replace MC:=MC.x hx;replace IC:=IC.x hx;replace VC:=VC.x hx;replace fp:=fp.x hx;replace fq:=fq.x hx;replace ft:=ft.x hx;replace PA:=PA.x hx;replace R3:=R3.x hx;replace MD:=MD.x hx;replace gn:=gn.x hx;replace gu:=gu.x hx;replace PB:=PB.x hx;replace R4:=R4.x hx;replace gX:=gX.x hx;replace N1:=N1.x hx;replace iQ:=iQ.x hx;replace N2:=N2.x hx;replace jQ:=jQ.x hx;replace N3:=N3.x hx;replace kY:=kY.x hx;replace G1:=G1.x hx;replace m5:=m5.x hx;replace m6:=m6.x hx;replace m7:=m7.x hx;replace PC:=PC.x hx;replace qR:=qR.x hx;replace N4:=N4.x hx;replace uG:=uG.x hx;replace N5:=N5.x hx;replace zD:=zD.x hx;replace G2:=G2.x hx;replace Gf:=Gf.x hx;replace X:=X.x hx
 obtain ⟨N6a,N6c,rfl⟩:=ow.shape;have N6:=kI ow.rd;clear ow;clear hx;go_wp2_with fail;refine (dz _ _ lC lC w34 R3.o N6.o).mono ?_;rintro e Vz ⟨rfl,hx⟩;replace MA:=MA.x hx;replace IA:=IA.x hx;replace VA:=VA.x hx;replace R1:=R1.x hx;replace P1:=P1.x hx;replace MB:=MB.x hx;replace IB:=IB.x hx;replace VB:=VB.x hx;replace R2:=R2.x hx;replace MC:=MC.x hx;replace IC:=IC.x hx;replace VC:=VC.x hx;replace fp:=fp.x hx;replace fq:=fq.x hx;replace ft:=ft.x hx;replace PA:=PA.x hx;replace R3:=R3.x hx;replace MD:=MD.x hx;replace gn:=gn.x hx;replace gu:=gu.x hx;replace PB:=PB.x hx;replace R4:=R4.x hx;replace gX:=gX.x hx;replace N1:=N1.x hx;replace iQ:=iQ.x hx;replace N2:=N2.x hx;replace jQ:=jQ.x hx;replace N3:=N3.x hx;replace kY:=kY.x hx;replace G1:=G1.x hx;replace m5:=m5.x hx;replace m6:=m6.x hx;replace m7:=m7.x hx;replace PC:=PC.x hx;replace qR:=qR.x hx;replace N4:=N4.x hx;replace uG:=uG.x hx;replace N5:=N5.x hx;replace zD:=zD.x hx;replace G2:=G2.x hx;replace Gf:=Gf.x hx;replace N6:=N6.x hx;replace X:=X.x hx;clear hx;simp only [decide_true];go_wp2_with fail;obtain ⟨s36,Nj⟩:=gN (Vz.heap.size);rw [← Nj];obtain ⟨w36,Jz⟩:=gN ((Vz.alloc (.cells #[.int .i64 0,.int .i64 1] 3)));have hx:Ext Vz w36:=by rw [Jz];exact (Ext.refl _).alloc _
 have bb0:af w36 (s36) #[.int .i64 0,.int .i64 1] 3:=by
  have h:=(af.new Vz #[.int .i64 0,.int .i64 1] 3);rw [← Jz,← Nj] at h;exact h
 rw [← Jz];replace MA:=MA.x hx;replace IA:=IA.x hx;replace VA:=VA.x hx;replace R1:=R1.x hx;replace P1:=P1.x hx;replace MB:=MB.x hx;replace IB:=IB.x hx;replace VB:=VB.x hx;replace R2:=R2.x hx;replace MC:=MC.x hx;replace IC:=IC.x hx;replace VC:=VC.x hx;replace fp:=fp.x hx;replace fq:=fq.x hx;replace ft:=ft.x hx;replace PA:=PA.x hx;replace R3:=R3.x hx;replace MD:=MD.x hx;replace gn:=gn.x hx;replace gu:=gu.x hx;replace PB:=PB.x hx;replace R4:=R4.x hx;replace gX:=gX.x hx;replace N1:=N1.x hx;replace iQ:=iQ.x hx;replace N2:=N2.x hx;replace jQ:=jQ.x hx;replace N3:=N3.x hx;replace kY:=kY.x hx;replace G1:=G1.x hx;replace m5:=m5.x hx;replace m6:=m6.x hx;replace m7:=m7.x hx;replace PC:=PC.x hx;replace qR:=qR.x hx;replace N4:=N4.x hx;replace uG:=uG.x hx;replace N5:=N5.x hx;replace zD:=zD.x hx;replace G2:=G2.x hx;replace Gf:=Gf.x hx;replace N6:=N6.x hx;replace X:=X.x hx;have Tp:=kI bb0;clear hx Jz Nj bb0;refine (HnF.o w36 _ (cA [0,1] 2 Tp.o rfl ah)).mono ?_;rintro e w37 ⟨⟨v,rfl,ow⟩,hx⟩;replace MA:=MA.x hx;replace IA:=IA.x hx;replace VA:=VA.x hx;replace R1:=R1.x hx;replace P1:=P1.x hx;replace MB:=MB.x hx;replace IB:=IB.x hx;replace VB:=VB.x hx;replace R2:=R2.x hx;replace MC:=MC.x hx;replace IC:=IC.x hx;replace VC:=VC.x hx;replace fp:=fp.x hx;replace fq:=fq.x hx;replace ft:=ft.x hx;replace PA:=PA.x hx;replace R3:=R3.x hx;replace MD:=MD.x hx;replace gn:=gn.x hx;replace gu:=gu.x hx;replace PB:=PB.x hx;replace R4:=R4.x hx;replace gX:=gX.x hx;replace N1:=N1.x hx;replace iQ:=iQ.x hx;replace N2:=N2.x hx;replace jQ:=jQ.x hx;replace N3:=N3.x hx;replace kY:=kY.x hx;replace G1:=G1.x hx;replace m5:=m5.x hx;replace m6:=m6.x hx;replace m7:=m7.x hx;replace PC:=PC.x hx;replace qR:=qR.x hx;replace N4:=N4.x hx;replace uG:=uG.x hx;replace N5:=N5.x hx;replace zD:=zD.x hx;replace G2:=G2.x hx;replace Gf:=Gf.x hx;replace N6:=N6.x hx;replace Tp:=Tp.x hx;replace X:=X.x hx
 obtain ⟨N7a,N7c,rfl⟩:=ow.shape;have N7:=kI ow.rd;clear ow;clear hx;go_wp2_with fail;refine (dz _ _ lF lF w37 R4.o N7.o).mono ?_;rintro e w38 ⟨rfl,hx⟩;replace MA:=MA.x hx;replace IA:=IA.x hx;replace VA:=VA.x hx;replace R1:=R1.x hx;replace P1:=P1.x hx;replace MB:=MB.x hx;replace IB:=IB.x hx;replace VB:=VB.x hx;replace R2:=R2.x hx;replace MC:=MC.x hx;replace IC:=IC.x hx;replace VC:=VC.x hx;replace fp:=fp.x hx;replace fq:=fq.x hx;replace ft:=ft.x hx;replace PA:=PA.x hx;replace R3:=R3.x hx;replace MD:=MD.x hx;replace gn:=gn.x hx;replace gu:=gu.x hx;replace PB:=PB.x hx;replace R4:=R4.x hx;replace gX:=gX.x hx;replace N1:=N1.x hx;replace iQ:=iQ.x hx;replace N2:=N2.x hx;replace jQ:=jQ.x hx;replace N3:=N3.x hx;replace kY:=kY.x hx;replace G1:=G1.x hx;replace m5:=m5.x hx;replace m6:=m6.x hx;replace m7:=m7.x hx;replace PC:=PC.x hx;replace qR:=qR.x hx;replace N4:=N4.x hx;replace uG:=uG.x hx;replace N5:=N5.x hx;replace zD:=zD.x hx;replace G2:=G2.x hx;replace Gf:=Gf.x hx;replace N6:=N6.x hx;replace Tp:=Tp.x hx;replace N7:=N7.x hx;replace X:=X.x hx;clear hx;simp only [decide_true];go_wp2_with fail;go_ret;exact ⟨rfl,X.o⟩
theorem zE (a0:Option Addr) (cap:Nat) (vs:List (Hd × Hd)) (w:World) (hs:vs.length≤1000)
  (h:∀ (i:Nat) (hi:i < vs.length),∃ b off,a0=some ⟨b,off,none⟩∧w.cell? ⟨b,off+i*3+1,none⟩=some (.slice (vs[i]).1.1 (vs[i]).1.2.1 (vs[i]).1.2.2)∧w.cell? ⟨b,off+i*3+2,none⟩=some (.slice (vs[i]).2.1 (vs[i]).2.2.1 (vs[i]).2.2.2)) :
  Calls Tryz.prog 101 #[.slice a0 vs.length cap] w fun e w'=>QI vs e∧Ext w w':=by
 have H:=kI h;clear h;go_enter Tryz.func101,Tryz.ntmps101
 go_wp2_with fail;go_loopw [3,4,5] (fun i _ _ wr=>∃ k:Nat,k≤vs.length∧i=.int .i64 k∧Ext w wr∧(∃ n,wr=w.drewN n)∧Hid (∀ (i:Nat) (hi:i < vs.length),i < k→iq (vs[i]).1.2.1∧iq (vs[i]).2.2.1)) (fun i _ _ _=>vs.length - (intOf i).toNat)
 case atStart=>exact ⟨0,Nat.zero_le _,rfl,Ext.refl _,⟨0,rfl⟩,kI (fun i _ h=>by omega)⟩
 case round=>
  obtain ⟨k,hk,rfl,hx,⟨nd,rfl⟩,HK⟩:=hrel;by_cases hlt:k < vs.length
  ·obtain ⟨bq,oq,rfl,hc1,hc2⟩:=H.o k hlt;have q9:(0:Int)≤(k:Int):=Z
   have hstep:iq (vs[k]).1.2.1→iq (vs[k]).2.2.1→Hid (∀ (i:Nat) (hi:i < vs.length),i < k+1→iq (vs[i]).1.2.1∧iq (vs[i]).2.2.1):=fun h1 h2=>kI (fun i hi hik=>by
    by_cases e:i=k
    ·subst e;exact ⟨h1,h2⟩
    ·exact HK.o i hi Z)
   obtain ⟨x,hxx⟩:=gN (vs[k]);rw [← hxx] at hc1 hc2 hstep;obtain ⟨⟨a,n,c⟩,a2,m,c2⟩:=x;clear hxx;dsimp only at hc1 hc2 hstep;have HS:=kI hstep;have X:=kI hx;clear hstep hx;have q0:(k:Int) < (vs.length:Int):=Z
   have hmx:Tryz.prog.follows .mixedOrders=true:=ak
   go_wp2_with fail;go_quiet (fail)
   have hn4:n≤6∨(6 < n∧n≤128)∨(128 < n∧n≤200)∨200 < n:=Z
   have hm4:m≤6∨(6 < m∧m≤128)∨(128 < m∧m≤200)∨200 < m:=Z
   have okA:∀ x:Nat,x≤6→iq x:=fun x h=>⟨.inl h,by omega⟩;have okC:∀ x:Nat,128 < x∧x≤200→iq x:=fun x h=>⟨.inr h.1,h.2⟩;have OA:=kI okA;have OC:=kI okC;have X0:=Ext.refl w;clear okA okC;clear hc1 hc2;rcases hn4 with hn|hn|hn|hn
   ·rcases hm4 with hm|hm|hm|hm
    ·have q1:¬ (6:Int) < (n:Int):=Z
     have q2:¬ (200:Int) < (n:Int):=Z
     have r1:¬ (6:Int) < (m:Int):=Z
     have r2:¬ (200:Int) < (m:Int):=Z
     have S:=HS.o (OA.o _ hn) (OA.o _ hm);exact TO
    ·have q1:¬ (6:Int) < (n:Int):=Z
     have q2:¬ (200:Int) < (n:Int):=Z
     exact T1
    ·have q1:¬ (6:Int) < (n:Int):=Z
     have q2:¬ (200:Int) < (n:Int):=Z
     have r1:(6:Int) < (m:Int):=Z
     have r2:¬ (m:Int)≤128:=Z
     have r3:¬ (200:Int) < (m:Int):=Z
     have S:=HS.o (OA.o _ hn) (OC.o _ hm);exact TO
    ·have q1:¬ (6:Int) < (n:Int):=Z
     have q2:¬ (200:Int) < (n:Int):=Z
     exact TZ
   ·rcases hm4 with hm|hm|hm|hm
    ·have q1:(6:Int) < (n:Int):=Z
     have q2:(n:Int)≤128:=Z
     exact zUy
    ·have q1:(6:Int) < (n:Int):=Z
     have q2:(n:Int)≤128:=Z
     exact T1
    ·have q1:(6:Int) < (n:Int):=Z
     have q2:(n:Int)≤128:=Z
     exact kPu
    ·have q1:(6:Int) < (n:Int):=Z
     have q2:(n:Int)≤128:=Z
     exact TZ
   ·rcases hm4 with hm|hm|hm|hm
    ·have q1:(6:Int) < (n:Int):=Z
     have q2:¬ (n:Int)≤128:=Z
     have q3:¬ (200:Int) < (n:Int):=Z
     have r1:¬ (6:Int) < (m:Int):=Z
     have r2:¬ (200:Int) < (m:Int):=Z
     have S:=HS.o (OC.o _ hn) (OA.o _ hm);exact TO
    ·have q1:(6:Int) < (n:Int):=Z
     have q2:¬ (n:Int)≤128:=Z
     have q3:¬ (200:Int) < (n:Int):=Z
     exact T1
    ·have q1:(6:Int) < (n:Int):=Z
     have q2:¬ (n:Int)≤128:=Z
     have q3:¬ (200:Int) < (n:Int):=Z
     have r1:(6:Int) < (m:Int):=Z
     have r2:¬ (m:Int)≤128:=Z
     have r3:¬ (200:Int) < (m:Int):=Z
     have S:=HS.o (OC.o _ hn) (OC.o _ hm);exact TO
    ·have q1:(6:Int) < (n:Int):=Z
     have q2:¬ (n:Int)≤128:=Z
     have q3:¬ (200:Int) < (n:Int):=Z
     exact TZ
   ·rcases hm4 with hm|hm|hm|hm
    ·have q1:(6:Int) < (n:Int):=Z
     have q2:¬ (n:Int)≤128:=Z
     have q3:(200:Int) < (n:Int):=Z
     exact zUy
    ·have q1:(6:Int) < (n:Int):=Z
     have q2:¬ (n:Int)≤128:=Z
     have q3:(200:Int) < (n:Int):=Z
     exact T1
    ·have q1:(6:Int) < (n:Int):=Z
     have q2:¬ (n:Int)≤128:=Z
     have q3:(200:Int) < (n:Int):=Z
     exact kPu
    ·have q1:(6:Int) < (n:Int):=Z
     have q2:¬ (n:Int)≤128:=Z
     have q3:(200:Int) < (n:Int):=Z
     exact TZ
  ·have q0:¬ (k:Int) < (vs.length:Int):=Z
   go_wp2
   go_ret;exact ⟨⟨_,rfl,fun _ i hi=>HK.o i hi Z⟩,hx⟩
def th (f:Nat→(Option Addr × Nat) × (Option Addr × Nat)) (l:List RR):List (Hd × Hd):=(List.range l.length).map fun i=>(((f i).1.1,(l.getD i zR).num.length,(f i).1.2),((f i).2.1,(l.getD i zR).den.length,(f i).2.2))
theorem CJ (f:Nat→(Option Addr × Nat) × (Option Addr × Nat)) (l:List RR):(th f l).length=l.length:=by simp [th]
theorem xT (f:Nat→(Option Addr × Nat) × (Option Addr × Nat)) (l:List RR) (i:Nat) (hi:i < (th f l).length):(th f l)[i]=(((f i).1.1,(l.getD i zR).num.length,(f i).1.2),((f i).2.1,(l.getD i zR).den.length,(f i).2.2)):=by
 simp only [th,List.getElem_map,List.getElem_range]
theorem eU (v:Value) (l:List RR) (w:World) (h:aT w v l) (hs:l.length≤1000) :
  Calls Tryz.prog 101 #[v] w fun e w'=>(∃ r,e=.returned (.bool r)∧(r=false→∀ i,i < l.length→iq (l.getD i zR).num.length∧iq (l.getD i zR).den.length))∧Ext w w':=by
 obtain ⟨a,cap,rfl,hc,hm,f,hr⟩:=h.get;have hl:=CJ f l;have:=zE a cap (th f l) w (by rw [hl];exact hs) (fun i hi=>by
  obtain ⟨b,off,e,_,_,x1,x2,_⟩:=hr i (by rw [← hl];exact hi);rw [xT];exact ⟨b,off,e,x1,x2⟩)
 rw [hl] at this;refine this.mono ?_;rintro e w' ⟨⟨r,rfl,h2⟩,hx⟩;refine ⟨⟨r,rfl,fun e i hi=>?_⟩,hx⟩;have:=h2 e i (by rw [hl];exact hi);rw [xT] at this;exact this
def nE (e:Ending):Prop:=∃ r,e=.returned (.bool r)
theorem nE.mk (r:Bool):nE (.returned (.bool r)):=⟨r,rfl⟩
theorem zF (mv:Value) (m:MD) (w:World) (hm:dd w mv m) :
  Calls Tryz.prog 41 #[mv] w fun e w'=>nE e∧Ext w w':=by
 have HM:=kI hm;obtain ⟨m1,n1,m2,n2,m3,n3,rfl,hmd,hss⟩:=hm;have Kt:=kI hss;have jA:=kI hmd;have hsn:m.states.length≤9223372036854775807:=by obtain ⟨_,_,_,h⟩:=hss.shape;exact h
 obtain ⟨sl,hsl⟩:=gN (m.states.length);have HSL:=kI hsl;rw [← hsl] at hsn;clear hmd hss;rw [← hsl];clear hsl;have bb0:=(af.new w #[.bool m.ag.neg,.slice m1 m.ag.num.length n1,.slice m2 m.ag.den.length n2,.slice m3 sl n3] 28);have x0:Ext w (w.alloc (.cells #[.bool m.ag.neg,.slice m1 m.ag.num.length n1,.slice m2 m.ag.den.length n2,.slice m3 sl n3] 28)):=((Ext.refl w).alloc _);have A0:=kI bb0;have X:=kI x0;clear x0 bb0;go_enter Tryz.func41,Tryz.ntmps41
 by_cases h12:12 < sl
 ·have c1:(12:Int) < (sl:Int):=Z
  by_cases Rc:sl≤200
  ·have c2:(sl:Int)≤200:=Z
   exact qC5
  ·have c2:¬ (sl:Int)≤200:=Z
   by_cases am4:210 < sl
   ·have c3:(210:Int) < (sl:Int):=Z
    exact qC5
   ·have c3:¬ (210:Int) < (sl:Int):=Z
    obtain ⟨aK,fA0,aJ⟩:=A0.o.q3;go_wp2_with fail;clear aK fA0 aJ;obtain ⟨wl,hwl⟩:=gN ((w.alloc (.cells #[.bool m.ag.neg,.slice m1 m.ag.num.length n1,.slice m2 m.ag.den.length n2,.slice m3 sl n3] 28)));have hsz:wl.heap.size=w.heap.size+1:=by rw [hwl];simp
    rw [← hwl] at A0 X ⊢;rw [← hsz];clear hwl hsz;refine (eU _ [m.ag] (wl.alloc (.cells #[.bool m.ag.neg,.slice m1 m.ag.num.length n1,.slice m2 m.ag.den.length n2] 25)) (jc (af.new wl #[.bool m.ag.neg,.slice m1 m.ag.num.length n1,.slice m2 m.ag.den.length n2] 25) (jA.o.ext (X.o.alloc _))) dc).mono ?_;rintro e v1 ⟨⟨r1,rfl,-⟩,hx1⟩;have NK:Hid (Ext wl v1):=kI (((Ext.refl wl).alloc _).trans hx1);clear hx1;cases r1
    ·have X0:Hid (Ext w v1):=kI (X.o.trans NK.o);have Tr:=kI (A0.o.ext NK.o);obtain ⟨Nk,Nl,No⟩:=Tr.o.q3;go_wp2_with fail;clear Nk Nl No;go_loopw [3] (fun i wr=>∃ k:Nat,i=.int .i64 k∧k≤sl∧Ext w wr∧af wr w.heap.size #[.bool m.ag.neg,.slice m1 m.ag.num.length n1,.slice m2 m.ag.den.length n2,.slice m3 sl n3] 28) (fun i _=>sl - (intOf i).toNat)
     case atStart=>exact ⟨0,rfl,Nat.zero_le _,X0.o,Tr.o⟩
     case round=>
      obtain ⟨wk,hwk⟩:=gN (wr);subst hwk;obtain ⟨k,rfl,hk,hxk,hbk⟩:=hrel;have XK:=kI hxk;have BK:=kI hbk;clear hxk hbk;by_cases hks:k < sl
      ·have q2:(k:Int) < (sl:Int):=Z
       have q1:(0:Int)≤(k:Int):=Z
       by_cases hk12:k < 12
       ·exact kK5
       ·have q3:¬ (k:Int) < 12:=Z
        exact WF
      ·have q2:¬ (k:Int) < (sl:Int):=Z
       exact WF
    ·exact qF9
 ·have c1:¬ (12:Int) < (sl:Int):=Z
  have c3:¬ (210:Int) < (sl:Int):=Z
  obtain ⟨aK,fA0,aJ⟩:=A0.o.q3;go_wp2_with fail;clear aK fA0 aJ;obtain ⟨wl,hwl⟩:=gN ((w.alloc (.cells #[.bool m.ag.neg,.slice m1 m.ag.num.length n1,.slice m2 m.ag.den.length n2,.slice m3 sl n3] 28)));have hsz:wl.heap.size=w.heap.size+1:=by rw [hwl];simp
  rw [← hwl] at A0 X ⊢;rw [← hsz];clear hwl hsz;refine (eU _ [m.ag] (wl.alloc (.cells #[.bool m.ag.neg,.slice m1 m.ag.num.length n1,.slice m2 m.ag.den.length n2] 25)) (jc (af.new wl #[.bool m.ag.neg,.slice m1 m.ag.num.length n1,.slice m2 m.ag.den.length n2] 25) (jA.o.ext (X.o.alloc _))) dc).mono ?_;rintro e v1 ⟨⟨r1,rfl,-⟩,hx1⟩;have NK:Hid (Ext wl v1):=kI (((Ext.refl wl).alloc _).trans hx1);clear hx1;cases r1
  ·have X0:Hid (Ext w v1):=kI (X.o.trans NK.o);have Tr:=kI (A0.o.ext NK.o);obtain ⟨Nk,Nl,No⟩:=Tr.o.q3;go_wp2_with fail;clear Nk Nl No;go_loopw [3] (fun i wr=>∃ k:Nat,i=.int .i64 k∧k≤sl∧Ext w wr∧af wr w.heap.size #[.bool m.ag.neg,.slice m1 m.ag.num.length n1,.slice m2 m.ag.den.length n2,.slice m3 sl n3] 28) (fun i _=>sl - (intOf i).toNat)
   case atStart=>exact ⟨0,rfl,Nat.zero_le _,X0.o,Tr.o⟩
   case round=>
    obtain ⟨wk,hwk⟩:=gN (wr);subst hwk;obtain ⟨k,rfl,hk,hxk,hbk⟩:=hrel;have XK:=kI hxk;have BK:=kI hbk;clear hxk hbk;by_cases hks:k < sl
    ·have q2:(k:Int) < (sl:Int):=Z
     have q1:(0:Int)≤(k:Int):=Z
     by_cases hk12:k < 12
     ·exact kK5
     ·exfalso;omega
    ·have q2:¬ (k:Int) < (sl:Int):=Z
     exact WF
  ·exact qF9
theorem uH (v:Value) (l:List RR) (w:World) (h:aT w v l) :
  Calls Tryz.prog 58 #[v] w fun e w'=>(∃ r,e=.returned (.bool r)∧(r=false→l.length≤20∧jE l))∧Ext w w':=by
 have H:=kI h;obtain ⟨a,c,rfl,hc,hm,-⟩:=h.get;have hl9:l.length≤9223372036854775807:=Z
 clear h hc hm;by_cases h20:20 < l.length
 ·have q1:(20:Int) < (l.length:Int):=Z
  go_enter Tryz.func58,Tryz.ntmps58
  go_wp2_with fail;go_ret;exact ⟨⟨true,rfl,fun h=>by cases h⟩,Ext.refl _⟩
 ·have q1:¬ (20:Int) < (l.length:Int):=Z
  go_enter Tryz.func58,Tryz.ntmps58
  go_wp2_with fail;refine (eU _ l w H.o Z).mono ?_;rintro e w1 ⟨⟨r,rfl,hr⟩,hx⟩;have X:=kI hx;have HR:=kI hr;clear hx hr;go_wp2_with fail;go_ret;exact ⟨⟨r,rfl,fun h=>⟨by omega,fun i hi=>by
   have:=HR.o h i hi;unfold iq at this;omega⟩⟩,X.o⟩
def JK (vals:List RR) (plan:List (List Int)) (e:Ending):Prop:=∃ r,e=.returned (.bool r)∧(r=false→vals.length≤20∧jE vals∧plan.length≤30∧∀ j,j < plan.length→(plan.getD j []).length≤20)
theorem JK.tt (vals:List RR) (plan:List (List Int)):JK vals plan (.returned (.bool true)):=⟨true,rfl,fun h=>by cases h⟩
theorem JK.ff {vals:List RR} (h1:vals.length≤20) (h2:jE vals) (h3:plan.length≤30) (h4:∀ j,j < plan.length→(plan.getD j []).length≤20):JK vals plan (.returned (.bool false)):=⟨false,rfl,fun _=>⟨h1,h2,h3,h4⟩⟩
theorem zG (mv vv pv:Value) (m:MD) (vals:List RR) (k:Int) (plan:List (List Int)) (w:World) (hm:dd w mv m) (hv:aT w vv vals) (hp:dL w pv plan) :
  Calls Tryz.prog 9 #[mv,vv,.int .i64 k,pv] w fun e w'=>JK vals plan e∧Ext w w':=by
 obtain ⟨HM,HV,HP⟩:=cC hm hv hp;obtain ⟨m1,n1,m2,n2,m3,n3,rfl,-,-⟩:=hm;obtain ⟨av,cv,rfl,-,-,-⟩:=hv.get;obtain ⟨pa,pc,rfl,hpn⟩:=hp.shape;clear hv hp;have bb0:=(af.new w #[.bool m.ag.neg,.slice m1 m.ag.num.length n1,.slice m2 m.ag.den.length n2,.slice m3 m.states.length n3] 28);have x0:Ext w (w.alloc (.cells #[.bool m.ag.neg,.slice m1 m.ag.num.length n1,.slice m2 m.ag.den.length n2,.slice m3 m.states.length n3] 28)):=((Ext.refl w).alloc _);have A0:=kI bb0;have X:=kI x0;clear x0 bb0;go_enter Tryz.func9,Tryz.ntmps9
 obtain ⟨aK,fA0,aJ⟩:=A0.o.q3;go_wp2_with fail;refine (zF _ m _ (HM.o.ext X.o)).mono ?_;rintro e w1 ⟨⟨r,rfl⟩,hx⟩;clear aK fA0 aJ;revert A0 X;refine lf hx ?_;intro A0 X;clear hx;cases r;rotate_left
 ·exact Pk
 go_wp2_with fail;refine (uH _ vals w1 (HV.o.ext X.o)).mono ?_;rintro e w2 ⟨⟨r,rfl,hr⟩,hx⟩;revert A0 X;refine lf hx ?_;intro A0 X;have HR:=kI hr;clear hx hr;cases r;rotate_left
 ·exact Pk
 obtain ⟨g1,g2⟩:=HR.o rfl;have G1:=kI g1;have G2:=kI g2;clear g1 g2 HR;by_cases k6:6 < k
 ·by_cases k24:k≤24
  ·exact Pk
  ·exact kNc
 ·exact kNc
def qS (r:RR):Prop:=r.num.length≤1000000∧r.den.length≤1000000
theorem xU:qS zR:=⟨by decide,by decide⟩
theorem JB (q:Rat):qS (dv q).1:=by
 unfold dv;split
 ·rename_i h;exact ⟨Nat.le_trans h.1 ah,Nat.le_trans h.2 ah⟩
 ·exact xU
theorem Ns {a b:RR} {x:RR × Int} (h:qS x.1):qS (ng a b x).1:=by
 unfold ng;split
 ·exact h
 ·exact xU
theorem ti (m:MD) (v:List RR) (x:aL):qS (aC m v x).1:=by
 unfold aC;split
 ·exact xU
 ·split
  ·exact xU
  ·exact Ns (JB _)
theorem A8 (m:MD) (v:List RR) (ac:List aL):∀ z ∈ bK m v ac,qS z:=fun z hz=>by
 unfold bK at hz;obtain ⟨x,_,rfl⟩:=List.mem_map.1 hz;exact ti _ _ _
theorem Gg {l:List RR} (h:∀ z ∈ l,qS z) (i:Nat):qS (l.getD i zR):=by
 rw [List.getD_eq_getElem?_getD];by_cases hi:i < l.length
 ·rw [List.getElem?_eq_getElem hi];exact h _ (List.getElem_mem hi)
 ·rw [List.getElem?_eq_none Z];exact xU
theorem zH (m:MD) (v:List RR):∀ z ∈ (az m v).1,qS z:=fun z hz=>by
 unfold az at hz;split at hz
 ·cases hz
 ·split at hz
  ·cases hz
  ·unfold kr at hz;obtain ⟨ac,_,rfl⟩:=List.mem_map.1 hz;exact Gg (A8 _ _ _) _
theorem JC {m:MD} {v:List RR} (h:∀ z ∈ v,qS z):∀ j,∀ z ∈ bu m v j,qS z
 | 0=>h
 | j+1=>zH m (bu m v j)
theorem zI {m:MD} {v:List RR} (h:∀ z ∈ v,qS z) (k:Int):∀ y ∈ (cg m v k).1,∀ z ∈ y,qS z:=fun y hy=>by
 unfold cg at hy;split at hy
 ·cases hy
 ·split at hy
  ·cases hy
  ·split at hy
   ·cases hy
   ·obtain ⟨j,_,rfl⟩:=List.mem_map.1 hy;exact JC h j
theorem Gh (m:MD) (v:List RR) (hm:m.states.length≤200):(az m v).2.1.length≤1000000:=by
 unfold az;split
 ·exact Nat.zero_le _
 ·split
  ·exact Nat.zero_le _
  ·unfold qT;rw [List.length_map];omega
theorem uI (m:MD) (v:List RR) (k:Int):∀ y ∈ (cg m v k).2.1,y.length≤1000000:=fun y hy=>by
 unfold cg at hy;split at hy
 ·cases hy
 ·rename_i h0;split at hy
  ·cases hy
  ·split at hy
   ·cases hy
   ·obtain ⟨j,_,rfl⟩:=List.mem_map.1 hy;exact Gh _ _ (bD (bU (Classical.not_not.1 h0)).1).2.2.1
theorem CK (m:MD) (p:List Int) (v:List RR):∀ z ∈ (aU m p v).1,qS z:=fun z hz=>by
 unfold aU at hz;split at hz
 ·cases hz
 ·split at hz
  ·cases hz
  ·split at hz
   ·cases hz
   ·unfold sk at hz;obtain ⟨s,_,rfl⟩:=List.mem_map.1 hz;exact ti _ _ _
theorem JD {m:MD} {v:List RR} (h:∀ z ∈ v,qS z) (p:List (List Int)):∀ j,∀ z ∈ cZ m v p j,qS z
 | 0=>h
 | j+1=>CK m _ _
theorem Gi {m:MD} {v:List RR} (h:∀ z ∈ v,qS z) (p:List (List Int)):∀ z ∈ (dU m v p).1,qS z:=fun z hz=>by
 unfold dU at hz;split at hz
 ·cases hz
 ·split at hz
  ·cases hz
  ·split at hz
   ·cases hz
   ·exact JD h p _ z hz
theorem zJ (m:MD) (v:List RR):∀ y ∈ (bT m v).1,∀ z ∈ y,qS z:=fun y hy=>by
 unfold bT at hy;split at hy
 ·cases hy
 ·split at hy
  ·cases hy
  ·obtain ⟨ac,_,rfl⟩:=List.mem_map.1 hy;exact A8 _ _ _
theorem xV (m:MD) (p:List (List Int)) (s:Int):∀ z ∈ (aM m p s).1,qS z:=fun z hz=>by
 by_cases h:(aM m p s).2=0
 ·obtain ⟨i,hi,rfl⟩:=List.getElem_of_mem hz;have h1:=((xC h).1.2 i).1;rw [List.getD_eq_getElem?_getD,List.getElem?_eq_getElem hi] at h1;exact wZ h1
 ·rw [xB h] at hz;cases hz
theorem at_mem {P:α→Prop} {l:List α} (h:∀ z ∈ l,P z):∀ (i:Nat) (y:α),l[i]?=some y→P y:=fun i y hi=>h y (List.mem_of_getElem? hi)
theorem af7 {A:Nat} (x:Ext w W) (k:uO A W W') (h:w.heap.size≤A):Ext w W':=
 Below.trans x ⟨k.keeps.zero.os,k.keeps.zero.tape,k.keeps.zero.output,k.keeps.zero.size,fun i hi=>k.keeps.block i (Nat.lt_of_lt_of_le hi x.size) (.inl Z)⟩
theorem sE.jR {A:Nat} (h:sE W A v n) (k:Keeps C t W W') (ht:157≠t):sE W' A v n:=by
 rcases h with h|⟨g,c,e,⟨cur,h1,h2⟩,h3⟩
 ·exact .inl h
 ·exact .inr ⟨g,c,e,⟨cur,h1.keeps k ht,h2⟩,h3⟩
theorem Gp.jR {l:List RR} (h:Gp B w v l) (k:Keeps C t w w') (ht:25≠t) (hu:157≠t):Gp B w' v l:=by
 obtain ⟨hs,h1,h2,h3,h4⟩:=h;exact ⟨hs,eY h1 k ht,h2,h3,fun i x hi=>by obtain ⟨h,e1,a1,c1,a2,c2,e2,s1,s2⟩:=h4 i x hi;exact ⟨h,e1,a1,c1,a2,c2,e2,s1.jR k hu,s2.jR k hu⟩⟩
theorem uF.jR {l:List (List RR)} (h:uF B w v l) (k:Keeps C t w w') (h0:29≠t) (ht:25≠t) (hu:157≠t):uF B w' v l:=by
 obtain ⟨hs,h1,h2,h3,h4⟩:=h;exact ⟨hs,eY h1 k h0,h2,h3,fun i x hi=>by obtain ⟨h,e1,a,c,e2,e3⟩:=h4 i x hi;exact ⟨h,e1,a,c,e2,e3.jR k ht hu⟩⟩
theorem CM (mv vv pv:Value) (m:MD) (vals:List RR) (plan:List (List Int)) (k s:Int) (w:World) (hm:dd w mv m) (hv:aT w vv vals) (hp:dL w pv plan) (hlm:eG m) (hlv:bQ vals) (hz1:Oo m.ag) (hz2:RE m.states) :
  Calls Tryz.prog 3 #[mv,vv,pv,.int .i64 k,.int .i64 s] w fun e w'=>e=.returned (.bool true)∧Ext w w':=by
 have Ts:=fun W mv vv (h:dd W mv m) (g:aT W vv vals) (hln:jE vals)=>nw mv vv m vals k W h g hlm hlv hln;have Tt:=fun W mv vv (h:dd W mv m) (g:aT W vv vals) (hln:jE vals) (h0:vals.length≤1000000000)=>nV mv vv m vals k W h g hlm hlv hln h0;have Tu:=fun W mv vv pv (h:dd W mv m) (g:aT W vv vals) (p:dL W pv plan) (hln:jE vals)=>tg mv vv pv m vals plan W h g p hlm hlv hln;have Tv:=fun W mv vv pv (h:dd W mv m) (g:aT W vv vals) (p:dL W pv plan) (hln:jE vals) (h0:vals.length≤1000000000)=>rQ mv vv pv m vals plan W h g p hlm hlv hln h0;have Tw:=fun W mv vv (h:dd W mv m) (g:aT W vv vals) (hln:jE vals)=>nA mv vv m vals W h g hlm hlv hln;have Tx:=fun W mv vv (h:dd W mv m) (g:aT W vv vals)=>nW mv vv m vals W h g hlm hlv;have Ty:=fun W mv pv (h:dd W mv m) (p:dL W pv plan)=>mB mv pv m plan s W h p hlm;have Tz:=fun W mv pv (h:dd W mv m) (p:dL W pv plan)=>mX mv pv m plan s W h p hlm;have l1:=fun (h:∀ z ∈ vals,qS z)=>at_mem (zI (m:=m) h k);have VE:=at_mem (uI m vals k);have l2:=fun (h:∀ z ∈ vals,qS z)=>at_mem (Gi (m:=m) h plan);have l3:=at_mem (zJ m vals);have l4:=at_mem (xV m plan s);obtain ⟨Q1,hQ⟩:=gN (cg m vals k);rw [← hQ] at Ts Tt l1 VE;clear hQ;obtain ⟨Q2,hQ⟩:=gN (dU m vals plan);rw [← hQ] at Tu Tv l2;clear hQ;obtain ⟨Q3,hQ⟩:=gN (bT m vals);rw [← hQ] at Tw Tx l3;clear hQ;obtain ⟨Q4,hQ⟩:=gN (aM m plan s);rw [← hQ] at Ty Tz l4;clear hQ;obtain ⟨g1,p1,e1⟩:=Q1;obtain ⟨g2,e2⟩:=Q2;obtain ⟨g3,e3⟩:=Q3;obtain ⟨g4,e4⟩:=Q4;unfold kg at Ts Tt;unfold dN at Tu Tv Ty Tz;unfold kj at Tw Tx;dsimp only at Ts Tt Tu Tv Tw Tx Ty Tz l1 VE l2 l3 l4;obtain ⟨Jg,RST,CPN,RPN,CSC,RSC,CCH,RCH,L1,L1b,L2,L3,L4,HM,HV,HP,HZ1,HZ2⟩:=VI Ts Tt Tu Tv Tw Tx Ty Tz l1 VE l2 l3 l4 hm hv hp hz1 hz2;obtain ⟨m1,n1,m2,n2,m3,n3,rfl,hr1,hr2⟩:=hm;have HD:=kI hr1;have HS:=kI hr2;obtain ⟨av,cv,rfl,-,-,-⟩:=hv.get;obtain ⟨pa,pc,rfl,hpn⟩:=hp.shape;clear hv hp hlm hlv Ts Tt Tu Tv Tw Tx Ty Tz l1 VE l2 l3 l4 hz1 hz2 hr1 hr2;have bb0:=(af.new w #[.bool m.ag.neg,.slice m1 m.ag.num.length n1,.slice m2 m.ag.den.length n2,.slice m3 m.states.length n3] 28);have x0:Ext w (w.alloc (.cells #[.bool m.ag.neg,.slice m1 m.ag.num.length n1,.slice m2 m.ag.den.length n2,.slice m3 m.states.length n3] 28)):=((Ext.refl w).alloc _);have A0:=kI bb0;have X:=kI x0;clear x0 bb0;replace HM:=kI (HM.o.ext X.o);replace HV:=kI (HV.o.ext X.o);replace HP:=kI (HP.o.ext X.o);replace HD:=kI (HD.o.ext X.o);replace HS:=kI (HS.o.ext X.o);go_enter Tryz.func3,Tryz.ntmps3
 obtain ⟨aK,fA0,aJ⟩:=A0.o.q3;go_wp2_with fail;refine (zG _ _ _ m vals _ plan _ HM.o HV.o HP.o).mono ?_;rintro e w1 ⟨⟨r,rfl,hr⟩,hx⟩;clear aK fA0 aJ;replace HM:=HM.x hx;replace HV:=HV.x hx;replace HP:=HP.x hx;replace HD:=HD.x hx;replace HS:=HS.x hx;replace A0:=A0.x hx;replace X:=X.x hx;have HR:=kI hr;clear hx hr;cases r;rotate_left
 ·go_wp2_with fail;refine (nB _).mono ?_;rintro e w2 ⟨rfl,hx⟩;replace HM:=HM.x hx;replace HV:=HV.x hx;replace HP:=HP.x hx;replace HD:=HD.x hx;replace HS:=HS.x hx;replace A0:=A0.x hx;replace X:=X.x hx;clear hx;go_wp2_with fail;go_ret;exact ⟨rfl,X.o⟩
 obtain ⟨af8,hln,h30,hpl⟩:=HR.o rfl;clear HR;have CZ:=kI hln;have HL0:Hid (vals.length≤1000000000):=kI Z;have H30:Hid (plan.length≤1000000000):=kI Z;have mD:Hid (∀ i,i < plan.length→(plan.getD i []).length≤1000000000):=kI (fun i hi=>by have:=hpl i hi;omega);have xZ:Hid (∀ z ∈ vals,qS z):=kI (fun z hz=>by
  obtain ⟨i,hi,rfl⟩:=List.getElem_of_mem hz;have h:=CZ.o i hi;rw [List.getD_eq_getElem?_getD,List.getElem?_eq_getElem hi] at h;exact h)
 clear hln h30 hpl af8;obtain ⟨aK,fA0,aJ⟩:=A0.o.q3;go_wp2_with fail;refine (wT m m1 m2 m3 n1 n2 n3 _ HD.o HS.o HZ1.o HZ2.o).mono ?_;rintro e w2 ⟨⟨i1,j1,i2,j2,i3,j3,B,rfl,d1,d2,-,d3⟩,hx⟩;clear aK fA0 aJ;replace HM:=HM.x hx;replace HV:=HV.x hx;replace HP:=HP.x hx;replace HD:=HD.x hx;replace HS:=HS.x hx;replace A0:=A0.x hx;replace X:=X.x hx;have IN:Hid (dd w2 (.agg #[.bool m.ag.neg,.slice i1 m.ag.num.length j1,.slice i2 m.ag.den.length j2,.slice i3 m.states.length j3]) m):=kI ⟨_,_,_,_,_,_,rfl,⟨_,_,rfl,d1.rd,d2.rd⟩,d3.rd⟩;clear d1 d2 d3 hx HD HS;go_wp2_with fail;refine (gV _ vals _ HV.o HL0.o CZ.o).mono ?_;rintro e w3 ⟨⟨v,rfl,ow⟩,hx⟩;replace HM:=HM.x hx;replace HV:=HV.x hx;replace HP:=HP.x hx;replace A0:=A0.x hx;replace IN:=IN.x hx;replace X:=X.x hx;obtain ⟨la,lc,rfl⟩:=ow.shape;have LI:=kI ow.rd;clear ow hx;go_wp2_with fail;refine (zu _ plan _ HP.o H30.o mD.o).mono ?_;rintro e w4 ⟨⟨v,rfl,ow⟩,hx⟩;replace HM:=HM.x hx;replace HV:=HV.x hx;replace HP:=HP.x hx;replace A0:=A0.x hx;replace IN:=IN.x hx;replace LI:=LI.x hx;replace X:=X.x hx;obtain ⟨qa,qc,rfl⟩:=bX.shape ow;have PI:=kI ow.UX;clear ow hx;have bi:=af.new w4 #[.bool m.ag.neg,.slice i1 m.ag.num.length j1,.slice i2 m.ag.den.length j2,.slice i3 m.states.length j3] 28;have hx:Ext w4 (w4.alloc (.cells #[.bool m.ag.neg,.slice i1 m.ag.num.length j1,.slice i2 m.ag.den.length j2,.slice i3 m.states.length j3] 28)):=(Ext.refl _).alloc _;obtain ⟨bn,hbn⟩:=gN (w4.heap.size);obtain ⟨wb,hwb⟩:=gN (w4.alloc (.cells #[.bool m.ag.neg,.slice i1 m.ag.num.length j1,.slice i2 m.ag.den.length j2,.slice i3 m.states.length j3] 28));rw [← hbn,← hwb] at bi;rw [← hwb] at hx;obtain ⟨GC,zO,HXB,BI⟩:=dW hwb hbn hx bi;clear bi hx hbn hwb;obtain ⟨aK,fA0,aJ⟩:=A0.o.q3
 go_wp2_with fail;rw [← GC.o,← zO.o];clear aK fA0 aJ;replace HM:=kI (HM.o.ext HXB.o);replace HV:=kI (HV.o.ext HXB.o);replace HP:=kI (HP.o.ext HXB.o);replace A0:=kI (A0.o.ext HXB.o);replace IN:=kI (IN.o.ext HXB.o);replace LI:=kI (LI.o.ext HXB.o);replace PI:=kI (PI.o.ext HXB.o);replace X:=kI (X.o.trans HXB.o);clear GC zO HXB;have qq:=A0.o;clear qq;refine (RST.o _ _ _ HM.o HV.o CZ.o HL0.o).mono ?_;rintro e w5 ⟨⟨v,p,rfl,ov,op⟩,hx⟩;replace HM:=HM.x hx;replace HV:=HV.x hx;replace HP:=HP.x hx;replace A0:=A0.x hx;replace IN:=IN.x hx;replace LI:=LI.x hx;replace PI:=PI.x hx;replace BI:=BI.x hx;replace X:=X.x hx;obtain ⟨ga,gc,rfl⟩:=ov.shape;obtain ⟨ha,hc,rfl⟩:=op.shape;have R1:=kI ov.rd;have kd:=kI op.UX;clear ov op hx RST;obtain ⟨aK,fA0,aJ⟩:=A0.o.q3;go_wp2_with fail;refine (RPN.o _ _ _ _ HM.o HV.o HP.o CZ.o HL0.o).mono ?_;rintro e w6 ⟨⟨v,rfl,ov⟩,hx⟩;clear aK fA0 aJ;replace HM:=HM.x hx;replace HV:=HV.x hx;replace HP:=HP.x hx;replace A0:=A0.x hx;replace IN:=IN.x hx;replace LI:=LI.x hx;replace PI:=PI.x hx;replace BI:=BI.x hx;replace R1:=R1.x hx;replace kd:=kd.x hx;replace X:=X.x hx;obtain ⟨ka,kc,rfl⟩:=ov.shape;have R2:=kI ov.rd;clear ov hx RPN;obtain ⟨aK,fA0,aJ⟩:=A0.o.q3;go_wp2_with fail;refine (RSC.o _ _ _ HM.o HV.o).mono ?_;rintro e w7 ⟨⟨v,rfl,ov⟩,hx⟩;clear aK fA0 aJ;replace HM:=HM.x hx;replace HV:=HV.x hx;replace HP:=HP.x hx;replace A0:=A0.x hx;replace IN:=IN.x hx;replace LI:=LI.x hx;replace PI:=PI.x hx;replace BI:=BI.x hx;replace R1:=R1.x hx;replace kd:=kd.x hx;replace R2:=R2.x hx;replace X:=X.x hx;obtain ⟨oa,oc,rfl⟩:=ov.shape;have R3:=kI ov.rd;clear ov hx RSC;obtain ⟨aK,fA0,aJ⟩:=A0.o.q3;go_wp2_with fail;refine (RCH.o _ _ _ HM.o HP.o).mono ?_
 rintro e w8 ⟨⟨v,rfl,ov⟩,hx⟩;clear aK fA0 aJ;replace HM:=HM.x hx;replace HV:=HV.x hx;replace HP:=HP.x hx;replace A0:=A0.x hx;replace IN:=IN.x hx;replace LI:=LI.x hx;replace PI:=PI.x hx;replace BI:=BI.x hx;replace R1:=R1.x hx;replace kd:=kd.x hx;replace R2:=R2.x hx;replace R3:=R3.x hx;replace X:=X.x hx;obtain ⟨ta,tc,rfl⟩:=ov.shape;have R4:=kI ov.rd;clear ov hx RCH;go_wp2_with fail;obtain ⟨wc,hwc⟩:=gN (w8);rw [← hwc] at HM HV HP A0 IN LI PI BI R1 kd R2 R3 R4 X ⊢;clear hwc;go_loopw [23] (fun i wr=>∃ k:Nat,k≤2∧i=.int .i64 k∧Ext wc wr) (fun i _=>2 - (intOf i).toNat)
 case atStart=>exact ⟨0,by omega,rfl,Ext.refl wc⟩
 case round=>
  obtain ⟨wk,hwk⟩:=gN (wr);subst hwk;obtain ⟨k,hk,rfl,hx⟩:=hrel;replace HM:=HM.x hx;replace HV:=HV.x hx;replace HP:=HP.x hx;replace A0:=A0.x hx;replace IN:=IN.x hx;replace LI:=LI.x hx;replace PI:=PI.x hx;replace BI:=BI.x hx;replace R1:=R1.x hx;replace kd:=kd.x hx;replace R2:=R2.x hx;replace R3:=R3.x hx;replace R4:=R4.x hx;have XC:=kI hx;have X0:=X;replace X:=kI (Ext.refl wk);clear hx;by_cases hlt:k < 2
  ·have ox:=kI hlt;have q1:(k:Int) < (2:Int):=by omega
   clear hlt;have XS:=kI X.o.size;obtain ⟨lu,lw,lG⟩:=BI.o.q3;go_wp2_with fail;refine (Jg.o _ _ _ IN.o LI.o CZ.o).mono ?_;rintro e w9 ⟨⟨v,p,rfl,ov,op⟩,hx⟩;clear lu lw lG;replace HM:=HM.x hx;replace HV:=HV.x hx;replace HP:=HP.x hx;replace A0:=A0.x hx;replace IN:=IN.x hx;replace LI:=LI.x hx;replace PI:=PI.x hx;replace BI:=BI.x hx;replace R1:=R1.x hx;replace kd:=kd.x hx;replace R2:=R2.x hx;replace R3:=R3.x hx;replace R4:=R4.x hx;replace X:=X.x hx;obtain ⟨ya,yc,rfl⟩:=ov.shape;obtain ⟨za,zc,rfl⟩:=op.shape;have O1:Hid (bA wk.heap.size _ _ _):=kI (bA.mono ov XS.o);have nC:Hid (bX wk.heap.size _ _ _):=kI (bX.mono op XS.o);clear ov op hx;clear XS;have XS:=kI X.o.size;obtain ⟨lu,lw,lG⟩:=BI.o.q3;go_wp2_with fail;refine (CPN.o _ _ _ _ IN.o LI.o PI.o CZ.o).mono ?_;rintro e w10 ⟨⟨v,rfl,ov⟩,hx⟩;clear lu lw lG;replace HM:=HM.x hx;replace HV:=HV.x hx;replace HP:=HP.x hx;replace A0:=A0.x hx;replace IN:=IN.x hx;replace LI:=LI.x hx;replace PI:=PI.x hx;replace BI:=BI.x hx;replace R1:=R1.x hx;replace kd:=kd.x hx;replace R2:=R2.x hx;replace R3:=R3.x hx;replace R4:=R4.x hx;replace X:=X.x hx;replace O1:=O1.x hx;replace nC:=nC.x hx;obtain ⟨ya2,yc2,rfl⟩:=ov.shape;have O2:Hid (bm wk.heap.size _ _ _):=kI (bm.mono ov XS.o);clear ov hx;clear XS;have XS:=kI X.o.size;obtain ⟨lu,lw,lG⟩:=BI.o.q3;go_wp2_with fail;refine (CSC.o _ _ _ IN.o LI.o CZ.o).mono ?_;rintro e uM ⟨⟨v,rfl,ov⟩,hx⟩;clear lu lw lG;replace HM:=HM.x hx;replace HV:=HV.x hx;replace HP:=HP.x hx;replace A0:=A0.x hx;replace IN:=IN.x hx;replace LI:=LI.x hx;replace PI:=PI.x hx;replace BI:=BI.x hx;replace R1:=R1.x hx;replace kd:=kd.x hx;replace R2:=R2.x hx;replace R3:=R3.x hx;replace R4:=R4.x hx;replace X:=X.x hx
   replace O1:=O1.x hx;replace nC:=nC.x hx;replace O2:=O2.x hx;obtain ⟨ya3,yc3,rfl⟩:=ov.shape;have O3:Hid (bA wk.heap.size _ _ _):=kI (bA.mono ov XS.o);clear ov hx;clear XS;have XS:=kI X.o.size;obtain ⟨lu,lw,lG⟩:=BI.o.q3;go_wp2_with fail;refine (CCH.o _ _ _ IN.o PI.o).mono ?_;rintro e w12 ⟨⟨v,rfl,ov⟩,hx⟩;clear lu lw lG;replace HM:=HM.x hx;replace HV:=HV.x hx;replace HP:=HP.x hx;replace A0:=A0.x hx;replace IN:=IN.x hx;replace LI:=LI.x hx;replace PI:=PI.x hx;replace BI:=BI.x hx;replace R1:=R1.x hx;replace kd:=kd.x hx;replace R2:=R2.x hx;replace R3:=R3.x hx;replace R4:=R4.x hx;replace X:=X.x hx;replace O1:=O1.x hx;replace nC:=nC.x hx;replace O2:=O2.x hx;replace O3:=O3.x hx;obtain ⟨ya4,yc4,rfl⟩:=ov.shape;have O4:Hid (bm wk.heap.size _ _ _):=kI (bm.mono ov XS.o);clear ov hx;clear XS;obtain ⟨aK,fA0,aJ⟩:=A0.o.q3;obtain ⟨lu,lw,lG⟩:=BI.o.q3;go_wp2_with fail;refine (dF _ _ g1 _ O1.o.rd R1.o).mono ?_;rintro e w13 ⟨rfl,hx⟩;clear aK fA0 aJ lu lw lG;replace HM:=HM.x hx;replace HV:=HV.x hx;replace HP:=HP.x hx;replace A0:=A0.x hx;replace IN:=IN.x hx;replace LI:=LI.x hx;replace PI:=PI.x hx;replace BI:=BI.x hx;replace R1:=R1.x hx;replace kd:=kd.x hx;replace R2:=R2.x hx;replace R3:=R3.x hx;replace R4:=R4.x hx;replace X:=X.x hx;replace O1:=O1.x hx;replace nC:=nC.x hx;replace O2:=O2.x hx;replace O3:=O3.x hx;replace O4:=O4.x hx;clear hx;obtain ⟨aK,fA0,aJ⟩:=A0.o.q3;obtain ⟨lu,lw,lG⟩:=BI.o.q3;go_wp2_with fail;refine (iO _ _ p1 _ nC.o.UX kd.o).mono ?_;rintro e OE ⟨rfl,hx⟩;clear aK fA0 aJ lu lw lG
   replace HM:=HM.x hx;replace HV:=HV.x hx;replace HP:=HP.x hx;replace A0:=A0.x hx;replace IN:=IN.x hx;replace LI:=LI.x hx;replace PI:=PI.x hx;replace BI:=BI.x hx;replace R1:=R1.x hx;replace kd:=kd.x hx;replace R2:=R2.x hx;replace R3:=R3.x hx;replace R4:=R4.x hx;replace X:=X.x hx;replace O1:=O1.x hx;replace nC:=nC.x hx;replace O2:=O2.x hx;replace O3:=O3.x hx;replace O4:=O4.x hx;clear hx;obtain ⟨aK,fA0,aJ⟩:=A0.o.q3;obtain ⟨lu,lw,lG⟩:=BI.o.q3;go_wp2_with fail;have heq:=dz _ _ g2 g2 _ O2.o.rd R2.o;rw [decide_eq_true rfl] at heq;refine heq.mono ?_;rintro e OF ⟨rfl,hx⟩;clear heq;clear aK fA0 aJ lu lw lG;replace HM:=HM.x hx;replace HV:=HV.x hx;replace HP:=HP.x hx;replace A0:=A0.x hx;replace IN:=IN.x hx;replace LI:=LI.x hx;replace PI:=PI.x hx;replace BI:=BI.x hx;replace R1:=R1.x hx;replace kd:=kd.x hx;replace R2:=R2.x hx;replace R3:=R3.x hx;replace R4:=R4.x hx;replace X:=X.x hx;replace O1:=O1.x hx;replace nC:=nC.x hx;replace O2:=O2.x hx;replace O3:=O3.x hx;replace O4:=O4.x hx;clear hx;obtain ⟨aK,fA0,aJ⟩:=A0.o.q3;obtain ⟨lu,lw,lG⟩:=BI.o.q3;go_wp2_with fail;refine (dF _ _ g3 _ O3.o.rd R3.o).mono ?_;rintro e w16 ⟨rfl,hx⟩;clear aK fA0 aJ lu lw lG;replace HM:=HM.x hx;replace HV:=HV.x hx;replace HP:=HP.x hx;replace A0:=A0.x hx;replace IN:=IN.x hx;replace LI:=LI.x hx;replace PI:=PI.x hx;replace BI:=BI.x hx;replace R1:=R1.x hx;replace kd:=kd.x hx;replace R2:=R2.x hx;replace R3:=R3.x hx;replace R4:=R4.x hx;replace X:=X.x hx
   replace O1:=O1.x hx;replace nC:=nC.x hx;replace O2:=O2.x hx;replace O3:=O3.x hx;replace O4:=O4.x hx;clear hx;obtain ⟨aK,fA0,aJ⟩:=A0.o.q3;obtain ⟨lu,lw,lG⟩:=BI.o.q3;go_wp2_with fail;have heq:=dz _ _ g4 g4 _ O4.o.rd R4.o;rw [decide_eq_true rfl] at heq;refine heq.mono ?_;rintro e Vs ⟨rfl,hx⟩;clear heq;clear aK fA0 aJ lu lw lG;replace HM:=HM.x hx;replace HV:=HV.x hx;replace HP:=HP.x hx;replace A0:=A0.x hx;replace IN:=IN.x hx;replace LI:=LI.x hx;replace PI:=PI.x hx;replace BI:=BI.x hx;replace R1:=R1.x hx;replace kd:=kd.x hx;replace R2:=R2.x hx;replace R3:=R3.x hx;replace R4:=R4.x hx;replace X:=X.x hx;replace O1:=O1.x hx;replace nC:=nC.x hx;replace O2:=O2.x hx;replace O3:=O3.x hx;replace O4:=O4.x hx;clear hx;obtain ⟨aK,fA0,aJ⟩:=A0.o.q3;obtain ⟨lu,lw,lG⟩:=BI.o.q3;go_wp2_with fail;refine (uE _ _ m _ IN.o HM.o).mono ?_;rintro e Tl ⟨rfl,hx⟩;clear aK fA0 aJ lu lw lG;replace HM:=HM.x hx;replace HV:=HV.x hx;replace HP:=HP.x hx;replace A0:=A0.x hx;replace IN:=IN.x hx;replace LI:=LI.x hx;replace PI:=PI.x hx;replace BI:=BI.x hx;replace R1:=R1.x hx;replace kd:=kd.x hx;replace R2:=R2.x hx;replace R3:=R3.x hx;replace R4:=R4.x hx;replace X:=X.x hx;replace O1:=O1.x hx;replace nC:=nC.x hx;replace O2:=O2.x hx;replace O3:=O3.x hx;replace O4:=O4.x hx;clear hx;obtain ⟨aK,fA0,aJ⟩:=A0.o.q3;obtain ⟨lu,lw,lG⟩:=BI.o.q3;go_wp2_with fail;have heq:=dz _ _ vals vals _ LI.o HV.o;rw [decide_eq_true rfl] at heq;refine heq.mono ?_;rintro e Vt ⟨rfl,hx⟩
   clear heq;clear aK fA0 aJ lu lw lG;replace HM:=HM.x hx;replace HV:=HV.x hx;replace HP:=HP.x hx;replace A0:=A0.x hx;replace IN:=IN.x hx;replace LI:=LI.x hx;replace PI:=PI.x hx;replace BI:=BI.x hx;replace R1:=R1.x hx;replace kd:=kd.x hx;replace R2:=R2.x hx;replace R3:=R3.x hx;replace R4:=R4.x hx;replace X:=X.x hx;replace O1:=O1.x hx;replace nC:=nC.x hx;replace O2:=O2.x hx;replace O3:=O3.x hx;replace O4:=O4.x hx;clear hx;obtain ⟨aK,fA0,aJ⟩:=A0.o.q3;obtain ⟨lu,lw,lG⟩:=BI.o.q3;go_wp2_with fail;refine (iO _ _ plan _ PI.o HP.o).mono ?_;rintro e Tm ⟨rfl,hx⟩;clear aK fA0 aJ lu lw lG;replace HM:=HM.x hx;replace HV:=HV.x hx;replace HP:=HP.x hx;replace A0:=A0.x hx;replace IN:=IN.x hx;replace LI:=LI.x hx;replace PI:=PI.x hx;replace BI:=BI.x hx;replace R1:=R1.x hx;replace kd:=kd.x hx;replace R2:=R2.x hx;replace R3:=R3.x hx;replace R4:=R4.x hx;replace X:=X.x hx;replace O1:=O1.x hx;replace nC:=nC.x hx;replace O2:=O2.x hx;replace O3:=O3.x hx;replace O4:=O4.x hx;clear hx;have XO:=kI X.o;have V1:=kI (bA.ov O1.o);have V2:=kI (bm.ov O2.o);have V3:=kI (bA.ov O3.o);have V4:=kI (bm.ov O4.o);clear X O1 O2 O3 O4 A0 BI;go_wp2_with fail;refine (iV _ g1 wk.heap.size _ V1.o (fun i y hi=>at_mem (L1.o xZ.o i y hi))).mono ?_;rintro e Vu ⟨rfl,hg⟩;replace nC:=kI (bX.keeps nC.o hg.keeps ah ah);replace V2:=kI (V2.o.gr hg);replace V3:=kI (V3.o.gr hg);replace V4:=kI (V4.o.gr hg);have xo:=XO.o;replace XO:=kI (kM.ext xo hg (Nat.le_refl _));clear hg xo;go_wp2_with fail;refine (rY _ p1 wk.heap.size _ (bX.ov nC.o) L1b.o).mono ?_
   rintro e Tn ⟨rfl,hg⟩;replace V2:=kI (V2.o.jR hg.keeps ah ah);replace V3:=kI (V3.o.jR hg.keeps ah ah ah);replace V4:=kI (V4.o.jR hg.keeps ah ah);have xo:=XO.o;replace XO:=kI (af7 xo hg (Nat.le_refl _));clear hg xo;go_wp2_with fail;refine (gR _ g2 wk.heap.size _ V2.o (L2.o xZ.o)).mono ?_;rintro e To ⟨rfl,hg⟩;replace V3:=kI (V3.o.gr hg);replace V4:=kI (V4.o.gr hg);have xo:=XO.o;replace XO:=kI (kM.ext xo hg (Nat.le_refl _));clear hg xo;go_wp2_with fail;refine (iV _ g3 wk.heap.size _ V3.o (fun i y hi=>at_mem (L3.o i y hi))).mono ?_;rintro e Nb ⟨rfl,hg⟩;replace V4:=kI (V4.o.gr hg);have xo:=XO.o;replace XO:=kI (kM.ext xo hg (Nat.le_refl _));clear hg xo;go_wp2_with fail;refine (gR _ g4 wk.heap.size _ V4.o L4.o).mono ?_;rintro e Nc ⟨rfl,hg⟩;have xo:=XO.o;replace XO:=kI (kM.ext xo hg (Nat.le_refl _));clear hg xo;go_wp2_with fail;go_roundw
   case rel=>exact ⟨k+1,ox.o,by go_num,XC.o.trans XO.o⟩
   case measure=>first|(simp [intOf];done)|(simp [intOf];omega)
  ·obtain rfl:k=2:=by omega
   go_wp2_with fail;refine (nB _).mono ?_;rintro e w90 ⟨rfl,hx⟩;have XZ:=kI (X0.o.trans (XC.o.trans hx));clear hx;go_wp2_with fail;go_ret;exact ⟨rfl,XZ.o⟩
end Go.Proofs.YtnnjbaijcaiohaaGreat
