/- Lemmas and walks of this claim. Conditions: as each states. -/
import Derived.Test.YtfflknbeidihoaaStAppJ
import Derived.Test.YtfflknbeidihoaaStStg
import Derived.Test.YtfflknbeidihoaaStScr
import Derived.Test.YtfflknbeidihoaaStCha
import Derived.Test.YtfflknbeidihoaaStNums
import Derived.KernelRfl
set_option linter.unusedVariables false
set_option linter.unusedSimpArgs false
namespace Go.Proofs.Ytfflknbeidihoaa
open Go.RowKit
theorem rdGR_blk {W:World} {b:Nat} {cs:Array Value} {t:TypeId} (g:List (List RR)) (n:Nat) (h:Blk W b cs t) (hn:g.length=n) (hs:n≤1000) (hr:∀ i,i < n→∃ ai ci,cs[i]?=some (.slice ai (g.getD i []).length ci)∧RdRs W (.slice ai (g.getD i []).length ci) (g.getD i [])):RdGR W (.slice (some ⟨b,0,none⟩) n n) g:=by
 subst hn
 refine ⟨_,_,rfl,Nat.le_refl _,by omega,fun i hi=>?_⟩
 obtain ⟨ai,ci,e1,e2⟩:=hr i hi
 exact ⟨b,0,ai,ci,rfl,h.lt,by rw [h.cell,Nat.zero_add];exact e1,e2⟩
theorem rdPl_blk {W:World} {b:Nat} {cs:Array Value} {t:TypeId} (g:List (List Int)) (n:Nat) (h:Blk W b cs t) (hn:g.length=n) (hs:n≤1000) (hr:∀ i,i < n→∃ ai ci,cs[i]?=some (.slice ai (g.getD i []).length ci)∧RdI .i64 W (.slice ai (g.getD i []).length ci) (g.getD i [])):RdPl W (.slice (some ⟨b,0,none⟩) n n) g:=by
 subst hn
 refine ⟨_,_,rfl,Nat.le_refl _,by omega,fun i hi=>?_⟩
 obtain ⟨ai,ci,e1,e2⟩:=hr i hi
 exact ⟨b,0,ai,ci,rfl,h.lt,by rw [h.cell,Nat.zero_add];exact e1,e2⟩
theorem numS_lim (l:List Int):LimL (numS l):=fun i hi=>by
 unfold numS at hi ⊢
 rw [List.length_map] at hi
 rw [List.getD_eq_getElem?_getD,List.getElem?_map,List.getElem?_eq_getElem hi];exact limR_rep _
theorem smM_lim:LimM smM:=by
 refine ⟨limR_rep _,fun s a=>?_⟩
 have h0:LimA dA:=⟨zR_lim,fun i=>by cases i <;> exact zR_lim⟩
 have hx:∀ c t,LimR c→LimA ⟨c,[(t,rep ((1:Int):Rat))]⟩:=fun c t hc=>⟨hc,fun i=>by
  match i with
  | 0=>exact limR_rep _
  | _+1=>exact zR_lim⟩
 match s,a with
 | 0,0=>exact hx _ _ (limR_rep _)
 | 0,1=>exact hx _ _ (limR_rep _)
 | 0,_+2=>exact h0
 | 1,0=>exact hx _ _ zR_lim
 | 1,_+1=>exact h0
 | _+2,_=>exact h0
theorem lenL_small {l:List RR} (h:(l.all fun r=>decide (r.num.length≤1000000∧r.den.length≤1000000))=true):LenL l:=fun i hi=>by
 have:=List.all_eq_true.1 h (l.getD i zR) (by rw [List.getD_eq_getElem?_getD,List.getElem?_eq_getElem hi];exact List.getElem_mem hi)
 exact of_decide_eq_true this
theorem kStg:stagesS smM (numS [5,0]) 2=([numS [5,0],numS [3,0],numS [3,0]],[[1,0],[1,0]],0):=by kernel_rfl
theorem kScr:scoresS smM (numS [3,0])=([numS [4,3],numS [0]],0):=by kernel_rfl
theorem kPln:planS smM (numS [5,0]) [[0,0],[0,0]]=(numS [7,0],0):=by kernel_rfl
theorem kCha:chancesS smM [[1,0]] 0=(numS [0,1],0):=by kernel_rfl
set_option maxRecDepth 100000 in
set_option maxHeartbeats 8000000 in
theorem awake22_any (w:World):Calls Try.prog 6 #[] w fun e w'=>e=.returned (.bool true)∧Ext w w':=by
 obtain ⟨lA,hlA⟩:∃ l,l=numS [5,0]:=⟨_,rfl⟩
 obtain ⟨lB,hlB⟩:∃ l,l=numS [3,0]:=⟨_,rfl⟩
 obtain ⟨lC,hlC⟩:∃ l,l=numS [7,0]:=⟨_,rfl⟩
 obtain ⟨lD,hlD⟩:∃ l,l=numS [4,3]:=⟨_,rfl⟩
 obtain ⟨lE,hlE⟩:∃ l,l=numS [0]:=⟨_,rfl⟩
 obtain ⟨lF,hlF⟩:∃ l,l=numS [0,1]:=⟨_,rfl⟩
 have kS:=kStg;have kC:=kScr;have kP:=kPln;have kH:=kCha
 rw [← hlA,← hlB] at kS;rw [← hlB,← hlD,← hlE] at kC;rw [← hlA,← hlC] at kP;rw [← hlF] at kH
 have hst:=fun W mv vv (h:RdM W mv smM) (k:RdRs W vv lA)=>stagesI_any mv vv smM lA 2 W h k smM_lim (by rw [hlA];exact numS_lim _) (by rw [hlA];exact lenL_small (by kernel_rfl))
 have hsc:=fun W mv vv (h:RdM W mv smM) (k:RdRs W vv lB)=>scoresI_any mv vv smM lB W h k smM_lim (by rw [hlB];exact numS_lim _) (by rw [hlB];exact lenL_small (by kernel_rfl))
 have hpl:=fun W mv vv pv (h:RdM W mv smM) (k:RdRs W vv lA) (g:RdPl W pv [[0,0],[0,0]])=>planI_any mv vv pv smM lA [[0,0],[0,0]] W h k g smM_lim (by rw [hlA];exact numS_lim _) (by rw [hlA];exact lenL_small (by kernel_rfl))
 have hch:=fun W mv pv (h:RdM W mv smM) (g:RdPl W pv [[1,0]])=>chancesI_any mv pv smM [[1,0]] 0 W h g smM_lim
 rw [kS] at hst;rw [kC] at hsc;rw [kP] at hpl;rw [kH] at hch
 unfold ResG at hst;unfold ResV at hsc;unfold ResN at hpl hch
 dsimp only at hst hsc hpl hch
 have hnA:=fun W v (h:RdI .i64 W v [5,0])=>numbers_any v [5,0] W h (by decide) (by decide)
 rw [← hlA] at hnA
 have hnB:=fun W v (h:RdI .i64 W v [3,0])=>numbers_any v [3,0] W h (by decide) (by decide)
 rw [← hlB] at hnB
 have hnC:=fun W v (h:RdI .i64 W v [7,0])=>numbers_any v [7,0] W h (by decide) (by decide)
 rw [← hlC] at hnC
 have hnD:=fun W v (h:RdI .i64 W v [4,3])=>numbers_any v [4,3] W h (by decide) (by decide)
 rw [← hlD] at hnD
 have hnE:=fun W v (h:RdI .i64 W v [0])=>numbers_any v [0] W h (by decide) (by decide)
 rw [← hlE] at hnE
 have hnF:=fun W v (h:RdI .i64 W v [0,1])=>numbers_any v [0,1] W h (by decide) (by decide)
 rw [← hlF] at hnF
 have Hst:=kI hst;have Hsc:=kI hsc;have Hpl:=kI hpl;have Hch:=kI hch;have HnA:=kI hnA;have HnB:=kI hnB;have HnC:=kI hnC;have HnD:=kI hnD;have HnE:=kI hnE;have HnF:=kI hnF
 clear kS kC kP kH hst hsc hpl hch hnA hlA hnB hlB hnC hlC hnD hlD hnE hlE hnF hlF
 have X:Hid (Ext w w):=kI (Ext.refl w)
 go_enter Try.func6,Try.ntmps6
 go_wp2_with fail
 refine (small_any w).mono ?_
 rintro e w1 ⟨⟨v,rfl,hm⟩,hx⟩
 replace X:=kI (X.o.trans hx)
 obtain ⟨MA1,MA2,MA3,MA4,MA5,MA6,rfl,-,-⟩:=id hm
 have MA:=kI hm
 clear hm
 clear hx
 go_wp2_with fail
 obtain ⟨s2,hs2⟩:∃ n,n=w1.heap.size:=⟨_,rfl⟩
 rw [← hs2]
 obtain ⟨w2,hw2⟩:∃ W,W=(w1.alloc (.cells #[.int .i64 5,.int .i64 0] 3)):=⟨_,rfl⟩
 have hx:Ext w1 w2:=by rw [hw2];exact (Ext.refl _).alloc _
 have bb0:Blk w2 (s2) #[.int .i64 5,.int .i64 0] 3:=by
  have h:=(Blk.new w1 #[.int .i64 5,.int .i64 0] 3)
  rw [← hw2,← hs2] at h
  exact h
 rw [← hw2]
 replace MA:=kI (MA.o.ext hx);replace X:=kI (X.o.trans hx)
 have IA:=kI bb0
 clear hx hw2 hs2 bb0
 refine (HnA.o w2 _ (rdI_blkS [5,0] 2 IA.o rfl (by decide))).mono ?_
 rintro e w3 ⟨⟨v,rfl,ow⟩,hx⟩
 replace MA:=kI (MA.o.ext hx);replace IA:=kI (IA.o.ext hx);replace X:=kI (X.o.trans hx)
 obtain ⟨VAa,VAc,rfl⟩:=ow.shape
 have VA:=kI ow.rd
 clear ow
 clear hx
 go_wp2_with fail
 refine (Hst.o w3 _ _ MA.o VA.o).mono ?_
 rintro e w4 ⟨⟨v,p,rfl,ov,op⟩,hx⟩
 replace MA:=kI (MA.o.ext hx);replace IA:=kI (IA.o.ext hx);replace VA:=kI (VA.o.ext hx);replace X:=kI (X.o.trans hx)
 obtain ⟨R1a,R1c,rfl⟩:=ov.shape
 obtain ⟨P1a,P1c,rfl⟩:=op.shape
 have R1:=kI ov.rd;have P1:=kI op.rdP
 clear ov op
 clear hx
 go_wp2_with fail
 refine (small_any w4).mono ?_
 rintro e w5 ⟨⟨v,rfl,hm⟩,hx⟩
 replace MA:=kI (MA.o.ext hx);replace IA:=kI (IA.o.ext hx);replace VA:=kI (VA.o.ext hx);replace R1:=kI (R1.o.ext hx);replace P1:=kI (P1.o.ext hx);replace X:=kI (X.o.trans hx)
 obtain ⟨MB1,MB2,MB3,MB4,MB5,MB6,rfl,-,-⟩:=id hm
 have MB:=kI hm
 clear hm
 clear hx
 go_wp2_with fail
 obtain ⟨s6,hs6⟩:∃ n,n=w5.heap.size:=⟨_,rfl⟩
 rw [← hs6]
 obtain ⟨w6,hw6⟩:∃ W,W=(w5.alloc (.cells #[.int .i64 3,.int .i64 0] 3)):=⟨_,rfl⟩
 have hx:Ext w5 w6:=by rw [hw6];exact (Ext.refl _).alloc _
 have bb0:Blk w6 (s6) #[.int .i64 3,.int .i64 0] 3:=by
  have h:=(Blk.new w5 #[.int .i64 3,.int .i64 0] 3)
  rw [← hw6,← hs6] at h
  exact h
 rw [← hw6]
 replace MA:=kI (MA.o.ext hx);replace IA:=kI (IA.o.ext hx);replace VA:=kI (VA.o.ext hx);replace R1:=kI (R1.o.ext hx);replace P1:=kI (P1.o.ext hx);replace MB:=kI (MB.o.ext hx);replace X:=kI (X.o.trans hx)
 have IB:=kI bb0
 clear hx hw6 hs6 bb0
 refine (HnB.o w6 _ (rdI_blkS [3,0] 2 IB.o rfl (by decide))).mono ?_
 rintro e w7 ⟨⟨v,rfl,ow⟩,hx⟩
 replace MA:=kI (MA.o.ext hx);replace IA:=kI (IA.o.ext hx);replace VA:=kI (VA.o.ext hx);replace R1:=kI (R1.o.ext hx);replace P1:=kI (P1.o.ext hx);replace MB:=kI (MB.o.ext hx);replace IB:=kI (IB.o.ext hx);replace X:=kI (X.o.trans hx)
 obtain ⟨VBa,VBc,rfl⟩:=ow.shape
 have VB:=kI ow.rd
 clear ow
 clear hx
 go_wp2_with fail
 refine (Hsc.o w7 _ _ MB.o VB.o).mono ?_
 rintro e w8 ⟨⟨v,rfl,ov⟩,hx⟩
 replace MA:=kI (MA.o.ext hx);replace IA:=kI (IA.o.ext hx);replace VA:=kI (VA.o.ext hx);replace R1:=kI (R1.o.ext hx);replace P1:=kI (P1.o.ext hx);replace MB:=kI (MB.o.ext hx);replace IB:=kI (IB.o.ext hx);replace VB:=kI (VB.o.ext hx);replace X:=kI (X.o.trans hx)
 obtain ⟨R2a,R2c,rfl⟩:=ov.shape
 have R2:=kI ov.rd
 clear ov
 clear hx
 go_wp2_with fail
 refine (small_any w8).mono ?_
 rintro e w9 ⟨⟨v,rfl,hm⟩,hx⟩
 replace MA:=kI (MA.o.ext hx);replace IA:=kI (IA.o.ext hx);replace VA:=kI (VA.o.ext hx);replace R1:=kI (R1.o.ext hx);replace P1:=kI (P1.o.ext hx);replace MB:=kI (MB.o.ext hx);replace IB:=kI (IB.o.ext hx);replace VB:=kI (VB.o.ext hx);replace R2:=kI (R2.o.ext hx);replace X:=kI (X.o.trans hx)
 obtain ⟨MC1,MC2,MC3,MC4,MC5,MC6,rfl,-,-⟩:=id hm
 have MC:=kI hm
 clear hm
 clear hx
 go_wp2_with fail
 obtain ⟨s10,hs10⟩:∃ n,n=w9.heap.size:=⟨_,rfl⟩
 rw [← hs10]
 obtain ⟨w10,hw10⟩:∃ W,W=(w9.alloc (.cells #[.int .i64 5,.int .i64 0] 3)):=⟨_,rfl⟩
 have hx:Ext w9 w10:=by rw [hw10];exact (Ext.refl _).alloc _
 have bb0:Blk w10 (s10) #[.int .i64 5,.int .i64 0] 3:=by
  have h:=(Blk.new w9 #[.int .i64 5,.int .i64 0] 3)
  rw [← hw10,← hs10] at h
  exact h
 rw [← hw10]
 replace MA:=kI (MA.o.ext hx);replace IA:=kI (IA.o.ext hx);replace VA:=kI (VA.o.ext hx);replace R1:=kI (R1.o.ext hx);replace P1:=kI (P1.o.ext hx);replace MB:=kI (MB.o.ext hx);replace IB:=kI (IB.o.ext hx);replace VB:=kI (VB.o.ext hx);replace R2:=kI (R2.o.ext hx);replace MC:=kI (MC.o.ext hx);replace X:=kI (X.o.trans hx)
 have IC:=kI bb0
 clear hx hw10 hs10 bb0
 refine (HnA.o w10 _ (rdI_blkS [5,0] 2 IC.o rfl (by decide))).mono ?_
 rintro e w11 ⟨⟨v,rfl,ow⟩,hx⟩
 replace MA:=kI (MA.o.ext hx);replace IA:=kI (IA.o.ext hx);replace VA:=kI (VA.o.ext hx);replace R1:=kI (R1.o.ext hx);replace P1:=kI (P1.o.ext hx);replace MB:=kI (MB.o.ext hx);replace IB:=kI (IB.o.ext hx);replace VB:=kI (VB.o.ext hx);replace R2:=kI (R2.o.ext hx);replace MC:=kI (MC.o.ext hx);replace IC:=kI (IC.o.ext hx);replace X:=kI (X.o.trans hx)
 obtain ⟨VCa,VCc,rfl⟩:=ow.shape
 have VC:=kI ow.rd
 clear ow
 clear hx
 go_wp2_with fail
 obtain ⟨s12,hs12⟩:∃ n,n=w11.heap.size:=⟨_,rfl⟩
 rw [← hs12]
 obtain ⟨w12,hw12⟩:∃ W,W=(((w11.alloc (.cells #[.int .i64 0,.int .i64 0] 3)).alloc (.cells #[.int .i64 0,.int .i64 0] 3)).alloc (.cells #[.slice (some ⟨s12,0,none⟩) 2 2,.slice (some ⟨s12+1,0,none⟩) 2 2] 58)):=⟨_,rfl⟩
 have hx:Ext w11 w12:=by rw [hw12];exact (((Ext.refl _).alloc _).alloc _).alloc _
 have bb0:Blk w12 (s12) #[.int .i64 0,.int .i64 0] 3:=by
  have h:=(((Blk.new w11 #[.int .i64 0,.int .i64 0] 3).alloc (.cells #[.int .i64 0,.int .i64 0] 3)).alloc (.cells #[.slice (some ⟨s12,0,none⟩) 2 2,.slice (some ⟨s12+1,0,none⟩) 2 2] 58))
  rw [← hw12,← hs12] at h
  exact h
 have bb1:Blk w12 (s12+1) #[.int .i64 0,.int .i64 0] 3:=by
  have h:=((Blk.new (w11.alloc (.cells #[.int .i64 0,.int .i64 0] 3)) #[.int .i64 0,.int .i64 0] 3).alloc (.cells #[.slice (some ⟨s12,0,none⟩) 2 2,.slice (some ⟨s12+1,0,none⟩) 2 2] 58))
  rw [World.size_alloc] at h
  rw [← hw12,← hs12] at h
  exact h
 have bb2:Blk w12 (s12+1+1) #[.slice (some ⟨s12,0,none⟩) 2 2,.slice (some ⟨s12+1,0,none⟩) 2 2] 58:=by
  have h:=(Blk.new ((w11.alloc (.cells #[.int .i64 0,.int .i64 0] 3)).alloc (.cells #[.int .i64 0,.int .i64 0] 3)) #[.slice (some ⟨s12,0,none⟩) 2 2,.slice (some ⟨s12+1,0,none⟩) 2 2] 58)
  rw [World.size_alloc,World.size_alloc] at h
  rw [← hw12,← hs12] at h
  exact h
 rw [← hw12]
 replace MA:=kI (MA.o.ext hx);replace IA:=kI (IA.o.ext hx);replace VA:=kI (VA.o.ext hx);replace R1:=kI (R1.o.ext hx);replace P1:=kI (P1.o.ext hx);replace MB:=kI (MB.o.ext hx);replace IB:=kI (IB.o.ext hx);replace VB:=kI (VB.o.ext hx);replace R2:=kI (R2.o.ext hx);replace MC:=kI (MC.o.ext hx);replace IC:=kI (IC.o.ext hx);replace VC:=kI (VC.o.ext hx);replace X:=kI (X.o.trans hx)
 have PA0:=kI bb0
 have PA1:=kI bb1
 have PAR:=kI bb2
 clear hx hw12 hs12 bb0 bb1 bb2
 have PA:Hid (RdPl w12 (.slice (some ⟨s12+1+1,0,none⟩) 2 2) [[0,0],[0,0]]):=kI (rdPl_blk _ 2 PAR.o rfl (by decide) (fun i hi=>by
  match i,hi with
  | 0,_=>exact ⟨_,_,rfl,rdI_blkS [0,0] 2 PA0.o rfl (by decide)⟩
  | 1,_=>exact ⟨_,_,rfl,rdI_blkS [0,0] 2 PA1.o rfl (by decide)⟩))
 refine (Hpl.o w12 _ _ _ MC.o VC.o PA.o).mono ?_
 rintro e w13 ⟨⟨v,rfl,ov⟩,hx⟩
 replace MA:=kI (MA.o.ext hx);replace IA:=kI (IA.o.ext hx);replace VA:=kI (VA.o.ext hx);replace R1:=kI (R1.o.ext hx);replace P1:=kI (P1.o.ext hx);replace MB:=kI (MB.o.ext hx);replace IB:=kI (IB.o.ext hx);replace VB:=kI (VB.o.ext hx);replace R2:=kI (R2.o.ext hx);replace MC:=kI (MC.o.ext hx);replace IC:=kI (IC.o.ext hx);replace VC:=kI (VC.o.ext hx);replace PA0:=kI (PA0.o.ext hx);replace PA1:=kI (PA1.o.ext hx);replace PAR:=kI (PAR.o.ext hx);replace PA:=kI (PA.o.ext hx);replace X:=kI (X.o.trans hx)
 obtain ⟨R3a,R3c,rfl⟩:=ov.shape
 have R3:=kI ov.rd
 clear ov
 clear hx
 go_wp2_with fail
 refine (small_any w13).mono ?_
 rintro e w14 ⟨⟨v,rfl,hm⟩,hx⟩
 replace MA:=kI (MA.o.ext hx);replace IA:=kI (IA.o.ext hx);replace VA:=kI (VA.o.ext hx);replace R1:=kI (R1.o.ext hx);replace P1:=kI (P1.o.ext hx);replace MB:=kI (MB.o.ext hx);replace IB:=kI (IB.o.ext hx);replace VB:=kI (VB.o.ext hx);replace R2:=kI (R2.o.ext hx);replace MC:=kI (MC.o.ext hx);replace IC:=kI (IC.o.ext hx);replace VC:=kI (VC.o.ext hx);replace PA0:=kI (PA0.o.ext hx);replace PA1:=kI (PA1.o.ext hx);replace PAR:=kI (PAR.o.ext hx);replace PA:=kI (PA.o.ext hx);replace R3:=kI (R3.o.ext hx);replace X:=kI (X.o.trans hx)
 obtain ⟨MD1,MD2,MD3,MD4,MD5,MD6,rfl,-,-⟩:=id hm
 have MD:=kI hm
 clear hm
 clear hx
 go_wp2_with fail
 obtain ⟨s15,hs15⟩:∃ n,n=w14.heap.size:=⟨_,rfl⟩
 rw [← hs15]
 obtain ⟨w15,hw15⟩:∃ W,W=((w14.alloc (.cells #[.int .i64 1,.int .i64 0] 3)).alloc (.cells #[.slice (some ⟨s15,0,none⟩) 2 2] 58)):=⟨_,rfl⟩
 have hx:Ext w14 w15:=by rw [hw15];exact ((Ext.refl _).alloc _).alloc _
 have bb0:Blk w15 (s15) #[.int .i64 1,.int .i64 0] 3:=by
  have h:=((Blk.new w14 #[.int .i64 1,.int .i64 0] 3).alloc (.cells #[.slice (some ⟨s15,0,none⟩) 2 2] 58))
  rw [← hw15,← hs15] at h
  exact h
 have bb1:Blk w15 (s15+1) #[.slice (some ⟨s15,0,none⟩) 2 2] 58:=by
  have h:=(Blk.new (w14.alloc (.cells #[.int .i64 1,.int .i64 0] 3)) #[.slice (some ⟨s15,0,none⟩) 2 2] 58)
  rw [World.size_alloc] at h
  rw [← hw15,← hs15] at h
  exact h
 rw [← hw15]
 replace MA:=kI (MA.o.ext hx);replace IA:=kI (IA.o.ext hx);replace VA:=kI (VA.o.ext hx);replace R1:=kI (R1.o.ext hx);replace P1:=kI (P1.o.ext hx);replace MB:=kI (MB.o.ext hx);replace IB:=kI (IB.o.ext hx);replace VB:=kI (VB.o.ext hx);replace R2:=kI (R2.o.ext hx);replace MC:=kI (MC.o.ext hx);replace IC:=kI (IC.o.ext hx);replace VC:=kI (VC.o.ext hx);replace PA0:=kI (PA0.o.ext hx);replace PA1:=kI (PA1.o.ext hx);replace PAR:=kI (PAR.o.ext hx);replace PA:=kI (PA.o.ext hx);replace R3:=kI (R3.o.ext hx);replace MD:=kI (MD.o.ext hx);replace X:=kI (X.o.trans hx)
 have PB0:=kI bb0
 have PBR:=kI bb1
 clear hx hw15 hs15 bb0 bb1
 have PB:Hid (RdPl w15 (.slice (some ⟨s15+1,0,none⟩) 1 1) [[1,0]]):=kI (rdPl_blk _ 1 PBR.o rfl (by decide) (fun i hi=>by
  match i,hi with
  | 0,_=>exact ⟨_,_,rfl,rdI_blkS [1,0] 2 PB0.o rfl (by decide)⟩))
 refine (Hch.o w15 _ _ MD.o PB.o).mono ?_
 rintro e w16 ⟨⟨v,rfl,ov⟩,hx⟩
 replace MA:=kI (MA.o.ext hx);replace IA:=kI (IA.o.ext hx);replace VA:=kI (VA.o.ext hx);replace R1:=kI (R1.o.ext hx);replace P1:=kI (P1.o.ext hx);replace MB:=kI (MB.o.ext hx);replace IB:=kI (IB.o.ext hx);replace VB:=kI (VB.o.ext hx);replace R2:=kI (R2.o.ext hx);replace MC:=kI (MC.o.ext hx);replace IC:=kI (IC.o.ext hx);replace VC:=kI (VC.o.ext hx);replace PA0:=kI (PA0.o.ext hx);replace PA1:=kI (PA1.o.ext hx);replace PAR:=kI (PAR.o.ext hx);replace PA:=kI (PA.o.ext hx);replace R3:=kI (R3.o.ext hx);replace MD:=kI (MD.o.ext hx);replace PB0:=kI (PB0.o.ext hx);replace PBR:=kI (PBR.o.ext hx);replace PB:=kI (PB.o.ext hx);replace X:=kI (X.o.trans hx)
 obtain ⟨R4a,R4c,rfl⟩:=ov.shape
 have R4:=kI ov.rd
 clear ov
 clear hx
 go_wp2_with fail
 obtain ⟨s17,hs17⟩:∃ n,n=w16.heap.size:=⟨_,rfl⟩
 rw [← hs17]
 obtain ⟨w17,hw17⟩:∃ W,W=(w16.alloc (.cells #[.int .i64 5,.int .i64 0] 3)):=⟨_,rfl⟩
 have hx:Ext w16 w17:=by rw [hw17];exact (Ext.refl _).alloc _
 have bb0:Blk w17 (s17) #[.int .i64 5,.int .i64 0] 3:=by
  have h:=(Blk.new w16 #[.int .i64 5,.int .i64 0] 3)
  rw [← hw17,← hs17] at h
  exact h
 rw [← hw17]
 replace MA:=kI (MA.o.ext hx);replace IA:=kI (IA.o.ext hx);replace VA:=kI (VA.o.ext hx);replace R1:=kI (R1.o.ext hx);replace P1:=kI (P1.o.ext hx);replace MB:=kI (MB.o.ext hx);replace IB:=kI (IB.o.ext hx);replace VB:=kI (VB.o.ext hx);replace R2:=kI (R2.o.ext hx);replace MC:=kI (MC.o.ext hx);replace IC:=kI (IC.o.ext hx);replace VC:=kI (VC.o.ext hx);replace PA0:=kI (PA0.o.ext hx);replace PA1:=kI (PA1.o.ext hx);replace PAR:=kI (PAR.o.ext hx);replace PA:=kI (PA.o.ext hx);replace R3:=kI (R3.o.ext hx);replace MD:=kI (MD.o.ext hx);replace PB0:=kI (PB0.o.ext hx);replace PBR:=kI (PBR.o.ext hx);replace PB:=kI (PB.o.ext hx);replace R4:=kI (R4.o.ext hx);replace X:=kI (X.o.trans hx)
 have IN1:=kI bb0
 clear hx hw17 hs17 bb0
 refine (HnA.o w17 _ (rdI_blkS [5,0] 2 IN1.o rfl (by decide))).mono ?_
 rintro e w18 ⟨⟨v,rfl,ow⟩,hx⟩
 replace MA:=kI (MA.o.ext hx);replace IA:=kI (IA.o.ext hx);replace VA:=kI (VA.o.ext hx);replace R1:=kI (R1.o.ext hx);replace P1:=kI (P1.o.ext hx);replace MB:=kI (MB.o.ext hx);replace IB:=kI (IB.o.ext hx);replace VB:=kI (VB.o.ext hx);replace R2:=kI (R2.o.ext hx);replace MC:=kI (MC.o.ext hx);replace IC:=kI (IC.o.ext hx);replace VC:=kI (VC.o.ext hx);replace PA0:=kI (PA0.o.ext hx);replace PA1:=kI (PA1.o.ext hx);replace PAR:=kI (PAR.o.ext hx);replace PA:=kI (PA.o.ext hx);replace R3:=kI (R3.o.ext hx);replace MD:=kI (MD.o.ext hx);replace PB0:=kI (PB0.o.ext hx);replace PBR:=kI (PBR.o.ext hx);replace PB:=kI (PB.o.ext hx);replace R4:=kI (R4.o.ext hx);replace IN1:=kI (IN1.o.ext hx);replace X:=kI (X.o.trans hx)
 obtain ⟨N1a,N1c,rfl⟩:=ow.shape
 have N1:=kI ow.rd
 clear ow
 clear hx
 go_wp2_with fail
 obtain ⟨s19,hs19⟩:∃ n,n=w18.heap.size:=⟨_,rfl⟩
 rw [← hs19]
 obtain ⟨w19,hw19⟩:∃ W,W=(w18.alloc (.cells #[.int .i64 3,.int .i64 0] 3)):=⟨_,rfl⟩
 have hx:Ext w18 w19:=by rw [hw19];exact (Ext.refl _).alloc _
 have bb0:Blk w19 (s19) #[.int .i64 3,.int .i64 0] 3:=by
  have h:=(Blk.new w18 #[.int .i64 3,.int .i64 0] 3)
  rw [← hw19,← hs19] at h
  exact h
 rw [← hw19]
 replace MA:=kI (MA.o.ext hx);replace IA:=kI (IA.o.ext hx);replace VA:=kI (VA.o.ext hx);replace R1:=kI (R1.o.ext hx);replace P1:=kI (P1.o.ext hx);replace MB:=kI (MB.o.ext hx);replace IB:=kI (IB.o.ext hx);replace VB:=kI (VB.o.ext hx);replace R2:=kI (R2.o.ext hx);replace MC:=kI (MC.o.ext hx);replace IC:=kI (IC.o.ext hx);replace VC:=kI (VC.o.ext hx);replace PA0:=kI (PA0.o.ext hx);replace PA1:=kI (PA1.o.ext hx);replace PAR:=kI (PAR.o.ext hx);replace PA:=kI (PA.o.ext hx);replace R3:=kI (R3.o.ext hx);replace MD:=kI (MD.o.ext hx);replace PB0:=kI (PB0.o.ext hx);replace PBR:=kI (PBR.o.ext hx);replace PB:=kI (PB.o.ext hx);replace R4:=kI (R4.o.ext hx);replace IN1:=kI (IN1.o.ext hx);replace N1:=kI (N1.o.ext hx);replace X:=kI (X.o.trans hx)
 have IN2:=kI bb0
 clear hx hw19 hs19 bb0
 refine (HnB.o w19 _ (rdI_blkS [3,0] 2 IN2.o rfl (by decide))).mono ?_
 rintro e w20 ⟨⟨v,rfl,ow⟩,hx⟩
 replace MA:=kI (MA.o.ext hx);replace IA:=kI (IA.o.ext hx);replace VA:=kI (VA.o.ext hx);replace R1:=kI (R1.o.ext hx);replace P1:=kI (P1.o.ext hx);replace MB:=kI (MB.o.ext hx);replace IB:=kI (IB.o.ext hx);replace VB:=kI (VB.o.ext hx);replace R2:=kI (R2.o.ext hx);replace MC:=kI (MC.o.ext hx);replace IC:=kI (IC.o.ext hx);replace VC:=kI (VC.o.ext hx);replace PA0:=kI (PA0.o.ext hx);replace PA1:=kI (PA1.o.ext hx);replace PAR:=kI (PAR.o.ext hx);replace PA:=kI (PA.o.ext hx);replace R3:=kI (R3.o.ext hx);replace MD:=kI (MD.o.ext hx);replace PB0:=kI (PB0.o.ext hx);replace PBR:=kI (PBR.o.ext hx);replace PB:=kI (PB.o.ext hx);replace R4:=kI (R4.o.ext hx);replace IN1:=kI (IN1.o.ext hx);replace N1:=kI (N1.o.ext hx);replace IN2:=kI (IN2.o.ext hx);replace X:=kI (X.o.trans hx)
 obtain ⟨N2a,N2c,rfl⟩:=ow.shape
 have N2:=kI ow.rd
 clear ow
 clear hx
 go_wp2_with fail
 obtain ⟨s21,hs21⟩:∃ n,n=w20.heap.size:=⟨_,rfl⟩
 rw [← hs21]
 obtain ⟨w21,hw21⟩:∃ W,W=(w20.alloc (.cells #[.int .i64 3,.int .i64 0] 3)):=⟨_,rfl⟩
 have hx:Ext w20 w21:=by rw [hw21];exact (Ext.refl _).alloc _
 have bb0:Blk w21 (s21) #[.int .i64 3,.int .i64 0] 3:=by
  have h:=(Blk.new w20 #[.int .i64 3,.int .i64 0] 3)
  rw [← hw21,← hs21] at h
  exact h
 rw [← hw21]
 replace MA:=kI (MA.o.ext hx);replace IA:=kI (IA.o.ext hx);replace VA:=kI (VA.o.ext hx);replace R1:=kI (R1.o.ext hx);replace P1:=kI (P1.o.ext hx);replace MB:=kI (MB.o.ext hx);replace IB:=kI (IB.o.ext hx);replace VB:=kI (VB.o.ext hx);replace R2:=kI (R2.o.ext hx);replace MC:=kI (MC.o.ext hx);replace IC:=kI (IC.o.ext hx);replace VC:=kI (VC.o.ext hx);replace PA0:=kI (PA0.o.ext hx);replace PA1:=kI (PA1.o.ext hx);replace PAR:=kI (PAR.o.ext hx);replace PA:=kI (PA.o.ext hx);replace R3:=kI (R3.o.ext hx);replace MD:=kI (MD.o.ext hx);replace PB0:=kI (PB0.o.ext hx);replace PBR:=kI (PBR.o.ext hx);replace PB:=kI (PB.o.ext hx);replace R4:=kI (R4.o.ext hx);replace IN1:=kI (IN1.o.ext hx);replace N1:=kI (N1.o.ext hx);replace IN2:=kI (IN2.o.ext hx);replace N2:=kI (N2.o.ext hx);replace X:=kI (X.o.trans hx)
 have IN3:=kI bb0
 clear hx hw21 hs21 bb0
 refine (HnB.o w21 _ (rdI_blkS [3,0] 2 IN3.o rfl (by decide))).mono ?_
 rintro e w22 ⟨⟨v,rfl,ow⟩,hx⟩
 replace MA:=kI (MA.o.ext hx);replace IA:=kI (IA.o.ext hx);replace VA:=kI (VA.o.ext hx);replace R1:=kI (R1.o.ext hx);replace P1:=kI (P1.o.ext hx);replace MB:=kI (MB.o.ext hx);replace IB:=kI (IB.o.ext hx);replace VB:=kI (VB.o.ext hx);replace R2:=kI (R2.o.ext hx);replace MC:=kI (MC.o.ext hx);replace IC:=kI (IC.o.ext hx);replace VC:=kI (VC.o.ext hx);replace PA0:=kI (PA0.o.ext hx);replace PA1:=kI (PA1.o.ext hx);replace PAR:=kI (PAR.o.ext hx);replace PA:=kI (PA.o.ext hx);replace R3:=kI (R3.o.ext hx);replace MD:=kI (MD.o.ext hx);replace PB0:=kI (PB0.o.ext hx);replace PBR:=kI (PBR.o.ext hx);replace PB:=kI (PB.o.ext hx);replace R4:=kI (R4.o.ext hx);replace IN1:=kI (IN1.o.ext hx);replace N1:=kI (N1.o.ext hx);replace IN2:=kI (IN2.o.ext hx);replace N2:=kI (N2.o.ext hx);replace IN3:=kI (IN3.o.ext hx);replace X:=kI (X.o.trans hx)
 obtain ⟨N3a,N3c,rfl⟩:=ow.shape
 have N3:=kI ow.rd
 clear ow
 clear hx
 go_wp2_with fail
 obtain ⟨s23,hs23⟩:∃ n,n=w22.heap.size:=⟨_,rfl⟩
 rw [← hs23]
 obtain ⟨w23,hw23⟩:∃ W,W=(w22.alloc (.cells #[.slice N1a lA.length N1c,.slice N2a lB.length N2c,.slice N3a lB.length N3c] 29)):=⟨_,rfl⟩
 have hx:Ext w22 w23:=by rw [hw23];exact (Ext.refl _).alloc _
 have bb0:Blk w23 (s23) #[.slice N1a lA.length N1c,.slice N2a lB.length N2c,.slice N3a lB.length N3c] 29:=by
  have h:=(Blk.new w22 #[.slice N1a lA.length N1c,.slice N2a lB.length N2c,.slice N3a lB.length N3c] 29)
  rw [← hw23,← hs23] at h
  exact h
 rw [← hw23]
 replace MA:=kI (MA.o.ext hx);replace IA:=kI (IA.o.ext hx);replace VA:=kI (VA.o.ext hx);replace R1:=kI (R1.o.ext hx);replace P1:=kI (P1.o.ext hx);replace MB:=kI (MB.o.ext hx);replace IB:=kI (IB.o.ext hx);replace VB:=kI (VB.o.ext hx);replace R2:=kI (R2.o.ext hx);replace MC:=kI (MC.o.ext hx);replace IC:=kI (IC.o.ext hx);replace VC:=kI (VC.o.ext hx);replace PA0:=kI (PA0.o.ext hx);replace PA1:=kI (PA1.o.ext hx);replace PAR:=kI (PAR.o.ext hx);replace PA:=kI (PA.o.ext hx);replace R3:=kI (R3.o.ext hx);replace MD:=kI (MD.o.ext hx);replace PB0:=kI (PB0.o.ext hx);replace PBR:=kI (PBR.o.ext hx);replace PB:=kI (PB.o.ext hx);replace R4:=kI (R4.o.ext hx);replace IN1:=kI (IN1.o.ext hx);replace N1:=kI (N1.o.ext hx);replace IN2:=kI (IN2.o.ext hx);replace N2:=kI (N2.o.ext hx);replace IN3:=kI (IN3.o.ext hx);replace N3:=kI (N3.o.ext hx);replace X:=kI (X.o.trans hx)
 have G1R:=kI bb0
 clear hx hw23 hs23 bb0
 have G1:Hid (RdGR w23 (.slice (some ⟨s23,0,none⟩) 3 3) [lA,lB,lB]):=kI (rdGR_blk _ 3 G1R.o rfl (by decide) (fun i hi=>by
  match i,hi with
  | 0,_=>exact ⟨_,_,rfl,N1.o⟩
  | 1,_=>exact ⟨_,_,rfl,N2.o⟩
  | 2,_=>exact ⟨_,_,rfl,N3.o⟩))
 refine (equalRatRowsT_any _ _ _ w23 R1.o G1.o).mono ?_
 rintro e w24 ⟨rfl,hx⟩
 replace MA:=kI (MA.o.ext hx);replace IA:=kI (IA.o.ext hx);replace VA:=kI (VA.o.ext hx);replace R1:=kI (R1.o.ext hx);replace P1:=kI (P1.o.ext hx);replace MB:=kI (MB.o.ext hx);replace IB:=kI (IB.o.ext hx);replace VB:=kI (VB.o.ext hx);replace R2:=kI (R2.o.ext hx);replace MC:=kI (MC.o.ext hx);replace IC:=kI (IC.o.ext hx);replace VC:=kI (VC.o.ext hx);replace PA0:=kI (PA0.o.ext hx);replace PA1:=kI (PA1.o.ext hx);replace PAR:=kI (PAR.o.ext hx);replace PA:=kI (PA.o.ext hx);replace R3:=kI (R3.o.ext hx);replace MD:=kI (MD.o.ext hx);replace PB0:=kI (PB0.o.ext hx);replace PBR:=kI (PBR.o.ext hx);replace PB:=kI (PB.o.ext hx);replace R4:=kI (R4.o.ext hx);replace IN1:=kI (IN1.o.ext hx);replace N1:=kI (N1.o.ext hx);replace IN2:=kI (IN2.o.ext hx);replace N2:=kI (N2.o.ext hx);replace IN3:=kI (IN3.o.ext hx);replace N3:=kI (N3.o.ext hx);replace G1R:=kI (G1R.o.ext hx);replace G1:=kI (G1.o.ext hx);replace X:=kI (X.o.trans hx)
 clear hx
 go_wp2_with fail
 obtain ⟨s25,hs25⟩:∃ n,n=w24.heap.size:=⟨_,rfl⟩
 rw [← hs25]
 obtain ⟨w25,hw25⟩:∃ W,W=(((w24.alloc (.cells #[.int .i64 1,.int .i64 0] 3)).alloc (.cells #[.int .i64 1,.int .i64 0] 3)).alloc (.cells #[.slice (some ⟨s25,0,none⟩) 2 2,.slice (some ⟨s25+1,0,none⟩) 2 2] 58)):=⟨_,rfl⟩
 have hx:Ext w24 w25:=by rw [hw25];exact (((Ext.refl _).alloc _).alloc _).alloc _
 have bb0:Blk w25 (s25) #[.int .i64 1,.int .i64 0] 3:=by
  have h:=(((Blk.new w24 #[.int .i64 1,.int .i64 0] 3).alloc (.cells #[.int .i64 1,.int .i64 0] 3)).alloc (.cells #[.slice (some ⟨s25,0,none⟩) 2 2,.slice (some ⟨s25+1,0,none⟩) 2 2] 58))
  rw [← hw25,← hs25] at h
  exact h
 have bb1:Blk w25 (s25+1) #[.int .i64 1,.int .i64 0] 3:=by
  have h:=((Blk.new (w24.alloc (.cells #[.int .i64 1,.int .i64 0] 3)) #[.int .i64 1,.int .i64 0] 3).alloc (.cells #[.slice (some ⟨s25,0,none⟩) 2 2,.slice (some ⟨s25+1,0,none⟩) 2 2] 58))
  rw [World.size_alloc] at h
  rw [← hw25,← hs25] at h
  exact h
 have bb2:Blk w25 (s25+1+1) #[.slice (some ⟨s25,0,none⟩) 2 2,.slice (some ⟨s25+1,0,none⟩) 2 2] 58:=by
  have h:=(Blk.new ((w24.alloc (.cells #[.int .i64 1,.int .i64 0] 3)).alloc (.cells #[.int .i64 1,.int .i64 0] 3)) #[.slice (some ⟨s25,0,none⟩) 2 2,.slice (some ⟨s25+1,0,none⟩) 2 2] 58)
  rw [World.size_alloc,World.size_alloc] at h
  rw [← hw25,← hs25] at h
  exact h
 rw [← hw25]
 replace MA:=kI (MA.o.ext hx);replace IA:=kI (IA.o.ext hx);replace VA:=kI (VA.o.ext hx);replace R1:=kI (R1.o.ext hx);replace P1:=kI (P1.o.ext hx);replace MB:=kI (MB.o.ext hx);replace IB:=kI (IB.o.ext hx);replace VB:=kI (VB.o.ext hx);replace R2:=kI (R2.o.ext hx);replace MC:=kI (MC.o.ext hx);replace IC:=kI (IC.o.ext hx);replace VC:=kI (VC.o.ext hx);replace PA0:=kI (PA0.o.ext hx);replace PA1:=kI (PA1.o.ext hx);replace PAR:=kI (PAR.o.ext hx);replace PA:=kI (PA.o.ext hx);replace R3:=kI (R3.o.ext hx);replace MD:=kI (MD.o.ext hx);replace PB0:=kI (PB0.o.ext hx);replace PBR:=kI (PBR.o.ext hx);replace PB:=kI (PB.o.ext hx);replace R4:=kI (R4.o.ext hx);replace IN1:=kI (IN1.o.ext hx);replace N1:=kI (N1.o.ext hx);replace IN2:=kI (IN2.o.ext hx);replace N2:=kI (N2.o.ext hx);replace IN3:=kI (IN3.o.ext hx);replace N3:=kI (N3.o.ext hx);replace G1R:=kI (G1R.o.ext hx);replace G1:=kI (G1.o.ext hx);replace X:=kI (X.o.trans hx)
 have PC0:=kI bb0
 have PC1:=kI bb1
 have PCR:=kI bb2
 clear hx hw25 hs25 bb0 bb1 bb2
 have PC:Hid (RdPl w25 (.slice (some ⟨s25+1+1,0,none⟩) 2 2) [[1,0],[1,0]]):=kI (rdPl_blk _ 2 PCR.o rfl (by decide) (fun i hi=>by
  match i,hi with
  | 0,_=>exact ⟨_,_,rfl,rdI_blkS [1,0] 2 PC0.o rfl (by decide)⟩
  | 1,_=>exact ⟨_,_,rfl,rdI_blkS [1,0] 2 PC1.o rfl (by decide)⟩))
 refine (equalPlT_any _ _ _ w25 P1.o PC.o).mono ?_
 rintro e w26 ⟨rfl,hx⟩
 replace MA:=kI (MA.o.ext hx);replace IA:=kI (IA.o.ext hx);replace VA:=kI (VA.o.ext hx);replace R1:=kI (R1.o.ext hx);replace P1:=kI (P1.o.ext hx);replace MB:=kI (MB.o.ext hx);replace IB:=kI (IB.o.ext hx);replace VB:=kI (VB.o.ext hx);replace R2:=kI (R2.o.ext hx);replace MC:=kI (MC.o.ext hx);replace IC:=kI (IC.o.ext hx);replace VC:=kI (VC.o.ext hx);replace PA0:=kI (PA0.o.ext hx);replace PA1:=kI (PA1.o.ext hx);replace PAR:=kI (PAR.o.ext hx);replace PA:=kI (PA.o.ext hx);replace R3:=kI (R3.o.ext hx);replace MD:=kI (MD.o.ext hx);replace PB0:=kI (PB0.o.ext hx);replace PBR:=kI (PBR.o.ext hx);replace PB:=kI (PB.o.ext hx);replace R4:=kI (R4.o.ext hx);replace IN1:=kI (IN1.o.ext hx);replace N1:=kI (N1.o.ext hx);replace IN2:=kI (IN2.o.ext hx);replace N2:=kI (N2.o.ext hx);replace IN3:=kI (IN3.o.ext hx);replace N3:=kI (N3.o.ext hx);replace G1R:=kI (G1R.o.ext hx);replace G1:=kI (G1.o.ext hx);replace PC0:=kI (PC0.o.ext hx);replace PC1:=kI (PC1.o.ext hx);replace PCR:=kI (PCR.o.ext hx);replace PC:=kI (PC.o.ext hx);replace X:=kI (X.o.trans hx)
 clear hx
 go_wp2_with fail
 obtain ⟨s27,hs27⟩:∃ n,n=w26.heap.size:=⟨_,rfl⟩
 rw [← hs27]
 obtain ⟨w27,hw27⟩:∃ W,W=(w26.alloc (.cells #[.int .i64 4,.int .i64 3] 3)):=⟨_,rfl⟩
 have hx:Ext w26 w27:=by rw [hw27];exact (Ext.refl _).alloc _
 have bb0:Blk w27 (s27) #[.int .i64 4,.int .i64 3] 3:=by
  have h:=(Blk.new w26 #[.int .i64 4,.int .i64 3] 3)
  rw [← hw27,← hs27] at h
  exact h
 rw [← hw27]
 replace MA:=kI (MA.o.ext hx);replace IA:=kI (IA.o.ext hx);replace VA:=kI (VA.o.ext hx);replace R1:=kI (R1.o.ext hx);replace P1:=kI (P1.o.ext hx);replace MB:=kI (MB.o.ext hx);replace IB:=kI (IB.o.ext hx);replace VB:=kI (VB.o.ext hx);replace R2:=kI (R2.o.ext hx);replace MC:=kI (MC.o.ext hx);replace IC:=kI (IC.o.ext hx);replace VC:=kI (VC.o.ext hx);replace PA0:=kI (PA0.o.ext hx);replace PA1:=kI (PA1.o.ext hx);replace PAR:=kI (PAR.o.ext hx);replace PA:=kI (PA.o.ext hx);replace R3:=kI (R3.o.ext hx);replace MD:=kI (MD.o.ext hx);replace PB0:=kI (PB0.o.ext hx);replace PBR:=kI (PBR.o.ext hx);replace PB:=kI (PB.o.ext hx);replace R4:=kI (R4.o.ext hx);replace IN1:=kI (IN1.o.ext hx);replace N1:=kI (N1.o.ext hx);replace IN2:=kI (IN2.o.ext hx);replace N2:=kI (N2.o.ext hx);replace IN3:=kI (IN3.o.ext hx);replace N3:=kI (N3.o.ext hx);replace G1R:=kI (G1R.o.ext hx);replace G1:=kI (G1.o.ext hx);replace PC0:=kI (PC0.o.ext hx);replace PC1:=kI (PC1.o.ext hx);replace PCR:=kI (PCR.o.ext hx);replace PC:=kI (PC.o.ext hx);replace X:=kI (X.o.trans hx)
 have IN4:=kI bb0
 clear hx hw27 hs27 bb0
 refine (HnD.o w27 _ (rdI_blkS [4,3] 2 IN4.o rfl (by decide))).mono ?_
 rintro e w28 ⟨⟨v,rfl,ow⟩,hx⟩
 replace MA:=kI (MA.o.ext hx);replace IA:=kI (IA.o.ext hx);replace VA:=kI (VA.o.ext hx);replace R1:=kI (R1.o.ext hx);replace P1:=kI (P1.o.ext hx);replace MB:=kI (MB.o.ext hx);replace IB:=kI (IB.o.ext hx);replace VB:=kI (VB.o.ext hx);replace R2:=kI (R2.o.ext hx);replace MC:=kI (MC.o.ext hx);replace IC:=kI (IC.o.ext hx);replace VC:=kI (VC.o.ext hx);replace PA0:=kI (PA0.o.ext hx);replace PA1:=kI (PA1.o.ext hx);replace PAR:=kI (PAR.o.ext hx);replace PA:=kI (PA.o.ext hx);replace R3:=kI (R3.o.ext hx);replace MD:=kI (MD.o.ext hx);replace PB0:=kI (PB0.o.ext hx);replace PBR:=kI (PBR.o.ext hx);replace PB:=kI (PB.o.ext hx);replace R4:=kI (R4.o.ext hx);replace IN1:=kI (IN1.o.ext hx);replace N1:=kI (N1.o.ext hx);replace IN2:=kI (IN2.o.ext hx);replace N2:=kI (N2.o.ext hx);replace IN3:=kI (IN3.o.ext hx);replace N3:=kI (N3.o.ext hx);replace G1R:=kI (G1R.o.ext hx);replace G1:=kI (G1.o.ext hx);replace PC0:=kI (PC0.o.ext hx);replace PC1:=kI (PC1.o.ext hx);replace PCR:=kI (PCR.o.ext hx);replace PC:=kI (PC.o.ext hx);replace IN4:=kI (IN4.o.ext hx);replace X:=kI (X.o.trans hx)
 obtain ⟨N4a,N4c,rfl⟩:=ow.shape
 have N4:=kI ow.rd
 clear ow
 clear hx
 go_wp2_with fail
 obtain ⟨s29,hs29⟩:∃ n,n=w28.heap.size:=⟨_,rfl⟩
 rw [← hs29]
 obtain ⟨w29,hw29⟩:∃ W,W=(w28.alloc (.cells #[.int .i64 0] 3)):=⟨_,rfl⟩
 have hx:Ext w28 w29:=by rw [hw29];exact (Ext.refl _).alloc _
 have bb0:Blk w29 (s29) #[.int .i64 0] 3:=by
  have h:=(Blk.new w28 #[.int .i64 0] 3)
  rw [← hw29,← hs29] at h
  exact h
 rw [← hw29]
 replace MA:=kI (MA.o.ext hx);replace IA:=kI (IA.o.ext hx);replace VA:=kI (VA.o.ext hx);replace R1:=kI (R1.o.ext hx);replace P1:=kI (P1.o.ext hx);replace MB:=kI (MB.o.ext hx);replace IB:=kI (IB.o.ext hx);replace VB:=kI (VB.o.ext hx);replace R2:=kI (R2.o.ext hx);replace MC:=kI (MC.o.ext hx);replace IC:=kI (IC.o.ext hx);replace VC:=kI (VC.o.ext hx);replace PA0:=kI (PA0.o.ext hx);replace PA1:=kI (PA1.o.ext hx);replace PAR:=kI (PAR.o.ext hx);replace PA:=kI (PA.o.ext hx);replace R3:=kI (R3.o.ext hx);replace MD:=kI (MD.o.ext hx);replace PB0:=kI (PB0.o.ext hx);replace PBR:=kI (PBR.o.ext hx);replace PB:=kI (PB.o.ext hx);replace R4:=kI (R4.o.ext hx);replace IN1:=kI (IN1.o.ext hx);replace N1:=kI (N1.o.ext hx);replace IN2:=kI (IN2.o.ext hx);replace N2:=kI (N2.o.ext hx);replace IN3:=kI (IN3.o.ext hx);replace N3:=kI (N3.o.ext hx);replace G1R:=kI (G1R.o.ext hx);replace G1:=kI (G1.o.ext hx);replace PC0:=kI (PC0.o.ext hx);replace PC1:=kI (PC1.o.ext hx);replace PCR:=kI (PCR.o.ext hx);replace PC:=kI (PC.o.ext hx);replace IN4:=kI (IN4.o.ext hx);replace N4:=kI (N4.o.ext hx);replace X:=kI (X.o.trans hx)
 have IN5:=kI bb0
 clear hx hw29 hs29 bb0
 refine (HnE.o w29 _ (rdI_blkS [0] 1 IN5.o rfl (by decide))).mono ?_
 rintro e w30 ⟨⟨v,rfl,ow⟩,hx⟩
 replace MA:=kI (MA.o.ext hx);replace IA:=kI (IA.o.ext hx);replace VA:=kI (VA.o.ext hx);replace R1:=kI (R1.o.ext hx);replace P1:=kI (P1.o.ext hx);replace MB:=kI (MB.o.ext hx);replace IB:=kI (IB.o.ext hx);replace VB:=kI (VB.o.ext hx);replace R2:=kI (R2.o.ext hx);replace MC:=kI (MC.o.ext hx);replace IC:=kI (IC.o.ext hx);replace VC:=kI (VC.o.ext hx);replace PA0:=kI (PA0.o.ext hx);replace PA1:=kI (PA1.o.ext hx);replace PAR:=kI (PAR.o.ext hx);replace PA:=kI (PA.o.ext hx);replace R3:=kI (R3.o.ext hx);replace MD:=kI (MD.o.ext hx);replace PB0:=kI (PB0.o.ext hx);replace PBR:=kI (PBR.o.ext hx);replace PB:=kI (PB.o.ext hx);replace R4:=kI (R4.o.ext hx);replace IN1:=kI (IN1.o.ext hx);replace N1:=kI (N1.o.ext hx);replace IN2:=kI (IN2.o.ext hx);replace N2:=kI (N2.o.ext hx);replace IN3:=kI (IN3.o.ext hx);replace N3:=kI (N3.o.ext hx);replace G1R:=kI (G1R.o.ext hx);replace G1:=kI (G1.o.ext hx);replace PC0:=kI (PC0.o.ext hx);replace PC1:=kI (PC1.o.ext hx);replace PCR:=kI (PCR.o.ext hx);replace PC:=kI (PC.o.ext hx);replace IN4:=kI (IN4.o.ext hx);replace N4:=kI (N4.o.ext hx);replace IN5:=kI (IN5.o.ext hx);replace X:=kI (X.o.trans hx)
 obtain ⟨N5a,N5c,rfl⟩:=ow.shape
 have N5:=kI ow.rd
 clear ow
 clear hx
 go_wp2_with fail
 obtain ⟨s31,hs31⟩:∃ n,n=w30.heap.size:=⟨_,rfl⟩
 rw [← hs31]
 obtain ⟨w31,hw31⟩:∃ W,W=(w30.alloc (.cells #[.slice N4a lD.length N4c,.slice N5a lE.length N5c] 29)):=⟨_,rfl⟩
 have hx:Ext w30 w31:=by rw [hw31];exact (Ext.refl _).alloc _
 have bb0:Blk w31 (s31) #[.slice N4a lD.length N4c,.slice N5a lE.length N5c] 29:=by
  have h:=(Blk.new w30 #[.slice N4a lD.length N4c,.slice N5a lE.length N5c] 29)
  rw [← hw31,← hs31] at h
  exact h
 rw [← hw31]
 replace MA:=kI (MA.o.ext hx);replace IA:=kI (IA.o.ext hx);replace VA:=kI (VA.o.ext hx);replace R1:=kI (R1.o.ext hx);replace P1:=kI (P1.o.ext hx);replace MB:=kI (MB.o.ext hx);replace IB:=kI (IB.o.ext hx);replace VB:=kI (VB.o.ext hx);replace R2:=kI (R2.o.ext hx);replace MC:=kI (MC.o.ext hx);replace IC:=kI (IC.o.ext hx);replace VC:=kI (VC.o.ext hx);replace PA0:=kI (PA0.o.ext hx);replace PA1:=kI (PA1.o.ext hx);replace PAR:=kI (PAR.o.ext hx);replace PA:=kI (PA.o.ext hx);replace R3:=kI (R3.o.ext hx);replace MD:=kI (MD.o.ext hx);replace PB0:=kI (PB0.o.ext hx);replace PBR:=kI (PBR.o.ext hx);replace PB:=kI (PB.o.ext hx);replace R4:=kI (R4.o.ext hx);replace IN1:=kI (IN1.o.ext hx);replace N1:=kI (N1.o.ext hx);replace IN2:=kI (IN2.o.ext hx);replace N2:=kI (N2.o.ext hx);replace IN3:=kI (IN3.o.ext hx);replace N3:=kI (N3.o.ext hx);replace G1R:=kI (G1R.o.ext hx);replace G1:=kI (G1.o.ext hx);replace PC0:=kI (PC0.o.ext hx);replace PC1:=kI (PC1.o.ext hx);replace PCR:=kI (PCR.o.ext hx);replace PC:=kI (PC.o.ext hx);replace IN4:=kI (IN4.o.ext hx);replace N4:=kI (N4.o.ext hx);replace IN5:=kI (IN5.o.ext hx);replace N5:=kI (N5.o.ext hx);replace X:=kI (X.o.trans hx)
 have G2R:=kI bb0
 clear hx hw31 hs31 bb0
 have G2:Hid (RdGR w31 (.slice (some ⟨s31,0,none⟩) 2 2) [lD,lE]):=kI (rdGR_blk _ 2 G2R.o rfl (by decide) (fun i hi=>by
  match i,hi with
  | 0,_=>exact ⟨_,_,rfl,N4.o⟩
  | 1,_=>exact ⟨_,_,rfl,N5.o⟩))
 refine (equalRatRowsT_any _ _ _ w31 R2.o G2.o).mono ?_
 rintro e w32 ⟨rfl,hx⟩
 replace MA:=kI (MA.o.ext hx);replace IA:=kI (IA.o.ext hx);replace VA:=kI (VA.o.ext hx);replace R1:=kI (R1.o.ext hx);replace P1:=kI (P1.o.ext hx);replace MB:=kI (MB.o.ext hx);replace IB:=kI (IB.o.ext hx);replace VB:=kI (VB.o.ext hx);replace R2:=kI (R2.o.ext hx);replace MC:=kI (MC.o.ext hx);replace IC:=kI (IC.o.ext hx);replace VC:=kI (VC.o.ext hx);replace PA0:=kI (PA0.o.ext hx);replace PA1:=kI (PA1.o.ext hx);replace PAR:=kI (PAR.o.ext hx);replace PA:=kI (PA.o.ext hx);replace R3:=kI (R3.o.ext hx);replace MD:=kI (MD.o.ext hx);replace PB0:=kI (PB0.o.ext hx);replace PBR:=kI (PBR.o.ext hx);replace PB:=kI (PB.o.ext hx);replace R4:=kI (R4.o.ext hx);replace IN1:=kI (IN1.o.ext hx);replace N1:=kI (N1.o.ext hx);replace IN2:=kI (IN2.o.ext hx);replace N2:=kI (N2.o.ext hx);replace IN3:=kI (IN3.o.ext hx);replace N3:=kI (N3.o.ext hx);replace G1R:=kI (G1R.o.ext hx);replace G1:=kI (G1.o.ext hx);replace PC0:=kI (PC0.o.ext hx);replace PC1:=kI (PC1.o.ext hx);replace PCR:=kI (PCR.o.ext hx);replace PC:=kI (PC.o.ext hx);replace IN4:=kI (IN4.o.ext hx);replace N4:=kI (N4.o.ext hx);replace IN5:=kI (IN5.o.ext hx);replace N5:=kI (N5.o.ext hx);replace G2R:=kI (G2R.o.ext hx);replace G2:=kI (G2.o.ext hx);replace X:=kI (X.o.trans hx)
 clear hx
 go_wp2_with fail
 obtain ⟨s33,hs33⟩:∃ n,n=w32.heap.size:=⟨_,rfl⟩
 rw [← hs33]
 obtain ⟨w33,hw33⟩:∃ W,W=(w32.alloc (.cells #[.int .i64 7,.int .i64 0] 3)):=⟨_,rfl⟩
 have hx:Ext w32 w33:=by rw [hw33];exact (Ext.refl _).alloc _
 have bb0:Blk w33 (s33) #[.int .i64 7,.int .i64 0] 3:=by
  have h:=(Blk.new w32 #[.int .i64 7,.int .i64 0] 3)
  rw [← hw33,← hs33] at h
  exact h
 rw [← hw33]
 replace MA:=kI (MA.o.ext hx);replace IA:=kI (IA.o.ext hx);replace VA:=kI (VA.o.ext hx);replace R1:=kI (R1.o.ext hx);replace P1:=kI (P1.o.ext hx);replace MB:=kI (MB.o.ext hx);replace IB:=kI (IB.o.ext hx);replace VB:=kI (VB.o.ext hx);replace R2:=kI (R2.o.ext hx);replace MC:=kI (MC.o.ext hx);replace IC:=kI (IC.o.ext hx);replace VC:=kI (VC.o.ext hx);replace PA0:=kI (PA0.o.ext hx);replace PA1:=kI (PA1.o.ext hx);replace PAR:=kI (PAR.o.ext hx);replace PA:=kI (PA.o.ext hx);replace R3:=kI (R3.o.ext hx);replace MD:=kI (MD.o.ext hx);replace PB0:=kI (PB0.o.ext hx);replace PBR:=kI (PBR.o.ext hx);replace PB:=kI (PB.o.ext hx);replace R4:=kI (R4.o.ext hx);replace IN1:=kI (IN1.o.ext hx);replace N1:=kI (N1.o.ext hx);replace IN2:=kI (IN2.o.ext hx);replace N2:=kI (N2.o.ext hx);replace IN3:=kI (IN3.o.ext hx);replace N3:=kI (N3.o.ext hx);replace G1R:=kI (G1R.o.ext hx);replace G1:=kI (G1.o.ext hx);replace PC0:=kI (PC0.o.ext hx);replace PC1:=kI (PC1.o.ext hx);replace PCR:=kI (PCR.o.ext hx);replace PC:=kI (PC.o.ext hx);replace IN4:=kI (IN4.o.ext hx);replace N4:=kI (N4.o.ext hx);replace IN5:=kI (IN5.o.ext hx);replace N5:=kI (N5.o.ext hx);replace G2R:=kI (G2R.o.ext hx);replace G2:=kI (G2.o.ext hx);replace X:=kI (X.o.trans hx)
 have IN6:=kI bb0
 clear hx hw33 hs33 bb0
 refine (HnC.o w33 _ (rdI_blkS [7,0] 2 IN6.o rfl (by decide))).mono ?_
 rintro e w34 ⟨⟨v,rfl,ow⟩,hx⟩
 replace MA:=kI (MA.o.ext hx);replace IA:=kI (IA.o.ext hx);replace VA:=kI (VA.o.ext hx);replace R1:=kI (R1.o.ext hx);replace P1:=kI (P1.o.ext hx);replace MB:=kI (MB.o.ext hx);replace IB:=kI (IB.o.ext hx);replace VB:=kI (VB.o.ext hx);replace R2:=kI (R2.o.ext hx);replace MC:=kI (MC.o.ext hx);replace IC:=kI (IC.o.ext hx);replace VC:=kI (VC.o.ext hx);replace PA0:=kI (PA0.o.ext hx);replace PA1:=kI (PA1.o.ext hx);replace PAR:=kI (PAR.o.ext hx);replace PA:=kI (PA.o.ext hx);replace R3:=kI (R3.o.ext hx);replace MD:=kI (MD.o.ext hx);replace PB0:=kI (PB0.o.ext hx);replace PBR:=kI (PBR.o.ext hx);replace PB:=kI (PB.o.ext hx);replace R4:=kI (R4.o.ext hx);replace IN1:=kI (IN1.o.ext hx);replace N1:=kI (N1.o.ext hx);replace IN2:=kI (IN2.o.ext hx);replace N2:=kI (N2.o.ext hx);replace IN3:=kI (IN3.o.ext hx);replace N3:=kI (N3.o.ext hx);replace G1R:=kI (G1R.o.ext hx);replace G1:=kI (G1.o.ext hx);replace PC0:=kI (PC0.o.ext hx);replace PC1:=kI (PC1.o.ext hx);replace PCR:=kI (PCR.o.ext hx);replace PC:=kI (PC.o.ext hx);replace IN4:=kI (IN4.o.ext hx);replace N4:=kI (N4.o.ext hx);replace IN5:=kI (IN5.o.ext hx);replace N5:=kI (N5.o.ext hx);replace G2R:=kI (G2R.o.ext hx);replace G2:=kI (G2.o.ext hx);replace IN6:=kI (IN6.o.ext hx);replace X:=kI (X.o.trans hx)
 obtain ⟨N6a,N6c,rfl⟩:=ow.shape
 have N6:=kI ow.rd
 clear ow
 clear hx
 go_wp2_with fail
 refine (equalRats_any _ _ lC lC w34 R3.o N6.o).mono ?_
 rintro e w35 ⟨rfl,hx⟩
 replace MA:=kI (MA.o.ext hx);replace IA:=kI (IA.o.ext hx);replace VA:=kI (VA.o.ext hx);replace R1:=kI (R1.o.ext hx);replace P1:=kI (P1.o.ext hx);replace MB:=kI (MB.o.ext hx);replace IB:=kI (IB.o.ext hx);replace VB:=kI (VB.o.ext hx);replace R2:=kI (R2.o.ext hx);replace MC:=kI (MC.o.ext hx);replace IC:=kI (IC.o.ext hx);replace VC:=kI (VC.o.ext hx);replace PA0:=kI (PA0.o.ext hx);replace PA1:=kI (PA1.o.ext hx);replace PAR:=kI (PAR.o.ext hx);replace PA:=kI (PA.o.ext hx);replace R3:=kI (R3.o.ext hx);replace MD:=kI (MD.o.ext hx);replace PB0:=kI (PB0.o.ext hx);replace PBR:=kI (PBR.o.ext hx);replace PB:=kI (PB.o.ext hx);replace R4:=kI (R4.o.ext hx);replace IN1:=kI (IN1.o.ext hx);replace N1:=kI (N1.o.ext hx);replace IN2:=kI (IN2.o.ext hx);replace N2:=kI (N2.o.ext hx);replace IN3:=kI (IN3.o.ext hx);replace N3:=kI (N3.o.ext hx);replace G1R:=kI (G1R.o.ext hx);replace G1:=kI (G1.o.ext hx);replace PC0:=kI (PC0.o.ext hx);replace PC1:=kI (PC1.o.ext hx);replace PCR:=kI (PCR.o.ext hx);replace PC:=kI (PC.o.ext hx);replace IN4:=kI (IN4.o.ext hx);replace N4:=kI (N4.o.ext hx);replace IN5:=kI (IN5.o.ext hx);replace N5:=kI (N5.o.ext hx);replace G2R:=kI (G2R.o.ext hx);replace G2:=kI (G2.o.ext hx);replace IN6:=kI (IN6.o.ext hx);replace N6:=kI (N6.o.ext hx);replace X:=kI (X.o.trans hx)
 clear hx
 simp only [decide_true]
 go_wp2_with fail
 obtain ⟨s36,hs36⟩:∃ n,n=w35.heap.size:=⟨_,rfl⟩
 rw [← hs36]
 obtain ⟨w36,hw36⟩:∃ W,W=(w35.alloc (.cells #[.int .i64 0,.int .i64 1] 3)):=⟨_,rfl⟩
 have hx:Ext w35 w36:=by rw [hw36];exact (Ext.refl _).alloc _
 have bb0:Blk w36 (s36) #[.int .i64 0,.int .i64 1] 3:=by
  have h:=(Blk.new w35 #[.int .i64 0,.int .i64 1] 3)
  rw [← hw36,← hs36] at h
  exact h
 rw [← hw36]
 replace MA:=kI (MA.o.ext hx);replace IA:=kI (IA.o.ext hx);replace VA:=kI (VA.o.ext hx);replace R1:=kI (R1.o.ext hx);replace P1:=kI (P1.o.ext hx);replace MB:=kI (MB.o.ext hx);replace IB:=kI (IB.o.ext hx);replace VB:=kI (VB.o.ext hx);replace R2:=kI (R2.o.ext hx);replace MC:=kI (MC.o.ext hx);replace IC:=kI (IC.o.ext hx);replace VC:=kI (VC.o.ext hx);replace PA0:=kI (PA0.o.ext hx);replace PA1:=kI (PA1.o.ext hx);replace PAR:=kI (PAR.o.ext hx);replace PA:=kI (PA.o.ext hx);replace R3:=kI (R3.o.ext hx);replace MD:=kI (MD.o.ext hx);replace PB0:=kI (PB0.o.ext hx);replace PBR:=kI (PBR.o.ext hx);replace PB:=kI (PB.o.ext hx);replace R4:=kI (R4.o.ext hx);replace IN1:=kI (IN1.o.ext hx);replace N1:=kI (N1.o.ext hx);replace IN2:=kI (IN2.o.ext hx);replace N2:=kI (N2.o.ext hx);replace IN3:=kI (IN3.o.ext hx);replace N3:=kI (N3.o.ext hx);replace G1R:=kI (G1R.o.ext hx);replace G1:=kI (G1.o.ext hx);replace PC0:=kI (PC0.o.ext hx);replace PC1:=kI (PC1.o.ext hx);replace PCR:=kI (PCR.o.ext hx);replace PC:=kI (PC.o.ext hx);replace IN4:=kI (IN4.o.ext hx);replace N4:=kI (N4.o.ext hx);replace IN5:=kI (IN5.o.ext hx);replace N5:=kI (N5.o.ext hx);replace G2R:=kI (G2R.o.ext hx);replace G2:=kI (G2.o.ext hx);replace IN6:=kI (IN6.o.ext hx);replace N6:=kI (N6.o.ext hx);replace X:=kI (X.o.trans hx)
 have IN7:=kI bb0
 clear hx hw36 hs36 bb0
 refine (HnF.o w36 _ (rdI_blkS [0,1] 2 IN7.o rfl (by decide))).mono ?_
 rintro e w37 ⟨⟨v,rfl,ow⟩,hx⟩
 replace MA:=kI (MA.o.ext hx);replace IA:=kI (IA.o.ext hx);replace VA:=kI (VA.o.ext hx);replace R1:=kI (R1.o.ext hx);replace P1:=kI (P1.o.ext hx);replace MB:=kI (MB.o.ext hx);replace IB:=kI (IB.o.ext hx);replace VB:=kI (VB.o.ext hx);replace R2:=kI (R2.o.ext hx);replace MC:=kI (MC.o.ext hx);replace IC:=kI (IC.o.ext hx);replace VC:=kI (VC.o.ext hx);replace PA0:=kI (PA0.o.ext hx);replace PA1:=kI (PA1.o.ext hx);replace PAR:=kI (PAR.o.ext hx);replace PA:=kI (PA.o.ext hx);replace R3:=kI (R3.o.ext hx);replace MD:=kI (MD.o.ext hx);replace PB0:=kI (PB0.o.ext hx);replace PBR:=kI (PBR.o.ext hx);replace PB:=kI (PB.o.ext hx);replace R4:=kI (R4.o.ext hx);replace IN1:=kI (IN1.o.ext hx);replace N1:=kI (N1.o.ext hx);replace IN2:=kI (IN2.o.ext hx);replace N2:=kI (N2.o.ext hx);replace IN3:=kI (IN3.o.ext hx);replace N3:=kI (N3.o.ext hx);replace G1R:=kI (G1R.o.ext hx);replace G1:=kI (G1.o.ext hx);replace PC0:=kI (PC0.o.ext hx);replace PC1:=kI (PC1.o.ext hx);replace PCR:=kI (PCR.o.ext hx);replace PC:=kI (PC.o.ext hx);replace IN4:=kI (IN4.o.ext hx);replace N4:=kI (N4.o.ext hx);replace IN5:=kI (IN5.o.ext hx);replace N5:=kI (N5.o.ext hx);replace G2R:=kI (G2R.o.ext hx);replace G2:=kI (G2.o.ext hx);replace IN6:=kI (IN6.o.ext hx);replace N6:=kI (N6.o.ext hx);replace IN7:=kI (IN7.o.ext hx);replace X:=kI (X.o.trans hx)
 obtain ⟨N7a,N7c,rfl⟩:=ow.shape
 have N7:=kI ow.rd
 clear ow
 clear hx
 go_wp2_with fail
 refine (equalRats_any _ _ lF lF w37 R4.o N7.o).mono ?_
 rintro e w38 ⟨rfl,hx⟩
 replace MA:=kI (MA.o.ext hx);replace IA:=kI (IA.o.ext hx);replace VA:=kI (VA.o.ext hx);replace R1:=kI (R1.o.ext hx);replace P1:=kI (P1.o.ext hx);replace MB:=kI (MB.o.ext hx);replace IB:=kI (IB.o.ext hx);replace VB:=kI (VB.o.ext hx);replace R2:=kI (R2.o.ext hx);replace MC:=kI (MC.o.ext hx);replace IC:=kI (IC.o.ext hx);replace VC:=kI (VC.o.ext hx);replace PA0:=kI (PA0.o.ext hx);replace PA1:=kI (PA1.o.ext hx);replace PAR:=kI (PAR.o.ext hx);replace PA:=kI (PA.o.ext hx);replace R3:=kI (R3.o.ext hx);replace MD:=kI (MD.o.ext hx);replace PB0:=kI (PB0.o.ext hx);replace PBR:=kI (PBR.o.ext hx);replace PB:=kI (PB.o.ext hx);replace R4:=kI (R4.o.ext hx);replace IN1:=kI (IN1.o.ext hx);replace N1:=kI (N1.o.ext hx);replace IN2:=kI (IN2.o.ext hx);replace N2:=kI (N2.o.ext hx);replace IN3:=kI (IN3.o.ext hx);replace N3:=kI (N3.o.ext hx);replace G1R:=kI (G1R.o.ext hx);replace G1:=kI (G1.o.ext hx);replace PC0:=kI (PC0.o.ext hx);replace PC1:=kI (PC1.o.ext hx);replace PCR:=kI (PCR.o.ext hx);replace PC:=kI (PC.o.ext hx);replace IN4:=kI (IN4.o.ext hx);replace N4:=kI (N4.o.ext hx);replace IN5:=kI (IN5.o.ext hx);replace N5:=kI (N5.o.ext hx);replace G2R:=kI (G2R.o.ext hx);replace G2:=kI (G2.o.ext hx);replace IN6:=kI (IN6.o.ext hx);replace N6:=kI (N6.o.ext hx);replace IN7:=kI (IN7.o.ext hx);replace N7:=kI (N7.o.ext hx);replace X:=kI (X.o.trans hx)
 clear hx
 simp only [decide_true]
 go_wp2_with fail
 go_ret
 exact ⟨rfl,X.o⟩
end Go.Proofs.Ytfflknbeidihoaa
