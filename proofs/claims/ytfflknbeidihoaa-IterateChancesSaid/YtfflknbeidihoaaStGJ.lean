/- Lemmas and walks of this claim. Conditions: as each states. -/
import Derived.Test.YtfflknbeidihoaaStGG
import Derived.Lib.Bytealg
import Derived.Lib.Strings
import Derived.Lib.IndexLaws
import Derived.Laws.Externs
set_option linter.unusedVariables false
set_option linter.unusedSimpArgs false
namespace Go.Proofs.Ytfflknbeidihoaa
open Go.RowKit
theorem chk_at {w:World} {v:Value} {r:RR} (h:RdR w v r) (hl:LimR r):∀ W,Ext w W→Calls Try.prog 52 #[v] W fun e w'=>e=.returned (.int .i64 (chkR r))∧Ext W w':=fun W x=>checkR_any v r W (h.ext x) hl
set_option maxHeartbeats 4000000 in
theorem operate_any (g:Nat) (eg:∀ args w,(callFunc g args).run Try.prog w=.ok (.enter g args) w) (va vb:Value) (ra rb:RR) (w:World) (ha:RdR w va ra) (hb:RdR w vb rb) (la:LimR ra) (lb:LimR rb) (T:Bool × Nat × Nat)
  (hT:chkR2 ra rb=0→T.2.2≠0∧(lim T.2.1).length≤512∧(lim T.2.2).length≤512)
  (hf:chkR2 ra rb=0→∀ W v1 v2,RdV W v1 ra.neg ra.num (dl ra.den)→RdV W v2 rb.neg rb.num (dl rb.den)→Calls Try.prog g #[v1,v2] W fun e w'=>(∃ v',e=.returned v'∧RdV w' v' T.1 (lim T.2.1) (lim T.2.2))∧Ext W w') :
  Calls Try.prog 37 #[va,vb,.func (.func g) #[] #[]] w fun e w'=>ResR w w' e (opR ra rb (fitR (vq T)))∧Ext w w':=by
 have HCA:=kI (chk_at ha la);have HCB:=kI (chk_at hb lb)
 have HA:=kI ha;have HB:=kI hb
 obtain ⟨a1,c1,a2,c2,rfl⟩:=ha.shape
 obtain ⟨a3,c3,a4,c4,rfl⟩:=hb.shape
 obtain ⟨s1,l1,l2⟩:=ra
 obtain ⟨s2,l3,l4⟩:=rb
 dsimp only at HCA HCB HA HB hf ⊢
 clear ha hb
 have HT:=kI hT;have HF:=kI hf
 clear hT hf
 have b0:=((Blk.new w #[.bool s1,.slice a1 l1.length c1,.slice a2 l2.length c2] 25).alloc (.cells #[.bool s2,.slice a3 l3.length c3,.slice a4 l4.length c4] 25)).alloc (.cells #[.bool false,.slice none 0 0,.slice none 0 0] 25)
 have b1:=(Blk.new (w.alloc (.cells #[.bool s1,.slice a1 l1.length c1,.slice a2 l2.length c2] 25)) #[.bool s2,.slice a3 l3.length c3,.slice a4 l4.length c4] 25).alloc (.cells #[.bool false,.slice none 0 0,.slice none 0 0] 25)
 have b2:=Blk.new ((w.alloc (.cells #[.bool s1,.slice a1 l1.length c1,.slice a2 l2.length c2] 25)).alloc (.cells #[.bool s2,.slice a3 l3.length c3,.slice a4 l4.length c4] 25)) #[.bool false,.slice none 0 0,.slice none 0 0] 25
 rw [World.size_alloc] at b1
 rw [World.size_alloc,World.size_alloc] at b2
 have x0:Ext w (((w.alloc (.cells #[.bool s1,.slice a1 l1.length c1,.slice a2 l2.length c2] 25)).alloc (.cells #[.bool s2,.slice a3 l3.length c3,.slice a4 l4.length c4] 25)).alloc (.cells #[.bool false,.slice none 0 0,.slice none 0 0] 25)):=(((Ext.refl w).alloc _).alloc _).alloc _
 have A0:=kI b0;have A1:=kI b1;have A2:=kI b2
 clear b0 b1 b2
 by_cases hc:chkR2 ⟨s1,l1,l2⟩ ⟨s2,l3,l4⟩=0
 ·have eo:opR ⟨s1,l1,l2⟩ ⟨s2,l3,l4⟩ (fitR (vq T))=fitR (vq T):=by unfold opR;rw [if_pos hc]
  rw [eo]
  obtain ⟨hca,hcb⟩:=chkR2_0 hc
  rw [hca] at HCA
  rw [hcb] at HCB
  have HC:=kI hc
  clear hc hca hcb eo
  go_enter Try.func37,Try.ntmps37
  go_wp2_with fail
  have hmx:Try.prog.follows .mixedOrders=true:=by kernel_rfl
  go_region_held3 (fun W=>(Blk W w.heap.size #[.bool s1,.slice a1 l1.length c1,.slice a2 l2.length c2] 25∧W.cell? ⟨w.heap.size,0,none⟩=some (.bool s1)∧W.cell? ⟨w.heap.size,1,none⟩=some (.slice a1 l1.length c1)∧W.cell? ⟨w.heap.size,2,none⟩=some (.slice a2 l2.length c2))∧(Blk W (w.heap.size+1) #[.bool s2,.slice a3 l3.length c3,.slice a4 l4.length c4] 25∧W.cell? ⟨w.heap.size+1,0,none⟩=some (.bool s2)∧W.cell? ⟨w.heap.size+1,1,none⟩=some (.slice a3 l3.length c3)∧W.cell? ⟨w.heap.size+1,2,none⟩=some (.slice a4 l4.length c4)))
   ((refine ⟨Blk.s3 ?_,Blk.s3 ?_⟩ <;> (repeat (first|exact A0.o|exact A1.o|exact k1|exact k2|exact k4|exact k5|exact k7|exact k8|refine Blk.setOther ?_ (by dsimp only;omega) _|refine Blk.alloc ?_ _|refine Blk.drew ?_))))
   (first|(go_at_call_of 52 (Value.slice a1 l1.length c1);refine (HCA.o _ (by (repeat (first|(with_reducible first|exact Ext.refl _|assumption|refine Ext.alloc ?_ _)|((with_reducible refine Ext.setp ?_ ?_);focus (dsimp only;omega))|(with_reducible first|refine Ext.drew ?_|refine Ext.drewN ?_ _|refine Ext.trans ?_ (by assumption)))))).mono ?_;rintro e W4 ⟨rfl,hx4⟩;have x4:=Ext.trans x0 (Ext.trans (by (repeat (first|(with_reducible first|exact Ext.refl _|assumption|refine Ext.alloc ?_ _)|((with_reducible refine Ext.setp ?_ ?_);focus (dsimp only;omega))|(with_reducible first|refine Ext.drew ?_|refine Ext.drewN ?_ _|refine Ext.trans ?_ (by assumption))))) hx4);have k1:=A0.o.ext (Ext.trans (by (repeat (first|(with_reducible first|exact Ext.refl _|assumption|refine Ext.alloc ?_ _)|((with_reducible refine Ext.setp ?_ ?_);focus (dsimp only;omega))|(with_reducible first|refine Ext.drew ?_|refine Ext.drewN ?_ _|refine Ext.trans ?_ (by assumption))))) hx4);have k2:=A1.o.ext (Ext.trans (by (repeat (first|(with_reducible first|exact Ext.refl _|assumption|refine Ext.alloc ?_ _)|((with_reducible refine Ext.setp ?_ ?_);focus (dsimp only;omega))|(with_reducible first|refine Ext.drew ?_|refine Ext.drewN ?_ _|refine Ext.trans ?_ (by assumption))))) hx4);have k3:=A2.o.ext (Ext.trans (by (repeat (first|(with_reducible first|exact Ext.refl _|assumption|refine Ext.alloc ?_ _)|((with_reducible refine Ext.setp ?_ ?_);focus (dsimp only;omega))|(with_reducible first|refine Ext.drew ?_|refine Ext.drewN ?_ _|refine Ext.trans ?_ (by assumption))))) hx4))|(go_at_call_of 52 (Value.slice a3 l3.length c3);refine (HCB.o _ (by (repeat (first|(with_reducible first|exact Ext.refl _|assumption|refine Ext.alloc ?_ _)|((with_reducible refine Ext.setp ?_ ?_);focus (dsimp only;omega))|(with_reducible first|refine Ext.drew ?_|refine Ext.drewN ?_ _|refine Ext.trans ?_ (by assumption)))))).mono ?_;rintro e W5 ⟨rfl,hx5⟩;have x5:=x4.trans hx5;have k4:=k1.ext hx5;have k5:=k2.ext hx5;have k6:=k3.ext hx5)|(go_at_call 56;refine (orE_any _ _ _ _ (Blk.new W5 _ _)).mono ?_;rintro e W6 ⟨rfl,hx6⟩;have x6:=(x5.alloc _).trans hx6;have k7:=(k4.alloc _).ext hx6;have k8:=(k5.alloc _).ext hx6;have k9:=(k6.alloc _).ext hx6))
  have G6:=kI k7;have H6:=kI k8;have R6:=kI k9;have X6:=kI x6
  clear k1 k2 k3 k4 k5 k6 k7 k8 k9 hx4 hx5 hx6 x4 x5 x6 A0 A1 A2 x0
  go_wp2_with fail
  have hlow:=fun W v (h:RdV W v T.1 (lim T.2.1) (lim T.2.2))=>low_any v T.1 (lim T.2.1) (lim T.2.2) W h (lim_lim _) (lim_lim _) (lim_noZ _) (lim_noZ _) (HT.o HC.o).2.1 (HT.o HC.o).2.2 (by rw [nv_lim];exact (HT.o HC.o).1)
  rw [nv_lim,nv_lim] at hlow
  have hlow1:∀ W v,RdV W v T.1 (lim T.2.1) (lim T.2.2)→Calls Try.prog 58 #[v] W fun e w'=>(∃ v',e=.returned v'∧NewR W w' v' (rep (vq T)))∧Ext W w':=hlow
  obtain ⟨RS,hRS⟩:∃ RS,RS=rep (vq T):=⟨_,rfl⟩
  rw [← hRS] at hlow1
  have hoa:=fun W (x:Ext w W)=>ofR_any _ _ W (HA.o.ext x)
  have hob:=fun W (x:Ext w W)=>ofR_any _ _ W (HB.o.ext x)
  dsimp only at hoa hob
  have HRS:=kI hRS;have HLOW:=kI hlow1;have HOA:=kI hoa;have HOB:=kI hob
  have x6:=X6.o;have g6:=G6.o;have h6:=H6.o;have r6:=R6.o
  have lt6:=r6.lt
  clear hlow hlow1 hRS hoa hob
  go_region_held3 (fun W=>(Blk W w.heap.size #[.bool s1,.slice a1 l1.length c1,.slice a2 l2.length c2] 25∧W.cell? ⟨w.heap.size,0,none⟩=some (.bool s1)∧W.cell? ⟨w.heap.size,1,none⟩=some (.slice a1 l1.length c1)∧W.cell? ⟨w.heap.size,2,none⟩=some (.slice a2 l2.length c2))∧(Blk W (w.heap.size+1) #[.bool s2,.slice a3 l3.length c3,.slice a4 l4.length c4] 25∧W.cell? ⟨w.heap.size+1,0,none⟩=some (.bool s2)∧W.cell? ⟨w.heap.size+1,1,none⟩=some (.slice a3 l3.length c3)∧W.cell? ⟨w.heap.size+1,2,none⟩=some (.slice a4 l4.length c4)))
   ((refine ⟨Blk.s3 ?_,Blk.s3 ?_⟩ <;> (repeat (first|exact g6|exact h6|exact g7|exact h7|exact g8|exact h8|exact g9|exact h9|exact g10|exact h10|refine Blk.setOther ?_ (by dsimp only;omega) _|refine Blk.alloc ?_ _|refine Blk.drew ?_))))
   (first
    | (go_at_call_of 57 (Value.slice a1 l1.length c1);refine (HOA.o _ (by (repeat (first|(with_reducible first|exact Ext.refl _|assumption|refine Ext.alloc ?_ _)|((with_reducible refine Ext.setp ?_ ?_);focus (dsimp only;omega))|(with_reducible first|refine Ext.drew ?_|refine Ext.drewN ?_ _|refine Ext.trans ?_ (by assumption)))))).mono ?_;rintro e W7 ⟨⟨v7,rfl,vn7,vd7,rfl,hn7,hd7⟩,hx7⟩;obtain ⟨p7,q7,rfl⟩:=rdU_shape hn7;obtain ⟨p8,q8,rfl⟩:=rdU_shape hd7;have e7:Ext W6 W7:=Ext.trans (by (repeat (first|(with_reducible first|exact Ext.refl _|assumption|refine Ext.alloc ?_ _)|((with_reducible refine Ext.setp ?_ ?_);focus (dsimp only;omega))|(with_reducible first|refine Ext.drew ?_|refine Ext.drewN ?_ _|refine Ext.trans ?_ (by assumption))))) hx7;have t7:=e7.size;have x7:=x6.trans e7;have g7:=g6.ext e7;have h7:=h6.ext e7;have r7:=r6.ext e7;skip;have HN7:=kI hn7;have HD7:=kI hd7;clear hn7 hd7)
    | (go_at_call_of 57 (Value.slice a3 l3.length c3);refine (HOB.o _ (by (repeat (first|(with_reducible first|exact Ext.refl _|assumption|refine Ext.alloc ?_ _)|((with_reducible refine Ext.setp ?_ ?_);focus (dsimp only;omega))|(with_reducible first|refine Ext.drew ?_|refine Ext.drewN ?_ _|refine Ext.trans ?_ (by assumption)))))).mono ?_;rintro e W8 ⟨⟨v8,rfl,vn8,vd8,rfl,hn8,hd8⟩,hx8⟩;obtain ⟨p9,q9,rfl⟩:=rdU_shape hn8;obtain ⟨p10,q10,rfl⟩:=rdU_shape hd8;have e8:Ext W7 W8:=Ext.trans (by (repeat (first|(with_reducible first|exact Ext.refl _|assumption|refine Ext.alloc ?_ _)|((with_reducible refine Ext.setp ?_ ?_);focus (dsimp only;omega))|(with_reducible first|refine Ext.drew ?_|refine Ext.drewN ?_ _|refine Ext.trans ?_ (by assumption))))) hx8;have t8:=e8.size;have x8:=x7.trans e8;have g8:=g7.ext e8;have h8:=h7.ext e8;have r8:=r7.ext e8;skip;have HN8:=kI hn8;have HD8:=kI hd8;have HN7':=kI (HN7.o.ext e8);have HD7':=kI (HD7.o.ext e8);clear hn8 hd8)
    | (go_at_fn g;refine (HF.o HC.o _ _ _ ⟨_,_,rfl,HN7'.out.ext (by (repeat (first|(with_reducible first|exact Ext.refl _|assumption|refine Ext.alloc ?_ _)|((with_reducible refine Ext.setp ?_ ?_);focus (dsimp only;omega))|(with_reducible first|refine Ext.drew ?_|refine Ext.drewN ?_ _|refine Ext.trans ?_ (by assumption))))),HD7'.out.ext (by (repeat (first|(with_reducible first|exact Ext.refl _|assumption|refine Ext.alloc ?_ _)|((with_reducible refine Ext.setp ?_ ?_);focus (dsimp only;omega))|(with_reducible first|refine Ext.drew ?_|refine Ext.drewN ?_ _|refine Ext.trans ?_ (by assumption)))))⟩ ⟨_,_,rfl,HN8.o.ext (by (repeat (first|(with_reducible first|exact Ext.refl _|assumption|refine Ext.alloc ?_ _)|((with_reducible refine Ext.setp ?_ ?_);focus (dsimp only;omega))|(with_reducible first|refine Ext.drew ?_|refine Ext.drewN ?_ _|refine Ext.trans ?_ (by assumption))))),HD8.o.ext (by (repeat (first|(with_reducible first|exact Ext.refl _|assumption|refine Ext.alloc ?_ _)|((with_reducible refine Ext.setp ?_ ?_);focus (dsimp only;omega))|(with_reducible first|refine Ext.drew ?_|refine Ext.drewN ?_ _|refine Ext.trans ?_ (by assumption)))))⟩).mono ?_;rintro e W9 ⟨⟨v9,rfl,vn9,vd9,rfl,hn9,hd9⟩,hx9⟩;obtain ⟨p11,q11,rfl⟩:=rdU_shape hn9;obtain ⟨p12,q12,rfl⟩:=rdU_shape hd9;have e9:Ext W8 W9:=Ext.trans (by (repeat (first|(with_reducible first|exact Ext.refl _|assumption|refine Ext.alloc ?_ _)|((with_reducible refine Ext.setp ?_ ?_);focus (dsimp only;omega))|(with_reducible first|refine Ext.drew ?_|refine Ext.drewN ?_ _|refine Ext.trans ?_ (by assumption))))) hx9;have t9:=e9.size;have x9:=x8.trans e9;have g9:=g8.ext e9;have h9:=h8.ext e9;have r9:=r8.ext e9;skip;have HN9:=kI hn9;have HD9:=kI hd9;clear hn9 hd9)
    | (go_at_call 58;refine (HLOW.o _ _ ⟨_,_,rfl,HN9.o.ext (by (repeat (first|(with_reducible first|exact Ext.refl _|assumption|refine Ext.alloc ?_ _)|((with_reducible refine Ext.setp ?_ ?_);focus (dsimp only;omega))|(with_reducible first|refine Ext.drew ?_|refine Ext.drewN ?_ _|refine Ext.trans ?_ (by assumption))))),HD9.o.ext (by (repeat (first|(with_reducible first|exact Ext.refl _|assumption|refine Ext.alloc ?_ _)|((with_reducible refine Ext.setp ?_ ?_);focus (dsimp only;omega))|(with_reducible first|refine Ext.drew ?_|refine Ext.drewN ?_ _|refine Ext.trans ?_ (by assumption)))))⟩).mono ?_;rintro e W10 ⟨⟨v10,rfl,n10⟩,hx10⟩;obtain ⟨p13,q13,p14,q14,rfl⟩:=n10.shape;have e10:Ext W9 W10:=Ext.trans (by (repeat (first|(with_reducible first|exact Ext.refl _|assumption|refine Ext.alloc ?_ _)|((with_reducible refine Ext.setp ?_ ?_);focus (dsimp only;omega))|(with_reducible first|refine Ext.drew ?_|refine Ext.drewN ?_ _|refine Ext.trans ?_ (by assumption))))) hx10;have t10:=e10.size;have x10:=x9.trans e10;have g10:=g9.ext e10;have h10:=h9.ext e10;have r10:=r9.ext e10;have y9:=hx10;have y8:=hx9.trans e10;have y7:=hx8.trans (e9.trans e10);have y6:=hx7.trans (e8.trans (e9.trans e10));have q6:=fun h=>(y6.block_at (b:=W6.heap.size) h).1;have f6:=fun h=>(y6.block_at (b:=W6.heap.size) h).2;have u6:=fun (h:W6.heap.size < _)=>Nat.lt_of_lt_of_le h y6.size;(try simp only [World.size_alloc,World.size_drew,Nat.lt_add_one,Nat.lt_irrefl,true_implies,false_implies,forall_const] at q6 f6 u6);have q7:=fun h=>(y7.block_at (b:=W7.heap.size) h).1;have f7:=fun h=>(y7.block_at (b:=W7.heap.size) h).2;have u7:=fun (h:W7.heap.size < _)=>Nat.lt_of_lt_of_le h y7.size;(try simp only [World.size_alloc,World.size_drew,Nat.lt_add_one,Nat.lt_irrefl,true_implies,false_implies,forall_const] at q7 f7 u7);have q8:=fun h=>(y8.block_at (b:=W8.heap.size) h).1;have f8:=fun h=>(y8.block_at (b:=W8.heap.size) h).2;have u8:=fun (h:W8.heap.size < _)=>Nat.lt_of_lt_of_le h y8.size;(try simp only [World.size_alloc,World.size_drew,Nat.lt_add_one,Nat.lt_irrefl,true_implies,false_implies,forall_const] at q8 f8 u8);have q9:=fun h=>(y9.block_at (b:=W9.heap.size) h).1;have f9:=fun h=>(y9.block_at (b:=W9.heap.size) h).2;have u9:=fun (h:W9.heap.size < _)=>Nat.lt_of_lt_of_le h y9.size;(try simp only [World.size_alloc,World.size_drew,Nat.lt_add_one,Nat.lt_irrefl,true_implies,false_implies,forall_const] at q9 f9 u9);have N10:=kI (n10.from (x9.trans (by (repeat (first|(with_reducible first|exact Ext.refl _|assumption|refine Ext.alloc ?_ _)|((with_reducible refine Ext.setp ?_ ?_);focus (dsimp only;omega))|(with_reducible first|refine Ext.drew ?_|refine Ext.drewN ?_ _|refine Ext.trans ?_ (by assumption)))))));clear n10))
  ·have B11:Hid (Blk (W10.alloc (.cells #[.bool RS.neg,.slice p13 RS.num.length q13,.slice p14 RS.den.length q14] 25)) W10.heap.size #[.bool RS.neg,.slice p13 RS.num.length q13,.slice p14 RS.den.length q14] 25):=kI (Blk.new _ _ _)
   have R11:=kI (r10.alloc (.cells #[.bool RS.neg,.slice p13 RS.num.length q13,.slice p14 RS.den.length q14] 25))
   have X11:=kI (x10.alloc (.cells #[.bool RS.neg,.slice p13 RS.num.length q13,.slice p14 RS.den.length q14] 25))
   have N11:=kI (N10.o.ext ((Ext.refl W10).alloc (.cells #[.bool RS.neg,.slice p13 RS.num.length q13,.slice p14 RS.den.length q14] 25)))
   obtain ⟨bx,hbx⟩:∃ bx,bx=W10.heap.size:=⟨_,rfl⟩
   obtain ⟨w11,hw⟩:∃ w11,w11=W10.alloc (.cells #[.bool RS.neg,.slice p13 RS.num.length q13,.slice p14 RS.den.length q14] 25):=⟨_,rfl⟩
   rw [← hbx] at B11 ⊢
   rw [← hw] at B11 R11 X11 N11 ⊢
   have hlt:w.heap.size+1+1 < bx:=by omega
   clear hw hbx
   clear hx7 hx8 hx9 hx10 y6 y7 y8 y9 g6 g7 g8 g9 g10 h6 h7 h8 h9 h10 r6 r7 r8 r9 r10 N10
   have b11:=B11.o.cell;have fb11:=B11.o.free;have lb11:=B11.o.lt;have r11:=R11.o.cell;have fr11:=R11.o.free;have lr11:=R11.o.lt
   by_cases h1:128 < RS.num.length
   ·have q1:(128:Int) < (RS.num.length:Int):=by omega
    have E:=kI (fitR_long (q:=vq T) (fun h=>by have:=h.1;rw [← HRS.o] at this;omega))
    clear h1
    go_wp2_with fail
    refine bodyPost_ret (v:=.tuple #[.agg #[.bool false,.slice none 0 0,.slice none 0 0],.int .i64 4]) (by simp only [results,Try.results37];go_simp) rfl ⟨ResR.mk (NewR.zero _ _) E.o,?_⟩
    have:=X11.o;(repeat (first|(with_reducible first|exact Ext.refl _|assumption|refine Ext.alloc ?_ _)|((with_reducible refine Ext.setp ?_ ?_);focus (dsimp only;omega))|(with_reducible first|refine Ext.drew ?_|refine Ext.drewN ?_ _|refine Ext.trans ?_ (by assumption))))
   ·have q1:¬ (128:Int) < (RS.num.length:Int):=by omega
    by_cases h2:128 < RS.den.length
    ·have q2:(128:Int) < (RS.den.length:Int):=by omega
     have E:=kI (fitR_long (q:=vq T) (fun h=>by have:=h.2;rw [← HRS.o] at this;omega))
     clear h1 h2
     go_wp2_with fail
     refine bodyPost_ret (v:=.tuple #[.agg #[.bool false,.slice none 0 0,.slice none 0 0],.int .i64 4]) (by simp only [results,Try.results37];go_simp) rfl ⟨ResR.mk (NewR.zero _ _) E.o,?_⟩
     have:=X11.o;(repeat (first|(with_reducible first|exact Ext.refl _|assumption|refine Ext.alloc ?_ _)|((with_reducible refine Ext.setp ?_ ?_);focus (dsimp only;omega))|(with_reducible first|refine Ext.drew ?_|refine Ext.drewN ?_ _|refine Ext.trans ?_ (by assumption))))
    ·have q2:¬ (128:Int) < (RS.den.length:Int):=by omega
     have E:=kI (fitR_ok (q:=vq T) (by unfold small;rw [← HRS.o];omega))
     clear h1 h2
     go_wp2_with fail
     refine bodyPost_ret (v:=.tuple #[.agg #[.bool RS.neg,.slice p13 RS.num.length q13,.slice p14 RS.den.length q14],.int .i64 0]) (by simp only [results,Try.results37];go_simp) rfl ⟨ResR.mk (NewR.set3 N11.o R11.o (by decide) _ _ _) (E.o.trans (by rw [← HRS.o])),?_⟩
     have:=X11.o;(repeat (first|(with_reducible first|exact Ext.refl _|assumption|refine Ext.alloc ?_ _)|((with_reducible refine Ext.setp ?_ ?_);focus (dsimp only;omega))|(with_reducible first|refine Ext.drew ?_|refine Ext.drewN ?_ _|refine Ext.trans ?_ (by assumption))))
  ·have hB:=((Blk.new W9 #[.bool false,.slice none 0 0,.slice none 0 0] 25)).ext y9
   have B11:Hid (Blk (((W10.setCell ⟨W9.heap.size,0,none⟩ (.bool RS.neg)).setCell ⟨W9.heap.size,1,none⟩ (.slice p13 RS.num.length q13)).setCell ⟨W9.heap.size,2,none⟩ (.slice p14 RS.den.length q14)) W9.heap.size #[.bool RS.neg,.slice p13 RS.num.length q13,.slice p14 RS.den.length q14] 25):=by
    have h2:=((hB.set 0 (.bool RS.neg)).set 1 (.slice p13 RS.num.length q13)).set 2 (.slice p14 RS.den.length q14)
    exact kI (by simpa using h2)
   have R11:=kI (((r10.setOther (a:=⟨W9.heap.size,0,none⟩) (by dsimp only;omega) (.bool RS.neg)).setOther (a:=⟨W9.heap.size,1,none⟩) (by dsimp only;omega) (.slice p13 RS.num.length q13)).setOther (a:=⟨W9.heap.size,2,none⟩) (by dsimp only;omega) (.slice p14 RS.den.length q14))
   have X11:=kI (((x10.set (p:=⟨W9.heap.size,0,none⟩) (by dsimp only;omega) (.bool RS.neg)).set (p:=⟨W9.heap.size,1,none⟩) (by dsimp only;omega) (.slice p13 RS.num.length q13)).set (p:=⟨W9.heap.size,2,none⟩) (by dsimp only;omega) (.slice p14 RS.den.length q14))
   have N11:=kI (NewR.set3 N10.o hB (by decide) (.bool RS.neg) (.slice p13 RS.num.length q13) (.slice p14 RS.den.length q14))
   obtain ⟨w11,hw⟩:∃ w11,w11=((W10.setCell ⟨W9.heap.size,0,none⟩ (.bool RS.neg)).setCell ⟨W9.heap.size,1,none⟩ (.slice p13 RS.num.length q13)).setCell ⟨W9.heap.size,2,none⟩ (.slice p14 RS.den.length q14):=⟨_,rfl⟩
   rw [← hw] at B11 R11 X11 N11 ⊢
   obtain ⟨bx,hbx⟩:∃ bx,bx=W9.heap.size:=⟨_,rfl⟩
   have hlt:w.heap.size+1+1 < bx:=by omega
   rw [← hbx] at B11 ⊢
   clear hw hbx hB
   clear hx7 hx8 hx9 hx10 y6 y7 y8 y9 g6 g7 g8 g9 g10 h6 h7 h8 h9 h10 r6 r7 r8 r9 r10 N10
   have b11:=B11.o.cell;have fb11:=B11.o.free;have lb11:=B11.o.lt;have r11:=R11.o.cell;have fr11:=R11.o.free;have lr11:=R11.o.lt
   by_cases h1:128 < RS.num.length
   ·have q1:(128:Int) < (RS.num.length:Int):=by omega
    have E:=kI (fitR_long (q:=vq T) (fun h=>by have:=h.1;rw [← HRS.o] at this;omega))
    clear h1
    go_wp2_with fail
    refine bodyPost_ret (v:=.tuple #[.agg #[.bool false,.slice none 0 0,.slice none 0 0],.int .i64 4]) (by simp only [results,Try.results37];go_simp) rfl ⟨ResR.mk (NewR.zero _ _) E.o,?_⟩
    have:=X11.o;(repeat (first|(with_reducible first|exact Ext.refl _|assumption|refine Ext.alloc ?_ _)|((with_reducible refine Ext.setp ?_ ?_);focus (dsimp only;omega))|(with_reducible first|refine Ext.drew ?_|refine Ext.drewN ?_ _|refine Ext.trans ?_ (by assumption))))
   ·have q1:¬ (128:Int) < (RS.num.length:Int):=by omega
    by_cases h2:128 < RS.den.length
    ·have q2:(128:Int) < (RS.den.length:Int):=by omega
     have E:=kI (fitR_long (q:=vq T) (fun h=>by have:=h.2;rw [← HRS.o] at this;omega))
     clear h1 h2
     go_wp2_with fail
     refine bodyPost_ret (v:=.tuple #[.agg #[.bool false,.slice none 0 0,.slice none 0 0],.int .i64 4]) (by simp only [results,Try.results37];go_simp) rfl ⟨ResR.mk (NewR.zero _ _) E.o,?_⟩
     have:=X11.o;(repeat (first|(with_reducible first|exact Ext.refl _|assumption|refine Ext.alloc ?_ _)|((with_reducible refine Ext.setp ?_ ?_);focus (dsimp only;omega))|(with_reducible first|refine Ext.drew ?_|refine Ext.drewN ?_ _|refine Ext.trans ?_ (by assumption))))
    ·have q2:¬ (128:Int) < (RS.den.length:Int):=by omega
     have E:=kI (fitR_ok (q:=vq T) (by unfold small;rw [← HRS.o];omega))
     clear h1 h2
     go_wp2_with fail
     refine bodyPost_ret (v:=.tuple #[.agg #[.bool RS.neg,.slice p13 RS.num.length q13,.slice p14 RS.den.length q14],.int .i64 0]) (by simp only [results,Try.results37];go_simp) rfl ⟨ResR.mk (NewR.set3 N11.o R11.o (by decide) _ _ _) (E.o.trans (by rw [← HRS.o])),?_⟩
     have:=X11.o;(repeat (first|(with_reducible first|exact Ext.refl _|assumption|refine Ext.alloc ?_ _)|((with_reducible refine Ext.setp ?_ ?_);focus (dsimp only;omega))|(with_reducible first|refine Ext.drew ?_|refine Ext.drewN ?_ _|refine Ext.trans ?_ (by assumption))))
  ·have hB:=((Blk.new W8 #[.bool false,.slice none 0 0,.slice none 0 0] 25)).ext y8
   have B11:Hid (Blk (((W10.setCell ⟨W8.heap.size,0,none⟩ (.bool RS.neg)).setCell ⟨W8.heap.size,1,none⟩ (.slice p13 RS.num.length q13)).setCell ⟨W8.heap.size,2,none⟩ (.slice p14 RS.den.length q14)) W8.heap.size #[.bool RS.neg,.slice p13 RS.num.length q13,.slice p14 RS.den.length q14] 25):=by
    have h2:=((hB.set 0 (.bool RS.neg)).set 1 (.slice p13 RS.num.length q13)).set 2 (.slice p14 RS.den.length q14)
    exact kI (by simpa using h2)
   have R11:=kI (((r10.setOther (a:=⟨W8.heap.size,0,none⟩) (by dsimp only;omega) (.bool RS.neg)).setOther (a:=⟨W8.heap.size,1,none⟩) (by dsimp only;omega) (.slice p13 RS.num.length q13)).setOther (a:=⟨W8.heap.size,2,none⟩) (by dsimp only;omega) (.slice p14 RS.den.length q14))
   have X11:=kI (((x10.set (p:=⟨W8.heap.size,0,none⟩) (by dsimp only;omega) (.bool RS.neg)).set (p:=⟨W8.heap.size,1,none⟩) (by dsimp only;omega) (.slice p13 RS.num.length q13)).set (p:=⟨W8.heap.size,2,none⟩) (by dsimp only;omega) (.slice p14 RS.den.length q14))
   have N11:=kI (NewR.set3 N10.o hB (by decide) (.bool RS.neg) (.slice p13 RS.num.length q13) (.slice p14 RS.den.length q14))
   obtain ⟨w11,hw⟩:∃ w11,w11=((W10.setCell ⟨W8.heap.size,0,none⟩ (.bool RS.neg)).setCell ⟨W8.heap.size,1,none⟩ (.slice p13 RS.num.length q13)).setCell ⟨W8.heap.size,2,none⟩ (.slice p14 RS.den.length q14):=⟨_,rfl⟩
   rw [← hw] at B11 R11 X11 N11 ⊢
   obtain ⟨bx,hbx⟩:∃ bx,bx=W8.heap.size:=⟨_,rfl⟩
   have hlt:w.heap.size+1+1 < bx:=by omega
   rw [← hbx] at B11 ⊢
   clear hw hbx hB
   clear hx7 hx8 hx9 hx10 y6 y7 y8 y9 g6 g7 g8 g9 g10 h6 h7 h8 h9 h10 r6 r7 r8 r9 r10 N10
   have b11:=B11.o.cell;have fb11:=B11.o.free;have lb11:=B11.o.lt;have r11:=R11.o.cell;have fr11:=R11.o.free;have lr11:=R11.o.lt
   by_cases h1:128 < RS.num.length
   ·have q1:(128:Int) < (RS.num.length:Int):=by omega
    have E:=kI (fitR_long (q:=vq T) (fun h=>by have:=h.1;rw [← HRS.o] at this;omega))
    clear h1
    go_wp2_with fail
    refine bodyPost_ret (v:=.tuple #[.agg #[.bool false,.slice none 0 0,.slice none 0 0],.int .i64 4]) (by simp only [results,Try.results37];go_simp) rfl ⟨ResR.mk (NewR.zero _ _) E.o,?_⟩
    have:=X11.o;(repeat (first|(with_reducible first|exact Ext.refl _|assumption|refine Ext.alloc ?_ _)|((with_reducible refine Ext.setp ?_ ?_);focus (dsimp only;omega))|(with_reducible first|refine Ext.drew ?_|refine Ext.drewN ?_ _|refine Ext.trans ?_ (by assumption))))
   ·have q1:¬ (128:Int) < (RS.num.length:Int):=by omega
    by_cases h2:128 < RS.den.length
    ·have q2:(128:Int) < (RS.den.length:Int):=by omega
     have E:=kI (fitR_long (q:=vq T) (fun h=>by have:=h.2;rw [← HRS.o] at this;omega))
     clear h1 h2
     go_wp2_with fail
     refine bodyPost_ret (v:=.tuple #[.agg #[.bool false,.slice none 0 0,.slice none 0 0],.int .i64 4]) (by simp only [results,Try.results37];go_simp) rfl ⟨ResR.mk (NewR.zero _ _) E.o,?_⟩
     have:=X11.o;(repeat (first|(with_reducible first|exact Ext.refl _|assumption|refine Ext.alloc ?_ _)|((with_reducible refine Ext.setp ?_ ?_);focus (dsimp only;omega))|(with_reducible first|refine Ext.drew ?_|refine Ext.drewN ?_ _|refine Ext.trans ?_ (by assumption))))
    ·have q2:¬ (128:Int) < (RS.den.length:Int):=by omega
     have E:=kI (fitR_ok (q:=vq T) (by unfold small;rw [← HRS.o];omega))
     clear h1 h2
     go_wp2_with fail
     refine bodyPost_ret (v:=.tuple #[.agg #[.bool RS.neg,.slice p13 RS.num.length q13,.slice p14 RS.den.length q14],.int .i64 0]) (by simp only [results,Try.results37];go_simp) rfl ⟨ResR.mk (NewR.set3 N11.o R11.o (by decide) _ _ _) (E.o.trans (by rw [← HRS.o])),?_⟩
     have:=X11.o;(repeat (first|(with_reducible first|exact Ext.refl _|assumption|refine Ext.alloc ?_ _)|((with_reducible refine Ext.setp ?_ ?_);focus (dsimp only;omega))|(with_reducible first|refine Ext.drew ?_|refine Ext.drewN ?_ _|refine Ext.trans ?_ (by assumption))))
  ·have hB:=((Blk.new W7 #[.bool false,.slice none 0 0,.slice none 0 0] 25)).ext y7
   have B11:Hid (Blk (((W10.setCell ⟨W7.heap.size,0,none⟩ (.bool RS.neg)).setCell ⟨W7.heap.size,1,none⟩ (.slice p13 RS.num.length q13)).setCell ⟨W7.heap.size,2,none⟩ (.slice p14 RS.den.length q14)) W7.heap.size #[.bool RS.neg,.slice p13 RS.num.length q13,.slice p14 RS.den.length q14] 25):=by
    have h2:=((hB.set 0 (.bool RS.neg)).set 1 (.slice p13 RS.num.length q13)).set 2 (.slice p14 RS.den.length q14)
    exact kI (by simpa using h2)
   have R11:=kI (((r10.setOther (a:=⟨W7.heap.size,0,none⟩) (by dsimp only;omega) (.bool RS.neg)).setOther (a:=⟨W7.heap.size,1,none⟩) (by dsimp only;omega) (.slice p13 RS.num.length q13)).setOther (a:=⟨W7.heap.size,2,none⟩) (by dsimp only;omega) (.slice p14 RS.den.length q14))
   have X11:=kI (((x10.set (p:=⟨W7.heap.size,0,none⟩) (by dsimp only;omega) (.bool RS.neg)).set (p:=⟨W7.heap.size,1,none⟩) (by dsimp only;omega) (.slice p13 RS.num.length q13)).set (p:=⟨W7.heap.size,2,none⟩) (by dsimp only;omega) (.slice p14 RS.den.length q14))
   have N11:=kI (NewR.set3 N10.o hB (by decide) (.bool RS.neg) (.slice p13 RS.num.length q13) (.slice p14 RS.den.length q14))
   obtain ⟨w11,hw⟩:∃ w11,w11=((W10.setCell ⟨W7.heap.size,0,none⟩ (.bool RS.neg)).setCell ⟨W7.heap.size,1,none⟩ (.slice p13 RS.num.length q13)).setCell ⟨W7.heap.size,2,none⟩ (.slice p14 RS.den.length q14):=⟨_,rfl⟩
   rw [← hw] at B11 R11 X11 N11 ⊢
   obtain ⟨bx,hbx⟩:∃ bx,bx=W7.heap.size:=⟨_,rfl⟩
   have hlt:w.heap.size+1+1 < bx:=by omega
   rw [← hbx] at B11 ⊢
   clear hw hbx hB
   clear hx7 hx8 hx9 hx10 y6 y7 y8 y9 g6 g7 g8 g9 g10 h6 h7 h8 h9 h10 r6 r7 r8 r9 r10 N10
   have b11:=B11.o.cell;have fb11:=B11.o.free;have lb11:=B11.o.lt;have r11:=R11.o.cell;have fr11:=R11.o.free;have lr11:=R11.o.lt
   by_cases h1:128 < RS.num.length
   ·have q1:(128:Int) < (RS.num.length:Int):=by omega
    have E:=kI (fitR_long (q:=vq T) (fun h=>by have:=h.1;rw [← HRS.o] at this;omega))
    clear h1
    go_wp2_with fail
    refine bodyPost_ret (v:=.tuple #[.agg #[.bool false,.slice none 0 0,.slice none 0 0],.int .i64 4]) (by simp only [results,Try.results37];go_simp) rfl ⟨ResR.mk (NewR.zero _ _) E.o,?_⟩
    have:=X11.o;(repeat (first|(with_reducible first|exact Ext.refl _|assumption|refine Ext.alloc ?_ _)|((with_reducible refine Ext.setp ?_ ?_);focus (dsimp only;omega))|(with_reducible first|refine Ext.drew ?_|refine Ext.drewN ?_ _|refine Ext.trans ?_ (by assumption))))
   ·have q1:¬ (128:Int) < (RS.num.length:Int):=by omega
    by_cases h2:128 < RS.den.length
    ·have q2:(128:Int) < (RS.den.length:Int):=by omega
     have E:=kI (fitR_long (q:=vq T) (fun h=>by have:=h.2;rw [← HRS.o] at this;omega))
     clear h1 h2
     go_wp2_with fail
     refine bodyPost_ret (v:=.tuple #[.agg #[.bool false,.slice none 0 0,.slice none 0 0],.int .i64 4]) (by simp only [results,Try.results37];go_simp) rfl ⟨ResR.mk (NewR.zero _ _) E.o,?_⟩
     have:=X11.o;(repeat (first|(with_reducible first|exact Ext.refl _|assumption|refine Ext.alloc ?_ _)|((with_reducible refine Ext.setp ?_ ?_);focus (dsimp only;omega))|(with_reducible first|refine Ext.drew ?_|refine Ext.drewN ?_ _|refine Ext.trans ?_ (by assumption))))
    ·have q2:¬ (128:Int) < (RS.den.length:Int):=by omega
     have E:=kI (fitR_ok (q:=vq T) (by unfold small;rw [← HRS.o];omega))
     clear h1 h2
     go_wp2_with fail
     refine bodyPost_ret (v:=.tuple #[.agg #[.bool RS.neg,.slice p13 RS.num.length q13,.slice p14 RS.den.length q14],.int .i64 0]) (by simp only [results,Try.results37];go_simp) rfl ⟨ResR.mk (NewR.set3 N11.o R11.o (by decide) _ _ _) (E.o.trans (by rw [← HRS.o])),?_⟩
     have:=X11.o;(repeat (first|(with_reducible first|exact Ext.refl _|assumption|refine Ext.alloc ?_ _)|((with_reducible refine Ext.setp ?_ ?_);focus (dsimp only;omega))|(with_reducible first|refine Ext.drew ?_|refine Ext.drewN ?_ _|refine Ext.trans ?_ (by assumption))))
  ·have hB:=((Blk.new W6 #[.bool false,.slice none 0 0,.slice none 0 0] 25).drew).ext y6
   have B11:Hid (Blk (((W10.setCell ⟨W6.heap.size,0,none⟩ (.bool RS.neg)).setCell ⟨W6.heap.size,1,none⟩ (.slice p13 RS.num.length q13)).setCell ⟨W6.heap.size,2,none⟩ (.slice p14 RS.den.length q14)) W6.heap.size #[.bool RS.neg,.slice p13 RS.num.length q13,.slice p14 RS.den.length q14] 25):=by
    have h2:=((hB.set 0 (.bool RS.neg)).set 1 (.slice p13 RS.num.length q13)).set 2 (.slice p14 RS.den.length q14)
    exact kI (by simpa using h2)
   have R11:=kI (((r10.setOther (a:=⟨W6.heap.size,0,none⟩) (by dsimp only;omega) (.bool RS.neg)).setOther (a:=⟨W6.heap.size,1,none⟩) (by dsimp only;omega) (.slice p13 RS.num.length q13)).setOther (a:=⟨W6.heap.size,2,none⟩) (by dsimp only;omega) (.slice p14 RS.den.length q14))
   have X11:=kI (((x10.set (p:=⟨W6.heap.size,0,none⟩) (by dsimp only;omega) (.bool RS.neg)).set (p:=⟨W6.heap.size,1,none⟩) (by dsimp only;omega) (.slice p13 RS.num.length q13)).set (p:=⟨W6.heap.size,2,none⟩) (by dsimp only;omega) (.slice p14 RS.den.length q14))
   have N11:=kI (NewR.set3 N10.o hB (by decide) (.bool RS.neg) (.slice p13 RS.num.length q13) (.slice p14 RS.den.length q14))
   obtain ⟨w11,hw⟩:∃ w11,w11=((W10.setCell ⟨W6.heap.size,0,none⟩ (.bool RS.neg)).setCell ⟨W6.heap.size,1,none⟩ (.slice p13 RS.num.length q13)).setCell ⟨W6.heap.size,2,none⟩ (.slice p14 RS.den.length q14):=⟨_,rfl⟩
   rw [← hw] at B11 R11 X11 N11 ⊢
   obtain ⟨bx,hbx⟩:∃ bx,bx=W6.heap.size:=⟨_,rfl⟩
   have hlt:w.heap.size+1+1 < bx:=by omega
   rw [← hbx] at B11 ⊢
   clear hw hbx hB
   clear hx7 hx8 hx9 hx10 y6 y7 y8 y9 g6 g7 g8 g9 g10 h6 h7 h8 h9 h10 r6 r7 r8 r9 r10 N10
   have b11:=B11.o.cell;have fb11:=B11.o.free;have lb11:=B11.o.lt;have r11:=R11.o.cell;have fr11:=R11.o.free;have lr11:=R11.o.lt
   by_cases h1:128 < RS.num.length
   ·have q1:(128:Int) < (RS.num.length:Int):=by omega
    have E:=kI (fitR_long (q:=vq T) (fun h=>by have:=h.1;rw [← HRS.o] at this;omega))
    clear h1
    go_wp2_with fail
    refine bodyPost_ret (v:=.tuple #[.agg #[.bool false,.slice none 0 0,.slice none 0 0],.int .i64 4]) (by simp only [results,Try.results37];go_simp) rfl ⟨ResR.mk (NewR.zero _ _) E.o,?_⟩
    have:=X11.o;(repeat (first|(with_reducible first|exact Ext.refl _|assumption|refine Ext.alloc ?_ _)|((with_reducible refine Ext.setp ?_ ?_);focus (dsimp only;omega))|(with_reducible first|refine Ext.drew ?_|refine Ext.drewN ?_ _|refine Ext.trans ?_ (by assumption))))
   ·have q1:¬ (128:Int) < (RS.num.length:Int):=by omega
    by_cases h2:128 < RS.den.length
    ·have q2:(128:Int) < (RS.den.length:Int):=by omega
     have E:=kI (fitR_long (q:=vq T) (fun h=>by have:=h.2;rw [← HRS.o] at this;omega))
     clear h1 h2
     go_wp2_with fail
     refine bodyPost_ret (v:=.tuple #[.agg #[.bool false,.slice none 0 0,.slice none 0 0],.int .i64 4]) (by simp only [results,Try.results37];go_simp) rfl ⟨ResR.mk (NewR.zero _ _) E.o,?_⟩
     have:=X11.o;(repeat (first|(with_reducible first|exact Ext.refl _|assumption|refine Ext.alloc ?_ _)|((with_reducible refine Ext.setp ?_ ?_);focus (dsimp only;omega))|(with_reducible first|refine Ext.drew ?_|refine Ext.drewN ?_ _|refine Ext.trans ?_ (by assumption))))
    ·have q2:¬ (128:Int) < (RS.den.length:Int):=by omega
     have E:=kI (fitR_ok (q:=vq T) (by unfold small;rw [← HRS.o];omega))
     clear h1 h2
     go_wp2_with fail
     refine bodyPost_ret (v:=.tuple #[.agg #[.bool RS.neg,.slice p13 RS.num.length q13,.slice p14 RS.den.length q14],.int .i64 0]) (by simp only [results,Try.results37];go_simp) rfl ⟨ResR.mk (NewR.set3 N11.o R11.o (by decide) _ _ _) (E.o.trans (by rw [← HRS.o])),?_⟩
     have:=X11.o;(repeat (first|(with_reducible first|exact Ext.refl _|assumption|refine Ext.alloc ?_ _)|((with_reducible refine Ext.setp ?_ ?_);focus (dsimp only;omega))|(with_reducible first|refine Ext.drew ?_|refine Ext.drewN ?_ _|refine Ext.trans ?_ (by assumption))))
 ·have eo:opR ⟨s1,l1,l2⟩ ⟨s2,l3,l4⟩ (fitR (vq T))=(zR,chkR2 ⟨s1,l1,l2⟩ ⟨s2,l3,l4⟩):=by unfold opR;rw [if_neg hc]
  unfold chkR2 at eo hc
  obtain ⟨ca,hca⟩:∃ ca,ca=chkR ⟨s1,l1,l2⟩:=⟨_,rfl⟩
  obtain ⟨cb,hcb⟩:∃ cb,cb=chkR ⟨s2,l3,l4⟩:=⟨_,rfl⟩
  rw [← hca] at HCA eo hc
  rw [← hcb] at HCB eo hc
  obtain ⟨cc,hcc⟩:∃ cc,cc=orE ca cb:=⟨_,rfl⟩
  rw [← hcc] at eo hc
  have EO:=kI eo
  have hor:=fun g W h=>orE_any ca cb g W h
  rw [← hcc] at hor
  have HOR:=kI hor
  have hcb':(cc != 0)=true:=by simpa using hc
  clear hca hcb hcc eo hor hc HT HF
  go_enter Try.func37,Try.ntmps37
  go_wp2_with fail
  have hmx:Try.prog.follows .mixedOrders=true:=by kernel_rfl
  go_region_held3 (fun W=>(Blk W w.heap.size #[.bool s1,.slice a1 l1.length c1,.slice a2 l2.length c2] 25∧W.cell? ⟨w.heap.size,0,none⟩=some (.bool s1)∧W.cell? ⟨w.heap.size,1,none⟩=some (.slice a1 l1.length c1)∧W.cell? ⟨w.heap.size,2,none⟩=some (.slice a2 l2.length c2))∧(Blk W (w.heap.size+1) #[.bool s2,.slice a3 l3.length c3,.slice a4 l4.length c4] 25∧W.cell? ⟨w.heap.size+1,0,none⟩=some (.bool s2)∧W.cell? ⟨w.heap.size+1,1,none⟩=some (.slice a3 l3.length c3)∧W.cell? ⟨w.heap.size+1,2,none⟩=some (.slice a4 l4.length c4)))
   ((refine ⟨Blk.s3 ?_,Blk.s3 ?_⟩ <;> (repeat (first|exact A0.o|exact A1.o|exact k1|exact k2|exact k4|exact k5|exact k7|exact k8|refine Blk.setOther ?_ (by dsimp only;omega) _|refine Blk.alloc ?_ _|refine Blk.drew ?_))))
   (first|(go_at_call_of 52 (Value.slice a1 l1.length c1);refine (HCA.o _ (by (repeat (first|(with_reducible first|exact Ext.refl _|assumption|refine Ext.alloc ?_ _)|((with_reducible refine Ext.setp ?_ ?_);focus (dsimp only;omega))|(with_reducible first|refine Ext.drew ?_|refine Ext.drewN ?_ _|refine Ext.trans ?_ (by assumption)))))).mono ?_;rintro e W4 ⟨rfl,hx4⟩;have x4:=Ext.trans x0 (Ext.trans (by (repeat (first|(with_reducible first|exact Ext.refl _|assumption|refine Ext.alloc ?_ _)|((with_reducible refine Ext.setp ?_ ?_);focus (dsimp only;omega))|(with_reducible first|refine Ext.drew ?_|refine Ext.drewN ?_ _|refine Ext.trans ?_ (by assumption))))) hx4);have k1:=A0.o.ext (Ext.trans (by (repeat (first|(with_reducible first|exact Ext.refl _|assumption|refine Ext.alloc ?_ _)|((with_reducible refine Ext.setp ?_ ?_);focus (dsimp only;omega))|(with_reducible first|refine Ext.drew ?_|refine Ext.drewN ?_ _|refine Ext.trans ?_ (by assumption))))) hx4);have k2:=A1.o.ext (Ext.trans (by (repeat (first|(with_reducible first|exact Ext.refl _|assumption|refine Ext.alloc ?_ _)|((with_reducible refine Ext.setp ?_ ?_);focus (dsimp only;omega))|(with_reducible first|refine Ext.drew ?_|refine Ext.drewN ?_ _|refine Ext.trans ?_ (by assumption))))) hx4);have k3:=A2.o.ext (Ext.trans (by (repeat (first|(with_reducible first|exact Ext.refl _|assumption|refine Ext.alloc ?_ _)|((with_reducible refine Ext.setp ?_ ?_);focus (dsimp only;omega))|(with_reducible first|refine Ext.drew ?_|refine Ext.drewN ?_ _|refine Ext.trans ?_ (by assumption))))) hx4))|(go_at_call_of 52 (Value.slice a3 l3.length c3);refine (HCB.o _ (by (repeat (first|(with_reducible first|exact Ext.refl _|assumption|refine Ext.alloc ?_ _)|((with_reducible refine Ext.setp ?_ ?_);focus (dsimp only;omega))|(with_reducible first|refine Ext.drew ?_|refine Ext.drewN ?_ _|refine Ext.trans ?_ (by assumption)))))).mono ?_;rintro e W5 ⟨rfl,hx5⟩;have x5:=x4.trans hx5;have k4:=k1.ext hx5;have k5:=k2.ext hx5;have k6:=k3.ext hx5)|(go_at_call 56;refine (HOR.o _ _ (Blk.new W5 _ _)).mono ?_;rintro e W6 ⟨rfl,hx6⟩;have x6:=(x5.alloc _).trans hx6;have k7:=(k4.alloc _).ext hx6;have k8:=(k5.alloc _).ext hx6;have k9:=(k6.alloc _).ext hx6))
  have K9:=kI k9;have X6:=kI x6
  have c9:=k9.cell;have f9:=k9.free;have l9:=k9.lt
  go_wp2_with fail
  refine bodyPost_ret (v:=.tuple #[.agg #[.bool false,.slice none 0 0,.slice none 0 0],.int .i64 cc]) (by simp only [results,Try.results37];go_simp) rfl ⟨ResR.mk (NewR.zero _ _) EO.o,?_⟩
  have:=X6.o;(repeat (first|(with_reducible first|exact Ext.refl _|assumption|refine Ext.alloc ?_ _)|((with_reducible refine Ext.setp ?_ ?_);focus (dsimp only;omega))|(with_reducible first|refine Ext.drew ?_|refine Ext.drewN ?_ _|refine Ext.trans ?_ (by assumption))))
end Go.Proofs.Ytfflknbeidihoaa
namespace Go.Proofs.Ytfflknbeidihoaa
open Go.RowKit
theorem valid_len {r:RR} (hl:LimR r) (h:chkR r=0):r.num.length≤128∧(dl r.den).length≤128∧NoZ r.num∧NoZ (dl r.den)∧nv (dl r.den)≠0∧Lim (dl r.den):=by
 obtain ⟨h1,h2,h3,h4,_⟩:=chkR_0 hl h
 refine ⟨h1,len_dl h2 (by omega),h3,noZ_dl h4,?_,lim_dl hl.2⟩
 rw [nv_dl];exact vof_den hl h
def vod (r:RR):Bool × Nat × Nat:=(r.neg,nv r.num,nv (dl r.den))
theorem vod_vof (r:RR):vod r=vof r:=by unfold vod vof;rw [nv_dl]
theorem opR_congr {a b:RR} {x y:RR × Int} (h:chkR2 a b=0→x=y):opR a b x=opR a b y:=by
 unfold opR
 by_cases hc:chkR2 a b=0
 ·rw [if_pos hc,if_pos hc,h hc]
 ·rw [if_neg hc,if_neg hc]
theorem sumV_le (a b:Bool × Nat × Nat):(sumV a b).2.1≤a.2.1*b.2.2+b.2.1*a.2.2:=by
 unfold sumV
 split
 ·exact Nat.le_refl _
 ·split
  ·dsimp only;omega
  ·dsimp only;omega
theorem sumV_den (a b:Bool × Nat × Nat):(sumV a b).2.2=a.2.2*b.2.2:=by
 unfold sumV
 split
 ·rfl
 ·split <;> rfl
theorem prod_lt {x y a b:Nat} (hx:x < 4294967296 ^ a) (hy:y < 4294967296 ^ b):x*y < 4294967296 ^ (a+b):=by
 rw [Nat.pow_add];exact Nat.mul_lt_mul'' hx hy
theorem lt_of_len {l:List Int} (h:Lim l) {k:Nat} (hk:l.length≤k):nv l < 4294967296 ^ k:=Nat.lt_of_lt_of_le (nv_lt h) (pow_le hk)
theorem len_prod {l1 l2:List Int} (h1:Lim l1) (h2:Lim l2) {k:Nat} (k1:l1.length≤k) (k2:l2.length≤k):(lim (nv l1*nv l2)).length≤k+k:=lim_len_le.2 (prod_lt (lt_of_len h1 k1) (lt_of_len h2 k2))
theorem len_sum {x y k:Nat} (hx:(lim x).length≤k) (hy:(lim y).length≤k) {z:Nat} (hz:z≤x+y):(lim z).length≤k+1:=
 lim_len_le.2 (Nat.lt_of_le_of_lt hz (lt_max k k k (Nat.le_refl _) (Nat.le_refl _) (lim_len_le.1 hx) (lim_len_le.1 hy)))
theorem sumV_fits {ra rb:RR} (s:Bool) (la:LimR ra) (lb:LimR rb) (ha:chkR ra=0) (hb:chkR rb=0) :
  (sumV (vod ra) (s,nv rb.num,nv (dl rb.den))).2.2≠0∧(lim (sumV (vod ra) (s,nv rb.num,nv (dl rb.den))).2.1).length≤512∧(lim (sumV (vod ra) (s,nv rb.num,nv (dl rb.den))).2.2).length≤512:=by
 obtain ⟨p1,p2,p3,p4,p5,p6⟩:=valid_len la ha
 obtain ⟨q1,q2,q3,q4,q5,q6⟩:=valid_len lb hb
 have e1:=len_prod la.1 q6 p1 q2
 have e2:=len_prod lb.1 p6 q1 p2
 have e3:=len_prod p6 q6 p2 q2
 have e4:=len_sum e1 e2 (sumV_le (vod ra) (s,nv rb.num,nv (dl rb.den)))
 refine ⟨?_,by omega,?_⟩
 ·rw [sumV_den];exact Nat.mul_ne_zero p5 q5
 ·rw [sumV_den];exact Nat.le_trans e3 (by omega)
theorem vq_neg (s:Bool) (n d:Nat):vq (!s,n,d) = - vq (s,n,d):=by
 unfold vq
 dsimp only
 rw [Rat.neg_mkRat]
 congr 1
 cases s <;> simp [sg]
theorem operate_add (va vb:Value) (ra rb:RR) (w:World) (ha:RdR w va ra) (hb:RdR w vb rb) (la:LimR ra) (lb:LimR rb) :
  Calls Try.prog 37 #[va,vb,.func (.func 38) #[] #[]] w fun e w'=>ResR w w' e (addR ra rb)∧Ext w w':=by
 have h:=operate_any 38 (enters_of Try.func38 (by kernel_rfl) rfl) va vb ra rb w ha hb la lb (sumV (vod ra) (rb.neg,nv rb.num,nv (dl rb.den)))
  (fun hc=>sumV_fits rb.neg la lb (chkR2_0 hc).1 (chkR2_0 hc).2)
  (fun hc W v1 v2 h1 h2=>by
   obtain ⟨p1,p2,p3,p4,p5,p6⟩:=valid_len la (chkR2_0 hc).1
   obtain ⟨q1,q2,q3,q4,q5,q6⟩:=valid_len lb (chkR2_0 hc).2
   exact sumR_any v1 v2 ra.neg rb.neg ra.num (dl ra.den) rb.num (dl rb.den) W h1 h2 la.1 p6 lb.1 q6 p3 p4 q3 q4 (by omega) (by omega) (by omega) (by omega))
 have e:opR ra rb (fitR (vq (sumV (vod ra) (rb.neg,nv rb.num,nv (dl rb.den)))))=addR ra rb:=opR_congr fun hc=>by
  obtain ⟨p1,p2,p3,p4,p5,p6⟩:=valid_len la (chkR2_0 hc).1
  obtain ⟨q1,q2,q3,q4,q5,q6⟩:=valid_len lb (chkR2_0 hc).2
  rw [vq_sum p5 q5,vod_vof,vq_vof]
  show fitR (qv ra+vq (vod rb))=_
  rw [vod_vof,vq_vof]
 rwa [e] at h
theorem operate_mul (va vb:Value) (ra rb:RR) (w:World) (ha:RdR w va ra) (hb:RdR w vb rb) (la:LimR ra) (lb:LimR rb) :
  Calls Try.prog 37 #[va,vb,.func (.func 44) #[] #[]] w fun e w'=>ResR w w' e (mulR ra rb)∧Ext w w':=by
 have h:=operate_any 44 (enters_of Try.func44 (by kernel_rfl) rfl) va vb ra rb w ha hb la lb (prodV (vod ra) (vod rb))
  (fun hc=>by
   obtain ⟨p1,p2,p3,p4,p5,p6⟩:=valid_len la (chkR2_0 hc).1
   obtain ⟨q1,q2,q3,q4,q5,q6⟩:=valid_len lb (chkR2_0 hc).2
   exact ⟨Nat.mul_ne_zero p5 q5,Nat.le_trans (len_prod la.1 lb.1 p1 q1) (by omega),Nat.le_trans (len_prod p6 q6 p2 q2) (by omega)⟩)
  (fun hc W v1 v2 h1 h2=>by
   obtain ⟨p1,p2,p3,p4,p5,p6⟩:=valid_len la (chkR2_0 hc).1
   obtain ⟨q1,q2,q3,q4,q5,q6⟩:=valid_len lb (chkR2_0 hc).2
   exact productR_any v1 v2 ra.neg rb.neg ra.num (dl ra.den) rb.num (dl rb.den) W h1 h2 la.1 p6 lb.1 q6 p3 p4 q3 q4 (by omega) (by omega) (by omega) (by omega))
 have e:opR ra rb (fitR (vq (prodV (vod ra) (vod rb))))=mulR ra rb:=opR_congr fun hc=>by
  rw [vq_prod,vod_vof,vod_vof,vq_vof,vq_vof]
 rwa [e] at h
set_option maxHeartbeats 1000000 in
theorem addR_any (va vb:Value) (ra rb:RR) (w:World) (ha:RdR w va ra) (hb:RdR w vb rb) (la:LimR ra) (lb:LimR rb) :
  Calls Try.prog 14 #[va,vb] w fun e w'=>ResR w w' e (addR ra rb)∧Ext w w':=by
 have ho:=fun W (x:Ext w W)=>operate_add va vb ra rb W (ha.ext x) (hb.ext x) la lb
 obtain ⟨a1,c1,a2,c2,rfl⟩:=ha.shape
 obtain ⟨a3,c3,a4,c4,rfl⟩:=hb.shape
 obtain ⟨R,hR⟩:∃ R,R=addR ra rb:=⟨_,rfl⟩
 rw [← hR] at ho ⊢
 obtain ⟨s1,l1,l2⟩:=ra
 obtain ⟨s2,l3,l4⟩:=rb
 dsimp only at ho ⊢
 have HO:=kI ho
 clear hR ho ha hb la lb
 have b2:=Blk.new ((w.alloc (.cells #[.bool s1,.slice a1 l1.length c1,.slice a2 l2.length c2] 25)).alloc (.cells #[.bool s2,.slice a3 l3.length c3,.slice a4 l4.length c4] 25)) #[.bool false,.slice none 0 0,.slice none 0 0] 25
 rw [World.size_alloc,World.size_alloc] at b2
 have B2:=kI b2
 have X0:=kI (show Ext w (((w.alloc (.cells #[.bool s1,.slice a1 l1.length c1,.slice a2 l2.length c2] 25)).alloc (.cells #[.bool s2,.slice a3 l3.length c3,.slice a4 l4.length c4] 25)).alloc (.cells #[.bool false,.slice none 0 0,.slice none 0 0] 25)) from (((Ext.refl w).alloc _).alloc _).alloc _)
 clear b2
 go_enter Try.func14,Try.ntmps14
 go_wp2_with fail
 refine (HO.o _ X0.o).mono ?_
 rintro e w1 ⟨⟨v1,rfl,n1⟩,hx1⟩
 obtain ⟨a5,c5,a6,c6,rfl⟩:=n1.shape
 have B1:=kI (B2.o.ext hx1);have X1:=kI (X0.o.trans hx1);have N1:=kI (n1.from X0.o)
 clear hx1 n1
 have c0:=B1.o.cell;have f0:=B1.o.free;have l0:=B1.o.lt
 obtain ⟨R1,R2⟩:=R
 dsimp only at *
 go_wp2_with fail
 refine bodyPost_ret (v:=.tuple #[.agg #[.bool R1.neg,.slice a5 R1.num.length c5,.slice a6 R1.den.length c6],.int .i64 R2]) (by simp only [results,Try.results14];go_simp) rfl ⟨ResR.mk (NewR.set3 N1.o B1.o (by decide) _ _ _) rfl,?_⟩
 have:=X1.o;(repeat (first|(with_reducible first|exact Ext.refl _|assumption|refine Ext.alloc ?_ _)|((with_reducible refine Ext.setp ?_ ?_);focus (dsimp only;omega))|(with_reducible first|refine Ext.drew ?_|refine Ext.drewN ?_ _|refine Ext.trans ?_ (by assumption))))
set_option maxHeartbeats 1000000 in
theorem mulR_any (va vb:Value) (ra rb:RR) (w:World) (ha:RdR w va ra) (hb:RdR w vb rb) (la:LimR ra) (lb:LimR rb) :
  Calls Try.prog 19 #[va,vb] w fun e w'=>ResR w w' e (mulR ra rb)∧Ext w w':=by
 have ho:=fun W (x:Ext w W)=>operate_mul va vb ra rb W (ha.ext x) (hb.ext x) la lb
 obtain ⟨a1,c1,a2,c2,rfl⟩:=ha.shape
 obtain ⟨a3,c3,a4,c4,rfl⟩:=hb.shape
 obtain ⟨R,hR⟩:∃ R,R=mulR ra rb:=⟨_,rfl⟩
 rw [← hR] at ho ⊢
 obtain ⟨s1,l1,l2⟩:=ra
 obtain ⟨s2,l3,l4⟩:=rb
 dsimp only at ho ⊢
 have HO:=kI ho
 clear hR ho ha hb la lb
 have b2:=Blk.new ((w.alloc (.cells #[.bool s1,.slice a1 l1.length c1,.slice a2 l2.length c2] 25)).alloc (.cells #[.bool s2,.slice a3 l3.length c3,.slice a4 l4.length c4] 25)) #[.bool false,.slice none 0 0,.slice none 0 0] 25
 rw [World.size_alloc,World.size_alloc] at b2
 have B2:=kI b2
 have X0:=kI (show Ext w (((w.alloc (.cells #[.bool s1,.slice a1 l1.length c1,.slice a2 l2.length c2] 25)).alloc (.cells #[.bool s2,.slice a3 l3.length c3,.slice a4 l4.length c4] 25)).alloc (.cells #[.bool false,.slice none 0 0,.slice none 0 0] 25)) from (((Ext.refl w).alloc _).alloc _).alloc _)
 clear b2
 go_enter Try.func19,Try.ntmps19
 go_wp2_with fail
 refine (HO.o _ X0.o).mono ?_
 rintro e w1 ⟨⟨v1,rfl,n1⟩,hx1⟩
 obtain ⟨a5,c5,a6,c6,rfl⟩:=n1.shape
 have B1:=kI (B2.o.ext hx1);have X1:=kI (X0.o.trans hx1);have N1:=kI (n1.from X0.o)
 clear hx1 n1
 have c0:=B1.o.cell;have f0:=B1.o.free;have l0:=B1.o.lt
 obtain ⟨R1,R2⟩:=R
 dsimp only at *
 go_wp2_with fail
 refine bodyPost_ret (v:=.tuple #[.agg #[.bool R1.neg,.slice a5 R1.num.length c5,.slice a6 R1.den.length c6],.int .i64 R2]) (by simp only [results,Try.results19];go_simp) rfl ⟨ResR.mk (NewR.set3 N1.o B1.o (by decide) _ _ _) rfl,?_⟩
 have:=X1.o;(repeat (first|(with_reducible first|exact Ext.refl _|assumption|refine Ext.alloc ?_ _)|((with_reducible refine Ext.setp ?_ ?_);focus (dsimp only;omega))|(with_reducible first|refine Ext.drew ?_|refine Ext.drewN ?_ _|refine Ext.trans ?_ (by assumption))))
end Go.Proofs.Ytfflknbeidihoaa
namespace Go.Proofs.Ytfflknbeidihoaa
open Go.RowKit
end Go.Proofs.Ytfflknbeidihoaa
namespace Go.Proofs.Ytfflknbeidihoaa
open Go.RowKit
end Go.Proofs.Ytfflknbeidihoaa
namespace Go.Proofs.Ytfflknbeidihoaa
open Go.RowKit
end Go.Proofs.Ytfflknbeidihoaa
namespace Go.Proofs.Ytfflknbeidihoaa
open Go.RowKit
end Go.Proofs.Ytfflknbeidihoaa
namespace Go.Proofs.Ytfflknbeidihoaa
open Go.RowKit
def sl (s:ByteArray):Int:=Lib.indexByte s.data.toList 47
end Go.Proofs.Ytfflknbeidihoaa
namespace Go.Proofs.Ytfflknbeidihoaa
open Go.RowKit
end Go.Proofs.Ytfflknbeidihoaa
namespace Go.Proofs.Ytfflknbeidihoaa
open Go.RowKit
theorem RdR.parts {w:World} {v:Value} {r:RR} (h:RdR w v r):∃ a c a2 c2,v=.agg #[.bool r.neg,.slice a r.num.length c,.slice a2 r.den.length c2]∧RdI .u32 w (.slice a r.num.length c) r.num∧RdI .u32 w (.slice a2 r.den.length c2) r.den:=by
 obtain ⟨vn,vd,rfl,h1,h2⟩:=h
 obtain ⟨a,c,rfl⟩:=rdU_shape h1
 obtain ⟨a2,c2,rfl⟩:=rdU_shape h2
 exact ⟨a,c,a2,c2,rfl,h1,h2⟩
set_option maxHeartbeats 2000000 in
theorem equalRat_any (v1 v2:Value) (r1 r2:RR) (w:World) (h1:RdR w v1 r1) (h2:RdR w v2 r2) :
  Calls Try.prog 15 #[v1,v2] w fun e w'=>e=.returned (.bool (decide (r1=r2)))∧Ext w w':=by
 obtain ⟨a1,c1,a2,c2,rfl,n1,d1⟩:=h1.parts
 obtain ⟨a3,c3,a4,c4,rfl,n2,d2⟩:=h2.parts
 obtain ⟨s1,l1,l2⟩:=r1
 obtain ⟨s2,l3,l4⟩:=r2
 dsimp only at n1 d1 n2 d2 ⊢
 have N1:=kI n1;have D1:=kI d1;have N2:=kI n2;have D2:=kI d2
 clear n1 d1 n2 d2 h1 h2
 have b0:=(Blk.new w #[.bool s1,.slice a1 l1.length c1,.slice a2 l2.length c2] 25).alloc (.cells #[.bool s2,.slice a3 l3.length c3,.slice a4 l4.length c4] 25)
 have b1:=Blk.new (w.alloc (.cells #[.bool s1,.slice a1 l1.length c1,.slice a2 l2.length c2] 25)) #[.bool s2,.slice a3 l3.length c3,.slice a4 l4.length c4] 25
 rw [World.size_alloc] at b1
 have x0:Ext w ((w.alloc (.cells #[.bool s1,.slice a1 l1.length c1,.slice a2 l2.length c2] 25)).alloc (.cells #[.bool s2,.slice a3 l3.length c3,.slice a4 l4.length c4] 25)):=((Ext.refl w).alloc _).alloc _
 have B0:=kI b0;have B1:=kI b1;have X0:=kI x0
 clear b0 b1 x0
 by_cases hs:s1=s2
 ·subst hs
  have he1:=fun W h h'=>equalNat_any (.slice a1 l1.length c1) (.slice a3 l3.length c3) l1 l3 W h h'
  have he2:=fun W h h'=>equalNat_any (.slice a2 l2.length c2) (.slice a4 l4.length c4) l2 l4 W h h'
  by_cases hn:l1=l3
  ·rw [decide_eq_true hn] at he1
   have e:decide ((⟨s1,l1,l2⟩:RR)=⟨s1,l3,l4⟩)=decide (l2=l4):=by
    rw [hn];simp
   obtain ⟨r,hr⟩:∃ r,r=decide (l2=l4):=⟨_,rfl⟩
   rw [← hr] at he2 e
   rw [e]
   have HE1:=kI he1;have HE2:=kI he2
   clear he1 he2 hn e hr
   cases s1
   all_goals
    go_enter Try.func15,Try.ntmps15
    go_wp2_with fail
    refine (HE1.o _ (N1.o.ext X0.o) (N2.o.ext X0.o)).mono ?_
    rintro e w1 ⟨rfl,hx1⟩
    have P0:=kI (B0.o.ext hx1);have P1:=kI (B1.o.ext hx1);have X1:=kI (X0.o.trans hx1)
    clear hx1
    have k0:=P0.o.cell;have k1:=P1.o.cell;have m0:=P0.o.lt;have m1:=P1.o.lt
    go_wp2_with fail
    refine (HE2.o _ (D1.o.ext X1.o) (D2.o.ext X1.o)).mono ?_
    rintro e w2 ⟨rfl,hx2⟩
    have X2:=kI (X1.o.trans hx2)
    clear hx2 k0 k1 m0 m1
    go_wp2_with fail
    go_ret
    exact ⟨rfl,X2.o⟩
  ·rw [decide_eq_false hn] at he1
   have e:decide ((⟨s1,l1,l2⟩:RR)=⟨s1,l3,l4⟩)=false:=by
    rw [decide_eq_false_iff_not];intro h;injection h with _ h2;exact hn h2
   rw [e]
   have HE1:=kI he1
   clear he1 he2 hn e
   cases s1
   all_goals
    go_enter Try.func15,Try.ntmps15
    go_wp2_with fail
    refine (HE1.o _ (N1.o.ext X0.o) (N2.o.ext X0.o)).mono ?_
    rintro e w1 ⟨rfl,hx1⟩
    have X1:=kI (X0.o.trans hx1)
    clear hx1
    go_wp2_with fail
    go_ret
    exact ⟨rfl,X1.o⟩
 ·have e:decide ((⟨s1,l1,l2⟩:RR)=⟨s2,l3,l4⟩)=false:=by
   rw [decide_eq_false_iff_not];intro h;injection h with h2;exact hs h2
  rw [e]
  clear e
  cases s1 <;> cases s2
  all_goals first
   | exact absurd rfl hs
   | skip
  all_goals
   clear hs
   go_enter Try.func15,Try.ntmps15
   go_wp2_with fail
   go_ret
   exact ⟨rfl,X0.o⟩
end Go.Proofs.Ytfflknbeidihoaa
