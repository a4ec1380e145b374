/- Lemmas and walks. Conditions: as stated. -/
import Derived.Test.YtfflknbeidihoaaGreatSxRatRb
import Derived.Test.YtfflknbeidihoaaGreatSxGK
set_option linter.unusedVariables false
set_option linter.unusedSimpArgs false
set_option maxRecDepth 100000
set_option maxHeartbeats 16000000
namespace Go.Proofs.YtfflknbeidihoaaGreat
open Go.RowKit
def lenR (r:RR) (k:Nat):Prop:=r.num.length≤k∧r.den.length≤k
theorem nv_repn (q:Rat):nv (rep q).num=q.num.natAbs:=nv_lim _
theorem nv_repd (q:Rat):nv (dl (rep q).den)=q.den:=by rw [nv_dl,den_rep]
theorem valid_eq {r:RR} (hl:LimR r) (h:chkR r=0):r=rep (qv r):=(valid_rep hl h).2.2.symm
theorem lenR_mono {r:RR} {k m:Nat} (h:lenR r k) (hk:k≤m):lenR r m:=⟨Nat.le_trans h.1 hk,Nat.le_trans h.2 hk⟩
theorem den_any (v:Value) (r:RR) (w:World) (h:RdR w v r) :
  Calls Tryz.prog 100 #[v] w fun e w'=>(∃ v',e=.returned v'∧RdI .u32 w' v' (dl r.den))∧Ext w w':=by
 obtain ⟨a1,c1,a2,c2,rfl,hn,hd⟩:=h.parts;obtain ⟨b,l1,l2⟩:=r;dsimp only at hn hd ⊢;clear h;have HD:=kI hd;have X0:=kI ((Ext.refl w).alloc (.cells #[.bool b,.slice a1 l1.length c1,.slice a2 l2.length c2] 25));clear hn hd;by_cases hz:l2=[]
 ·have q1:((l2.length:Int) == 0)=true:=by rw [hz];rfl
  have e:dl l2=[1]:=if_pos hz;rw [e];clear hz e;go_enter Tryz.func100,Tryz.ntmps100
  go_wp2_with fail;refine (one_any _).mono ?_;rintro e w1 ⟨⟨v,rfl,n1⟩,hx1⟩;obtain ⟨a3,c3,rfl⟩:=n1.shape;have N1:=kI n1.rd;have X1:=kI (X0.o.trans hx1);clear n1 hx1;go_wp2_with fail;go_ret;exact ⟨⟨_,rfl,N1.o⟩,X1.o⟩
 ·have q1:((l2.length:Int) == 0)=false:=by
   have:l2.length≠0:=fun e=>hz (List.length_eq_zero_iff.1 e);simpa using this
  have e:dl l2=l2:=if_neg hz;rw [e];clear hz e;go_enter Tryz.func100,Tryz.ntmps100
  go_wp2_with fail;go_ret;exact ⟨⟨_,rfl,HD.o.ext X0.o⟩,X0.o⟩
theorem refFit6_any (v:Value) (q:Rat) (w0 w:World) (h:NewR w0 w v (rep q)) (h0:Ext w0 w) :
  Calls Tryz.prog 80 #[v] w fun e w'=>ResR w0 w' e (fitR q)∧Ext w w':=by
 obtain ⟨a1,c1,a2,c2,rfl⟩:=h.shape;have hs:fitR q=if (rep q).num.length≤128∧(rep q).den.length≤128 then (rep q,0) else (zR,4):=rfl;obtain ⟨r,hr⟩:=gN (rep q);rw [← hr] at h hs ⊢;have HS:=kI hs;have H:=kI h;have H0:=kI h0;clear hs hr h h0;have bb0:=((Blk.new w #[.bool r.neg,.slice a1 r.num.length c1,.slice a2 r.den.length c2] 25).alloc (.cells #[.bool false,.slice none 0 0,.slice none 0 0] 25));have bb1:=(Blk.new (w.alloc (.cells #[.bool r.neg,.slice a1 r.num.length c1,.slice a2 r.den.length c2] 25)) #[.bool false,.slice none 0 0,.slice none 0 0] 25);rw [World.size_alloc] at bb1;have x0:Ext w ((w.alloc (.cells #[.bool r.neg,.slice a1 r.num.length c1,.slice a2 r.den.length c2] 25)).alloc (.cells #[.bool false,.slice none 0 0,.slice none 0 0] 25)):=(((Ext.refl w).alloc _).alloc _);have A0:=kI bb0;have A1:=kI bb1;have X:=kI x0;clear x0 bb0 bb1;by_cases h1:128 < r.num.length
 ·have q1:(128:Int) < (r.num.length:Int):=by omega
  have E:=kI (HS.o.trans (if_neg (by omega)));clear h1;go_enter Tryz.func80,Tryz.ntmps80
  go_wp2_with fail;exact bodyPost_ret (v:=.tuple #[.agg #[.bool false,.slice none 0 0,.slice none 0 0],.int .i64 4]) (by simp only [results,Tryz.results80];go_simp) rfl ⟨ResR.mk (NewR.zero _ _) E.o,by (repeat (first|(with_reducible first|exact eR _|assumption|refine eA ?_ _)|((with_reducible refine eS ?_ ?_);focus (dsimp only;omega))|(with_reducible first|refine eD ?_|refine eN ?_ _|refine eT ?_ (by assumption))))⟩
 ·by_cases h2:128 < r.den.length
  ·have q1:¬ (128:Int) < (r.num.length:Int):=by omega
   have q2:(128:Int) < (r.den.length:Int):=by omega
   have E:=kI (HS.o.trans (if_neg (by omega)));clear h1 h2;go_enter Tryz.func80,Tryz.ntmps80
   go_wp2_with fail;exact bodyPost_ret (v:=.tuple #[.agg #[.bool false,.slice none 0 0,.slice none 0 0],.int .i64 4]) (by simp only [results,Tryz.results80];go_simp) rfl ⟨ResR.mk (NewR.zero _ _) E.o,by (repeat (first|(with_reducible first|exact eR _|assumption|refine eA ?_ _)|((with_reducible refine eS ?_ ?_);focus (dsimp only;omega))|(with_reducible first|refine eD ?_|refine eN ?_ _|refine eT ?_ (by assumption))))⟩
  ·have q1:¬ (128:Int) < (r.num.length:Int):=by omega
   have q2:¬ (128:Int) < (r.den.length:Int):=by omega
   have E:=kI (HS.o.trans (if_pos (by omega)));clear h1 h2;go_enter Tryz.func80,Tryz.ntmps80
   go_wp2_with fail;refine bodyPost_ret (v:=.tuple #[.agg #[.bool r.neg,.slice a1 r.num.length c1,.slice a2 r.den.length c2],.int .i64 0]) (by simp only [results,Tryz.results80];go_simp) rfl ⟨ResR.mk (H.o.ext (((Ext.refl w).alloc _).alloc _)) E.o,?_⟩;have:=X.o;(repeat (first|(with_reducible first|exact eR _|assumption|refine eA ?_ _)|((with_reducible refine eS ?_ ?_);focus (dsimp only;omega))|(with_reducible first|refine eD ?_|refine eN ?_ _|refine eT ?_ (by assumption))))
theorem refWrong6_any (va vb:Value) (ra rb:RR) (w:World) (ha:RdR w va ra) (hb:RdR w vb rb) (la:LimR ra) (lb:LimR rb) :
  Calls Tryz.prog 79 #[va,vb] w fun e w'=>e=.returned (.int .i64 (chkR2 ra rb))∧Ext w w':=by
 have hca:=fun W (x:Ext w W)=>refCheckR_any va ra W (ha.ext x) la;have hcb:=fun W (x:Ext w W)=>refCheckR_any vb rb W (hb.ext x) lb;obtain ⟨a1,a2,a3,a4,rfl⟩:=ha.shape;obtain ⟨b1,b2,b3,b4,rfl⟩:=hb.shape;have e2:chkR2 ra rb=if chkR ra=0 then chkR rb else chkR ra:=rfl;obtain ⟨ca,hca0⟩:=gN (chkR ra);obtain ⟨cb,hcb0⟩:=gN (chkR rb);rw [← hca0] at hca e2;rw [← hcb0] at hcb e2;have HCA:=kI hca;have HCB:=kI hcb;have E2:=kI e2;clear hca hcb e2 hca0 hcb0 ha hb;have bb0:=((Blk.new w #[.bool ra.neg,.slice a1 ra.num.length a2,.slice a3 ra.den.length a4] 25).alloc (.cells #[.bool rb.neg,.slice b1 rb.num.length b2,.slice b3 rb.den.length b4] 25));have bb1:=(Blk.new (w.alloc (.cells #[.bool ra.neg,.slice a1 ra.num.length a2,.slice a3 ra.den.length a4] 25)) #[.bool rb.neg,.slice b1 rb.num.length b2,.slice b3 rb.den.length b4] 25);rw [World.size_alloc] at bb1;have x0:Ext w ((w.alloc (.cells #[.bool ra.neg,.slice a1 ra.num.length a2,.slice a3 ra.den.length a4] 25)).alloc (.cells #[.bool rb.neg,.slice b1 rb.num.length b2,.slice b3 rb.den.length b4] 25)):=(((Ext.refl w).alloc _).alloc _);have A0:=kI bb0;have A1:=kI bb1;have X:=kI x0;clear x0 bb0 bb1;by_cases hc:ca=0
 ·subst hc;go_enter Tryz.func79,Tryz.ntmps79
  go_wp2_with fail;refine (HCA.o _ X.o).mono ?_;rintro e w1 ⟨rfl,hx⟩;have A0:=kI (A0.o.ext hx);have A1:=kI (A1.o.ext hx);have X:=kI (X.o.trans hx);clear hx;obtain ⟨qA1,fA1,lA1⟩:=A1.o.q3;go_wp2_with fail;refine (HCB.o _ X.o).mono ?_;rintro e w2 ⟨rfl,hx⟩;clear qA1 fA1 lA1;have A0:=kI (A0.o.ext hx);have A1:=kI (A1.o.ext hx);have X:=kI (X.o.trans hx);clear hx;go_wp2_with fail;go_ret;exact ⟨by rw [E2.o];rfl,X.o⟩
 ·have q1:(ca == 0)=false:=by simpa using hc
  have HC:=kI hc;clear hc;go_enter Tryz.func79,Tryz.ntmps79
  go_wp2_with fail;refine (HCA.o _ X.o).mono ?_;rintro e w1 ⟨rfl,hx⟩;have A0:=kI (A0.o.ext hx);have A1:=kI (A1.o.ext hx);have X:=kI (X.o.trans hx);clear hx;go_wp2_with fail;go_ret;exact ⟨by rw [E2.o,if_neg HC.o];rfl,X.o⟩
theorem prod_at {w:World} {va vb:Value} {la lb:List Int} (ha:RdI .u32 w va la) (hb:RdI .u32 w vb lb) (hla:Lim la) (hlb:Lim lb) (sa:la.length≤4000) (sb:lb.length≤4000) :
  Calls Tryz.prog 99 #[va,vb] w fun e w'=>(∃ v,e=.returned v∧NewV w w' v (lim (nv la*nv lb)))∧Ext w w':=product_any va vb la lb w ha hb hla hlb (by omega) (by omega)
theorem prod_rep (a b:Rat):rep (mkRat (sg ((rep a).neg != (rep b).neg) (nv (rep a).num*nv (rep b).num)) (nv (dl (rep a).den)*nv (dl (rep b).den)))=rep (a*b):=by
 have h:=vq_prod (vod (rep a)) (vod (rep b));have ea:vq (vod (rep a))=a:=by rw [vod_vof,vq_vof,qv_rep]
 have eb:vq (vod (rep b))=b:=by rw [vod_vof,vq_vof,qv_rep]
 rw [ea,eb] at h;rw [← h];rfl
theorem sum_rep (a b:Rat):rep (vq (sumV (vod (rep a)) (vod (rep b))))=rep (a+b):=by
 have d1:(vod (rep a)).2.2≠0:=by show nv (dl (rep a).den)≠0;rw [nv_repd];exact a.den_nz
 have d2:(vod (rep b)).2.2≠0:=by show nv (dl (rep b).den)≠0;rw [nv_repd];exact b.den_nz
 rw [vq_sum d1 d2];rw [vod_vof,vq_vof,qv_rep,vod_vof,vq_vof,qv_rep]
theorem refSum6_any (va vb:Value) (a b:Rat) (w:World) (ha:RdR w va (rep a)) (hb:RdR w vb (rep b)) (sa:lenR (rep a) 2000) (sb:lenR (rep b) 2000) :
  Calls Tryz.prog 68 #[va,vb] w fun e w'=>(∃ v,e=.returned v∧NewR w w' v (rep (a+b)))∧Ext w w':=by
 obtain ⟨a1,a2,a3,a4,rfl,han,had⟩:=ha.parts;obtain ⟨b1,b2,b3,b4,rfl,hbn,hbd⟩:=hb.parts;have hda:=fun W (x:Ext w W)=>den_any _ (rep a) W (ha.ext x);have hdb:=fun W (x:Ext w W)=>den_any _ (rep b) W (hb.ext x);have za:nv (dl (rep a).den)≠0:=by rw [nv_repd];exact a.den_nz
 have zb:nv (dl (rep b).den)≠0:=by rw [nv_repd];exact b.den_nz
 have ga:=limR_rep a;have gb:=limR_rep b;have ka:(dl (rep a).den).length≤2000:=len_dl sa.2 (by omega);have kb:(dl (rep b).den).length≤2000:=len_dl sb.2 (by omega);have kan:=sa.1;have kbn:=sb.1;have gda:=lim_dl ga.2;have gdb:=lim_dl gb.2;have gna:=ga.1;have gnb:=gb.1;have hr:=sum_rep a b;unfold sumV vod at hr;dsimp only at hr;obtain ⟨P,hP⟩:=gN (nv (rep a).num*nv (dl (rep b).den));obtain ⟨Q,hQ⟩:=gN (nv (rep b).num*nv (dl (rep a).den));obtain ⟨D,hD⟩:=gN (nv (dl (rep a).den)*nv (dl (rep b).den));have hD0:D≠0:=by rw [hD];exact Nat.mul_ne_zero za zb
 have hPl:(lim P).length≤4000:=by rw [hP];exact len_prod gna gdb kan kb
 have hQl:(lim Q).length≤4000:=by rw [hQ];exact len_prod gnb gda kbn ka
 have hDl:(lim D).length≤4000:=by rw [hD];exact len_prod gda gdb ka kb
 have hp1:=fun W v1 v2 h1 h2=>prod_at (w:=W) (va:=v1) (vb:=v2) h1 h2 gna gdb (by omega) (by omega);have hp2:=fun W v1 v2 h1 h2=>prod_at (w:=W) (va:=v1) (vb:=v2) h1 h2 gnb gda (by omega) (by omega);have hp3:=fun W v1 v2 h1 h2=>prod_at (w:=W) (va:=v1) (vb:=v2) h1 h2 gda gdb (by omega) (by omega);rw [← hP] at hp1 hr;rw [← hQ] at hp2 hr;rw [← hD] at hp3 hr;have hsm:=fun W v1 v2 h1 h2=>sum_any v1 v2 (lim P) (lim Q) W h1 h2 (lim_lim _) (lim_lim _) (by omega) (by omega);have hor:=fun W v1 v2 h1 h2=>refOrder_any v1 v2 (lim P) (lim Q) W h1 h2 (lim_lim _) (lim_lim _) (by omega) (by omega);have hd1:=fun W v1 v2 h1 h2 (hle:Q≤P)=>difference_any v1 v2 (lim P) (lim Q) W h1 h2 (lim_lim _) (lim_lim _) (lim_noZ _) (by omega) (by rw [nv_lim,nv_lim];exact hle);have hd2:=fun W v1 v2 h1 h2 (hle:P≤Q)=>difference_any v1 v2 (lim Q) (lim P) W h1 h2 (lim_lim _) (lim_lim _) (lim_noZ _) (by omega) (by rw [nv_lim,nv_lim];exact hle);simp only [nv_lim] at hsm hor hd1 hd2;have hmk:=fun U (hU:U≤P+Q) s W v1 v2 h1 h2=>make_any s v1 v2 (lim U) (lim D) W h1 h2 (lim_lim _) (lim_lim _) (lim_noZ _) (lim_noZ _) (by have:=len_sum hPl hQl hU;omega) (by omega) (by rw [nv_lim];exact hD0);simp only [nv_lim] at hmk;obtain ⟨R,hR⟩:=gN (rep (a+b));rw [← hR] at hr ⊢;have hr1:(rep a).neg=(rep b).neg→rep (mkRat (sg (rep a).neg (P+Q)) D)=R:=fun h=>by rw [if_pos h] at hr;exact hr
 have hr2:¬ (rep a).neg=(rep b).neg→P < Q→rep (mkRat (sg (rep b).neg (Q - P)) D)=R:=fun h h2=>by rw [if_neg h,if_pos h2] at hr;exact hr
 have hr3:¬ (rep a).neg=(rep b).neg→¬ P < Q→rep (mkRat (sg (rep a).neg (P - Q)) D)=R:=fun h h2=>by rw [if_neg h,if_neg h2] at hr;exact hr
 clear hr;obtain ⟨ra,hra⟩:=gN (rep a);obtain ⟨rb,hrb⟩:=gN (rep b);rw [← hra] at han had hda hp1 hp2 hp3 hr1 hr2 hr3 ⊢;rw [← hrb] at hbn hbd hdb hp1 hp2 hp3 hr1 hr2 hr3 ⊢;obtain ⟨s1,l1,l2⟩:=ra;obtain ⟨s2,l3,l4⟩:=rb;dsimp only at han had hbn hbd hda hdb hp1 hp2 hp3 hr1 hr2 hr3 ⊢;have NA:=kI han;have NB:=kI hbn;have HDA:=kI hda;have HDB:=kI hdb;have HP1:=kI hp1;have HP2:=kI hp2;have HP3:=kI hp3;have HMK:=kI hmk;have HSM:=kI hsm;have HOR:=kI hor;have HD1:=kI hd1;have HD2:=kI hd2;have HR1:=kI hr1;have HR2:=kI hr2;have HR3:=kI hr3;clear han had hbn hbd hda hdb hp1 hp2 hp3 hmk hsm hor hd1 hd2 hr1 hr2 hr3 hP hQ hD hR hra hrb ha hb sa sb ga gb gda gdb gna gnb ka kb kan kbn za zb hD0 hPl hQl hDl;have bb0:=(((Blk.new w #[.bool s1,.slice a1 l1.length a2,.slice a3 l2.length a4] 25).alloc (.cells #[.bool s2,.slice b1 l3.length b2,.slice b3 l4.length b4] 25)).alloc (.cells #[.bool false,.slice none 0 0,.slice none 0 0] 25));have bb1:=((Blk.new (w.alloc (.cells #[.bool s1,.slice a1 l1.length a2,.slice a3 l2.length a4] 25)) #[.bool s2,.slice b1 l3.length b2,.slice b3 l4.length b4] 25).alloc (.cells #[.bool false,.slice none 0 0,.slice none 0 0] 25));have bb2:=(Blk.new ((w.alloc (.cells #[.bool s1,.slice a1 l1.length a2,.slice a3 l2.length a4] 25)).alloc (.cells #[.bool s2,.slice b1 l3.length b2,.slice b3 l4.length b4] 25)) #[.bool false,.slice none 0 0,.slice none 0 0] 25);rw [World.size_alloc] at bb1;rw [World.size_alloc,World.size_alloc] at bb2;have x0:Ext w (((w.alloc (.cells #[.bool s1,.slice a1 l1.length a2,.slice a3 l2.length a4] 25)).alloc (.cells #[.bool s2,.slice b1 l3.length b2,.slice b3 l4.length b4] 25)).alloc (.cells #[.bool false,.slice none 0 0,.slice none 0 0] 25)):=((((Ext.refl w).alloc _).alloc _).alloc _);have A0:=kI bb0;have A1:=kI bb1;have A2:=kI bb2;have X:=kI x0;clear x0 bb0 bb1 bb2;have NA:=kI (NA.o.ext X.o);have NB:=kI (NB.o.ext X.o);go_enter Tryz.func68,Tryz.ntmps68
 go_wp2_with fail;refine wp_region_held_drew (S:=(fun W=>(Blk W w.heap.size #[.bool s1,.slice a1 l1.length a2,.slice a3 l2.length a4] 25∧W.cell? ⟨w.heap.size,0,none⟩=some (.bool s1)∧W.cell? ⟨w.heap.size,1,none⟩=some (.slice a1 l1.length a2)∧W.cell? ⟨w.heap.size,2,none⟩=some (.slice a3 l2.length a4))∧(Blk W (w.heap.size+1) #[.bool s2,.slice b1 l3.length b2,.slice b3 l4.length b4] 25∧W.cell? ⟨(w.heap.size+1),0,none⟩=some (.bool s2)∧W.cell? ⟨(w.heap.size+1),1,none⟩=some (.slice b1 l3.length b2)∧W.cell? ⟨(w.heap.size+1),2,none⟩=some (.slice b3 l4.length b4)))) (by kernel_rfl) ?_ (fun hHeld=>?_)
 ·exact ⟨Blk.s3 A0.o.drew,Blk.s3 A1.o.drew⟩
 refine wpAnyH_take (i:=0) (v:=?_) rfl (by kernel_rfl) (by kernel_rfl) (by kernel_rfl) (fun _ _ _ h=>h) (Or.inl ⟨by rfl,?_⟩) (by assumption) ?_;rotate_left
 ·(intro w hSw;(try dsimp only at hSw);go_simp;first|done|with_reducible rfl)
 (try simp only [sP]);refine wpAnyH_take (i:=1) (v:=?_) rfl (by kernel_rfl) (by kernel_rfl) (by kernel_rfl) (fun _ _ _ h=>h) (Or.inl ⟨by rfl,?_⟩) (by assumption) ?_;rotate_left
 ·(intro w hSw;(try dsimp only at hSw);go_simp;first|done|with_reducible rfl)
 (try simp only [sP]);refine wpAnyH_take (i:=2) (v:=?_) rfl (by kernel_rfl) (by kernel_rfl) (by kernel_rfl) (fun _ _ _ h=>h) (Or.inl ⟨by rfl,?_⟩) (by assumption) ?_;rotate_left
 ·(intro w hSw;(try dsimp only at hSw);go_simp;first|done|with_reducible rfl)
 (try simp only [sP]);refine wpAnyH_ready (rs:=[3]) (by kernel_rfl) (by simp) ?_;refine AllReadyH.cons rfl (fun K hK=>?_) ?_;rotate_left
 ·exact AllReadyH.nil
 go_simp;refine (HDB.o _ (Ext.trans X.o (by first|exact Ext.refl _|exact (Ext.refl _).drew))).mono ?_;rintro e w1 ⟨⟨v,rfl,nn⟩,hx⟩;have hx:=Ext.trans (show Ext (((w.alloc (.cells #[.bool s1,.slice a1 l1.length a2,.slice a3 l2.length a4] 25)).alloc (.cells #[.bool s2,.slice b1 l3.length b2,.slice b3 l4.length b4] 25)).alloc (.cells #[.bool false,.slice none 0 0,.slice none 0 0] 25)) _ from by first|exact Ext.refl _|exact (Ext.refl _).drew) hx;have NA:=kI (NA.o.ext hx);have NB:=kI (NB.o.ext hx);have A0:=kI (A0.o.ext hx);have A1:=kI (A1.o.ext hx);have A2:=kI (A2.o.ext hx);have X:=kI (X.o.trans hx);obtain ⟨u1,u2,rfl⟩:=rdU_shape nn;have Nu:=kI nn;clear nn hx;first|refine hK.out _ _ ?_ (fun hHeld=>?_)|(go_wp2_with fail;refine hK.out _ _ ?_ (fun hHeld=>?_))
 ·exact ⟨Blk.s3 A0.o,Blk.s3 A1.o⟩
 clear hK K;(try simp only [sP]);refine wpAnyH_ready (rs:=[4]) (by kernel_rfl) (by simp) ?_;refine AllReadyH.cons rfl (fun K hK=>?_) ?_;rotate_left
 ·exact AllReadyH.nil
 go_simp;refine (HP1.o _ _ _ (NA.o.ext (by first|exact Ext.refl _|exact (Ext.refl _).drew)) Nu.o).mono ?_;rintro e w2 ⟨⟨v,rfl,nn⟩,hx⟩;have hx:=Ext.trans (show Ext w1 _ from by first|exact Ext.refl _|exact (Ext.refl _).drew) hx;have NA:=kI (NA.o.ext hx);have NB:=kI (NB.o.ext hx);have A0:=kI (A0.o.ext hx);have A1:=kI (A1.o.ext hx);have A2:=kI (A2.o.ext hx);have Nu:=kI (Nu.o.ext hx);have X:=kI (X.o.trans hx);obtain ⟨p1,p2,rfl⟩:=nn.shape;have Np:=kI nn.rd;clear nn hx;first|refine hK.out _ _ ?_ (fun hHeld=>?_)|(go_wp2_with fail;refine hK.out _ _ ?_ (fun hHeld=>?_))
 ·exact ⟨Blk.s3 A0.o,Blk.s3 A1.o⟩
 clear hK K;(try simp only [sP]);refine wpAnyH_ready (rs:=[5]) (by kernel_rfl) (by simp) ?_;refine AllReadyH.cons rfl (fun K hK=>?_) ?_;rotate_left
 ·exact AllReadyH.nil
 go_simp;first|refine hK.out _ _ ?_ (fun hHeld=>?_)|(go_wp2_with fail;refine hK.out _ _ ?_ (fun hHeld=>?_))
 ·exact ⟨Blk.s3 A0.o,Blk.s3 A1.o⟩
 clear hK K;(try simp only [sP]);refine wpAnyH_done (by kernel_rfl) ?_ _;go_wp2_with fail;refine wp_region_held_drew (S:=(fun W=>(Blk W w.heap.size #[.bool s1,.slice a1 l1.length a2,.slice a3 l2.length a4] 25∧W.cell? ⟨w.heap.size,0,none⟩=some (.bool s1)∧W.cell? ⟨w.heap.size,1,none⟩=some (.slice a1 l1.length a2)∧W.cell? ⟨w.heap.size,2,none⟩=some (.slice a3 l2.length a4))∧(Blk W (w.heap.size+1) #[.bool s2,.slice b1 l3.length b2,.slice b3 l4.length b4] 25∧W.cell? ⟨(w.heap.size+1),0,none⟩=some (.bool s2)∧W.cell? ⟨(w.heap.size+1),1,none⟩=some (.slice b1 l3.length b2)∧W.cell? ⟨(w.heap.size+1),2,none⟩=some (.slice b3 l4.length b4)))) (by kernel_rfl) ?_ (fun hHeld=>?_)
 ·exact ⟨Blk.s3 A0.o.drew,Blk.s3 A1.o.drew⟩
 refine wpAnyH_take (i:=0) (v:=?_) rfl (by kernel_rfl) (by kernel_rfl) (by kernel_rfl) (fun _ _ _ h=>h) (Or.inl ⟨by rfl,?_⟩) (by assumption) ?_;rotate_left
 ·(intro w hSw;(try dsimp only at hSw);go_simp;first|done|with_reducible rfl)
 (try simp only [sP]);refine wpAnyH_take (i:=1) (v:=?_) rfl (by kernel_rfl) (by kernel_rfl) (by kernel_rfl) (fun _ _ _ h=>h) (Or.inl ⟨by rfl,?_⟩) (by assumption) ?_;rotate_left
 ·(intro w hSw;(try dsimp only at hSw);go_simp;first|done|with_reducible rfl)
 (try simp only [sP]);refine wpAnyH_take (i:=2) (v:=?_) rfl (by kernel_rfl) (by kernel_rfl) (by kernel_rfl) (fun _ _ _ h=>h) (Or.inl ⟨by rfl,?_⟩) (by assumption) ?_;rotate_left
 ·(intro w hSw;(try dsimp only at hSw);go_simp;first|done|with_reducible rfl)
 (try simp only [sP]);refine wpAnyH_ready (rs:=[3]) (by kernel_rfl) (by simp) ?_;refine AllReadyH.cons rfl (fun K hK=>?_) ?_;rotate_left
 ·exact AllReadyH.nil
 go_simp;refine (HDA.o _ (Ext.trans X.o (by first|exact Ext.refl _|exact (Ext.refl _).drew))).mono ?_;rintro e w3 ⟨⟨v,rfl,nn⟩,hx⟩;have hx:=Ext.trans (show Ext w2 _ from by first|exact Ext.refl _|exact (Ext.refl _).drew) hx;have NA:=kI (NA.o.ext hx);have NB:=kI (NB.o.ext hx);have A0:=kI (A0.o.ext hx);have A1:=kI (A1.o.ext hx);have A2:=kI (A2.o.ext hx);have Np:=kI (Np.o.ext hx);have X:=kI (X.o.trans hx);obtain ⟨ub1,ub2,rfl⟩:=rdU_shape nn;have Nub:=kI nn;clear nn hx;first|refine hK.out _ _ ?_ (fun hHeld=>?_)|(go_wp2_with fail;refine hK.out _ _ ?_ (fun hHeld=>?_))
 ·exact ⟨Blk.s3 A0.o,Blk.s3 A1.o⟩
 clear hK K;(try simp only [sP]);refine wpAnyH_ready (rs:=[4]) (by kernel_rfl) (by simp) ?_;refine AllReadyH.cons rfl (fun K hK=>?_) ?_;rotate_left
 ·exact AllReadyH.nil
 go_simp;refine (HP2.o _ _ _ (NB.o.ext (by first|exact Ext.refl _|exact (Ext.refl _).drew)) Nub.o).mono ?_;rintro e w4 ⟨⟨v,rfl,nn⟩,hx⟩;have hx:=Ext.trans (show Ext w3 _ from by first|exact Ext.refl _|exact (Ext.refl _).drew) hx;have NA:=kI (NA.o.ext hx);have NB:=kI (NB.o.ext hx);have A0:=kI (A0.o.ext hx);have A1:=kI (A1.o.ext hx);have A2:=kI (A2.o.ext hx);have Np:=kI (Np.o.ext hx);have Nub:=kI (Nub.o.ext hx);have X:=kI (X.o.trans hx);obtain ⟨q1,q2,rfl⟩:=nn.shape;have Nq:=kI nn.rd;clear nn hx;first|refine hK.out _ _ ?_ (fun hHeld=>?_)|(go_wp2_with fail;refine hK.out _ _ ?_ (fun hHeld=>?_))
 ·exact ⟨Blk.s3 A0.o,Blk.s3 A1.o⟩
 clear hK K;(try simp only [sP]);refine wpAnyH_ready (rs:=[5]) (by kernel_rfl) (by simp) ?_;refine AllReadyH.cons rfl (fun K hK=>?_) ?_;rotate_left
 ·exact AllReadyH.nil
 go_simp;first|refine hK.out _ _ ?_ (fun hHeld=>?_)|(go_wp2_with fail;refine hK.out _ _ ?_ (fun hHeld=>?_))
 ·exact ⟨Blk.s3 A0.o,Blk.s3 A1.o⟩
 clear hK K;(try simp only [sP]);refine wpAnyH_done (by kernel_rfl) ?_ _;go_wp2_with fail;refine wp_region_held_drew (S:=(fun W=>(Blk W w.heap.size #[.bool s1,.slice a1 l1.length a2,.slice a3 l2.length a4] 25∧W.cell? ⟨w.heap.size,0,none⟩=some (.bool s1)∧W.cell? ⟨w.heap.size,1,none⟩=some (.slice a1 l1.length a2)∧W.cell? ⟨w.heap.size,2,none⟩=some (.slice a3 l2.length a4))∧(Blk W (w.heap.size+1) #[.bool s2,.slice b1 l3.length b2,.slice b3 l4.length b4] 25∧W.cell? ⟨(w.heap.size+1),0,none⟩=some (.bool s2)∧W.cell? ⟨(w.heap.size+1),1,none⟩=some (.slice b1 l3.length b2)∧W.cell? ⟨(w.heap.size+1),2,none⟩=some (.slice b3 l4.length b4)))) (by kernel_rfl) ?_ (fun hHeld=>?_)
 ·exact ⟨Blk.s3 A0.o.drew,Blk.s3 A1.o.drew⟩
 refine wpAnyH_take (i:=0) (v:=?_) rfl (by kernel_rfl) (by kernel_rfl) (by kernel_rfl) (fun _ _ _ h=>h) (Or.inl ⟨by rfl,?_⟩) (by assumption) ?_;rotate_left
 ·(intro w hSw;(try dsimp only at hSw);go_simp;first|done|with_reducible rfl)
 (try simp only [sP]);refine wpAnyH_take (i:=2) (v:=?_) rfl (by kernel_rfl) (by kernel_rfl) (by kernel_rfl) (fun _ _ _ h=>h) (Or.inl ⟨by rfl,?_⟩) (by assumption) ?_;rotate_left
 ·(intro w hSw;(try dsimp only at hSw);go_simp;first|done|with_reducible rfl)
 (try simp only [sP]);refine wpAnyH_ready (rs:=[1]) (by kernel_rfl) (by simp) ?_;refine AllReadyH.cons rfl (fun K hK=>?_) ?_;rotate_left
 ·exact AllReadyH.nil
 go_simp;refine (HDA.o _ (Ext.trans X.o (by first|exact Ext.refl _|exact (Ext.refl _).drew))).mono ?_;rintro e w5 ⟨⟨v,rfl,nn⟩,hx⟩;have hx:=Ext.trans (show Ext w4 _ from by first|exact Ext.refl _|exact (Ext.refl _).drew) hx;have NA:=kI (NA.o.ext hx);have NB:=kI (NB.o.ext hx);have A0:=kI (A0.o.ext hx);have A1:=kI (A1.o.ext hx);have A2:=kI (A2.o.ext hx);have Np:=kI (Np.o.ext hx);have Nq:=kI (Nq.o.ext hx);have X:=kI (X.o.trans hx);obtain ⟨uc1,uc2,rfl⟩:=rdU_shape nn;have Nuc:=kI nn;clear nn hx;first|refine hK.out _ _ ?_ (fun hHeld=>?_)|(go_wp2_with fail;refine hK.out _ _ ?_ (fun hHeld=>?_))
 ·exact ⟨Blk.s3 A0.o,Blk.s3 A1.o⟩
 clear hK K;(try simp only [sP]);refine wpAnyH_ready (rs:=[3]) (by kernel_rfl) (by simp) ?_;refine AllReadyH.cons rfl (fun K hK=>?_) ?_;rotate_left
 ·exact AllReadyH.nil
 go_simp;refine (HDB.o _ (Ext.trans X.o (by first|exact Ext.refl _|exact (Ext.refl _).drew))).mono ?_;rintro e w6 ⟨⟨v,rfl,nn⟩,hx⟩;have hx:=Ext.trans (show Ext w5 _ from by first|exact Ext.refl _|exact (Ext.refl _).drew) hx;have NA:=kI (NA.o.ext hx);have NB:=kI (NB.o.ext hx);have A0:=kI (A0.o.ext hx);have A1:=kI (A1.o.ext hx);have A2:=kI (A2.o.ext hx);have Np:=kI (Np.o.ext hx);have Nq:=kI (Nq.o.ext hx);have Nuc:=kI (Nuc.o.ext hx);have X:=kI (X.o.trans hx);obtain ⟨ud1,ud2,rfl⟩:=rdU_shape nn;have Nud:=kI nn;clear nn hx;first|refine hK.out _ _ ?_ (fun hHeld=>?_)|(go_wp2_with fail;refine hK.out _ _ ?_ (fun hHeld=>?_))
 ·exact ⟨Blk.s3 A0.o,Blk.s3 A1.o⟩
 clear hK K;(try simp only [sP]);refine wpAnyH_ready (rs:=[4]) (by kernel_rfl) (by simp) ?_;refine AllReadyH.cons rfl (fun K hK=>?_) ?_;rotate_left
 ·exact AllReadyH.nil
 go_simp;refine (HP3.o _ _ _ Nuc.o Nud.o).mono ?_;rintro e w7 ⟨⟨v,rfl,nn⟩,hx⟩;have hx:=Ext.trans (show Ext w6 _ from by first|exact Ext.refl _|exact (Ext.refl _).drew) hx;have NA:=kI (NA.o.ext hx);have NB:=kI (NB.o.ext hx);have A0:=kI (A0.o.ext hx);have A1:=kI (A1.o.ext hx);have A2:=kI (A2.o.ext hx);have Np:=kI (Np.o.ext hx);have Nq:=kI (Nq.o.ext hx);have Nuc:=kI (Nuc.o.ext hx);have Nud:=kI (Nud.o.ext hx);have X:=kI (X.o.trans hx);obtain ⟨d1,d2,rfl⟩:=nn.shape;have Nd:=kI nn.rd;clear nn hx;first|refine hK.out _ _ ?_ (fun hHeld=>?_)|(go_wp2_with fail;refine hK.out _ _ ?_ (fun hHeld=>?_))
 ·exact ⟨Blk.s3 A0.o,Blk.s3 A1.o⟩
 clear hK K;(try simp only [sP]);refine wpAnyH_ready (rs:=[5]) (by kernel_rfl) (by simp) ?_;refine AllReadyH.cons rfl (fun K hK=>?_) ?_;rotate_left
 ·exact AllReadyH.nil
 go_simp;first|refine hK.out _ _ ?_ (fun hHeld=>?_)|(go_wp2_with fail;refine hK.out _ _ ?_ (fun hHeld=>?_))
 ·exact ⟨Blk.s3 A0.o,Blk.s3 A1.o⟩
 clear hK K;(try simp only [sP]);refine wpAnyH_done (by kernel_rfl) ?_ _;have hs9:s1=s2∨¬ s1=s2:=Classical.em _;obtain ⟨qA0,fA0,lA0⟩:=A0.o.q3;obtain ⟨qA1,fA1,lA1⟩:=A1.o.q3;rcases hs9 with hs|hs
 ·have hsb:(s1 == s2)=true:=by simpa using hs
  have hmk9:=HMK.o (P+Q) (Nat.le_refl _) s1;rw [HR1.o hs] at hmk9;have HMK9:=kI hmk9;clear hmk9;clear hs;go_wp2_with fail;refine wp_region_held_drew (S:=(fun W=>(Blk W w.heap.size #[.bool s1,.slice a1 l1.length a2,.slice a3 l2.length a4] 25∧W.cell? ⟨w.heap.size,0,none⟩=some (.bool s1)∧W.cell? ⟨w.heap.size,1,none⟩=some (.slice a1 l1.length a2)∧W.cell? ⟨w.heap.size,2,none⟩=some (.slice a3 l2.length a4))∧(Blk W (w.heap.size+1) #[.bool s2,.slice b1 l3.length b2,.slice b3 l4.length b4] 25∧W.cell? ⟨(w.heap.size+1),0,none⟩=some (.bool s2)∧W.cell? ⟨(w.heap.size+1),1,none⟩=some (.slice b1 l3.length b2)∧W.cell? ⟨(w.heap.size+1),2,none⟩=some (.slice b3 l4.length b4)))) (by kernel_rfl) ?_ (fun hHeld=>?_)
  ·exact ⟨Blk.s3 A0.o.drew,Blk.s3 A1.o.drew⟩
  refine wpAnyH_take (i:=0) (v:=?_) rfl (by kernel_rfl) (by kernel_rfl) (by kernel_rfl) (fun _ _ _ h=>h) (Or.inl ⟨by rfl,?_⟩) (by assumption) ?_;rotate_left
  ·(intro w hSw;(try dsimp only at hSw);go_simp;first|done|with_reducible rfl)
  (try simp only [sP]);refine wpAnyH_take (i:=1) (v:=?_) rfl (by kernel_rfl) (by kernel_rfl) (by kernel_rfl) (fun _ _ _ h=>h) (Or.inl ⟨by rfl,?_⟩) (by assumption) ?_;rotate_left
  ·(intro w hSw;(try dsimp only at hSw);go_simp;first|done|with_reducible rfl)
  (try simp only [sP]);refine wpAnyH_take (i:=2) (v:=?_) rfl (by kernel_rfl) (by kernel_rfl) (by kernel_rfl) (fun _ _ _ h=>h) (Or.inl ⟨by rfl,?_⟩) (by assumption) ?_;rotate_left
  ·(intro w hSw;(try dsimp only at hSw);go_simp;first|done|with_reducible rfl)
  (try simp only [sP]);refine wpAnyH_take (i:=3) (v:=?_) rfl (by kernel_rfl) (by kernel_rfl) (by kernel_rfl) (fun _ _ _ h=>h) (Or.inl ⟨by rfl,?_⟩) (by assumption) ?_;rotate_left
  ·(intro w hSw;(try dsimp only at hSw);go_simp;first|done|with_reducible rfl)
  (try simp only [sP]);refine wpAnyH_take (i:=5) (v:=?_) rfl (by kernel_rfl) (by kernel_rfl) (by kernel_rfl) (fun _ _ _ h=>h) (Or.inl ⟨by rfl,?_⟩) (by assumption) ?_;rotate_left
  ·(intro w hSw;(try dsimp only at hSw);go_simp;first|done|with_reducible rfl)
  (try simp only [sP]);refine wpAnyH_ready (rs:=[4]) (by kernel_rfl) (by simp) ?_;refine AllReadyH.cons rfl (fun K hK=>?_) ?_;rotate_left
  ·exact AllReadyH.nil
  go_simp;refine (HSM.o _ _ _ (Np.o.ext (by first|exact Ext.refl _|exact (Ext.refl _).drew)) (Nq.o.ext (by first|exact Ext.refl _|exact (Ext.refl _).drew))).mono ?_;rintro e w8 ⟨⟨v,rfl,nn⟩,hx⟩;have hx:=Ext.trans (show Ext w7 _ from by first|exact Ext.refl _|exact (Ext.refl _).drew) hx;clear qA0 fA0 lA0 qA1 fA1 lA1;have A0:=kI (A0.o.ext hx);have A1:=kI (A1.o.ext hx);have A2:=kI (A2.o.ext hx);have Np:=kI (Np.o.ext hx);have Nq:=kI (Nq.o.ext hx);have Nd:=kI (Nd.o.ext hx);have X:=kI (X.o.trans hx);obtain ⟨m1,m2,rfl⟩:=nn.shape;have Nm:=kI nn.rd;clear nn hx;first|refine hK.out _ _ ?_ (fun hHeld=>?_)|(go_wp2_with fail;refine hK.out _ _ ?_ (fun hHeld=>?_))
  ·exact ⟨Blk.s3 A0.o,Blk.s3 A1.o⟩
  clear hK K;(try simp only [sP]);have x6:=X.o;refine wpAnyH_ready (rs:=[6]) (by kernel_rfl) (by simp) ?_;refine AllReadyH.cons rfl (fun K hK=>?_) ?_;rotate_left
  ·exact AllReadyH.nil
  go_simp;refine (HMK9.o _ _ _ Nm.o (Nd.o.ext (by first|exact Ext.refl _|exact (Ext.refl _).drew))).mono ?_;rintro e w9 ⟨⟨v,rfl,nn⟩,hx⟩;have hx:=Ext.trans (show Ext w8 _ from by first|exact Ext.refl _|exact (Ext.refl _).drew) hx;have A0:=kI (A0.o.ext hx);have A1:=kI (A1.o.ext hx);have A2:=kI (A2.o.ext hx);have Np:=kI (Np.o.ext hx);have Nq:=kI (Nq.o.ext hx);have Nd:=kI (Nd.o.ext hx);have Nm:=kI (Nm.o.ext hx);have X:=kI (X.o.trans hx);obtain ⟨r1,r2,r3,r4,rfl⟩:=nn.shape;have Nr:=kI nn.rd;have Or:=kI (nn.from (x6));clear nn hx;first|refine hK.out _ _ ?_ (fun hHeld=>?_)|(go_wp2_with fail;refine hK.out _ _ ?_ (fun hHeld=>?_))
  ·exact ⟨Blk.s3 A0.o,Blk.s3 A1.o⟩
  clear hK K;(try simp only [sP]);have q2:=A2.o.cell;have f2:=A2.o.free;have l2':=A2.o.lt;refine wpAnyH_ready (rs:=[7]) (by kernel_rfl) (by simp) ?_;refine AllReadyH.cons rfl (fun K hK=>?_) ?_;rotate_left
  ·exact AllReadyH.nil
  go_simp;first|refine hK.out _ _ ?_ (fun hHeld=>?_)|(go_wp2_with fail;refine hK.out _ _ ?_ (fun hHeld=>?_))
  ·((try dsimp only);(refine ⟨Blk.s3 ?_,Blk.s3 ?_⟩ <;> (repeat (first|exact A0.o|exact A1.o|refine Blk.setOther ?_ (by dsimp only;omega) _|refine Blk.alloc ?_ _|refine Blk.drew ?_))))
  clear hK K;(try simp only [sP]);refine wpAnyH_done (by kernel_rfl) ?_ _;go_wp2_with fail;refine bodyPost_ret (v:=.agg #[.bool R.neg,.slice r1 R.num.length r2,.slice r3 R.den.length r4]) (by simp only [results,Tryz.results68];go_simp) rfl ⟨⟨_,rfl,NewR.set3 Or.o A2.o (by decide) _ _ _⟩,?_⟩;have:=X.o;(repeat (first|(with_reducible first|exact eR _|assumption|refine eA ?_ _)|((with_reducible refine eS ?_ ?_);focus (dsimp only;omega))|(with_reducible first|refine eD ?_|refine eN ?_ _|refine eT ?_ (by assumption))))
 ·have hsb:(s1 == s2)=false:=by simpa using hs
  have HS:=kI hs;clear hs;go_wp2_with fail;refine (HOR.o _ _ _ Np.o Nq.o).mono ?_;rintro e w8 ⟨rfl,hx⟩;clear qA0 fA0 lA0 qA1 fA1 lA1;have A0:=kI (A0.o.ext hx);have A1:=kI (A1.o.ext hx);have A2:=kI (A2.o.ext hx);have Np:=kI (Np.o.ext hx);have Nq:=kI (Nq.o.ext hx);have Nd:=kI (Nd.o.ext hx);have X:=kI (X.o.trans hx);clear hx;obtain ⟨qA0,fA0,lA0⟩:=A0.o.q3;obtain ⟨qA1,fA1,lA1⟩:=A1.o.q3;by_cases hlt:P < Q
  ·have ec:cmpN P Q = -1:=cmpN_lt hlt;rw [ec];have hmk9:=HMK.o (Q - P) (by omega) s2;rw [HR2.o HS.o hlt] at hmk9;have HMK9:=kI hmk9;clear hmk9;have hle:P≤Q:=by omega
   clear hlt ec;go_wp2_with fail;refine wp_region_held_drew (S:=(fun W=>(Blk W w.heap.size #[.bool s1,.slice a1 l1.length a2,.slice a3 l2.length a4] 25∧W.cell? ⟨w.heap.size,0,none⟩=some (.bool s1)∧W.cell? ⟨w.heap.size,1,none⟩=some (.slice a1 l1.length a2)∧W.cell? ⟨w.heap.size,2,none⟩=some (.slice a3 l2.length a4))∧(Blk W (w.heap.size+1) #[.bool s2,.slice b1 l3.length b2,.slice b3 l4.length b4] 25∧W.cell? ⟨(w.heap.size+1),0,none⟩=some (.bool s2)∧W.cell? ⟨(w.heap.size+1),1,none⟩=some (.slice b1 l3.length b2)∧W.cell? ⟨(w.heap.size+1),2,none⟩=some (.slice b3 l4.length b4)))) (by kernel_rfl) ?_ (fun hHeld=>?_)
   ·exact ⟨Blk.s3 A0.o.drew,Blk.s3 A1.o.drew⟩
   refine wpAnyH_take (i:=0) (v:=?_) rfl (by kernel_rfl) (by kernel_rfl) (by kernel_rfl) (fun _ _ _ h=>h) (Or.inl ⟨by rfl,?_⟩) (by assumption) ?_;rotate_left
   ·(intro w hSw;(try dsimp only at hSw);go_simp;first|done|with_reducible rfl)
   (try simp only [sP]);refine wpAnyH_take (i:=1) (v:=?_) rfl (by kernel_rfl) (by kernel_rfl) (by kernel_rfl) (fun _ _ _ h=>h) (Or.inl ⟨by rfl,?_⟩) (by assumption) ?_;rotate_left
   ·(intro w hSw;(try dsimp only at hSw);go_simp;first|done|with_reducible rfl)
   (try simp only [sP]);refine wpAnyH_take (i:=2) (v:=?_) rfl (by kernel_rfl) (by kernel_rfl) (by kernel_rfl) (fun _ _ _ h=>h) (Or.inl ⟨by rfl,?_⟩) (by assumption) ?_;rotate_left
   ·(intro w hSw;(try dsimp only at hSw);go_simp;first|done|with_reducible rfl)
   (try simp only [sP]);refine wpAnyH_take (i:=3) (v:=?_) rfl (by kernel_rfl) (by kernel_rfl) (by kernel_rfl) (fun _ _ _ h=>h) (Or.inl ⟨by rfl,?_⟩) (by assumption) ?_;rotate_left
   ·(intro w hSw;(try dsimp only at hSw);go_simp;first|done|with_reducible rfl)
   (try simp only [sP]);refine wpAnyH_take (i:=5) (v:=?_) rfl (by kernel_rfl) (by kernel_rfl) (by kernel_rfl) (fun _ _ _ h=>h) (Or.inl ⟨by rfl,?_⟩) (by assumption) ?_;rotate_left
   ·(intro w hSw;(try dsimp only at hSw);go_simp;first|done|with_reducible rfl)
   (try simp only [sP]);refine wpAnyH_ready (rs:=[4]) (by kernel_rfl) (by simp) ?_;refine AllReadyH.cons rfl (fun K hK=>?_) ?_;rotate_left
   ·exact AllReadyH.nil
   go_simp;refine (HD2.o _ _ _ (Nq.o.ext (by first|exact Ext.refl _|exact (Ext.refl _).drew)) (Np.o.ext (by first|exact Ext.refl _|exact (Ext.refl _).drew)) hle).mono ?_;rintro e w9 ⟨⟨v,rfl,nn⟩,hx⟩;have hx:=Ext.trans (show Ext w8 _ from by first|exact Ext.refl _|exact (Ext.refl _).drew) hx;clear qA0 fA0 lA0 qA1 fA1 lA1;have A0:=kI (A0.o.ext hx);have A1:=kI (A1.o.ext hx);have A2:=kI (A2.o.ext hx);have Np:=kI (Np.o.ext hx);have Nq:=kI (Nq.o.ext hx);have Nd:=kI (Nd.o.ext hx);have X:=kI (X.o.trans hx);obtain ⟨m1,m2,rfl⟩:=nn.shape;have Nm:=kI nn.rd;clear nn hx;first|refine hK.out _ _ ?_ (fun hHeld=>?_)|(go_wp2_with fail;refine hK.out _ _ ?_ (fun hHeld=>?_))
   ·exact ⟨Blk.s3 A0.o,Blk.s3 A1.o⟩
   clear hK K;(try simp only [sP]);have x6:=X.o;refine wpAnyH_ready (rs:=[6]) (by kernel_rfl) (by simp) ?_;refine AllReadyH.cons rfl (fun K hK=>?_) ?_;rotate_left
   ·exact AllReadyH.nil
   go_simp;refine (HMK9.o _ _ _ Nm.o (Nd.o.ext (by first|exact Ext.refl _|exact (Ext.refl _).drew))).mono ?_;rintro e w10 ⟨⟨v,rfl,nn⟩,hx⟩;have hx:=Ext.trans (show Ext w9 _ from by first|exact Ext.refl _|exact (Ext.refl _).drew) hx;have A0:=kI (A0.o.ext hx);have A1:=kI (A1.o.ext hx);have A2:=kI (A2.o.ext hx);have Np:=kI (Np.o.ext hx);have Nq:=kI (Nq.o.ext hx);have Nd:=kI (Nd.o.ext hx);have Nm:=kI (Nm.o.ext hx);have X:=kI (X.o.trans hx);obtain ⟨r1,r2,r3,r4,rfl⟩:=nn.shape;have Nr:=kI nn.rd;have Or:=kI (nn.from (x6));clear nn hx;first|refine hK.out _ _ ?_ (fun hHeld=>?_)|(go_wp2_with fail;refine hK.out _ _ ?_ (fun hHeld=>?_))
   ·exact ⟨Blk.s3 A0.o,Blk.s3 A1.o⟩
   clear hK K;(try simp only [sP]);have q2:=A2.o.cell;have f2:=A2.o.free;have l2':=A2.o.lt;refine wpAnyH_ready (rs:=[7]) (by kernel_rfl) (by simp) ?_;refine AllReadyH.cons rfl (fun K hK=>?_) ?_;rotate_left
   ·exact AllReadyH.nil
   go_simp;first|refine hK.out _ _ ?_ (fun hHeld=>?_)|(go_wp2_with fail;refine hK.out _ _ ?_ (fun hHeld=>?_))
   ·((try dsimp only);(refine ⟨Blk.s3 ?_,Blk.s3 ?_⟩ <;> (repeat (first|exact A0.o|exact A1.o|refine Blk.setOther ?_ (by dsimp only;omega) _|refine Blk.alloc ?_ _|refine Blk.drew ?_))))
   clear hK K;(try simp only [sP]);refine wpAnyH_done (by kernel_rfl) ?_ _;go_wp2_with fail;refine bodyPost_ret (v:=.agg #[.bool R.neg,.slice r1 R.num.length r2,.slice r3 R.den.length r4]) (by simp only [results,Tryz.results68];go_simp) rfl ⟨⟨_,rfl,NewR.set3 Or.o A2.o (by decide) _ _ _⟩,?_⟩;have:=X.o;(repeat (first|(with_reducible first|exact eR _|assumption|refine eA ?_ _)|((with_reducible refine eS ?_ ?_);focus (dsimp only;omega))|(with_reducible first|refine eD ?_|refine eN ?_ _|refine eT ?_ (by assumption))))
  ·have ec:0≤cmpN P Q:=by unfold cmpN sgn;rw [if_neg (by omega)];split <;> omega
   obtain ⟨cc,hcc⟩:=gN (cmpN P Q);rw [← hcc] at ec ⊢;have hmk9:=HMK.o (P - Q) (by omega) s1;rw [HR3.o HS.o hlt] at hmk9;have HMK9:=kI hmk9;clear hmk9;have hle:Q≤P:=by omega
   clear hlt hcc;go_wp2_with fail;refine wp_region_held_drew (S:=(fun W=>(Blk W w.heap.size #[.bool s1,.slice a1 l1.length a2,.slice a3 l2.length a4] 25∧W.cell? ⟨w.heap.size,0,none⟩=some (.bool s1)∧W.cell? ⟨w.heap.size,1,none⟩=some (.slice a1 l1.length a2)∧W.cell? ⟨w.heap.size,2,none⟩=some (.slice a3 l2.length a4))∧(Blk W (w.heap.size+1) #[.bool s2,.slice b1 l3.length b2,.slice b3 l4.length b4] 25∧W.cell? ⟨(w.heap.size+1),0,none⟩=some (.bool s2)∧W.cell? ⟨(w.heap.size+1),1,none⟩=some (.slice b1 l3.length b2)∧W.cell? ⟨(w.heap.size+1),2,none⟩=some (.slice b3 l4.length b4)))) (by kernel_rfl) ?_ (fun hHeld=>?_)
   ·exact ⟨Blk.s3 A0.o.drew,Blk.s3 A1.o.drew⟩
   refine wpAnyH_take (i:=0) (v:=?_) rfl (by kernel_rfl) (by kernel_rfl) (by kernel_rfl) (fun _ _ _ h=>h) (Or.inl ⟨by rfl,?_⟩) (by assumption) ?_;rotate_left
   ·(intro w hSw;(try dsimp only at hSw);go_simp;first|done|with_reducible rfl)
   (try simp only [sP]);refine wpAnyH_take (i:=1) (v:=?_) rfl (by kernel_rfl) (by kernel_rfl) (by kernel_rfl) (fun _ _ _ h=>h) (Or.inl ⟨by rfl,?_⟩) (by assumption) ?_;rotate_left
   ·(intro w hSw;(try dsimp only at hSw);go_simp;first|done|with_reducible rfl)
   (try simp only [sP]);refine wpAnyH_take (i:=2) (v:=?_) rfl (by kernel_rfl) (by kernel_rfl) (by kernel_rfl) (fun _ _ _ h=>h) (Or.inl ⟨by rfl,?_⟩) (by assumption) ?_;rotate_left
   ·(intro w hSw;(try dsimp only at hSw);go_simp;first|done|with_reducible rfl)
   (try simp only [sP]);refine wpAnyH_take (i:=3) (v:=?_) rfl (by kernel_rfl) (by kernel_rfl) (by kernel_rfl) (fun _ _ _ h=>h) (Or.inl ⟨by rfl,?_⟩) (by assumption) ?_;rotate_left
   ·(intro w hSw;(try dsimp only at hSw);go_simp;first|done|with_reducible rfl)
   (try simp only [sP]);refine wpAnyH_take (i:=5) (v:=?_) rfl (by kernel_rfl) (by kernel_rfl) (by kernel_rfl) (fun _ _ _ h=>h) (Or.inl ⟨by rfl,?_⟩) (by assumption) ?_;rotate_left
   ·(intro w hSw;(try dsimp only at hSw);go_simp;first|done|with_reducible rfl)
   (try simp only [sP]);refine wpAnyH_ready (rs:=[4]) (by kernel_rfl) (by simp) ?_;refine AllReadyH.cons rfl (fun K hK=>?_) ?_;rotate_left
   ·exact AllReadyH.nil
   go_simp;refine (HD1.o _ _ _ (Np.o.ext (by first|exact Ext.refl _|exact (Ext.refl _).drew)) (Nq.o.ext (by first|exact Ext.refl _|exact (Ext.refl _).drew)) hle).mono ?_;rintro e w9 ⟨⟨v,rfl,nn⟩,hx⟩;have hx:=Ext.trans (show Ext w8 _ from by first|exact Ext.refl _|exact (Ext.refl _).drew) hx;clear qA0 fA0 lA0 qA1 fA1 lA1;have A0:=kI (A0.o.ext hx);have A1:=kI (A1.o.ext hx);have A2:=kI (A2.o.ext hx);have Np:=kI (Np.o.ext hx);have Nq:=kI (Nq.o.ext hx);have Nd:=kI (Nd.o.ext hx);have X:=kI (X.o.trans hx);obtain ⟨m1,m2,rfl⟩:=nn.shape;have Nm:=kI nn.rd;clear nn hx;first|refine hK.out _ _ ?_ (fun hHeld=>?_)|(go_wp2_with fail;refine hK.out _ _ ?_ (fun hHeld=>?_))
   ·exact ⟨Blk.s3 A0.o,Blk.s3 A1.o⟩
   clear hK K;(try simp only [sP]);have x6:=X.o;refine wpAnyH_ready (rs:=[6]) (by kernel_rfl) (by simp) ?_;refine AllReadyH.cons rfl (fun K hK=>?_) ?_;rotate_left
   ·exact AllReadyH.nil
   go_simp;refine (HMK9.o _ _ _ Nm.o (Nd.o.ext (by first|exact Ext.refl _|exact (Ext.refl _).drew))).mono ?_;rintro e w10 ⟨⟨v,rfl,nn⟩,hx⟩;have hx:=Ext.trans (show Ext w9 _ from by first|exact Ext.refl _|exact (Ext.refl _).drew) hx;have A0:=kI (A0.o.ext hx);have A1:=kI (A1.o.ext hx);have A2:=kI (A2.o.ext hx);have Np:=kI (Np.o.ext hx);have Nq:=kI (Nq.o.ext hx);have Nd:=kI (Nd.o.ext hx);have Nm:=kI (Nm.o.ext hx);have X:=kI (X.o.trans hx);obtain ⟨r1,r2,r3,r4,rfl⟩:=nn.shape;have Nr:=kI nn.rd;have Or:=kI (nn.from (x6));clear nn hx;first|refine hK.out _ _ ?_ (fun hHeld=>?_)|(go_wp2_with fail;refine hK.out _ _ ?_ (fun hHeld=>?_))
   ·exact ⟨Blk.s3 A0.o,Blk.s3 A1.o⟩
   clear hK K;(try simp only [sP]);have q2:=A2.o.cell;have f2:=A2.o.free;have l2':=A2.o.lt;refine wpAnyH_ready (rs:=[7]) (by kernel_rfl) (by simp) ?_;refine AllReadyH.cons rfl (fun K hK=>?_) ?_;rotate_left
   ·exact AllReadyH.nil
   go_simp;first|refine hK.out _ _ ?_ (fun hHeld=>?_)|(go_wp2_with fail;refine hK.out _ _ ?_ (fun hHeld=>?_))
   ·((try dsimp only);(refine ⟨Blk.s3 ?_,Blk.s3 ?_⟩ <;> (repeat (first|exact A0.o|exact A1.o|refine Blk.setOther ?_ (by dsimp only;omega) _|refine Blk.alloc ?_ _|refine Blk.drew ?_))))
   clear hK K;(try simp only [sP]);refine wpAnyH_done (by kernel_rfl) ?_ _;go_wp2_with fail;refine bodyPost_ret (v:=.agg #[.bool R.neg,.slice r1 R.num.length r2,.slice r3 R.den.length r4]) (by simp only [results,Tryz.results68];go_simp) rfl ⟨⟨_,rfl,NewR.set3 Or.o A2.o (by decide) _ _ _⟩,?_⟩;have:=X.o;(repeat (first|(with_reducible first|exact eR _|assumption|refine eA ?_ _)|((with_reducible refine eS ?_ ?_);focus (dsimp only;omega))|(with_reducible first|refine eD ?_|refine eN ?_ _|refine eT ?_ (by assumption))))
end Go.Proofs.YtfflknbeidihoaaGreat
