/- Lemmas and walks. Conditions: as stated. -/
import Derived.Test.YtfflknbeidihoaaGreatSuRatSb
import Derived.Test.YtfflknbeidihoaaGreatSuEach
set_option linter.unusedVariables false
set_option linter.unusedSimpArgs false
set_option maxRecDepth 100000
set_option maxHeartbeats 16000000
namespace Go.Proofs.YtfflknbeidihoaaGreat
open Go.RowKit
theorem refProduct6_any (va vb:Value) (a b:Rat) (w:World) (ha:RdR w va (rep a)) (hb:RdR w vb (rep b)) (sa:lenR (rep a) 2000) (sb:lenR (rep b) 2000) :
  Calls Tryz.prog 69 #[va,vb] w fun e w'=>(∃ v,e=.returned v∧NewR w w' v (rep (a*b)))∧Ext w w':=by
 obtain ⟨a1,a2,a3,a4,rfl,han,had⟩:=ha.parts;obtain ⟨b1,b2,b3,b4,rfl,hbn,hbd⟩:=hb.parts;have hda:=fun W (x:Ext w W)=>den_any _ (rep a) W (ha.ext x)
 have hdb:=fun W (x:Ext w W)=>den_any _ (rep b) W (hb.ext x)
 have za:nv (dl (rep a).den)≠0:=by rw [nv_repd];exact a.den_nz
 have zb:nv (dl (rep b).den)≠0:=by rw [nv_repd];exact b.den_nz
 have ga:=limR_rep a;have gb:=limR_rep b;have ka:(dl (rep a).den).length≤2000:=len_dl sa.2 (by omega);have kb:(dl (rep b).den).length≤2000:=len_dl sb.2 (by omega);have kan:=sa.1;have kbn:=sb.1;have gda:=lim_dl ga.2;have gdb:=lim_dl gb.2;have gna:=ga.1;have gnb:=gb.1;have hr:=prod_rep a b;obtain ⟨P,hP⟩:∃ P,P=nv (rep a).num*nv (rep b).num:=⟨_,rfl⟩
 obtain ⟨D,hD⟩:∃ D,D=nv (dl (rep a).den)*nv (dl (rep b).den):=⟨_,rfl⟩
 have hD0:D≠0:=by rw [hD];exact Nat.mul_ne_zero za zb
 have hPl:(lim P).length≤4000:=by rw [hP];exact len_prod gna gnb kan kbn
 have hDl:(lim D).length≤4000:=by rw [hD];exact len_prod gda gdb ka kb
 have hp1:=fun W v1 v2 h1 h2=>prod_at (w:=W) (va:=v1) (vb:=v2) h1 h2 gna gnb (by omega) (by omega)
 have hp2:=fun W v1 v2 h1 h2=>prod_at (w:=W) (va:=v1) (vb:=v2) h1 h2 gda gdb (by omega) (by omega)
 rw [← hP] at hp1 hr;rw [← hD] at hp2 hr;have hmk:=fun W v1 v2 h1 h2=>make_any ((rep a).neg != (rep b).neg) v1 v2 (lim P) (lim D) W h1 h2 (lim_lim _) (lim_lim _) (lim_noZ _) (lim_noZ _) (by omega) (by omega) (by rw [nv_lim];exact hD0)
 rw [nv_lim,nv_lim,hr] at hmk;obtain ⟨R,hR⟩:∃ R,R=rep (a*b):=⟨_,rfl⟩
 rw [← hR] at hmk ⊢;obtain ⟨ra,hra⟩:∃ r,r=rep a:=⟨_,rfl⟩
 obtain ⟨rb,hrb⟩:∃ r,r=rep b:=⟨_,rfl⟩
 rw [← hra] at han had hda hp1 hp2 hmk ⊢;rw [← hrb] at hbn hbd hdb hp1 hp2 hmk ⊢;obtain ⟨s1,l1,l2⟩:=ra;obtain ⟨s2,l3,l4⟩:=rb;dsimp only at han had hbn hbd hda hdb hp1 hp2 hmk ⊢;have NA:=kI han;have NB:=kI hbn;have HDA:=kI hda;have HDB:=kI hdb;have HP1:=kI hp1;have HP2:=kI hp2;have HMK:=kI hmk;clear han had hbn hbd hda hdb hp1 hp2 hmk hr hP hD hR hra hrb ha hb sa sb ga gb gda gdb gna gnb ka kb kan kbn za zb hD0 hPl hDl;have bb0:=(((Blk.new w #[.bool s1,.slice a1 l1.length a2,.slice a3 l2.length a4] 25).alloc (.cells #[.bool s2,.slice b1 l3.length b2,.slice b3 l4.length b4] 25)).alloc (.cells #[.bool false,.slice none 0 0,.slice none 0 0] 25));have bb1:=((Blk.new (w.alloc (.cells #[.bool s1,.slice a1 l1.length a2,.slice a3 l2.length a4] 25)) #[.bool s2,.slice b1 l3.length b2,.slice b3 l4.length b4] 25).alloc (.cells #[.bool false,.slice none 0 0,.slice none 0 0] 25));have bb2:=(Blk.new ((w.alloc (.cells #[.bool s1,.slice a1 l1.length a2,.slice a3 l2.length a4] 25)).alloc (.cells #[.bool s2,.slice b1 l3.length b2,.slice b3 l4.length b4] 25)) #[.bool false,.slice none 0 0,.slice none 0 0] 25);rw [World.size_alloc] at bb1;rw [World.size_alloc,World.size_alloc] at bb2;have x0:Ext w (((w.alloc (.cells #[.bool s1,.slice a1 l1.length a2,.slice a3 l2.length a4] 25)).alloc (.cells #[.bool s2,.slice b1 l3.length b2,.slice b3 l4.length b4] 25)).alloc (.cells #[.bool false,.slice none 0 0,.slice none 0 0] 25)):=((((Ext.refl w).alloc _).alloc _).alloc _);have A0:=kI bb0;have A1:=kI bb1;have A2:=kI bb2;have X:=kI x0;clear x0 bb0 bb1 bb2;have NA:=kI (NA.o.ext X.o);have NB:=kI (NB.o.ext X.o);go_enter Tryz.func69,Tryz.ntmps69
 go_wp2_with fail;refine wp_region_held_drew (S:=(fun W=>(Blk W w.heap.size #[.bool s1,.slice a1 l1.length a2,.slice a3 l2.length a4] 25∧W.cell? ⟨w.heap.size,0,none⟩=some (.bool s1)∧W.cell? ⟨w.heap.size,1,none⟩=some (.slice a1 l1.length a2)∧W.cell? ⟨w.heap.size,2,none⟩=some (.slice a3 l2.length a4))∧(Blk W (w.heap.size+1) #[.bool s2,.slice b1 l3.length b2,.slice b3 l4.length b4] 25∧W.cell? ⟨(w.heap.size+1),0,none⟩=some (.bool s2)∧W.cell? ⟨(w.heap.size+1),1,none⟩=some (.slice b1 l3.length b2)∧W.cell? ⟨(w.heap.size+1),2,none⟩=some (.slice b3 l4.length b4)))) (by kernel_rfl) ?_ (fun hHeld=>?_)
 ·exact ⟨Blk.s3 A0.o.drew,Blk.s3 A1.o.drew⟩
 refine wpAnyH_take (i:=0) (v:=?_) rfl (by kernel_rfl) (by kernel_rfl) (by kernel_rfl) (fun _ _ _ h=>h) (Or.inl ⟨by rfl,?_⟩) (by assumption) ?_;rotate_left
 ·(intro w hSw;(try dsimp only at hSw);go_simp;first|done|with_reducible rfl)
 (try simp only [sP]);refine wpAnyH_take (i:=1) (v:=?_) rfl (by kernel_rfl) (by kernel_rfl) (by kernel_rfl) (fun _ _ _ h=>h) (Or.inl ⟨by rfl,?_⟩) (by assumption) ?_;rotate_left
 ·(intro w hSw;(try dsimp only at hSw);go_simp;first|done|with_reducible rfl)
 (try simp only [sP]);refine wpAnyH_take (i:=2) (v:=?_) rfl (by kernel_rfl) (by kernel_rfl) (by kernel_rfl) (fun _ _ _ h=>h) (Or.inl ⟨by rfl,?_⟩) (by assumption) ?_;rotate_left
 ·(intro w hSw;(try dsimp only at hSw);go_simp;first|done|with_reducible rfl)
 (try simp only [sP]);refine wpAnyH_take (i:=3) (v:=?_) rfl (by kernel_rfl) (by kernel_rfl) (by kernel_rfl) (fun _ _ _ h=>h) (Or.inl ⟨by rfl,?_⟩) (by assumption) ?_;rotate_left
 ·(intro w hSw;(try dsimp only at hSw);go_simp;first|done|with_reducible rfl)
 (try simp only [sP]);refine wpAnyH_take (i:=4) (v:=?_) rfl (by kernel_rfl) (by kernel_rfl) (by kernel_rfl) (fun _ _ _ h=>h) (Or.inl ⟨by rfl,?_⟩) (by assumption) ?_;rotate_left
 ·(intro w hSw;(try dsimp only at hSw);go_simp;first|done|with_reducible rfl)
 (try simp only [sP]);refine wpAnyH_take (i:=5) (v:=?_) rfl (by kernel_rfl) (by kernel_rfl) (by kernel_rfl) (fun _ _ _ h=>h) (Or.inl ⟨by rfl,?_⟩) (by assumption) ?_;rotate_left
 ·(intro w hSw;(try dsimp only at hSw);go_simp;first|done|with_reducible rfl)
 (try simp only [sP]);refine wpAnyH_take (i:=6) (v:=?_) rfl (by kernel_rfl) (by kernel_rfl) (by kernel_rfl) (fun _ _ _ h=>h) (Or.inl ⟨by rfl,?_⟩) (by assumption) ?_;rotate_left
 ·(intro w hSw;(try dsimp only at hSw);go_simp;first|done|with_reducible rfl)
 (try simp only [sP]);refine wpAnyH_take (i:=7) (v:=?_) rfl (by kernel_rfl) (by kernel_rfl) (by kernel_rfl) (fun _ _ _ h=>h) (Or.inl ⟨by rfl,?_⟩) (by assumption) ?_;rotate_left
 ·(intro w hSw;(try dsimp only at hSw);go_simp;first|done|with_reducible rfl)
 (try simp only [sP]);refine wpAnyH_take (i:=8) (v:=?_) rfl (by kernel_rfl) (by kernel_rfl) (by kernel_rfl) (fun _ _ _ h=>h) (Or.inl ⟨by rfl,?_⟩) (by assumption) ?_;rotate_left
 ·(intro w hSw;(try dsimp only at hSw);go_simp;first|done|with_reducible rfl)
 (try simp only [sP]);refine wpAnyH_take (i:=10) (v:=?_) rfl (by kernel_rfl) (by kernel_rfl) (by kernel_rfl) (fun _ _ _ h=>h) (Or.inl ⟨by rfl,?_⟩) (by assumption) ?_;rotate_left
 ·(intro w hSw;(try dsimp only at hSw);go_simp;first|done|with_reducible rfl)
 (try simp only [sP]);refine wpAnyH_take (i:=12) (v:=?_) rfl (by kernel_rfl) (by kernel_rfl) (by kernel_rfl) (fun _ _ _ h=>h) (Or.inl ⟨by rfl,?_⟩) (by assumption) ?_;rotate_left
 ·(intro w hSw;(try dsimp only at hSw);go_simp;first|done|with_reducible rfl)
 (try simp only [sP]);refine wpAnyH_ready (rs:=[9]) (by kernel_rfl) (by simp) ?_;refine AllReadyH.cons rfl (fun K hK=>?_) ?_;rotate_left
 ·exact AllReadyH.nil
 go_simp;refine (HP1.o _ _ _ (NA.o.ext (by first|exact Ext.refl _|exact (Ext.refl _).drew)) (NB.o.ext (by first|exact Ext.refl _|exact (Ext.refl _).drew))).mono ?_;rintro e w1 ⟨⟨v,rfl,nn⟩,hx⟩;have hx:=Ext.trans (show Ext (((w.alloc (.cells #[.bool s1,.slice a1 l1.length a2,.slice a3 l2.length a4] 25)).alloc (.cells #[.bool s2,.slice b1 l3.length b2,.slice b3 l4.length b4] 25)).alloc (.cells #[.bool false,.slice none 0 0,.slice none 0 0] 25)) _ from by first|exact Ext.refl _|exact (Ext.refl _).drew) hx;have NA:=kI (NA.o.ext hx);have NB:=kI (NB.o.ext hx);have A0:=kI (A0.o.ext hx);have A1:=kI (A1.o.ext hx);have A2:=kI (A2.o.ext hx);have X:=kI (X.o.trans hx);obtain ⟨p1,p2,rfl⟩:=nn.shape;have Np:=kI nn.rd;clear nn hx;first|refine hK.out _ _ ?_ (fun hHeld=>?_)|(go_wp2_with fail;refine hK.out _ _ ?_ (fun hHeld=>?_))
 ·exact ⟨Blk.s3 A0.o,Blk.s3 A1.o⟩
 clear hK K;(try simp only [sP]);refine wpAnyH_ready (rs:=[11]) (by kernel_rfl) (by simp) ?_;refine AllReadyH.cons rfl (fun K hK=>?_) ?_;rotate_left
 ·exact AllReadyH.nil
 go_simp;refine (HDA.o _ (Ext.trans X.o (by first|exact Ext.refl _|exact (Ext.refl _).drew))).mono ?_;rintro e w2 ⟨⟨v,rfl,nn⟩,hx⟩;have hx:=Ext.trans (show Ext w1 _ from by first|exact Ext.refl _|exact (Ext.refl _).drew) hx;have NA:=kI (NA.o.ext hx);have NB:=kI (NB.o.ext hx);have A0:=kI (A0.o.ext hx);have A1:=kI (A1.o.ext hx);have A2:=kI (A2.o.ext hx);have Np:=kI (Np.o.ext hx);have X:=kI (X.o.trans hx);obtain ⟨u1,u2,rfl⟩:=rdU_shape nn;have Nu:=kI nn;clear nn hx;first|refine hK.out _ _ ?_ (fun hHeld=>?_)|(go_wp2_with fail;refine hK.out _ _ ?_ (fun hHeld=>?_))
 ·exact ⟨Blk.s3 A0.o,Blk.s3 A1.o⟩
 clear hK K;(try simp only [sP]);refine wpAnyH_ready (rs:=[13]) (by kernel_rfl) (by simp) ?_;refine AllReadyH.cons rfl (fun K hK=>?_) ?_;rotate_left
 ·exact AllReadyH.nil
 go_simp;refine (HDB.o _ (Ext.trans X.o (by first|exact Ext.refl _|exact (Ext.refl _).drew))).mono ?_;rintro e w3 ⟨⟨v,rfl,nn⟩,hx⟩;have hx:=Ext.trans (show Ext w2 _ from by first|exact Ext.refl _|exact (Ext.refl _).drew) hx;have NA:=kI (NA.o.ext hx);have NB:=kI (NB.o.ext hx);have A0:=kI (A0.o.ext hx);have A1:=kI (A1.o.ext hx);have A2:=kI (A2.o.ext hx);have Np:=kI (Np.o.ext hx);have Nu:=kI (Nu.o.ext hx);have X:=kI (X.o.trans hx);obtain ⟨t1,t2,rfl⟩:=rdU_shape nn;have Nt:=kI nn;clear nn hx;first|refine hK.out _ _ ?_ (fun hHeld=>?_)|(go_wp2_with fail;refine hK.out _ _ ?_ (fun hHeld=>?_))
 ·exact ⟨Blk.s3 A0.o,Blk.s3 A1.o⟩
 clear hK K;(try simp only [sP]);refine wpAnyH_ready (rs:=[14]) (by kernel_rfl) (by simp) ?_;refine AllReadyH.cons rfl (fun K hK=>?_) ?_;rotate_left
 ·exact AllReadyH.nil
 go_simp;refine (HP2.o _ _ _ Nu.o Nt.o).mono ?_;rintro e w4 ⟨⟨v,rfl,nn⟩,hx⟩;have hx:=Ext.trans (show Ext w3 _ from by first|exact Ext.refl _|exact (Ext.refl _).drew) hx;have NA:=kI (NA.o.ext hx);have NB:=kI (NB.o.ext hx);have A0:=kI (A0.o.ext hx);have A1:=kI (A1.o.ext hx);have A2:=kI (A2.o.ext hx);have Np:=kI (Np.o.ext hx);have Nu:=kI (Nu.o.ext hx);have Nt:=kI (Nt.o.ext hx);have X:=kI (X.o.trans hx);obtain ⟨d1,d2,rfl⟩:=nn.shape;have Nd:=kI nn.rd;clear nn hx;first|refine hK.out _ _ ?_ (fun hHeld=>?_)|(go_wp2_with fail;refine hK.out _ _ ?_ (fun hHeld=>?_))
 ·exact ⟨Blk.s3 A0.o,Blk.s3 A1.o⟩
 clear hK K;(try simp only [sP]);have x6:=X.o;refine wpAnyH_ready (rs:=[15]) (by kernel_rfl) (by simp) ?_;refine AllReadyH.cons rfl (fun K hK=>?_) ?_;rotate_left
 ·exact AllReadyH.nil
 go_simp;refine (HMK.o _ _ _ (Np.o.ext (by first|exact Ext.refl _|exact (Ext.refl _).drew)) Nd.o).mono ?_;rintro e w5 ⟨⟨v,rfl,nn⟩,hx⟩;have hx:=Ext.trans (show Ext w4 _ from by first|exact Ext.refl _|exact (Ext.refl _).drew) hx;have NA:=kI (NA.o.ext hx);have NB:=kI (NB.o.ext hx);have A0:=kI (A0.o.ext hx);have A1:=kI (A1.o.ext hx);have A2:=kI (A2.o.ext hx);have Np:=kI (Np.o.ext hx);have Nu:=kI (Nu.o.ext hx);have Nt:=kI (Nt.o.ext hx);have Nd:=kI (Nd.o.ext hx);have X:=kI (X.o.trans hx);obtain ⟨r1,r2,r3,r4,rfl⟩:=nn.shape;have Nr:=kI nn.rd;have Or:=kI (nn.from (x6));clear nn hx;first|refine hK.out _ _ ?_ (fun hHeld=>?_)|(go_wp2_with fail;refine hK.out _ _ ?_ (fun hHeld=>?_))
 ·exact ⟨Blk.s3 A0.o,Blk.s3 A1.o⟩
 clear hK K;(try simp only [sP]);have q2:=A2.o.cell;have f2:=A2.o.free;have l2':=A2.o.lt;refine wpAnyH_ready (rs:=[16]) (by kernel_rfl) (by simp) ?_;refine AllReadyH.cons rfl (fun K hK=>?_) ?_;rotate_left
 ·exact AllReadyH.nil
 go_simp;first|refine hK.out _ _ ?_ (fun hHeld=>?_)|(go_wp2_with fail;refine hK.out _ _ ?_ (fun hHeld=>?_))
 ·((try dsimp only);(refine ⟨Blk.s3 ?_,Blk.s3 ?_⟩ <;> (repeat (first|exact A0.o|exact A1.o|refine Blk.setOther ?_ (by dsimp only;omega) _|refine Blk.alloc ?_ _|refine Blk.drew ?_))))
 clear hK K;(try simp only [sP]);refine wpAnyH_done (by kernel_rfl) ?_ _;go_wp2_with fail;refine bodyPost_ret (v:=.agg #[.bool R.neg,.slice r1 R.num.length r2,.slice r3 R.den.length r4]) (by simp only [results,Tryz.results69];go_simp) rfl ⟨⟨_,rfl,NewR.set3 Or.o A2.o (by decide) _ _ _⟩,?_⟩;have:=X.o;(repeat (first|(with_reducible first|exact Ext.refl _|assumption|refine Ext.alloc ?_ _)|((with_reducible refine Ext.setp ?_ ?_);focus (dsimp only;omega))|(with_reducible first|refine Ext.drew ?_|refine Ext.drewN ?_ _|refine Ext.trans ?_ (by assumption))))
end Go.Proofs.YtfflknbeidihoaaGreat
