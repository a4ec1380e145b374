/- Lemmas and walks. Conditions: as stated. -/
import Derived.Test.YtfflknbeidihoaaGreatSxRatSa
set_option linter.unusedVariables false
set_option linter.unusedSimpArgs false
set_option maxRecDepth 100000
set_option maxHeartbeats 16000000
namespace Go.Proofs.YtfflknbeidihoaaGreat
open Go.RowKit
def minR (r:RR):RR:=⟨!r.neg && decide (0 < r.num.length),r.num,r.den⟩
theorem minR_rep (q:Rat):minR (rep q)=rep (-q):=by
 have e1:(-q).num = -q.num:=Rat.neg_num q;have e2:(-q).den=q.den:=Rat.neg_den q;unfold minR rep;rw [e1,e2,Int.natAbs_neg];congr 1
 by_cases h:q.num < 0
 ·simp only [decide_eq_true h,Bool.not_true,Bool.false_and];exact (decide_eq_false (by omega)).symm
 ·by_cases h0:q.num=0
  ·rw [h0];rfl
  ·have h1 : -q.num < 0:=by omega
   have h2:0 < (lim q.num.natAbs).length:=by
    apply List.length_pos_iff.2;intro e;have:=nv_lim q.num.natAbs;rw [e] at this;have:q.num.natAbs=0:=this.symm;omega
   simp only [decide_eq_false h,decide_eq_true h1,decide_eq_true h2];rfl
theorem refMinus6_any (v:Value) (r:RR) (w:World) (h:RdR w v r) (hs:lenR r 2000) :
  Calls Tryz.prog 104 #[v] w fun e w'=>(∃ v',e=.returned v'∧NewR w w' v' (minR r))∧Ext w w':=by
 obtain ⟨a1,a2,a3,a4,rfl,hn,hd⟩:=h.parts;obtain ⟨b,l1,l2⟩:=r;obtain ⟨hs1,hs2⟩:=hs;dsimp only at hn hd hs1 hs2 ⊢;clear h;have HN:=kI hn;have HD:=kI hd;clear hn hd;have e0:minR ⟨b,l1,l2⟩=⟨!b && decide (0 < l1.length),l1,l2⟩:=rfl;have E:=kI e0;clear e0;have bb0:=((Blk.new w #[.bool b,.slice a1 l1.length a2,.slice a3 l2.length a4] 25).alloc (.cells #[.bool false,.slice none 0 0,.slice none 0 0] 25));have bb1:=(Blk.new (w.alloc (.cells #[.bool b,.slice a1 l1.length a2,.slice a3 l2.length a4] 25)) #[.bool false,.slice none 0 0,.slice none 0 0] 25);rw [World.size_alloc] at bb1;have x0:Ext w ((w.alloc (.cells #[.bool b,.slice a1 l1.length a2,.slice a3 l2.length a4] 25)).alloc (.cells #[.bool false,.slice none 0 0,.slice none 0 0] 25)):=(((Ext.refl w).alloc _).alloc _);have A0:=kI bb0;have A1:=kI bb1;have X:=kI x0;clear x0 bb0 bb1;have HN:=kI (HN.o.ext X.o);have HD:=kI (HD.o.ext X.o);cases b
 ·go_enter Tryz.func104,Tryz.ntmps104
  go_wp2_with fail;refine wp_region_held_drew (S:=(fun W=>(Blk W w.heap.size #[.bool false,.slice a1 l1.length a2,.slice a3 l2.length a4] 25∧W.cell? ⟨w.heap.size,0,none⟩=some (.bool false)∧W.cell? ⟨w.heap.size,1,none⟩=some (.slice a1 l1.length a2)∧W.cell? ⟨w.heap.size,2,none⟩=some (.slice a3 l2.length a4)))) (by kernel_rfl) ?_ (fun hHeld=>?_)
  ·exact Blk.s3 A0.o.drew
  refine wpAnyH_take (i:=0) (v:=?_) rfl (by kernel_rfl) (by kernel_rfl) (by kernel_rfl) (fun _ _ _ h=>h) (Or.inl ⟨by rfl,?_⟩) (by assumption) ?_;rotate_left
  ·(intro w hSw;(try dsimp only at hSw);go_simp;first|done|with_reducible rfl)
  (try simp only [sP]);refine wpAnyH_take (i:=1) (v:=?_) rfl (by kernel_rfl) (by kernel_rfl) (by kernel_rfl) (fun _ _ _ h=>h) (Or.inl ⟨by rfl,?_⟩) (by assumption) ?_;rotate_left
  ·(intro w hSw;(try dsimp only at hSw);go_simp;first|done|with_reducible rfl)
  (try simp only [sP]);refine wpAnyH_take (i:=2) (v:=?_) rfl (by kernel_rfl) (by kernel_rfl) (by kernel_rfl) (fun _ _ _ h=>h) (Or.inl ⟨by rfl,?_⟩) (by assumption) ?_;rotate_left
  ·(intro w hSw;(try dsimp only at hSw);go_simp;first|done|with_reducible rfl)
  (try simp only [sP]);refine wpAnyH_take (i:=3) (v:=?_) rfl (by kernel_rfl) (by kernel_rfl) (by kernel_rfl) (fun _ _ _ h=>h) (Or.inl ⟨by rfl,?_⟩) (by assumption) ?_;rotate_left
  ·(intro w hSw;(try dsimp only at hSw);go_simp;first|done|with_reducible rfl)
  (try simp only [sP]);refine wpAnyH_take (i:=4) (v:=?_) rfl (by kernel_rfl) (by kernel_rfl) (by kernel_rfl) (fun _ _ _ h=>h) (Or.inl ⟨by rfl,?_⟩) (by assumption) ?_;rotate_left
  ·(intro w hSw;(try dsimp only at hSw);go_simp;first|done|with_reducible rfl)
  (try simp only [sP]);refine wpAnyH_take (i:=5) (v:=?_) rfl (by kernel_rfl) (by kernel_rfl) (by kernel_rfl) (fun _ _ _ h=>h) (Or.inl ⟨by rfl,?_⟩) (by assumption) ?_;rotate_left
  ·(intro w hSw;(try dsimp only at hSw);go_simp;first|done|with_reducible rfl)
  (try simp only [sP]);refine wpAnyH_take (i:=6) (v:=?_) rfl (by kernel_rfl) (by kernel_rfl) (by kernel_rfl) (fun _ _ _ h=>h) (Or.inl ⟨by rfl,?_⟩) (by assumption) ?_;rotate_left
  ·(intro w hSw;(try dsimp only at hSw);go_simp;first|done|with_reducible rfl)
  (try simp only [sP]);refine wpAnyH_take (i:=7) (v:=?_) rfl (by kernel_rfl) (by kernel_rfl) (by kernel_rfl) (fun _ _ _ h=>h) (Or.inl ⟨by rfl,?_⟩) (by assumption) ?_;rotate_left
  ·(intro w hSw;(try dsimp only at hSw);go_simp;first|done|with_reducible rfl)
  (try simp only [sP]);refine wpAnyH_take (i:=8) (v:=?_) rfl (by kernel_rfl) (by kernel_rfl) (by kernel_rfl) (fun _ _ _ h=>h) (Or.inl ⟨by rfl,?_⟩) (by assumption) ?_;rotate_left
  ·(intro w hSw;(try dsimp only at hSw);go_simp;first|done|with_reducible rfl)
  (try simp only [sP]);refine wpAnyH_take (i:=9) (v:=?_) rfl (by kernel_rfl) (by kernel_rfl) (by kernel_rfl) (fun _ _ _ h=>h) (Or.inl ⟨by rfl,?_⟩) (by assumption) ?_;rotate_left
  ·(intro w hSw;(try dsimp only at hSw);go_simp;first|done|with_reducible rfl)
  (try simp only [sP]);refine wpAnyH_take (i:=10) (v:=?_) rfl (by kernel_rfl) (by kernel_rfl) (by kernel_rfl) (fun _ _ _ h=>h) (Or.inl ⟨by rfl,?_⟩) (by assumption) ?_;rotate_left
  ·(intro w hSw;(try dsimp only at hSw);go_simp;first|done|with_reducible rfl)
  (try simp only [sP]);refine wpAnyH_take (i:=12) (v:=?_) rfl (by kernel_rfl) (by kernel_rfl) (by kernel_rfl) (fun _ _ _ h=>h) (Or.inl ⟨by rfl,?_⟩) (by assumption) ?_;rotate_left
  ·(intro w hSw;(try dsimp only at hSw);go_simp;first|done|with_reducible rfl)
  (try simp only [sP]);refine wpAnyH_take (i:=13) (v:=?_) rfl (by kernel_rfl) (by kernel_rfl) (by kernel_rfl) (fun _ _ _ h=>h) (Or.inl ⟨by rfl,?_⟩) (by assumption) ?_;rotate_left
  ·(intro w hSw;(try dsimp only at hSw);go_simp;first|done|with_reducible rfl)
  (try simp only [sP]);have x1:=X.o;refine wpAnyH_ready (rs:=[11]) (by kernel_rfl) (by simp) ?_;refine AllReadyH.cons rfl (fun K hK=>?_) ?_;rotate_left
  ·exact AllReadyH.nil
  go_simp;refine (copyNat_any (.slice a1 l1.length a2) l1 _ (HN.o.ext (by first|exact Ext.refl _|exact (Ext.refl _).drew)) (by omega)).mono ?_;rintro e w1 ⟨⟨v,rfl,nn⟩,hx⟩;have hx:=Ext.trans (show Ext ((w.alloc (.cells #[.bool false,.slice a1 l1.length a2,.slice a3 l2.length a4] 25)).alloc (.cells #[.bool false,.slice none 0 0,.slice none 0 0] 25)) _ from by first|exact Ext.refl _|exact (Ext.refl _).drew) hx;have A0:=kI (A0.o.ext hx);have A1:=kI (A1.o.ext hx);have HN:=kI (HN.o.ext hx);have HD:=kI (HD.o.ext hx);have X:=kI (X.o.trans hx);obtain ⟨n1,n2,rfl⟩:=nn.shape;have ON:=kI (nn.from (Ext.trans x1 (by (repeat (first|(with_reducible first|exact eR _|assumption|refine eA ?_ _)|((with_reducible refine eS ?_ ?_);focus (dsimp only;omega))|(with_reducible first|refine eD ?_|refine eN ?_ _|refine eT ?_ (by assumption)))))));clear nn hx x1;first|refine hK.out _ _ ?_ (fun hHeld=>?_)|(go_wp2_with fail;refine hK.out _ _ ?_ (fun hHeld=>?_))
  ·exact Blk.s3 A0.o
  clear hK K;(try simp only [sP]);have x1:=X.o;refine wpAnyH_ready (rs:=[14]) (by kernel_rfl) (by simp) ?_;refine AllReadyH.cons rfl (fun K hK=>?_) ?_;rotate_left
  ·exact AllReadyH.nil
  go_simp;refine (copyNat_any (.slice a3 l2.length a4) l2 _ (HD.o.ext (by first|exact Ext.refl _|exact (Ext.refl _).drew)) (by omega)).mono ?_;rintro e w2 ⟨⟨v,rfl,nn⟩,hx⟩;have hx:=Ext.trans (show Ext w1 _ from by first|exact Ext.refl _|exact (Ext.refl _).drew) hx;have A0:=kI (A0.o.ext hx);have A1:=kI (A1.o.ext hx);have HN:=kI (HN.o.ext hx);have HD:=kI (HD.o.ext hx);have ON:=kI (ON.o.ext hx);have X:=kI (X.o.trans hx);obtain ⟨d1,d2,rfl⟩:=nn.shape;have OD:=kI (nn.from (Ext.trans x1 (by (repeat (first|(with_reducible first|exact eR _|assumption|refine eA ?_ _)|((with_reducible refine eS ?_ ?_);focus (dsimp only;omega))|(with_reducible first|refine eD ?_|refine eN ?_ _|refine eT ?_ (by assumption)))))));clear nn hx x1;first|refine hK.out _ _ ?_ (fun hHeld=>?_)|(go_wp2_with fail;refine hK.out _ _ ?_ (fun hHeld=>?_))
  ·exact Blk.s3 A0.o
  clear hK K;(try simp only [sP]);refine wpAnyH_take (i:=15) (v:=?_) rfl (by kernel_rfl) (by kernel_rfl) (by kernel_rfl) (fun _ _ _ h=>h) (Or.inl ⟨by rfl,?_⟩) (by assumption) ?_;rotate_left
  ·(intro w hSw;(try dsimp only at hSw);go_simp;first|done|with_reducible rfl)
  (try simp only [sP]);have q2:=A1.o.cell;have f2:=A1.o.free;have l2':=A1.o.lt;refine wpAnyH_ready (rs:=[16]) (by kernel_rfl) (by simp) ?_;refine AllReadyH.cons rfl (fun K hK=>?_) ?_;rotate_left
  ·exact AllReadyH.nil
  go_simp;first|refine hK.out _ _ ?_ (fun hHeld=>?_)|(go_wp2_with fail;refine hK.out _ _ ?_ (fun hHeld=>?_))
  ·((try dsimp only);(refine Blk.s3 ?_ <;> (repeat (first|exact A0.o|refine Blk.setOther ?_ (by dsimp only;omega) _|refine Blk.alloc ?_ _|refine Blk.drew ?_))))
  clear hK K;(try simp only [sP]);refine wpAnyH_done (by kernel_rfl) ?_ _;go_wp2_with fail;refine bodyPost_ret (v:=.agg #[.bool (!false && decide (0 < l1.length)),.slice n1 l1.length n2,.slice d1 l2.length d2]) (by simp only [results,Tryz.results104];go_simp;first|done|(simp_all)) rfl ⟨⟨_,rfl,?_⟩,?_⟩
  ·rw [E.o];exact ⟨_,_,rfl,OwB.set3 ON.o A1.o (by decide) _ _ _,OwB.set3 OD.o A1.o (by decide) _ _ _⟩
  ·have:=X.o;(repeat (first|(with_reducible first|exact eR _|assumption|refine eA ?_ _)|((with_reducible refine eS ?_ ?_);focus (dsimp only;omega))|(with_reducible first|refine eD ?_|refine eN ?_ _|refine eT ?_ (by assumption))))
 ·go_enter Tryz.func104,Tryz.ntmps104
  go_wp2_with fail;refine wp_region_held_drew (S:=(fun W=>(Blk W w.heap.size #[.bool true,.slice a1 l1.length a2,.slice a3 l2.length a4] 25∧W.cell? ⟨w.heap.size,0,none⟩=some (.bool true)∧W.cell? ⟨w.heap.size,1,none⟩=some (.slice a1 l1.length a2)∧W.cell? ⟨w.heap.size,2,none⟩=some (.slice a3 l2.length a4)))) (by kernel_rfl) ?_ (fun hHeld=>?_)
  ·exact Blk.s3 A0.o.drew
  refine wpAnyH_take (i:=0) (v:=?_) rfl (by kernel_rfl) (by kernel_rfl) (by kernel_rfl) (fun _ _ _ h=>h) (Or.inl ⟨by rfl,?_⟩) (by assumption) ?_;rotate_left
  ·(intro w hSw;(try dsimp only at hSw);go_simp;first|done|with_reducible rfl)
  (try simp only [sP]);refine wpAnyH_take (i:=1) (v:=?_) rfl (by kernel_rfl) (by kernel_rfl) (by kernel_rfl) (fun _ _ _ h=>h) (Or.inl ⟨by rfl,?_⟩) (by assumption) ?_;rotate_left
  ·(intro w hSw;(try dsimp only at hSw);go_simp;first|done|with_reducible rfl)
  (try simp only [sP]);refine wpAnyH_take (i:=2) (v:=?_) rfl (by kernel_rfl) (by kernel_rfl) (by kernel_rfl) (fun _ _ _ h=>h) (Or.inl ⟨by rfl,?_⟩) (by assumption) ?_;rotate_left
  ·(intro w hSw;(try dsimp only at hSw);go_simp;first|done|with_reducible rfl)
  (try simp only [sP]);refine wpAnyH_take (i:=3) (v:=?_) rfl (by kernel_rfl) (by kernel_rfl) (by kernel_rfl) (fun _ _ _ h=>h) (Or.inl ⟨by rfl,?_⟩) (by assumption) ?_;rotate_left
  ·(intro w hSw;(try dsimp only at hSw);go_simp;first|done|with_reducible rfl)
  (try simp only [sP]);refine wpAnyH_take (i:=4) (v:=undef) rfl (by kernel_rfl) (by kernel_rfl) (by kernel_rfl) (fun _ _ _ h=>h) (Or.inr ⟨by rfl,rfl⟩) (by assumption) ?_;(try simp only [sP]);refine wpAnyH_take (i:=5) (v:=undef) rfl (by kernel_rfl) (by kernel_rfl) (by kernel_rfl) (fun _ _ _ h=>h) (Or.inr ⟨by rfl,rfl⟩) (by assumption) ?_;(try simp only [sP]);refine wpAnyH_take (i:=6) (v:=undef) rfl (by kernel_rfl) (by kernel_rfl) (by kernel_rfl) (fun _ _ _ h=>h) (Or.inr ⟨by rfl,rfl⟩) (by assumption) ?_;(try simp only [sP]);refine wpAnyH_take (i:=7) (v:=undef) rfl (by kernel_rfl) (by kernel_rfl) (by kernel_rfl) (fun _ _ _ h=>h) (Or.inr ⟨by rfl,rfl⟩) (by assumption) ?_;(try simp only [sP]);refine wpAnyH_take (i:=8) (v:=?_) rfl (by kernel_rfl) (by kernel_rfl) (by kernel_rfl) (fun _ _ _ h=>h) (Or.inl ⟨by rfl,?_⟩) (by assumption) ?_;rotate_left
  ·(intro w hSw;(try dsimp only at hSw);go_simp;first|done|with_reducible rfl)
  (try simp only [sP]);refine wpAnyH_take (i:=9) (v:=?_) rfl (by kernel_rfl) (by kernel_rfl) (by kernel_rfl) (fun _ _ _ h=>h) (Or.inl ⟨by rfl,?_⟩) (by assumption) ?_;rotate_left
  ·(intro w hSw;(try dsimp only at hSw);go_simp;first|done|with_reducible rfl)
  (try simp only [sP]);refine wpAnyH_take (i:=10) (v:=?_) rfl (by kernel_rfl) (by kernel_rfl) (by kernel_rfl) (fun _ _ _ h=>h) (Or.inl ⟨by rfl,?_⟩) (by assumption) ?_;rotate_left
  ·(intro w hSw;(try dsimp only at hSw);go_simp;first|done|with_reducible rfl)
  (try simp only [sP]);refine wpAnyH_take (i:=12) (v:=?_) rfl (by kernel_rfl) (by kernel_rfl) (by kernel_rfl) (fun _ _ _ h=>h) (Or.inl ⟨by rfl,?_⟩) (by assumption) ?_;rotate_left
  ·(intro w hSw;(try dsimp only at hSw);go_simp;first|done|with_reducible rfl)
  (try simp only [sP]);refine wpAnyH_take (i:=13) (v:=?_) rfl (by kernel_rfl) (by kernel_rfl) (by kernel_rfl) (fun _ _ _ h=>h) (Or.inl ⟨by rfl,?_⟩) (by assumption) ?_;rotate_left
  ·(intro w hSw;(try dsimp only at hSw);go_simp;first|done|with_reducible rfl)
  (try simp only [sP]);have x1:=X.o;refine wpAnyH_ready (rs:=[11]) (by kernel_rfl) (by simp) ?_;refine AllReadyH.cons rfl (fun K hK=>?_) ?_;rotate_left
  ·exact AllReadyH.nil
  go_simp;refine (copyNat_any (.slice a1 l1.length a2) l1 _ (HN.o.ext (by first|exact Ext.refl _|exact (Ext.refl _).drew)) (by omega)).mono ?_;rintro e w1 ⟨⟨v,rfl,nn⟩,hx⟩;have hx:=Ext.trans (show Ext ((w.alloc (.cells #[.bool true,.slice a1 l1.length a2,.slice a3 l2.length a4] 25)).alloc (.cells #[.bool false,.slice none 0 0,.slice none 0 0] 25)) _ from by first|exact Ext.refl _|exact (Ext.refl _).drew) hx;have A0:=kI (A0.o.ext hx);have A1:=kI (A1.o.ext hx);have HN:=kI (HN.o.ext hx);have HD:=kI (HD.o.ext hx);have X:=kI (X.o.trans hx);obtain ⟨n1,n2,rfl⟩:=nn.shape;have ON:=kI (nn.from (Ext.trans x1 (by (repeat (first|(with_reducible first|exact eR _|assumption|refine eA ?_ _)|((with_reducible refine eS ?_ ?_);focus (dsimp only;omega))|(with_reducible first|refine eD ?_|refine eN ?_ _|refine eT ?_ (by assumption)))))));clear nn hx x1;first|refine hK.out _ _ ?_ (fun hHeld=>?_)|(go_wp2_with fail;refine hK.out _ _ ?_ (fun hHeld=>?_))
  ·exact Blk.s3 A0.o
  clear hK K;(try simp only [sP]);have x1:=X.o;refine wpAnyH_ready (rs:=[14]) (by kernel_rfl) (by simp) ?_;refine AllReadyH.cons rfl (fun K hK=>?_) ?_;rotate_left
  ·exact AllReadyH.nil
  go_simp;refine (copyNat_any (.slice a3 l2.length a4) l2 _ (HD.o.ext (by first|exact Ext.refl _|exact (Ext.refl _).drew)) (by omega)).mono ?_;rintro e w2 ⟨⟨v,rfl,nn⟩,hx⟩;have hx:=Ext.trans (show Ext w1 _ from by first|exact Ext.refl _|exact (Ext.refl _).drew) hx;have A0:=kI (A0.o.ext hx);have A1:=kI (A1.o.ext hx);have HN:=kI (HN.o.ext hx);have HD:=kI (HD.o.ext hx);have ON:=kI (ON.o.ext hx);have X:=kI (X.o.trans hx);obtain ⟨d1,d2,rfl⟩:=nn.shape;have OD:=kI (nn.from (Ext.trans x1 (by (repeat (first|(with_reducible first|exact eR _|assumption|refine eA ?_ _)|((with_reducible refine eS ?_ ?_);focus (dsimp only;omega))|(with_reducible first|refine eD ?_|refine eN ?_ _|refine eT ?_ (by assumption)))))));clear nn hx x1;first|refine hK.out _ _ ?_ (fun hHeld=>?_)|(go_wp2_with fail;refine hK.out _ _ ?_ (fun hHeld=>?_))
  ·exact Blk.s3 A0.o
  clear hK K;(try simp only [sP]);refine wpAnyH_take (i:=15) (v:=?_) rfl (by kernel_rfl) (by kernel_rfl) (by kernel_rfl) (fun _ _ _ h=>h) (Or.inl ⟨by rfl,?_⟩) (by assumption) ?_;rotate_left
  ·(intro w hSw;(try dsimp only at hSw);go_simp;first|done|with_reducible rfl)
  (try simp only [sP]);have q2:=A1.o.cell;have f2:=A1.o.free;have l2':=A1.o.lt;refine wpAnyH_ready (rs:=[16]) (by kernel_rfl) (by simp) ?_;refine AllReadyH.cons rfl (fun K hK=>?_) ?_;rotate_left
  ·exact AllReadyH.nil
  go_simp;first|refine hK.out _ _ ?_ (fun hHeld=>?_)|(go_wp2_with fail;refine hK.out _ _ ?_ (fun hHeld=>?_))
  ·((try dsimp only);(refine Blk.s3 ?_ <;> (repeat (first|exact A0.o|refine Blk.setOther ?_ (by dsimp only;omega) _|refine Blk.alloc ?_ _|refine Blk.drew ?_))))
  clear hK K;(try simp only [sP]);refine wpAnyH_done (by kernel_rfl) ?_ _;go_wp2_with fail;refine bodyPost_ret (v:=.agg #[.bool (!true && decide (0 < l1.length)),.slice n1 l1.length n2,.slice d1 l2.length d2]) (by simp only [results,Tryz.results104];go_simp;first|done|(simp_all)) rfl ⟨⟨_,rfl,?_⟩,?_⟩
  ·rw [E.o];exact ⟨_,_,rfl,OwB.set3 ON.o A1.o (by decide) _ _ _,OwB.set3 OD.o A1.o (by decide) _ _ _⟩
  ·have:=X.o;(repeat (first|(with_reducible first|exact eR _|assumption|refine eA ?_ _)|((with_reducible refine eS ?_ ?_);focus (dsimp only;omega))|(with_reducible first|refine eD ?_|refine eN ?_ _|refine eT ?_ (by assumption))))
theorem ord_rep (d:Rat):((rep d).neg=true→d < 0)∧((rep d).neg=false→(0 < (rep d).num.length→0 < d)∧((rep d).num.length=0→d=0)):=by
 have hv:=vq_sign (x:=(decide (d.num < 0),d.num.natAbs,d.den)) d.den_nz;rw [vq_self] at hv;obtain ⟨h0,h1⟩:=hv;dsimp only at h0 h1;refine ⟨fun h=>?_,fun h=>⟨fun hl=>?_,fun hl=>?_⟩⟩
 ·have hn:d.num < 0:=of_decide_eq_true h;exact (h1 (by omega)).1 h
 ·have hn:d.num.natAbs≠0:=by
   intro e;have:(rep d).num=[]:=by show lim d.num.natAbs=[];rw [e];rfl
   rw [this] at hl;cases hl
  exact (h1 hn).2 h
 ·apply h0;have:=nv_repn d;rw [List.length_eq_zero_iff.1 hl] at this;exact this.symm
theorem bd_neg_len {q:Rat} {k:Nat} (h:lenR (rep q) k):lenR (rep (-q)) k:=by rw [← minR_rep];exact h
theorem refOrder6_any (va vb:Value) (a b:Rat) (w:World) (ha:RdR w va (rep a)) (hb:RdR w vb (rep b)) (sa:lenR (rep a) 2000) (sb:lenR (rep b) 2000) :
  Calls Tryz.prog 70 #[va,vb] w fun e w'=>e=.returned (.int .i64 (cmpQ a b))∧Ext w w':=by
 have hmi:=fun W (x:Ext w W)=>refMinus6_any vb (rep b) W (hb.ext x) sb;rw [minR_rep] at hmi;have hsu:=fun W v2 (x:Ext w W) h2=>refSum6_any va v2 a (-b) W (ha.ext x) h2 sa (bd_neg_len sb);rw [← Rat.sub_eq_add_neg] at hsu;obtain ⟨k0,km,kp⟩:=cmp_sub a b;obtain ⟨o1,o2⟩:=ord_rep (a - b);obtain ⟨a1,a2,a3,a4,rfl⟩:=ha.shape;obtain ⟨b1,b2,b3,b4,rfl⟩:=hb.shape;obtain ⟨d,hd⟩:=gN (a - b);rw [← hd] at k0 km kp o1 o2 hsu;obtain ⟨cc,hcc⟩:=gN (cmpQ a b);rw [← hcc] at k0 km kp ⊢;obtain ⟨R,hR⟩:=gN (rep d);rw [← hR] at o1 o2 hsu;have g1:R.neg=true→cc = -1:=fun h=>km (o1 h);have g2:R.neg=false→0 < R.num.length→cc=1:=fun h h2=>kp ((o2 h).1 h2);have g3:R.neg=false→R.num.length=0→cc=0:=fun h h2=>k0 ((o2 h).2 h2);have G1:=kI g1;have G2:=kI g2;have G3:=kI g3;have HMI:=kI hmi;have HSU:=kI hsu;clear g1 g2 g3 hmi hsu k0 km kp o1 o2 hd hcc hR;obtain ⟨ra,hra⟩:=gN (rep a);obtain ⟨rb,hrb⟩:=gN (rep b);rw [← hra] at HSU ⊢;rw [← hrb] at HMI ⊢;clear ha hb sa sb hra hrb;have bb0:=((Blk.new w #[.bool ra.neg,.slice a1 ra.num.length a2,.slice a3 ra.den.length a4] 25).alloc (.cells #[.bool rb.neg,.slice b1 rb.num.length b2,.slice b3 rb.den.length b4] 25));have bb1:=(Blk.new (w.alloc (.cells #[.bool ra.neg,.slice a1 ra.num.length a2,.slice a3 ra.den.length a4] 25)) #[.bool rb.neg,.slice b1 rb.num.length b2,.slice b3 rb.den.length b4] 25);rw [World.size_alloc] at bb1;have x0:Ext w ((w.alloc (.cells #[.bool ra.neg,.slice a1 ra.num.length a2,.slice a3 ra.den.length a4] 25)).alloc (.cells #[.bool rb.neg,.slice b1 rb.num.length b2,.slice b3 rb.den.length b4] 25)):=(((Ext.refl w).alloc _).alloc _);have A0:=kI bb0;have A1:=kI bb1;have X:=kI x0;clear x0 bb0 bb1;have x0:=X.o;go_enter Tryz.func70,Tryz.ntmps70
 go_wp2_with fail;refine wp_region_held_drew (S:=(fun W=>(Blk W w.heap.size #[.bool ra.neg,.slice a1 ra.num.length a2,.slice a3 ra.den.length a4] 25∧W.cell? ⟨w.heap.size,0,none⟩=some (.bool ra.neg)∧W.cell? ⟨w.heap.size,1,none⟩=some (.slice a1 ra.num.length a2)∧W.cell? ⟨w.heap.size,2,none⟩=some (.slice a3 ra.den.length a4))∧(Blk W (w.heap.size+1) #[.bool rb.neg,.slice b1 rb.num.length b2,.slice b3 rb.den.length b4] 25∧W.cell? ⟨(w.heap.size+1),0,none⟩=some (.bool rb.neg)∧W.cell? ⟨(w.heap.size+1),1,none⟩=some (.slice b1 rb.num.length b2)∧W.cell? ⟨(w.heap.size+1),2,none⟩=some (.slice b3 rb.den.length b4)))) (by kernel_rfl) ?_ (fun hHeld=>?_)
 ·exact ⟨Blk.s3 A0.o.drew,Blk.s3 A1.o.drew⟩
 refine wpAnyH_take (i:=0) (v:=?_) rfl (by kernel_rfl) (by kernel_rfl) (by kernel_rfl) (fun _ _ _ h=>h) (Or.inl ⟨by rfl,?_⟩) (by assumption) ?_;rotate_left
 ·(intro w hSw;(try dsimp only at hSw);go_simp;first|done|with_reducible rfl)
 (try simp only [sP]);refine wpAnyH_take (i:=1) (v:=?_) rfl (by kernel_rfl) (by kernel_rfl) (by kernel_rfl) (fun _ _ _ h=>h) (Or.inl ⟨by rfl,?_⟩) (by assumption) ?_;rotate_left
 ·(intro w hSw;(try dsimp only at hSw);go_simp;first|done|with_reducible rfl)
 (try simp only [sP]);refine wpAnyH_ready (rs:=[2,4]) (by kernel_rfl) (by simp) ?_;refine AllReadyH.cons rfl (fun K hK=>?_) (AllReadyH.cons rfl (fun K hK=>?_) AllReadyH.nil)
 ·go_simp;refine (HMI.o _ (Ext.trans X.o (by first|exact Ext.refl _|exact (Ext.refl _).drew))).mono ?_;rintro e w1 ⟨⟨v,rfl,nn⟩,hx⟩;have hx:=Ext.trans (show Ext ((w.alloc (.cells #[.bool ra.neg,.slice a1 ra.num.length a2,.slice a3 ra.den.length a4] 25)).alloc (.cells #[.bool rb.neg,.slice b1 rb.num.length b2,.slice b3 rb.den.length b4] 25)) _ from by first|exact Ext.refl _|exact (Ext.refl _).drew) hx;have A0:=kI (A0.o.ext hx);have A1:=kI (A1.o.ext hx);have X:=kI (X.o.trans hx);obtain ⟨m1,m2,m3,m4,rfl⟩:=nn.shape;have Nm:=kI nn.rd;clear nn hx;first|refine hK.out _ _ ?_ (fun hHeld=>?_)|(go_wp2_with fail;refine hK.out _ _ ?_ (fun hHeld=>?_))
  ·exact ⟨Blk.s3 A0.o,Blk.s3 A1.o⟩
  clear hK K;(try simp only [sP]);refine wpAnyH_ready (rs:=[3,4]) (by kernel_rfl) (by simp) ?_;refine AllReadyH.cons rfl (fun K hK=>?_) (AllReadyH.cons rfl (fun K hK=>?_) AllReadyH.nil)
  ·go_simp;refine (HSU.o _ _ (Ext.trans X.o (by first|exact Ext.refl _|exact (Ext.refl _).drew)) (Nm.o.ext (by first|exact Ext.refl _|exact (Ext.refl _).drew))).mono ?_;rintro e w2 ⟨⟨v,rfl,nn⟩,hx⟩;have hx:=Ext.trans (show Ext w1 _ from by first|exact Ext.refl _|exact (Ext.refl _).drew) hx;have A0:=kI (A0.o.ext hx);have A1:=kI (A1.o.ext hx);have Nm:=kI (Nm.o.ext hx);have X:=kI (X.o.trans hx);obtain ⟨r1,r2,r3,r4,rfl⟩:=nn.shape;have Nr:=kI nn.rd;clear nn hx;first|refine hK.out _ _ ?_ (fun hHeld=>?_)|(go_wp2_with fail;refine hK.out _ _ ?_ (fun hHeld=>?_))
   ·exact ⟨Blk.s3 A0.o,Blk.s3 A1.o⟩
   clear hK K;(try simp only [sP]);refine wpAnyH_ready (rs:=[4]) (by kernel_rfl) (by simp) ?_;refine AllReadyH.cons rfl (fun K hK=>?_) ?_;rotate_left
   ·exact AllReadyH.nil
   go_simp;have hx:Ext w2 ((w2.alloc (.cells #[.bool false,.slice none 0 0,.slice none 0 0] 25))):=(Ext.refl _).alloc _;have bz:Blk ((w2.alloc (.cells #[.bool false,.slice none 0 0,.slice none 0 0] 25))) (w2.heap.size) #[.bool false,.slice none 0 0,.slice none 0 0] 25:=by have hh:=(Blk.new w2 #[.bool false,.slice none 0 0,.slice none 0 0] 25);(try simp only [World.size_alloc] at hh);exact hh
   obtain ⟨w3,hww3⟩:=gN ((w2.alloc (.cells #[.bool false,.slice none 0 0,.slice none 0 0] 25)));rw [← hww3] at hx bz ⊢;obtain ⟨AZn,hAZn⟩:=gN (w2.heap.size);have HAZA0:Hid (w.heap.size < AZn):=kI (by have hh:=A0.o.lt;(try simp only [World.size_alloc] at hh);omega);have HAZA1:Hid ((w.heap.size+1) < AZn):=kI (by have hh:=A1.o.lt;(try simp only [World.size_alloc] at hh);omega);have WAZ:Hid (w.heap.size≤AZn):=kI (by have hh:=X.o.size;(try simp only [World.size_alloc] at hh);omega);rw [← hAZn] at bz ⊢;have A0:=kI (A0.o.ext hx);have A1:=kI (A1.o.ext hx);have Nm:=kI (Nm.o.ext hx);have Nr:=kI (Nr.o.ext hx);have X:=kI (X.o.trans hx);have AZ:=kI bz;clear hx bz hww3 hAZn;first|refine hK.out _ _ ?_ (fun hHeld=>?_)|(go_wp2_with fail;refine hK.out _ _ ?_ (fun hHeld=>?_))
   ·exact ⟨Blk.s3 A0.o,Blk.s3 A1.o⟩
   clear hK K;(try simp only [sP]);have lm:=A1.o.lt;obtain ⟨qz,fz,lz⟩:=AZ.o.q3;refine wpAnyH_ready (rs:=[5]) (by kernel_rfl) (by simp) ?_;refine AllReadyH.cons rfl (fun K hK=>?_) ?_;rotate_left
   ·exact AllReadyH.nil
   go_simp;first|refine hK.out _ _ ?_ (fun hHeld=>?_)|(go_wp2_with fail;refine hK.out _ _ ?_ (fun hHeld=>?_))
   ·exact ⟨Blk.s3 (((A0.o.setOther (by have:=HAZA0.o;have:=HAZA1.o;have:=WAZ.o;dsimp only;omega) _).setOther (by have:=HAZA0.o;have:=HAZA1.o;have:=WAZ.o;dsimp only;omega) _).setOther (by have:=HAZA0.o;have:=HAZA1.o;have:=WAZ.o;dsimp only;omega) _),Blk.s3 (((A1.o.setOther (by have:=HAZA0.o;have:=HAZA1.o;have:=WAZ.o;dsimp only;omega) _).setOther (by have:=HAZA0.o;have:=HAZA1.o;have:=WAZ.o;dsimp only;omega) _).setOther (by have:=HAZA0.o;have:=HAZA1.o;have:=WAZ.o;dsimp only;omega) _)⟩
   clear hK K;(try simp only [sP]);refine wpAnyH_done (by kernel_rfl) ?_ _;have bz:Blk (((w3.setCell ⟨AZn,0,none⟩ (.bool R.neg)).setCell ⟨AZn,1,none⟩ (.slice r1 R.num.length r2)).setCell ⟨AZn,2,none⟩ (.slice r3 R.den.length r4)) AZn #[.bool R.neg,.slice r1 R.num.length r2,.slice r3 R.den.length r4] 25:=by have:=((AZ.o.set 0 (.bool R.neg)).set 1 (.slice r1 R.num.length r2)).set 2 (.slice r3 R.den.length r4);simpa using this
   have hx:Ext w (((w3.setCell ⟨AZn,0,none⟩ (.bool R.neg)).setCell ⟨AZn,1,none⟩ (.slice r1 R.num.length r2)).setCell ⟨AZn,2,none⟩ (.slice r3 R.den.length r4)):=((X.o.set (by have:=HAZA0.o;have:=HAZA1.o;have:=WAZ.o;dsimp only;omega) _).set (by have:=HAZA0.o;have:=HAZA1.o;have:=WAZ.o;dsimp only;omega) _).set (by have:=HAZA0.o;have:=HAZA1.o;have:=WAZ.o;dsimp only;omega) _;obtain ⟨wz,hwz⟩:=gN (((w3.setCell ⟨AZn,0,none⟩ (.bool R.neg)).setCell ⟨AZn,1,none⟩ (.slice r1 R.num.length r2)).setCell ⟨AZn,2,none⟩ (.slice r3 R.den.length r4));rw [← hwz] at bz hx ⊢;have XZ:=kI hx;have BZ:=kI bz;clear hx bz hwz qz fz lz hHeld;have qz:=BZ.o.cell;have lz:=BZ.o.lt;cases hneg:R.neg
   ·by_cases hl:R.num.length=0
    ·have e:=G3.o hneg hl;have E:=kI e;have t1:¬ (0:Int) < (R.num.length:Int):=by omega
     rw [hneg] at qz;clear e hl hneg;go_wp2_with fail;go_ret;exact ⟨ret_int (by rw [E.o]),XZ.o⟩
    ·have e:=G2.o hneg (by omega);have E:=kI e;have t1:(0:Int) < (R.num.length:Int):=by omega
     rw [hneg] at qz;clear e hl hneg;go_wp2_with fail;go_ret;exact ⟨ret_int (by rw [E.o]),XZ.o⟩
   ·have e:=G1.o hneg;have E:=kI e;rw [hneg] at qz;clear e hneg;go_wp2_with fail;go_ret;exact ⟨ret_int (by rw [E.o]),XZ.o⟩
  ·go_simp;have hx:Ext w1 ((w1.alloc (.cells #[.bool false,.slice none 0 0,.slice none 0 0] 25))):=(Ext.refl _).alloc _;have bz:Blk ((w1.alloc (.cells #[.bool false,.slice none 0 0,.slice none 0 0] 25))) (w1.heap.size) #[.bool false,.slice none 0 0,.slice none 0 0] 25:=by have hh:=(Blk.new w1 #[.bool false,.slice none 0 0,.slice none 0 0] 25);(try simp only [World.size_alloc] at hh);exact hh
   obtain ⟨w2,hww2⟩:=gN ((w1.alloc (.cells #[.bool false,.slice none 0 0,.slice none 0 0] 25)));rw [← hww2] at hx bz ⊢;obtain ⟨AZn,hAZn⟩:=gN (w1.heap.size);have HAZA0:Hid (w.heap.size < AZn):=kI (by have hh:=A0.o.lt;(try simp only [World.size_alloc] at hh);omega);have HAZA1:Hid ((w.heap.size+1) < AZn):=kI (by have hh:=A1.o.lt;(try simp only [World.size_alloc] at hh);omega);have WAZ:Hid (w.heap.size≤AZn):=kI (by have hh:=X.o.size;(try simp only [World.size_alloc] at hh);omega);rw [← hAZn] at bz ⊢;have A0:=kI (A0.o.ext hx);have A1:=kI (A1.o.ext hx);have Nm:=kI (Nm.o.ext hx);have X:=kI (X.o.trans hx);have AZ:=kI bz;clear hx bz hww2 hAZn;first|refine hK.out _ _ ?_ (fun hHeld=>?_)|(go_wp2_with fail;refine hK.out _ _ ?_ (fun hHeld=>?_))
   ·exact ⟨Blk.s3 A0.o,Blk.s3 A1.o⟩
   clear hK K;(try simp only [sP]);refine wpAnyH_ready (rs:=[3]) (by kernel_rfl) (by simp) ?_;refine AllReadyH.cons rfl (fun K hK=>?_) ?_;rotate_left
   ·exact AllReadyH.nil
   go_simp;refine (HSU.o _ _ (Ext.trans X.o (by first|exact Ext.refl _|exact (Ext.refl _).drew)) (Nm.o.ext (by first|exact Ext.refl _|exact (Ext.refl _).drew))).mono ?_;rintro e w3 ⟨⟨v,rfl,nn⟩,hx⟩;have hx:=Ext.trans (show Ext w2 _ from by first|exact Ext.refl _|exact (Ext.refl _).drew) hx;have A0:=kI (A0.o.ext hx);have A1:=kI (A1.o.ext hx);have Nm:=kI (Nm.o.ext hx);have AZ:=kI (AZ.o.ext hx);have X:=kI (X.o.trans hx);obtain ⟨r1,r2,r3,r4,rfl⟩:=nn.shape;have Nr:=kI nn.rd;clear nn hx;first|refine hK.out _ _ ?_ (fun hHeld=>?_)|(go_wp2_with fail;refine hK.out _ _ ?_ (fun hHeld=>?_))
   ·exact ⟨Blk.s3 A0.o,Blk.s3 A1.o⟩
   clear hK K;(try simp only [sP]);have lm:=A1.o.lt;obtain ⟨qz,fz,lz⟩:=AZ.o.q3;refine wpAnyH_ready (rs:=[5]) (by kernel_rfl) (by simp) ?_;refine AllReadyH.cons rfl (fun K hK=>?_) ?_;rotate_left
   ·exact AllReadyH.nil
   go_simp;first|refine hK.out _ _ ?_ (fun hHeld=>?_)|(go_wp2_with fail;refine hK.out _ _ ?_ (fun hHeld=>?_))
   ·exact ⟨Blk.s3 (((A0.o.setOther (by have:=HAZA0.o;have:=HAZA1.o;have:=WAZ.o;dsimp only;omega) _).setOther (by have:=HAZA0.o;have:=HAZA1.o;have:=WAZ.o;dsimp only;omega) _).setOther (by have:=HAZA0.o;have:=HAZA1.o;have:=WAZ.o;dsimp only;omega) _),Blk.s3 (((A1.o.setOther (by have:=HAZA0.o;have:=HAZA1.o;have:=WAZ.o;dsimp only;omega) _).setOther (by have:=HAZA0.o;have:=HAZA1.o;have:=WAZ.o;dsimp only;omega) _).setOther (by have:=HAZA0.o;have:=HAZA1.o;have:=WAZ.o;dsimp only;omega) _)⟩
   clear hK K;(try simp only [sP]);refine wpAnyH_done (by kernel_rfl) ?_ _;have bz:Blk (((w3.setCell ⟨AZn,0,none⟩ (.bool R.neg)).setCell ⟨AZn,1,none⟩ (.slice r1 R.num.length r2)).setCell ⟨AZn,2,none⟩ (.slice r3 R.den.length r4)) AZn #[.bool R.neg,.slice r1 R.num.length r2,.slice r3 R.den.length r4] 25:=by have:=((AZ.o.set 0 (.bool R.neg)).set 1 (.slice r1 R.num.length r2)).set 2 (.slice r3 R.den.length r4);simpa using this
   have hx:Ext w (((w3.setCell ⟨AZn,0,none⟩ (.bool R.neg)).setCell ⟨AZn,1,none⟩ (.slice r1 R.num.length r2)).setCell ⟨AZn,2,none⟩ (.slice r3 R.den.length r4)):=((X.o.set (by have:=HAZA0.o;have:=HAZA1.o;have:=WAZ.o;dsimp only;omega) _).set (by have:=HAZA0.o;have:=HAZA1.o;have:=WAZ.o;dsimp only;omega) _).set (by have:=HAZA0.o;have:=HAZA1.o;have:=WAZ.o;dsimp only;omega) _;obtain ⟨wz,hwz⟩:=gN (((w3.setCell ⟨AZn,0,none⟩ (.bool R.neg)).setCell ⟨AZn,1,none⟩ (.slice r1 R.num.length r2)).setCell ⟨AZn,2,none⟩ (.slice r3 R.den.length r4));rw [← hwz] at bz hx ⊢;have XZ:=kI hx;have BZ:=kI bz;clear hx bz hwz qz fz lz hHeld;have qz:=BZ.o.cell;have lz:=BZ.o.lt;cases hneg:R.neg
   ·by_cases hl:R.num.length=0
    ·have e:=G3.o hneg hl;have E:=kI e;have t1:¬ (0:Int) < (R.num.length:Int):=by omega
     rw [hneg] at qz;clear e hl hneg;go_wp2_with fail;go_ret;exact ⟨ret_int (by rw [E.o]),XZ.o⟩
    ·have e:=G2.o hneg (by omega);have E:=kI e;have t1:(0:Int) < (R.num.length:Int):=by omega
     rw [hneg] at qz;clear e hl hneg;go_wp2_with fail;go_ret;exact ⟨ret_int (by rw [E.o]),XZ.o⟩
   ·have e:=G1.o hneg;have E:=kI e;rw [hneg] at qz;clear e hneg;go_wp2_with fail;go_ret;exact ⟨ret_int (by rw [E.o]),XZ.o⟩
 ·go_simp;have hx:Ext ((w.alloc (.cells #[.bool ra.neg,.slice a1 ra.num.length a2,.slice a3 ra.den.length a4] 25)).alloc (.cells #[.bool rb.neg,.slice b1 rb.num.length b2,.slice b3 rb.den.length b4] 25)) ((((w.alloc (.cells #[.bool ra.neg,.slice a1 ra.num.length a2,.slice a3 ra.den.length a4] 25)).alloc (.cells #[.bool rb.neg,.slice b1 rb.num.length b2,.slice b3 rb.den.length b4] 25)).alloc (.cells #[.bool false,.slice none 0 0,.slice none 0 0] 25)).drew):=((Ext.refl _).alloc _).drew;have bz:Blk ((((w.alloc (.cells #[.bool ra.neg,.slice a1 ra.num.length a2,.slice a3 ra.den.length a4] 25)).alloc (.cells #[.bool rb.neg,.slice b1 rb.num.length b2,.slice b3 rb.den.length b4] 25)).alloc (.cells #[.bool false,.slice none 0 0,.slice none 0 0] 25)).drew) (w.heap.size+1+1) #[.bool false,.slice none 0 0,.slice none 0 0] 25:=by have hh:=(Blk.new ((w.alloc (.cells #[.bool ra.neg,.slice a1 ra.num.length a2,.slice a3 ra.den.length a4] 25)).alloc (.cells #[.bool rb.neg,.slice b1 rb.num.length b2,.slice b3 rb.den.length b4] 25)) #[.bool false,.slice none 0 0,.slice none 0 0] 25).drew;(try simp only [World.size_alloc] at hh);exact hh
  obtain ⟨w1,hww1⟩:=gN ((((w.alloc (.cells #[.bool ra.neg,.slice a1 ra.num.length a2,.slice a3 ra.den.length a4] 25)).alloc (.cells #[.bool rb.neg,.slice b1 rb.num.length b2,.slice b3 rb.den.length b4] 25)).alloc (.cells #[.bool false,.slice none 0 0,.slice none 0 0] 25)).drew);rw [← hww1] at hx bz ⊢;obtain ⟨AZn,hAZn⟩:=gN (w.heap.size+1+1);have HAZA0:Hid (w.heap.size < AZn):=kI (by have hh:=A0.o.lt;(try simp only [World.size_alloc] at hh);omega);have HAZA1:Hid ((w.heap.size+1) < AZn):=kI (by have hh:=A1.o.lt;(try simp only [World.size_alloc] at hh);omega);have WAZ:Hid (w.heap.size≤AZn):=kI (by have hh:=X.o.size;(try simp only [World.size_alloc] at hh);omega);rw [← hAZn] at bz ⊢;have A0:=kI (A0.o.ext hx);have A1:=kI (A1.o.ext hx);have X:=kI (X.o.trans hx);have AZ:=kI bz;clear hx bz hww1 hAZn;first|refine hK.out _ _ ?_ (fun hHeld=>?_)|(go_wp2_with fail;refine hK.out _ _ ?_ (fun hHeld=>?_))
  ·exact ⟨Blk.s3 A0.o,Blk.s3 A1.o⟩
  clear hK K;(try simp only [sP]);refine wpAnyH_ready (rs:=[2]) (by kernel_rfl) (by simp) ?_;refine AllReadyH.cons rfl (fun K hK=>?_) ?_;rotate_left
  ·exact AllReadyH.nil
  go_simp;refine (HMI.o _ (Ext.trans X.o (by first|exact Ext.refl _|exact (Ext.refl _).drew))).mono ?_;rintro e w2 ⟨⟨v,rfl,nn⟩,hx⟩;have hx:=Ext.trans (show Ext w1 _ from by first|exact Ext.refl _|exact (Ext.refl _).drew) hx;have A0:=kI (A0.o.ext hx);have A1:=kI (A1.o.ext hx);have AZ:=kI (AZ.o.ext hx);have X:=kI (X.o.trans hx);obtain ⟨m1,m2,m3,m4,rfl⟩:=nn.shape;have Nm:=kI nn.rd;clear nn hx;first|refine hK.out _ _ ?_ (fun hHeld=>?_)|(go_wp2_with fail;refine hK.out _ _ ?_ (fun hHeld=>?_))
  ·exact ⟨Blk.s3 A0.o,Blk.s3 A1.o⟩
  clear hK K;(try simp only [sP]);refine wpAnyH_ready (rs:=[3]) (by kernel_rfl) (by simp) ?_;refine AllReadyH.cons rfl (fun K hK=>?_) ?_;rotate_left
  ·exact AllReadyH.nil
  go_simp;refine (HSU.o _ _ (Ext.trans X.o (by first|exact Ext.refl _|exact (Ext.refl _).drew)) (Nm.o.ext (by first|exact Ext.refl _|exact (Ext.refl _).drew))).mono ?_;rintro e w3 ⟨⟨v,rfl,nn⟩,hx⟩;have hx:=Ext.trans (show Ext w2 _ from by first|exact Ext.refl _|exact (Ext.refl _).drew) hx;have A0:=kI (A0.o.ext hx);have A1:=kI (A1.o.ext hx);have AZ:=kI (AZ.o.ext hx);have Nm:=kI (Nm.o.ext hx);have X:=kI (X.o.trans hx);obtain ⟨r1,r2,r3,r4,rfl⟩:=nn.shape;have Nr:=kI nn.rd;clear nn hx;first|refine hK.out _ _ ?_ (fun hHeld=>?_)|(go_wp2_with fail;refine hK.out _ _ ?_ (fun hHeld=>?_))
  ·exact ⟨Blk.s3 A0.o,Blk.s3 A1.o⟩
  clear hK K;(try simp only [sP]);have lm:=A1.o.lt;obtain ⟨qz,fz,lz⟩:=AZ.o.q3;refine wpAnyH_ready (rs:=[5]) (by kernel_rfl) (by simp) ?_;refine AllReadyH.cons rfl (fun K hK=>?_) ?_;rotate_left
  ·exact AllReadyH.nil
  go_simp;first|refine hK.out _ _ ?_ (fun hHeld=>?_)|(go_wp2_with fail;refine hK.out _ _ ?_ (fun hHeld=>?_))
  ·exact ⟨Blk.s3 (((A0.o.setOther (by have:=HAZA0.o;have:=HAZA1.o;have:=WAZ.o;dsimp only;omega) _).setOther (by have:=HAZA0.o;have:=HAZA1.o;have:=WAZ.o;dsimp only;omega) _).setOther (by have:=HAZA0.o;have:=HAZA1.o;have:=WAZ.o;dsimp only;omega) _),Blk.s3 (((A1.o.setOther (by have:=HAZA0.o;have:=HAZA1.o;have:=WAZ.o;dsimp only;omega) _).setOther (by have:=HAZA0.o;have:=HAZA1.o;have:=WAZ.o;dsimp only;omega) _).setOther (by have:=HAZA0.o;have:=HAZA1.o;have:=WAZ.o;dsimp only;omega) _)⟩
  clear hK K;(try simp only [sP]);refine wpAnyH_done (by kernel_rfl) ?_ _;have bz:Blk (((w3.setCell ⟨AZn,0,none⟩ (.bool R.neg)).setCell ⟨AZn,1,none⟩ (.slice r1 R.num.length r2)).setCell ⟨AZn,2,none⟩ (.slice r3 R.den.length r4)) AZn #[.bool R.neg,.slice r1 R.num.length r2,.slice r3 R.den.length r4] 25:=by have:=((AZ.o.set 0 (.bool R.neg)).set 1 (.slice r1 R.num.length r2)).set 2 (.slice r3 R.den.length r4);simpa using this
  have hx:Ext w (((w3.setCell ⟨AZn,0,none⟩ (.bool R.neg)).setCell ⟨AZn,1,none⟩ (.slice r1 R.num.length r2)).setCell ⟨AZn,2,none⟩ (.slice r3 R.den.length r4)):=((X.o.set (by have:=HAZA0.o;have:=HAZA1.o;have:=WAZ.o;dsimp only;omega) _).set (by have:=HAZA0.o;have:=HAZA1.o;have:=WAZ.o;dsimp only;omega) _).set (by have:=HAZA0.o;have:=HAZA1.o;have:=WAZ.o;dsimp only;omega) _;obtain ⟨wz,hwz⟩:=gN (((w3.setCell ⟨AZn,0,none⟩ (.bool R.neg)).setCell ⟨AZn,1,none⟩ (.slice r1 R.num.length r2)).setCell ⟨AZn,2,none⟩ (.slice r3 R.den.length r4));rw [← hwz] at bz hx ⊢;have XZ:=kI hx;have BZ:=kI bz;clear hx bz hwz qz fz lz hHeld;have qz:=BZ.o.cell;have lz:=BZ.o.lt;cases hneg:R.neg
  ·by_cases hl:R.num.length=0
   ·have e:=G3.o hneg hl;have E:=kI e;have t1:¬ (0:Int) < (R.num.length:Int):=by omega
    rw [hneg] at qz;clear e hl hneg;go_wp2_with fail;go_ret;exact ⟨ret_int (by rw [E.o]),XZ.o⟩
   ·have e:=G2.o hneg (by omega);have E:=kI e;have t1:(0:Int) < (R.num.length:Int):=by omega
    rw [hneg] at qz;clear e hl hneg;go_wp2_with fail;go_ret;exact ⟨ret_int (by rw [E.o]),XZ.o⟩
  ·have e:=G1.o hneg;have E:=kI e;rw [hneg] at qz;clear e hneg;go_wp2_with fail;go_ret;exact ⟨ret_int (by rw [E.o]),XZ.o⟩
theorem valid_lenR {r:RR} (hl:LimR r) (h:chkR r=0):lenR r 128:=⟨(chkR_0 hl h).1,(chkR_0 hl h).2.1⟩
end Go.Proofs.YtfflknbeidihoaaGreat
