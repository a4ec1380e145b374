/- Lemmas and walks. Conditions: as stated. -/
import Derived.Test.YtfflknbeidihoaaGreatSxRatRa
set_option linter.unusedVariables false
set_option linter.unusedSimpArgs false
set_option maxRecDepth 100000
set_option maxHeartbeats 16000000
namespace Go.Proofs.YtfflknbeidihoaaGreat
open Go.RowKit
theorem refFromR_any (n:Int) (w:World) (h0 : -9223372036854775808≤n) (h1:n≤9223372036854775807) :
  Calls Tryz.prog 29 #[.int .i64 n] w fun e w'=>(∃ v,e=.returned v∧NewR w w' v (rep (n:Rat)))∧Ext w w':=by
 have b0:=Blk.new w #[.bool false,.slice none 0 0,.slice none 0 0] 25;have B0:=kI b0;have X0:=kI ((Ext.refl w).alloc (.cells #[.bool false,.slice none 0 0,.slice none 0 0] 25));clear b0;have hnp:=fun W=>refNat_any n W h0 h1;have sp:=lim_small64 (n:=n.natAbs) (by omega);have esg:sg (decide (n < 0)) n.natAbs=n:=by
  unfold sg;by_cases h:n < 0
  ·rw [if_pos (by simpa using h)];omega
  ·rw [if_neg (by simpa using h)];omega
 have hmk:=fun W v1 v2 h1 h2=>make_any (decide (n < 0)) v1 v2 (lim n.natAbs) [1] W h1 h2 (lim_lim _) (lims _ (by decide)) (lim_noZ _) (by simp [NoZ]) (Nat.le_trans sp (by decide)) (by simp) (by decide);rw [nv_lim,esg,show nv [1]=1 from rfl] at hmk;have hrr:rep (mkRat n 1)=rep (n:Rat):=by
  congr 1
  exact Rat.mkRat_one n
 rw [hrr] at hmk;obtain ⟨P,hP⟩:=gN (lim n.natAbs);rw [← hP] at hnp hmk;obtain ⟨RS,hRS⟩:=gN (rep (n:Rat));rw [← hRS] at hmk;rw [← hRS];have HNP:=kI hnp;have HMK:=kI hmk;clear hP hRS hnp hmk hrr esg sp;go_enter Tryz.func29,Tryz.ntmps29
 go_wp2_with fail;refine (HNP.o _).mono ?_;rintro e w1 ⟨⟨v,rfl,n1⟩,hx1⟩;obtain ⟨a1,c1,rfl⟩:=n1.shape;have N1:=kI n1.rd;have X1:=kI (X0.o.trans hx1);have B1:=kI (B0.o.ext hx1);clear n1 hx1;go_wp2_with fail;refine (one_any _).mono ?_;rintro e w2 ⟨⟨v,rfl,n2⟩,hx2⟩;obtain ⟨a2,c2,rfl⟩:=n2.shape;have N2:=kI n2.rd;have X2:=kI (X1.o.trans hx2);have B2:=kI (B1.o.ext hx2);have N1:=kI (N1.o.ext hx2);clear n2 hx2;go_wp2_with fail;refine (HMK.o _ _ _ N1.o N2.o).mono ?_;rintro e w3 ⟨⟨v,rfl,n3⟩,hx3⟩;obtain ⟨a3,c3,a4,c4,rfl⟩:=n3.shape;have N3:=kI (n3.from X2.o);have X3:=kI (X2.o.trans hx3);have B3:=kI (B2.o.ext hx3);clear n3 hx3;have c0:=B3.o.cell;have f0:=B3.o.free;have l0:=B3.o.lt;go_wp2_with fail;refine bodyPost_ret (v:=.agg #[.bool RS.neg,.slice a3 RS.num.length c3,.slice a4 RS.den.length c4]) (by simp only [results,Tryz.results29];go_simp) rfl ⟨⟨_,rfl,NewR.set3 N3.o B3.o (by decide) _ _ _⟩,?_⟩;have:=X3.o;(repeat (first|(with_reducible first|exact eR _|assumption|refine eA ?_ _)|((with_reducible refine eS ?_ ?_);focus (dsimp only;omega))|(with_reducible first|refine eD ?_|refine eN ?_ _|refine eT ?_ (by assumption))))
theorem refCheckR_any (v:Value) (r:RR) (w:World) (h:RdR w v r) (hl:LimR r) :
  Calls Tryz.prog 26 #[v] w fun e w'=>e=.returned (.int .i64 (chkR r))∧Ext w w':=by
 obtain ⟨a1,c1,a2,c2,rfl,hn,hd⟩:=h.parts;obtain ⟨b,l1,l2⟩:=r;obtain ⟨hl1,hl2⟩:=hl;dsimp only at hl1 hl2 hn hd ⊢;clear h;have HN:=kI hn;have HD:=kI hd;have L1:=kI hl1;have L2:=kI hl2;clear hn hd hl1 hl2;have HB:=kI (Blk.new w #[.bool b,.slice a1 l1.length c1,.slice a2 l2.length c2] 25);have HX:=kI ((Ext.refl w).alloc (.cells #[.bool b,.slice a1 l1.length c1,.slice a2 l2.length c2] 25));by_cases h1:128 < l1.length∨128 < l2.length
 ·have e:chkR ⟨b,l1,l2⟩=4:=by unfold chkR;rw [if_pos h1]
  have E:=kI e;clear e;by_cases h2:128 < l1.length
  ·have q1:(128:Int) < (l1.length:Int):=by omega
   go_enter Tryz.func26,Tryz.ntmps26
   go_wp2_with fail;go_ret;exact ⟨by rw [E.o];rfl,by (repeat (first|(with_reducible first|exact eR _|assumption|refine eA ?_ _)|((with_reducible refine eS ?_ ?_);focus (dsimp only;omega))|(with_reducible first|refine eD ?_|refine eN ?_ _|refine eT ?_ (by assumption))))⟩
  ·have q1:¬ (128:Int) < (l1.length:Int):=by omega
   have q2:(128:Int) < (l2.length:Int):=by omega
   go_enter Tryz.func26,Tryz.ntmps26
   go_wp2_with fail;go_ret;exact ⟨by rw [E.o];rfl,by (repeat (first|(with_reducible first|exact eR _|assumption|refine eA ?_ _)|((with_reducible refine eS ?_ ?_);focus (dsimp only;omega))|(with_reducible first|refine eD ?_|refine eN ?_ _|refine eT ?_ (by assumption))))⟩
 ·have q1:¬ (128:Int) < (l1.length:Int):=by omega
  have q2:¬ (128:Int) < (l2.length:Int):=by omega
  have s1:l1.length≤128:=by omega
  have s2:l2.length≤128:=by omega
  have hk1:=fun W h=>refCheck1_any (.slice a1 l1.length c1) l1 W h;have hk2:=fun W h=>refCheck1_any (.slice a2 l2.length c2) l2 W h;by_cases hc:chkE l1=0
  ·rw [hc] at hk1;by_cases hd0:chkE l2=0
   ·rw [hd0] at hk2;have C1:=kI hk1;have C2:=kI hk2;obtain ⟨E,hE⟩:=gN (chkR ⟨b,l1,l2⟩);rw [← hE];have HE:=kI hE;have HC:=kI hc;have HC0:=kI hd0;have H1:=kI h1;clear hE hc hd0 h1 hk1 hk2;go_enter Tryz.func26,Tryz.ntmps26
    go_wp2_with fail;refine (C1.o _ (HN.o.ext HX.o)).mono ?_;rintro e w1 ⟨rfl,hx1⟩;have P1:=kI (HB.o.ext hx1);have X1:=kI (HX.o.trans hx1);clear hx1;have k1:=P1.o.cell;have l1':=P1.o.lt;go_wp2_with fail;refine (C2.o _ (HD.o.ext X1.o)).mono ?_;rintro e w2 ⟨rfl,hx2⟩;have P2:=kI (P1.o.ext hx2);have X2:=kI (X1.o.trans hx2);clear hx2 k1 l1';have k1:=P2.o.cell;have l1':=P2.o.lt;go_wp2_with fail;by_cases hl1:l1.length=0
    ·have hl1e:l1=[]:=List.length_eq_zero_iff.1 hl1;have HL1E:=kI hl1e;have q5:((l1.length:Int) == 0)=true:=by simp [hl1]
     clear hl1e;cases b
     ·by_cases hl2:l2.length=0
      ·have q6:¬ (0:Int) < (l2.length:Int):=by omega
       have HL2:=kI hl2;clear hl1 hl2;clear k1 l1';refine wp_region_held_drew (S:=(fun W=>Blk W w.heap.size #[.bool false,.slice a1 l1.length c1,.slice a2 l2.length c2] 25∧W.cell? ⟨w.heap.size,0,none⟩=some (.bool false)∧W.cell? ⟨w.heap.size,1,none⟩=some (.slice a1 l1.length c1)∧W.cell? ⟨w.heap.size,2,none⟩=some (.slice a2 l2.length c2))) (by kernel_rfl) ?_ (fun hHeld=>?_)
       ·exact Blk.s3 P2.o.drew
       refine wpAnyH_take (i:=0) (v:=?_) rfl (by kernel_rfl) (by kernel_rfl) (by kernel_rfl) (fun _ _ _ h=>h) (Or.inl ⟨by rfl,?_⟩) (by assumption) ?_;rotate_left
       ·(intro w hSw;(try dsimp only at hSw);go_simp;first|done|with_reducible rfl)
       (try simp only [sP]);refine wpAnyH_take (i:=1) (v:=?_) rfl (by kernel_rfl) (by kernel_rfl) (by kernel_rfl) (fun _ _ _ h=>h) (Or.inl ⟨by rfl,?_⟩) (by assumption) ?_;rotate_left
       ·(intro w hSw;(try dsimp only at hSw);go_simp;first|done|with_reducible rfl)
       (try simp only [sP]);refine wpAnyH_take (i:=2) (v:=?_) rfl (by kernel_rfl) (by kernel_rfl) (by kernel_rfl) (fun _ _ _ h=>h) (Or.inl ⟨by rfl,?_⟩) (by assumption) ?_;rotate_left
       ·(intro w hSw;(try dsimp only at hSw);go_simp;first|done|with_reducible rfl)
       (try simp only [sP]);refine wpAnyH_take (i:=3) (v:=?_) rfl (by kernel_rfl) (by kernel_rfl) (by kernel_rfl) (fun _ _ _ h=>h) (Or.inl ⟨by rfl,?_⟩) (by assumption) ?_;rotate_left
       ·(intro w hSw;(try dsimp only at hSw);go_simp;first|done|with_reducible rfl)
       (try simp only [sP]);refine wpAnyH_take (i:=4) (v:=?_) rfl (by kernel_rfl) (by kernel_rfl) (by kernel_rfl) (fun _ _ _ h=>h) (Or.inl ⟨by rfl,?_⟩) (by assumption) ?_;rotate_left
       ·(intro w hSw;(try dsimp only at hSw);go_simp;first|done|with_reducible rfl)
       (try simp only [sP]);refine wpAnyH_take (i:=5) (v:=?_) rfl (by kernel_rfl) (by kernel_rfl) (by kernel_rfl) (fun _ _ _ h=>h) (Or.inl ⟨by rfl,?_⟩) (by assumption) ?_;rotate_left
       ·(intro w hSw;(try dsimp only at hSw);go_simp;first|done|with_reducible rfl)
       (try simp only [sP]);refine wpAnyH_take (i:=6) (v:=?_) rfl (by kernel_rfl) (by kernel_rfl) (by kernel_rfl) (fun _ _ _ h=>h) (Or.inl ⟨by rfl,?_⟩) (by assumption) ?_;rotate_left
       ·(intro w hSw;(try dsimp only at hSw);go_simp;first|done|with_reducible rfl)
       (try simp only [sP]);refine wpAnyH_take (i:=7) (v:=?_) rfl (by kernel_rfl) (by kernel_rfl) (by kernel_rfl) (fun _ _ _ h=>h) (Or.inl ⟨by rfl,?_⟩) (by assumption) ?_;rotate_left
       ·(intro w hSw;(try dsimp only at hSw);go_simp;first|done|with_reducible rfl)
       (try simp only [sP]);refine wpAnyH_take (i:=8) (v:=?_) rfl (by kernel_rfl) (by kernel_rfl) (by kernel_rfl) (fun _ _ _ h=>h) (Or.inl ⟨by rfl,?_⟩) (by assumption) ?_;rotate_left
       ·(intro w hSw;(try dsimp only at hSw);go_simp;first|done|with_reducible rfl)
       (try simp only [sP]);refine wpAnyH_take (i:=9) (v:=?_) rfl (by kernel_rfl) (by kernel_rfl) (by kernel_rfl) (fun _ _ _ h=>h) (Or.inl ⟨by rfl,?_⟩) (by assumption) ?_;rotate_left
       ·(intro w hSw;(try dsimp only at hSw);go_simp;first|done|with_reducible rfl)
       (try simp only [sP]);refine wpAnyH_take (i:=10) (v:=?_) rfl (by kernel_rfl) (by kernel_rfl) (by kernel_rfl) (fun _ _ _ h=>h) (Or.inl ⟨by rfl,?_⟩) (by assumption) ?_;rotate_left
       ·(intro w hSw;(try dsimp only at hSw);go_simp;first|done|with_reducible rfl)
       (try simp only [sP]);refine wpAnyH_take (i:=11) (v:=.bool false) rfl (by kernel_rfl) (by kernel_rfl) (by kernel_rfl) (fun _ _ _ h=>h) (Or.inl ⟨by rfl,?_⟩) (by assumption) ?_
       ·(intro w hSw;(try dsimp only at hSw);go_simp;first|done|with_reducible rfl|exact List.length_eq_zero_iff.1 HL2.o|(simp [List.length_eq_zero_iff.1 HL2.o];done))
       (try simp only [sP]);refine wpAnyH_take (i:=12) (v:=?_) rfl (by kernel_rfl) (by kernel_rfl) (by kernel_rfl) (fun _ _ _ h=>h) (Or.inl ⟨by rfl,?_⟩) (by assumption) ?_;rotate_left
       ·(intro w hSw;(try dsimp only at hSw);go_simp;first|done|with_reducible rfl)
       (try simp only [sP]);refine wpAnyH_take (i:=13) (v:=?_) rfl (by kernel_rfl) (by kernel_rfl) (by kernel_rfl) (fun _ _ _ h=>h) (Or.inl ⟨by rfl,?_⟩) (by assumption) ?_;rotate_left
       ·(intro w hSw;(try dsimp only at hSw);go_simp;first|done|with_reducible rfl)
       (try simp only [sP]);refine wpAnyH_take (i:=14) (v:=?_) rfl (by kernel_rfl) (by kernel_rfl) (by kernel_rfl) (fun _ _ _ h=>h) (Or.inl ⟨by rfl,?_⟩) (by assumption) ?_;rotate_left
       ·(intro w hSw;(try dsimp only at hSw);go_simp;first|done|with_reducible rfl)
       (try simp only [sP]);refine wpAnyH_take (i:=15) (v:=?_) rfl (by kernel_rfl) (by kernel_rfl) (by kernel_rfl) (fun _ _ _ h=>h) (Or.inl ⟨by rfl,?_⟩) (by assumption) ?_;rotate_left
       ·(intro w hSw;(try dsimp only at hSw);go_simp;first|done|with_reducible rfl)
       (try simp only [sP]);refine wpAnyH_take (i:=16) (v:=?_) rfl (by kernel_rfl) (by kernel_rfl) (by kernel_rfl) (fun _ _ _ h=>h) (Or.inl ⟨by rfl,?_⟩) (by assumption) ?_;rotate_left
       ·(intro w hSw;(try dsimp only at hSw);go_simp;first|done|with_reducible rfl)
       (try simp only [sP]);refine wpAnyH_ready (rs:=[17]) (by kernel_rfl) (by simp) ?_;refine AllReadyH.cons rfl (fun K hK=>?_) ?_;rotate_left
       ·exact AllReadyH.nil
       go_simp;refine (one_any _).mono ?_;rintro e w3 ⟨⟨v,rfl,n3⟩,hx3⟩;obtain ⟨a3,c3,rfl⟩:=n3.shape;have N3:=kI n3.rd;have hx3':=Ext.trans (show Ext w2 _ from (Ext.refl w2).drew) hx3;have P3:=kI (P2.o.ext hx3');have X3:=kI (X2.o.trans hx3');clear n3 hx3 hx3';first|refine hK.out _ _ ?_ (fun hHeld=>?_)|(go_wp2_with fail;refine hK.out _ _ ?_ (fun hHeld=>?_))
       ·exact Blk.s3 P3.o
       clear hK K;(try simp only [sP]);refine wpAnyH_ready (rs:=[18]) (by kernel_rfl) (by simp) ?_;refine AllReadyH.cons rfl (fun K hK=>?_) ?_;rotate_left
       ·exact AllReadyH.nil
       go_simp;refine (equalNat_any _ _ l2 [1] _ (HD.o.ext X3.o) N3.o).mono ?_;rintro e w4 ⟨rfl,hx4⟩;have P4:=kI (P3.o.ext hx4);have X4:=kI (X3.o.trans hx4);clear hx4;first|refine hK.out _ _ ?_ (fun hHeld=>?_)|(go_wp2_with fail;refine hK.out _ _ ?_ (fun hHeld=>?_))
       ·exact Blk.s3 P4.o
       clear hK K;(try simp only [sP]);refine wpAnyH_take (i:=19) (v:=?_) rfl (by kernel_rfl) (by kernel_rfl) (by kernel_rfl) (fun _ _ _ h=>h) (Or.inl ⟨by rfl,?_⟩) (by assumption) ?_;rotate_left
       ·(intro w hSw;(try dsimp only at hSw);go_simp;first|done|with_reducible rfl)
       (try simp only [sP]);refine wpAnyH_done (by kernel_rfl) ?_ _;by_cases hone:l2=[1]
       ·rw [decide_eq_true hone];have HO:=kI hone;clear hone;go_wp2_with fail;go_ret;exact ⟨by rw [HE.o];unfold chkR;rw [if_neg H1.o,if_pos (.inr (.inr (.inl HO.o)))];rfl,by have:=X4.o;(repeat (first|(with_reducible first|exact eR _|assumption|refine eA ?_ _)|((with_reducible refine eS ?_ ?_);focus (dsimp only;omega))|(with_reducible first|refine eD ?_|refine eN ?_ _|refine eT ?_ (by assumption))))⟩
       ·rw [decide_eq_false hone];have HN2:Hid (¬ (chkE l1≠0∨chkE l2≠0∨l2=[1]∨(l1=[]∧(false=true∨l2≠[])))):=kI (by rintro (h|h|h|h);exact h HC.o;exact h HC0.o;exact hone h;exact h.2.elim (fun e=>by cases e) (fun e=>e (List.length_eq_zero_iff.1 HL2.o)));clear hone;have k1:=P4.o.cell;have l1':=P4.o.lt;have q9:¬ (0:Int) < (l2.length:Int):=by have:=HL2.o;omega
        have HZ3:Hid (l2=[]):=kI (List.length_eq_zero_iff.1 HL2.o);go_wp2_with fail;go_ret;exact ⟨by rw [HE.o];unfold chkR;rw [if_neg H1.o,if_neg (HN2.o),if_neg (fun h=>h.1 HZ3.o)];rfl,by have:=X4.o;(repeat (first|(with_reducible first|exact eR _|assumption|refine eA ?_ _)|((with_reducible refine eS ?_ ?_);focus (dsimp only;omega))|(with_reducible first|refine eD ?_|refine eN ?_ _|refine eT ?_ (by assumption))))⟩
      ·have q6:(0:Int) < (l2.length:Int):=by omega
       have HL2:=kI hl2;clear hl1 hl2;clear k1 l1';refine wp_region_held_drew (S:=(fun W=>Blk W w.heap.size #[.bool false,.slice a1 l1.length c1,.slice a2 l2.length c2] 25∧W.cell? ⟨w.heap.size,0,none⟩=some (.bool false)∧W.cell? ⟨w.heap.size,1,none⟩=some (.slice a1 l1.length c1)∧W.cell? ⟨w.heap.size,2,none⟩=some (.slice a2 l2.length c2))) (by kernel_rfl) ?_ (fun hHeld=>?_)
       ·exact Blk.s3 P2.o.drew
       refine wpAnyH_take (i:=0) (v:=?_) rfl (by kernel_rfl) (by kernel_rfl) (by kernel_rfl) (fun _ _ _ h=>h) (Or.inl ⟨by rfl,?_⟩) (by assumption) ?_;rotate_left
       ·(intro w hSw;(try dsimp only at hSw);go_simp;first|done|with_reducible rfl)
       (try simp only [sP]);refine wpAnyH_take (i:=1) (v:=?_) rfl (by kernel_rfl) (by kernel_rfl) (by kernel_rfl) (fun _ _ _ h=>h) (Or.inl ⟨by rfl,?_⟩) (by assumption) ?_;rotate_left
       ·(intro w hSw;(try dsimp only at hSw);go_simp;first|done|with_reducible rfl)
       (try simp only [sP]);refine wpAnyH_take (i:=2) (v:=?_) rfl (by kernel_rfl) (by kernel_rfl) (by kernel_rfl) (fun _ _ _ h=>h) (Or.inl ⟨by rfl,?_⟩) (by assumption) ?_;rotate_left
       ·(intro w hSw;(try dsimp only at hSw);go_simp;first|done|with_reducible rfl)
       (try simp only [sP]);refine wpAnyH_take (i:=3) (v:=?_) rfl (by kernel_rfl) (by kernel_rfl) (by kernel_rfl) (fun _ _ _ h=>h) (Or.inl ⟨by rfl,?_⟩) (by assumption) ?_;rotate_left
       ·(intro w hSw;(try dsimp only at hSw);go_simp;first|done|with_reducible rfl)
       (try simp only [sP]);refine wpAnyH_take (i:=4) (v:=?_) rfl (by kernel_rfl) (by kernel_rfl) (by kernel_rfl) (fun _ _ _ h=>h) (Or.inl ⟨by rfl,?_⟩) (by assumption) ?_;rotate_left
       ·(intro w hSw;(try dsimp only at hSw);go_simp;first|done|with_reducible rfl)
       (try simp only [sP]);refine wpAnyH_take (i:=5) (v:=?_) rfl (by kernel_rfl) (by kernel_rfl) (by kernel_rfl) (fun _ _ _ h=>h) (Or.inl ⟨by rfl,?_⟩) (by assumption) ?_;rotate_left
       ·(intro w hSw;(try dsimp only at hSw);go_simp;first|done|with_reducible rfl)
       (try simp only [sP]);refine wpAnyH_take (i:=6) (v:=?_) rfl (by kernel_rfl) (by kernel_rfl) (by kernel_rfl) (fun _ _ _ h=>h) (Or.inl ⟨by rfl,?_⟩) (by assumption) ?_;rotate_left
       ·(intro w hSw;(try dsimp only at hSw);go_simp;first|done|with_reducible rfl)
       (try simp only [sP]);refine wpAnyH_take (i:=7) (v:=?_) rfl (by kernel_rfl) (by kernel_rfl) (by kernel_rfl) (fun _ _ _ h=>h) (Or.inl ⟨by rfl,?_⟩) (by assumption) ?_;rotate_left
       ·(intro w hSw;(try dsimp only at hSw);go_simp;first|done|with_reducible rfl)
       (try simp only [sP]);refine wpAnyH_take (i:=8) (v:=?_) rfl (by kernel_rfl) (by kernel_rfl) (by kernel_rfl) (fun _ _ _ h=>h) (Or.inl ⟨by rfl,?_⟩) (by assumption) ?_;rotate_left
       ·(intro w hSw;(try dsimp only at hSw);go_simp;first|done|with_reducible rfl)
       (try simp only [sP]);refine wpAnyH_take (i:=9) (v:=?_) rfl (by kernel_rfl) (by kernel_rfl) (by kernel_rfl) (fun _ _ _ h=>h) (Or.inl ⟨by rfl,?_⟩) (by assumption) ?_;rotate_left
       ·(intro w hSw;(try dsimp only at hSw);go_simp;first|done|with_reducible rfl)
       (try simp only [sP]);refine wpAnyH_take (i:=10) (v:=?_) rfl (by kernel_rfl) (by kernel_rfl) (by kernel_rfl) (fun _ _ _ h=>h) (Or.inl ⟨by rfl,?_⟩) (by assumption) ?_;rotate_left
       ·(intro w hSw;(try dsimp only at hSw);go_simp;first|done|with_reducible rfl)
       (try simp only [sP]);refine wpAnyH_take (i:=11) (v:=.bool true) rfl (by kernel_rfl) (by kernel_rfl) (by kernel_rfl) (fun _ _ _ h=>h) (Or.inl ⟨by rfl,?_⟩) (by assumption) ?_
       ·(intro w hSw;(try dsimp only at hSw);go_simp;first|done|with_reducible rfl|exact HL2.o|exact Nat.pos_of_ne_zero HL2.o)
       (try simp only [sP]);refine wpAnyH_take (i:=12) (v:=?_) rfl (by kernel_rfl) (by kernel_rfl) (by kernel_rfl) (fun _ _ _ h=>h) (Or.inl ⟨by rfl,?_⟩) (by assumption) ?_;rotate_left
       ·(intro w hSw;(try dsimp only at hSw);go_simp;first|done|with_reducible rfl)
       (try simp only [sP]);refine wpAnyH_take (i:=13) (v:=?_) rfl (by kernel_rfl) (by kernel_rfl) (by kernel_rfl) (fun _ _ _ h=>h) (Or.inl ⟨by rfl,?_⟩) (by assumption) ?_;rotate_left
       ·(intro w hSw;(try dsimp only at hSw);go_simp;first|done|with_reducible rfl)
       (try simp only [sP]);refine wpAnyH_take (i:=14) (v:=?_) rfl (by kernel_rfl) (by kernel_rfl) (by kernel_rfl) (fun _ _ _ h=>h) (Or.inl ⟨by rfl,?_⟩) (by assumption) ?_;rotate_left
       ·(intro w hSw;(try dsimp only at hSw);go_simp;first|done|with_reducible rfl)
       (try simp only [sP]);refine wpAnyH_take (i:=15) (v:=undef) rfl (by kernel_rfl) (by kernel_rfl) (by kernel_rfl) (fun _ _ _ h=>h) (Or.inr ⟨by rfl,rfl⟩) (by assumption) ?_;(try simp only [sP]);refine wpAnyH_take (i:=16) (v:=undef) rfl (by kernel_rfl) (by kernel_rfl) (by kernel_rfl) (fun _ _ _ h=>h) (Or.inr ⟨by rfl,rfl⟩) (by assumption) ?_;(try simp only [sP]);refine wpAnyH_take (i:=17) (v:=undef) rfl (by kernel_rfl) (by kernel_rfl) (by kernel_rfl) (fun _ _ _ h=>h) (Or.inr ⟨by rfl,rfl⟩) (by assumption) ?_;(try simp only [sP]);refine wpAnyH_take (i:=18) (v:=undef) rfl (by kernel_rfl) (by kernel_rfl) (by kernel_rfl) (fun _ _ _ h=>h) (Or.inr ⟨by rfl,rfl⟩) (by assumption) ?_;(try simp only [sP]);refine wpAnyH_take (i:=19) (v:=?_) rfl (by kernel_rfl) (by kernel_rfl) (by kernel_rfl) (fun _ _ _ h=>h) (Or.inl ⟨by rfl,?_⟩) (by assumption) ?_;rotate_left
       ·(intro w hSw;(try dsimp only at hSw);go_simp;first|done|with_reducible rfl)
       (try simp only [sP]);refine wpAnyH_done (by kernel_rfl) ?_ _;go_wp2_with fail;go_ret;exact ⟨by rw [HE.o];unfold chkR;rw [if_neg H1.o,if_pos (.inr (.inr (.inr ⟨HL1E.o,.inr (fun e=>HL2.o (List.length_eq_zero_iff.2 e))⟩)))];rfl,by have:=X2.o;(repeat (first|(with_reducible first|exact eR _|assumption|refine eA ?_ _)|((with_reducible refine eS ?_ ?_);focus (dsimp only;omega))|(with_reducible first|refine eD ?_|refine eN ?_ _|refine eT ?_ (by assumption))))⟩
     ·clear hl1;clear k1 l1';refine wp_region_held_drew (S:=(fun W=>Blk W w.heap.size #[.bool true,.slice a1 l1.length c1,.slice a2 l2.length c2] 25∧W.cell? ⟨w.heap.size,0,none⟩=some (.bool true)∧W.cell? ⟨w.heap.size,1,none⟩=some (.slice a1 l1.length c1)∧W.cell? ⟨w.heap.size,2,none⟩=some (.slice a2 l2.length c2))) (by kernel_rfl) ?_ (fun hHeld=>?_)
      ·exact Blk.s3 P2.o.drew
      refine wpAnyH_take (i:=0) (v:=?_) rfl (by kernel_rfl) (by kernel_rfl) (by kernel_rfl) (fun _ _ _ h=>h) (Or.inl ⟨by rfl,?_⟩) (by assumption) ?_;rotate_left
      ·(intro w hSw;(try dsimp only at hSw);go_simp;first|done|with_reducible rfl)
      (try simp only [sP]);refine wpAnyH_take (i:=1) (v:=?_) rfl (by kernel_rfl) (by kernel_rfl) (by kernel_rfl) (fun _ _ _ h=>h) (Or.inl ⟨by rfl,?_⟩) (by assumption) ?_;rotate_left
      ·(intro w hSw;(try dsimp only at hSw);go_simp;first|done|with_reducible rfl)
      (try simp only [sP]);refine wpAnyH_take (i:=2) (v:=?_) rfl (by kernel_rfl) (by kernel_rfl) (by kernel_rfl) (fun _ _ _ h=>h) (Or.inl ⟨by rfl,?_⟩) (by assumption) ?_;rotate_left
      ·(intro w hSw;(try dsimp only at hSw);go_simp;first|done|with_reducible rfl)
      (try simp only [sP]);refine wpAnyH_take (i:=3) (v:=?_) rfl (by kernel_rfl) (by kernel_rfl) (by kernel_rfl) (fun _ _ _ h=>h) (Or.inl ⟨by rfl,?_⟩) (by assumption) ?_;rotate_left
      ·(intro w hSw;(try dsimp only at hSw);go_simp;first|done|with_reducible rfl)
      (try simp only [sP]);refine wpAnyH_take (i:=4) (v:=?_) rfl (by kernel_rfl) (by kernel_rfl) (by kernel_rfl) (fun _ _ _ h=>h) (Or.inl ⟨by rfl,?_⟩) (by assumption) ?_;rotate_left
      ·(intro w hSw;(try dsimp only at hSw);go_simp;first|done|with_reducible rfl)
      (try simp only [sP]);refine wpAnyH_take (i:=5) (v:=?_) rfl (by kernel_rfl) (by kernel_rfl) (by kernel_rfl) (fun _ _ _ h=>h) (Or.inl ⟨by rfl,?_⟩) (by assumption) ?_;rotate_left
      ·(intro w hSw;(try dsimp only at hSw);go_simp;first|done|with_reducible rfl)
      (try simp only [sP]);refine wpAnyH_take (i:=6) (v:=?_) rfl (by kernel_rfl) (by kernel_rfl) (by kernel_rfl) (fun _ _ _ h=>h) (Or.inl ⟨by rfl,?_⟩) (by assumption) ?_;rotate_left
      ·(intro w hSw;(try dsimp only at hSw);go_simp;first|done|with_reducible rfl)
      (try simp only [sP]);refine wpAnyH_take (i:=7) (v:=?_) rfl (by kernel_rfl) (by kernel_rfl) (by kernel_rfl) (fun _ _ _ h=>h) (Or.inl ⟨by rfl,?_⟩) (by assumption) ?_;rotate_left
      ·(intro w hSw;(try dsimp only at hSw);go_simp;first|done|with_reducible rfl)
      (try simp only [sP]);refine wpAnyH_take (i:=8) (v:=undef) rfl (by kernel_rfl) (by kernel_rfl) (by kernel_rfl) (fun _ _ _ h=>h) (Or.inr ⟨by rfl,rfl⟩) (by assumption) ?_;(try simp only [sP]);refine wpAnyH_take (i:=9) (v:=undef) rfl (by kernel_rfl) (by kernel_rfl) (by kernel_rfl) (fun _ _ _ h=>h) (Or.inr ⟨by rfl,rfl⟩) (by assumption) ?_;(try simp only [sP]);refine wpAnyH_take (i:=10) (v:=undef) rfl (by kernel_rfl) (by kernel_rfl) (by kernel_rfl) (fun _ _ _ h=>h) (Or.inr ⟨by rfl,rfl⟩) (by assumption) ?_;(try simp only [sP]);refine wpAnyH_take (i:=11) (v:=undef) rfl (by kernel_rfl) (by kernel_rfl) (by kernel_rfl) (fun _ _ _ h=>h) (Or.inr ⟨by rfl,rfl⟩) (by assumption) ?_;(try simp only [sP]);refine wpAnyH_take (i:=12) (v:=?_) rfl (by kernel_rfl) (by kernel_rfl) (by kernel_rfl) (fun _ _ _ h=>h) (Or.inl ⟨by rfl,?_⟩) (by assumption) ?_;rotate_left
      ·(intro w hSw;(try dsimp only at hSw);go_simp;first|done|with_reducible rfl)
      (try simp only [sP]);refine wpAnyH_take (i:=13) (v:=?_) rfl (by kernel_rfl) (by kernel_rfl) (by kernel_rfl) (fun _ _ _ h=>h) (Or.inl ⟨by rfl,?_⟩) (by assumption) ?_;rotate_left
      ·(intro w hSw;(try dsimp only at hSw);go_simp;first|done|with_reducible rfl)
      (try simp only [sP]);refine wpAnyH_take (i:=14) (v:=?_) rfl (by kernel_rfl) (by kernel_rfl) (by kernel_rfl) (fun _ _ _ h=>h) (Or.inl ⟨by rfl,?_⟩) (by assumption) ?_;rotate_left
      ·(intro w hSw;(try dsimp only at hSw);go_simp;first|done|with_reducible rfl)
      (try simp only [sP]);refine wpAnyH_take (i:=15) (v:=undef) rfl (by kernel_rfl) (by kernel_rfl) (by kernel_rfl) (fun _ _ _ h=>h) (Or.inr ⟨by rfl,rfl⟩) (by assumption) ?_;(try simp only [sP]);refine wpAnyH_take (i:=16) (v:=undef) rfl (by kernel_rfl) (by kernel_rfl) (by kernel_rfl) (fun _ _ _ h=>h) (Or.inr ⟨by rfl,rfl⟩) (by assumption) ?_;(try simp only [sP]);refine wpAnyH_take (i:=17) (v:=undef) rfl (by kernel_rfl) (by kernel_rfl) (by kernel_rfl) (fun _ _ _ h=>h) (Or.inr ⟨by rfl,rfl⟩) (by assumption) ?_;(try simp only [sP]);refine wpAnyH_take (i:=18) (v:=undef) rfl (by kernel_rfl) (by kernel_rfl) (by kernel_rfl) (fun _ _ _ h=>h) (Or.inr ⟨by rfl,rfl⟩) (by assumption) ?_;(try simp only [sP]);refine wpAnyH_take (i:=19) (v:=?_) rfl (by kernel_rfl) (by kernel_rfl) (by kernel_rfl) (fun _ _ _ h=>h) (Or.inl ⟨by rfl,?_⟩) (by assumption) ?_;rotate_left
      ·(intro w hSw;(try dsimp only at hSw);go_simp;first|done|with_reducible rfl)
      (try simp only [sP]);refine wpAnyH_done (by kernel_rfl) ?_ _;go_wp2_with fail;go_ret;exact ⟨by rw [HE.o];unfold chkR;rw [if_neg H1.o,if_pos (.inr (.inr (.inr ⟨HL1E.o,.inl rfl⟩)))];rfl,by have:=X2.o;(repeat (first|(with_reducible first|exact eR _|assumption|refine eA ?_ _)|((with_reducible refine eS ?_ ?_);focus (dsimp only;omega))|(with_reducible first|refine eD ?_|refine eN ?_ _|refine eT ?_ (by assumption))))⟩
    ·have HL1E:=kI hl1;have q5:((l1.length:Int) == 0)=false:=by simp only [beq_eq_false_iff_ne];omega
     clear hl1;clear k1 l1';refine wp_region_held_drew (S:=(fun W=>Blk W w.heap.size #[.bool b,.slice a1 l1.length c1,.slice a2 l2.length c2] 25∧W.cell? ⟨w.heap.size,0,none⟩=some (.bool b)∧W.cell? ⟨w.heap.size,1,none⟩=some (.slice a1 l1.length c1)∧W.cell? ⟨w.heap.size,2,none⟩=some (.slice a2 l2.length c2))) (by kernel_rfl) ?_ (fun hHeld=>?_)
     ·exact Blk.s3 P2.o.drew
     refine wpAnyH_take (i:=0) (v:=?_) rfl (by kernel_rfl) (by kernel_rfl) (by kernel_rfl) (fun _ _ _ h=>h) (Or.inl ⟨by rfl,?_⟩) (by assumption) ?_;rotate_left
     ·(intro w hSw;(try dsimp only at hSw);go_simp;first|done|with_reducible rfl)
     (try simp only [sP]);refine wpAnyH_take (i:=1) (v:=?_) rfl (by kernel_rfl) (by kernel_rfl) (by kernel_rfl) (fun _ _ _ h=>h) (Or.inl ⟨by rfl,?_⟩) (by assumption) ?_;rotate_left
     ·(intro w hSw;(try dsimp only at hSw);go_simp;first|done|with_reducible rfl)
     (try simp only [sP]);refine wpAnyH_take (i:=2) (v:=?_) rfl (by kernel_rfl) (by kernel_rfl) (by kernel_rfl) (fun _ _ _ h=>h) (Or.inl ⟨by rfl,?_⟩) (by assumption) ?_;rotate_left
     ·(intro w hSw;(try dsimp only at hSw);go_simp;first|done|with_reducible rfl)
     (try simp only [sP]);refine wpAnyH_take (i:=3) (v:=?_) rfl (by kernel_rfl) (by kernel_rfl) (by kernel_rfl) (fun _ _ _ h=>h) (Or.inl ⟨by rfl,?_⟩) (by assumption) ?_;rotate_left
     ·(intro w hSw;(try dsimp only at hSw);go_simp;first|done|with_reducible rfl)
     (try simp only [sP]);refine wpAnyH_take (i:=4) (v:=?_) rfl (by kernel_rfl) (by kernel_rfl) (by kernel_rfl) (fun _ _ _ h=>h) (Or.inl ⟨by rfl,?_⟩) (by assumption) ?_;rotate_left
     ·(intro w hSw;(try dsimp only at hSw);go_simp;first|done|with_reducible rfl)
     (try simp only [sP]);refine wpAnyH_take (i:=5) (v:=undef) rfl (by kernel_rfl) (by kernel_rfl) (by kernel_rfl) (fun _ _ _ h=>h) (Or.inr ⟨by rfl,rfl⟩) (by assumption) ?_;(try simp only [sP]);refine wpAnyH_take (i:=6) (v:=undef) rfl (by kernel_rfl) (by kernel_rfl) (by kernel_rfl) (fun _ _ _ h=>h) (Or.inr ⟨by rfl,rfl⟩) (by assumption) ?_;(try simp only [sP]);refine wpAnyH_take (i:=7) (v:=undef) rfl (by kernel_rfl) (by kernel_rfl) (by kernel_rfl) (fun _ _ _ h=>h) (Or.inr ⟨by rfl,rfl⟩) (by assumption) ?_;(try simp only [sP]);refine wpAnyH_take (i:=8) (v:=undef) rfl (by kernel_rfl) (by kernel_rfl) (by kernel_rfl) (fun _ _ _ h=>h) (Or.inr ⟨by rfl,rfl⟩) (by assumption) ?_;(try simp only [sP]);refine wpAnyH_take (i:=9) (v:=undef) rfl (by kernel_rfl) (by kernel_rfl) (by kernel_rfl) (fun _ _ _ h=>h) (Or.inr ⟨by rfl,rfl⟩) (by assumption) ?_;(try simp only [sP]);refine wpAnyH_take (i:=10) (v:=undef) rfl (by kernel_rfl) (by kernel_rfl) (by kernel_rfl) (fun _ _ _ h=>h) (Or.inr ⟨by rfl,rfl⟩) (by assumption) ?_;(try simp only [sP]);refine wpAnyH_take (i:=11) (v:=undef) rfl (by kernel_rfl) (by kernel_rfl) (by kernel_rfl) (fun _ _ _ h=>h) (Or.inr ⟨by rfl,rfl⟩) (by assumption) ?_;(try simp only [sP]);refine wpAnyH_take (i:=12) (v:=undef) rfl (by kernel_rfl) (by kernel_rfl) (by kernel_rfl) (fun _ _ _ h=>h) (Or.inr ⟨by rfl,rfl⟩) (by assumption) ?_;(try simp only [sP]);refine wpAnyH_take (i:=13) (v:=?_) rfl (by kernel_rfl) (by kernel_rfl) (by kernel_rfl) (fun _ _ _ h=>h) (Or.inl ⟨by rfl,?_⟩) (by assumption) ?_;rotate_left
     ·(intro w hSw;(try dsimp only at hSw);go_simp;first|done|with_reducible rfl)
     (try simp only [sP]);refine wpAnyH_take (i:=14) (v:=?_) rfl (by kernel_rfl) (by kernel_rfl) (by kernel_rfl) (fun _ _ _ h=>h) (Or.inl ⟨by rfl,?_⟩) (by assumption) ?_;rotate_left
     ·(intro w hSw;(try dsimp only at hSw);go_simp;first|done|with_reducible rfl)
     (try simp only [sP]);refine wpAnyH_take (i:=15) (v:=?_) rfl (by kernel_rfl) (by kernel_rfl) (by kernel_rfl) (fun _ _ _ h=>h) (Or.inl ⟨by rfl,?_⟩) (by assumption) ?_;rotate_left
     ·(intro w hSw;(try dsimp only at hSw);go_simp;first|done|with_reducible rfl)
     (try simp only [sP]);refine wpAnyH_take (i:=16) (v:=?_) rfl (by kernel_rfl) (by kernel_rfl) (by kernel_rfl) (fun _ _ _ h=>h) (Or.inl ⟨by rfl,?_⟩) (by assumption) ?_;rotate_left
     ·(intro w hSw;(try dsimp only at hSw);go_simp;first|done|with_reducible rfl)
     (try simp only [sP]);refine wpAnyH_ready (rs:=[17]) (by kernel_rfl) (by simp) ?_;refine AllReadyH.cons rfl (fun K hK=>?_) ?_;rotate_left
     ·exact AllReadyH.nil
     go_simp;refine (one_any _).mono ?_;rintro e w3 ⟨⟨v,rfl,n3⟩,hx3⟩;obtain ⟨a3,c3,rfl⟩:=n3.shape;have N3:=kI n3.rd;have hx3':=Ext.trans (show Ext w2 _ from (Ext.refl w2).drew) hx3;have P3:=kI (P2.o.ext hx3');have X3:=kI (X2.o.trans hx3');clear n3 hx3 hx3';first|refine hK.out _ _ ?_ (fun hHeld=>?_)|(go_wp2_with fail;refine hK.out _ _ ?_ (fun hHeld=>?_))
     ·exact Blk.s3 P3.o
     clear hK K;(try simp only [sP]);refine wpAnyH_ready (rs:=[18]) (by kernel_rfl) (by simp) ?_;refine AllReadyH.cons rfl (fun K hK=>?_) ?_;rotate_left
     ·exact AllReadyH.nil
     go_simp;refine (equalNat_any _ _ l2 [1] _ (HD.o.ext X3.o) N3.o).mono ?_;rintro e w4 ⟨rfl,hx4⟩;have P4:=kI (P3.o.ext hx4);have X4:=kI (X3.o.trans hx4);clear hx4;first|refine hK.out _ _ ?_ (fun hHeld=>?_)|(go_wp2_with fail;refine hK.out _ _ ?_ (fun hHeld=>?_))
     ·exact Blk.s3 P4.o
     clear hK K;(try simp only [sP]);refine wpAnyH_take (i:=19) (v:=?_) rfl (by kernel_rfl) (by kernel_rfl) (by kernel_rfl) (fun _ _ _ h=>h) (Or.inl ⟨by rfl,?_⟩) (by assumption) ?_;rotate_left
     ·(intro w hSw;(try dsimp only at hSw);go_simp;first|done|with_reducible rfl)
     (try simp only [sP]);refine wpAnyH_done (by kernel_rfl) ?_ _;by_cases hone:l2=[1]
     ·rw [decide_eq_true hone];have HO:=kI hone;clear hone;go_wp2_with fail;go_ret;exact ⟨by rw [HE.o];unfold chkR;rw [if_neg H1.o,if_pos (.inr (.inr (.inl HO.o)))];rfl,by have:=X4.o;(repeat (first|(with_reducible first|exact eR _|assumption|refine eA ?_ _)|((with_reducible refine eS ?_ ?_);focus (dsimp only;omega))|(with_reducible first|refine eD ?_|refine eN ?_ _|refine eT ?_ (by assumption))))⟩
     ·rw [decide_eq_false hone];have HN2:Hid (¬ (chkE l1≠0∨chkE l2≠0∨l2=[1]∨(l1=[]∧(b=true∨l2≠[])))):=kI (by rintro (h|h|h|h);exact h HC.o;exact h HC0.o;exact hone h;exact HL1E.o (by rw [h.1];rfl));clear hone;have k1:=P4.o.cell;have l1':=P4.o.lt;by_cases hz2:l2.length=0
      ·have q9:¬ (0:Int) < (l2.length:Int):=by omega
       have hz3:l2=[]:=List.length_eq_zero_iff.1 hz2;have HZ3:=kI hz3;clear hz2 hz3;go_wp2_with fail;go_ret;exact ⟨by rw [HE.o];unfold chkR;rw [if_neg H1.o,if_neg (HN2.o),if_neg (fun h=>h.1 HZ3.o)];rfl,by have:=X4.o;(repeat (first|(with_reducible first|exact eR _|assumption|refine eA ?_ _)|((with_reducible refine eS ?_ ?_);focus (dsimp only;omega))|(with_reducible first|refine eD ?_|refine eN ?_ _|refine eT ?_ (by assumption))))⟩
      ·have q9:(0:Int) < (l2.length:Int):=by omega
       have hz3:l2≠[]:=fun e=>hz2 (by rw [e];rfl);have HZ3:=kI hz3;clear hz2 hz3;go_wp2_with fail;refine (common_any _ _ l1 l2 _ (HN.o.ext X4.o) (HD.o.ext X4.o) L1.o L2.o (chkE_0 HC.o).2 (chkE_0 HC0.o).2 (by omega) (by omega)).mono ?_;rintro e w5 ⟨⟨v,rfl,n5⟩,hx5⟩;obtain ⟨a5,c5,rfl⟩:=n5.shape;have N5:=kI n5.rd;have X5:=kI (X4.o.trans hx5);clear n5 hx5 k1 l1';go_wp2_with fail;refine (one_any _).mono ?_;rintro e w6 ⟨⟨v,rfl,n6⟩,hx6⟩;obtain ⟨a6,c6,rfl⟩:=n6.shape;have N6:=kI n6.rd;have X6:=kI (X5.o.trans hx6);have N5:=kI (N5.o.ext hx6);clear n6 hx6;go_wp2_with fail;refine (equalNat_any _ _ (lim (Nat.gcd (nv l1) (nv l2))) [1] _ N5.o N6.o).mono ?_;rintro e w7 ⟨rfl,hx7⟩;have X7:=kI (X6.o.trans hx7);clear hx7;have hg1:(lim (Nat.gcd (nv l1) (nv l2))=[1])↔Nat.gcd (nv l1) (nv l2)=1:=⟨fun h=>by rw [← nv_lim (Nat.gcd (nv l1) (nv l2)),h];rfl,fun h=>by rw [h];rfl⟩;by_cases hg:Nat.gcd (nv l1) (nv l2)=1
       ·rw [decide_eq_true (hg1.2 hg)];have HG:=kI hg;clear hg hg1;go_wp2_with fail;go_ret;exact ⟨by rw [HE.o];unfold chkR;rw [if_neg H1.o,if_neg (HN2.o),if_neg (fun h=>h.2 HG.o)];rfl,by have:=X7.o;(repeat (first|(with_reducible first|exact eR _|assumption|refine eA ?_ _)|((with_reducible refine eS ?_ ?_);focus (dsimp only;omega))|(with_reducible first|refine eD ?_|refine eN ?_ _|refine eT ?_ (by assumption))))⟩
       ·rw [decide_eq_false (fun h=>hg (hg1.1 h))];have HG:=kI hg;clear hg hg1;go_wp2_with fail;go_ret;exact ⟨by rw [HE.o];unfold chkR;rw [if_neg H1.o,if_neg (HN2.o),if_pos ⟨HZ3.o,HG.o⟩];rfl,by have:=X7.o;(repeat (first|(with_reducible first|exact eR _|assumption|refine eA ?_ _)|((with_reducible refine eS ?_ ?_);focus (dsimp only;omega))|(with_reducible first|refine eD ?_|refine eN ?_ _|refine eT ?_ (by assumption))))⟩
   ·have hkb:(chkE l2 != 0)=true:=by simpa using hd0
    have e:chkR ⟨b,l1,l2⟩=2:=by unfold chkR;rw [if_neg h1,if_pos (.inr (.inl hd0))]
    obtain ⟨cc,hcc⟩:=gN (chkE l2);rw [← hcc] at hk2 hkb;have E:=kI e;have C1:=kI hk1;have C2:=kI hk2;clear e hcc hd0 h1 hk1 hk2 hc;go_enter Tryz.func26,Tryz.ntmps26
    go_wp2_with fail;refine (C1.o _ (HN.o.ext HX.o)).mono ?_;rintro e w1 ⟨rfl,hx1⟩;have P1:=kI (HB.o.ext hx1);have X1:=kI (HX.o.trans hx1);clear hx1;have k1:=P1.o.cell;have l1':=P1.o.lt;go_wp2_with fail;refine (C2.o _ (HD.o.ext X1.o)).mono ?_;rintro e w2 ⟨rfl,hx2⟩;have X2:=kI (X1.o.trans hx2);clear hx2 k1 l1';go_wp2_with fail;go_ret;exact ⟨by rw [E.o];rfl,by have:=X2.o;(repeat (first|(with_reducible first|exact eR _|assumption|refine eA ?_ _)|((with_reducible refine eS ?_ ?_);focus (dsimp only;omega))|(with_reducible first|refine eD ?_|refine eN ?_ _|refine eT ?_ (by assumption))))⟩
  ·have hkb:(chkE l1 != 0)=true:=by simpa using hc
   have e:chkR ⟨b,l1,l2⟩=2:=by unfold chkR;rw [if_neg h1,if_pos (.inl hc)]
   obtain ⟨cc,hcc⟩:=gN (chkE l1);rw [← hcc] at hk1 hkb;have E:=kI e;have C1:=kI hk1;clear e hcc h1 hk1 hk2 hc;go_enter Tryz.func26,Tryz.ntmps26
   go_wp2_with fail;refine (C1.o _ (HN.o.ext HX.o)).mono ?_;rintro e w1 ⟨rfl,hx1⟩;have X1:=kI (HX.o.trans hx1);clear hx1;go_wp2_with fail;go_ret;exact ⟨by rw [E.o];rfl,by have:=X1.o;(repeat (first|(with_reducible first|exact eR _|assumption|refine eA ?_ _)|((with_reducible refine eS ?_ ?_);focus (dsimp only;omega))|(with_reducible first|refine eD ?_|refine eN ?_ _|refine eT ?_ (by assumption))))⟩
end Go.Proofs.YtfflknbeidihoaaGreat
