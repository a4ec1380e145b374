/- Lemmas and walks of this claim. Conditions: as each states. -/
import Derived.Test.YtfflknbeidihoaaStGJ
set_option linter.unusedVariables false
set_option linter.unusedSimpArgs false
namespace Go.Proofs.Ytfflknbeidihoaa
end Go.Proofs.Ytfflknbeidihoaa
namespace Go.Proofs.Ytfflknbeidihoaa
open Go.RowKit
end Go.Proofs.Ytfflknbeidihoaa
namespace Go.Proofs.Ytfflknbeidihoaa
open Go.RowKit
abbrev Hd:=Option Addr × Nat × Nat
def okLen (n:Nat):Prop:=(n≤6∨128 < n)∧n≤200
def LongR (vs:List (Hd × Hd)) (e:Ending):Prop:=∃ r,e=.returned (.bool r)∧(r=false→∀ (i:Nat) (hi:i < vs.length),okLen (vs[i]).1.2.1∧okLen (vs[i]).2.2.1)
end Go.Proofs.Ytfflknbeidihoaa
namespace Go.Proofs.Ytfflknbeidihoaa
def bd (q:Rat) (k:Nat):Prop:=q.num.natAbs < 4294967296 ^ k∧q.den < 4294967296 ^ k
theorem small_of_bd {q:Rat} {k:Nat} (h:bd q k) (hk:k≤128):small q:=by
 refine ⟨Nat.le_trans (lim_len_le.2 h.1) hk,?_⟩
 unfold rep
 dsimp only
 split
 ·simp
 ·exact Nat.le_trans (lim_len_le.2 h.2) hk
end Go.Proofs.Ytfflknbeidihoaa
namespace Go.Proofs.Ytfflknbeidihoaa
open Go.RowKit
theorem wpAnyH_via {P:Program} {md:Region.Mode} {ops:Array Oper} {Q:Exit→Act→World→Prop} {S:World→Prop} {fuel:Nat} {listed:Array Bool} {a:Act} {w:World} (f2:Nat) (L2:Array Bool) (F:Act→World→Prop)
  (h2:∀ a w,F a w→wpAnyH P md ops Q S f2 L2 a w) (h1:(∀ a w,F a w→wpAnyH P md ops Q S f2 L2 a w)→wpAnyH P md ops Q S fuel listed a w):wpAnyH P md ops Q S fuel listed a w:=h1 h2
theorem vq_sign {x:Bool × Nat × Nat} (h:x.2.2≠0):(x.2.1=0→vq x=0)∧(x.2.1≠0→(x.1=true→vq x < 0)∧(x.1=false→0 < vq x)):=by
 obtain ⟨s,n,d⟩:=x
 dsimp only at h ⊢
 refine ⟨?_,fun hn=>?_⟩
 ·rintro rfl
  unfold vq
  have:sg s 0=0:=by cases s <;> rfl
  dsimp only
  rw [this,Rat.zero_mkRat]
 ·have hl:=low_spec s hn h
  have h1:=congrArg RR.neg hl
  have h2:decide ((vq (s,n,d)).num < 0)=s:=h1
  have h3:vq (s,n,d)≠0:=by
   intro e
   have h4:=congrArg RR.num hl
   have h5:lim (vq (s,n,d)).num.natAbs=lim (n / Nat.gcd n d):=h4
   rw [e] at h5
   have h6:=congrArg nv h5
   rw [nv_lim,nv_lim] at h6
   have:=Nat.div_gcd_pos_of_pos_left d (Nat.pos_of_ne_zero hn)
   have h7:(0:Rat).num.natAbs=0:=rfl
   omega
  constructor
  ·rintro rfl
   have h4:(vq (true,n,d)).num < 0:=by simpa using h2
   refine Rat.not_le.1 fun h5=>?_
   have:=Rat.num_nonneg.2 h5
   omega
  ·rintro rfl
   have h4:¬ (vq (false,n,d)).num < 0:=by simpa using h2
   have h5:0≤vq (false,n,d):=Rat.num_nonneg.1 (by omega)
   refine Rat.not_le.1 fun h6=>h3 (Rat.le_antisymm h6 h5)
theorem cmp_sub (x y:Rat):(x - y=0→cmpQ x y=0)∧(x - y < 0→cmpQ x y = -1)∧(0 < x - y→cmpQ x y=1):=by
 have h0:x - y=0↔x=y:=by
  constructor
  ·intro h
   have:x - y+y=0+y:=by rw [h]
   rwa [Rat.sub_add_cancel,Rat.zero_add] at this
  ·rintro rfl
   exact Rat.sub_self
 have h1:x - y < 0↔x < y:=by
  have:=Rat.add_lt_add_right (a:=x - y) (b:=0) (c:=y)
  rw [Rat.sub_add_cancel,Rat.zero_add] at this
  exact this.symm
 have hi:∀ z:Rat,¬ z < z:=fun _=>Rat.lt_irrefl
 refine ⟨fun h=>?_,fun h=>?_,fun h=>?_⟩
 ·have e:=h0.1 h
  unfold cmpQ
  rw [if_neg (by rw [e];exact hi _),if_pos e]
 ·unfold cmpQ
  rw [if_pos (h1.1 h)]
 ·have n1:¬ x - y < 0:=Rat.not_lt.2 (Rat.le_of_lt h)
  have n2:¬ x - y=0:=fun e=>by rw [e] at h;exact hi _ h
  unfold cmpQ
  rw [if_neg (fun g=>n1 (h1.2 g)),if_neg (fun g=>n2 (h0.2 g))]
set_option maxHeartbeats 8000000 in
theorem cmpR_any (va vb:Value) (ra rb:RR) (w:World) (ha:RdR w va ra) (hb:RdR w vb rb) (la:LimR ra) (lb:LimR rb) :
  Calls Try.prog 53 #[va,vb] w fun e w'=>e=.returned (.tuple #[.int .i64 (cmpR ra rb).1,.int .i64 (cmpR ra rb).2])∧Ext w w':=by
 have HCA:=kI (chk_at ha la);have HCB:=kI (chk_at hb lb)
 have HA:=kI ha;have HB:=kI hb
 obtain ⟨a1,c1,a2,c2,rfl⟩:=ha.shape
 obtain ⟨a3,c3,a4,c4,rfl⟩:=hb.shape
 obtain ⟨s1,l1,l2⟩:=ra
 obtain ⟨s2,l3,l4⟩:=rb
 dsimp only at HCA HCB HA HB ⊢
 clear ha hb
 have b0:=(Blk.new w #[.bool s1,.slice a1 l1.length c1,.slice a2 l2.length c2] 25).alloc (.cells #[.bool s2,.slice a3 l3.length c3,.slice a4 l4.length c4] 25)
 have b1:=Blk.new (w.alloc (.cells #[.bool s1,.slice a1 l1.length c1,.slice a2 l2.length c2] 25)) #[.bool s2,.slice a3 l3.length c3,.slice a4 l4.length c4] 25
 rw [World.size_alloc] at b1
 have x0:Ext w ((w.alloc (.cells #[.bool s1,.slice a1 l1.length c1,.slice a2 l2.length c2] 25)).alloc (.cells #[.bool s2,.slice a3 l3.length c3,.slice a4 l4.length c4] 25)):=((Ext.refl w).alloc _).alloc _
 have A0:=kI b0;have A1:=kI b1
 clear b0 b1
 by_cases hc:chkR2 ⟨s1,l1,l2⟩ ⟨s2,l3,l4⟩=0
 ·obtain ⟨hca,hcb⟩:=chkR2_0 hc
  have eo:cmpR ⟨s1,l1,l2⟩ ⟨s2,l3,l4⟩=(cmpQ (qv ⟨s1,l1,l2⟩) (qv ⟨s2,l3,l4⟩),0):=by unfold cmpR;rw [if_pos hc]
  obtain ⟨p1,p2,p3,p4,p5,p6⟩:=valid_len la hca
  obtain ⟨q1,q2,q3,q4,q5,q6⟩:=valid_len lb hcb
  have hsub:vq (sumV (vod ⟨s1,l1,l2⟩) (!s2,nv l3,nv (dl l4)))=qv ⟨s1,l1,l2⟩ - qv ⟨s2,l3,l4⟩:=by
   rw [vq_sum p5 q5,vod_vof,vq_vof,vq_neg,Rat.sub_eq_add_neg]
   congr 2
   have:=vod_vof ⟨s2,l3,l4⟩
   exact congrArg vq this
  have hden:(sumV (vod ⟨s1,l1,l2⟩) (!s2,nv l3,nv (dl l4))).2.2≠0:=by rw [sumV_den];exact Nat.mul_ne_zero p5 q5
  have hsg0:=vq_sign hden
  rw [hsub] at hsg0
  obtain ⟨k0,km,kp⟩:=cmp_sub (qv ⟨s1,l1,l2⟩) (qv ⟨s2,l3,l4⟩)
  have hsg:((sumV (vod ⟨s1,l1,l2⟩) (!s2,nv l3,nv (dl l4))).2.1=0→cmpR ⟨s1,l1,l2⟩ ⟨s2,l3,l4⟩=(0,0))∧((sumV (vod ⟨s1,l1,l2⟩) (!s2,nv l3,nv (dl l4))).2.1≠0→((sumV (vod ⟨s1,l1,l2⟩) (!s2,nv l3,nv (dl l4))).1=true→cmpR ⟨s1,l1,l2⟩ ⟨s2,l3,l4⟩=(-1,0))∧((sumV (vod ⟨s1,l1,l2⟩) (!s2,nv l3,nv (dl l4))).1=false→cmpR ⟨s1,l1,l2⟩ ⟨s2,l3,l4⟩=(1,0))):=
   ⟨fun h=>by rw [eo,k0 (hsg0.1 h)],fun h=>⟨fun g=>by rw [eo,km ((hsg0.2 h).1 g)],fun g=>by rw [eo,kp ((hsg0.2 h).2 g)]⟩⟩
  have hsum:=fun W va vb h1 h2=>sumR_any va vb s1 (!s2) l1 (dl l2) l3 (dl l4) W h1 h2 la.1 p6 lb.1 q6 p3 p4 q3 q4 (Nat.le_trans p1 (by decide)) (Nat.le_trans p2 (by decide)) (Nat.le_trans q1 (by decide)) (Nat.le_trans q2 (by decide))
  dsimp only [vod] at hsg hden
  obtain ⟨TT,hTT⟩:∃ TT,TT=sumV (s1,nv l1,nv (dl l2)) (!s2,nv l3,nv (dl l4)):=⟨_,rfl⟩
  rw [← hTT] at hsg hsum
  have HSG:=kI hsg;have HSUM:=kI hsum
  rw [hca] at HCA
  rw [hcb] at HCB
  clear hc hca hcb eo la lb p1 p2 p3 p4 p5 p6 q1 q2 q3 q4 q5 q6 hsub hden hsg hsum hTT hsg0 k0 km kp
  go_enter Try.func53,Try.ntmps53
  go_wp2_with fail
  have hmx:Try.prog.follows .mixedOrders=true:=by kernel_rfl
  go_region_held3 (fun W=>(Blk W w.heap.size #[.bool s1,.slice a1 l1.length c1,.slice a2 l2.length c2] 25∧W.cell? ⟨w.heap.size,0,none⟩=some (.bool s1)∧W.cell? ⟨w.heap.size,1,none⟩=some (.slice a1 l1.length c1)∧W.cell? ⟨w.heap.size,2,none⟩=some (.slice a2 l2.length c2))∧(Blk W (w.heap.size+1) #[.bool s2,.slice a3 l3.length c3,.slice a4 l4.length c4] 25∧W.cell? ⟨w.heap.size+1,0,none⟩=some (.bool s2)∧W.cell? ⟨w.heap.size+1,1,none⟩=some (.slice a3 l3.length c3)∧W.cell? ⟨w.heap.size+1,2,none⟩=some (.slice a4 l4.length c4)))
   ((refine ⟨Blk.s3 ?_,Blk.s3 ?_⟩ <;> (repeat (first|exact A0.o|exact A1.o|exact k1|exact k2|exact k4|exact k5|exact k7|exact k8|refine Blk.setOther ?_ (by dsimp only;omega) _|refine Blk.alloc ?_ _|refine Blk.drew ?_))))
   (first|(go_at_call_of 52 (Value.slice a1 l1.length c1);refine (HCA.o _ (by (repeat (first|(with_reducible first|exact Ext.refl _|assumption|refine Ext.alloc ?_ _)|((with_reducible refine Ext.setp ?_ ?_);focus (dsimp only;omega))|(with_reducible first|refine Ext.drew ?_|refine Ext.drewN ?_ _|refine Ext.trans ?_ (by assumption)))))).mono ?_;rintro e W4 ⟨rfl,hx4⟩;have x4:=Ext.trans x0 (Ext.trans (by (repeat (first|(with_reducible first|exact Ext.refl _|assumption|refine Ext.alloc ?_ _)|((with_reducible refine Ext.setp ?_ ?_);focus (dsimp only;omega))|(with_reducible first|refine Ext.drew ?_|refine Ext.drewN ?_ _|refine Ext.trans ?_ (by assumption))))) hx4);have k1:=A0.o.ext (Ext.trans (by (repeat (first|(with_reducible first|exact Ext.refl _|assumption|refine Ext.alloc ?_ _)|((with_reducible refine Ext.setp ?_ ?_);focus (dsimp only;omega))|(with_reducible first|refine Ext.drew ?_|refine Ext.drewN ?_ _|refine Ext.trans ?_ (by assumption))))) hx4);have k2:=A1.o.ext (Ext.trans (by (repeat (first|(with_reducible first|exact Ext.refl _|assumption|refine Ext.alloc ?_ _)|((with_reducible refine Ext.setp ?_ ?_);focus (dsimp only;omega))|(with_reducible first|refine Ext.drew ?_|refine Ext.drewN ?_ _|refine Ext.trans ?_ (by assumption))))) hx4))|(go_at_call_of 52 (Value.slice a3 l3.length c3);refine (HCB.o _ (by (repeat (first|(with_reducible first|exact Ext.refl _|assumption|refine Ext.alloc ?_ _)|((with_reducible refine Ext.setp ?_ ?_);focus (dsimp only;omega))|(with_reducible first|refine Ext.drew ?_|refine Ext.drewN ?_ _|refine Ext.trans ?_ (by assumption)))))).mono ?_;rintro e W5 ⟨rfl,hx5⟩;have x5:=x4.trans hx5;have k4:=k1.ext hx5;have k5:=k2.ext hx5)|(go_at_call 56;refine (orE_any _ _ _ _ (Blk.new W5 _ _)).mono ?_;rintro e W6 ⟨rfl,hx6⟩;have x6:=(x5.alloc _).trans hx6;have k7:=(k4.alloc _).ext hx6;have k8:=(k5.alloc _).ext hx6))
  have G6:=kI k7;have H6:=kI k8;have X6:=kI x6
  clear k1 k2 k4 k5 k7 k8 hx4 hx5 hx6 x4 x5 x6 A0 A1 x0
  go_wp2_with fail
  have hoa:=fun W (x:Ext w W)=>ofR_any _ _ W (HA.o.ext x)
  have hob:=fun W (x:Ext w W)=>ofR_any _ _ W (HB.o.ext x)
  dsimp only at hoa hob
  have HOA:=kI hoa;have HOB:=kI hob
  have lt6:=H6.o.lt
  clear hoa hob
  refine wp_region_held_drew (S:=(fun W=>(Blk W w.heap.size #[.bool s1,.slice a1 l1.length c1,.slice a2 l2.length c2] 25∧W.cell? ⟨w.heap.size,0,none⟩=some (.bool s1)∧W.cell? ⟨w.heap.size,1,none⟩=some (.slice a1 l1.length c1)∧W.cell? ⟨w.heap.size,2,none⟩=some (.slice a2 l2.length c2))∧(Blk W (w.heap.size+1) #[.bool s2,.slice a3 l3.length c3,.slice a4 l4.length c4] 25∧W.cell? ⟨w.heap.size+1,0,none⟩=some (.bool s2)∧W.cell? ⟨w.heap.size+1,1,none⟩=some (.slice a3 l3.length c3)∧W.cell? ⟨w.heap.size+1,2,none⟩=some (.slice a4 l4.length c4)))) (by kernel_rfl) ?_ (fun hHeld=>?_)
  ·exact ⟨Blk.s3 G6.o.drew,Blk.s3 H6.o.drew⟩
  refine wpAnyH_take (i:=0) (v:=?_) rfl (by kernel_rfl) (by kernel_rfl) (by kernel_rfl) (fun _ _ _ h=>h) (Or.inl ⟨by rfl,?_⟩) (by assumption) ?_
  rotate_left
  ·(intro w hSw;(try dsimp only at hSw);go_simp;first|done|with_reducible rfl)
  (try simp only [Act.put,List.setIfInBounds_toArray,List.set_cons_zero,List.set_cons_succ])
  refine wpAnyH_take (i:=2) (v:=?_) rfl (by kernel_rfl) (by kernel_rfl) (by kernel_rfl) (fun _ _ _ h=>h) (Or.inl ⟨by rfl,?_⟩) (by assumption) ?_
  rotate_left
  ·(intro w hSw;(try dsimp only at hSw);go_simp;first|done|with_reducible rfl)
  (try simp only [Act.put,List.setIfInBounds_toArray,List.set_cons_zero,List.set_cons_succ])
  refine wpAnyH_via 2 #[true,true,true,true,true,true,false,false] (fun a W=>∃ (y6 y14 y15 y16 y17:Value) (a5:Option Addr) (c5:Nat) (a6:Option Addr) (c6:Nat) (a7:Option Addr) (c7:Nat) (a8:Option Addr) (c8:Nat) (p7:Nat) (p8:Nat),a=⟨#[.agg #[.bool s1,.slice a1 l1.length c1,.slice a2 l2.length c2],.agg #[.bool s2,.slice a3 l3.length c3,.slice a4 l4.length c4],.pointer (some ⟨w.heap.size,0,none⟩),.pointer (some ⟨w.heap.size+1,0,none⟩),.int .i64 0,.int .i64 0,y6,.pointer (some ⟨p7,0,none⟩),.pointer (some ⟨p8,0,none⟩),undef,.agg #[.bool s1,.slice a1 l1.length c1,.slice a2 l2.length c2],.int .i64 0,.agg #[.bool s2,.slice a3 l3.length c3,.slice a4 l4.length c4],.int .i64 0,y14,y15,y16,y17,undef,.agg #[.bool s1,.slice a1 l1.length c1,.slice a2 l2.length c2],.agg #[.slice a5 l1.length c5,.slice a6 (dl l2).length c6,.bool s1],.agg #[.bool s2,.slice a3 l3.length c3,.slice a4 l4.length c4],.agg #[.slice a7 l3.length c7,.slice a8 (dl l4).length c8,.bool s2],undef,undef,undef,undef,undef,undef,undef,undef,undef,undef,undef,undef,undef,undef,undef,undef],[]⟩∧Ext W6 W∧Blk W w.heap.size #[.bool s1,.slice a1 l1.length c1,.slice a2 l2.length c2] 25∧Blk W (w.heap.size+1) #[.bool s2,.slice a3 l3.length c3,.slice a4 l4.length c4] 25∧RdI .u32 W (.slice a5 l1.length c5) l1∧RdI .u32 W (.slice a6 (dl l2).length c6) (dl l2)∧RdI .u32 W (.slice a7 l3.length c7) l3∧RdI .u32 W (.slice a8 (dl l4).length c8) (dl l4)∧Blk W p7 #[.slice none 0 0,.slice none 0 0,.bool false] 101∧w.heap.size+1 < p7∧Blk W p8 #[.slice none 0 0,.slice none 0 0,.bool false] 101∧w.heap.size+1 < p8∧p7≠p8) ?_ (fun Hc1c3a4a5=>?_)
  ·rintro a W ⟨y6,y14,y15,y16,y17,a5,c5,a6,c6,a7,c7,a8,c8,p7,p8,rfl,x,g2,g3,n1,d1,n2,d2,z7,i7,z8,i8,ne⟩
   have k7:=z7.cell;have f7:=z7.free;have l7:=z7.lt;have k8:=z8.cell;have f8:=z8.free;have l8:=z8.lt
   have b7:Blk (((W.setCell ⟨p7,0,none⟩ (.slice a5 l1.length c5)).setCell ⟨p7,1,none⟩ (.slice a6 (dl l2).length c6)).setCell ⟨p7,2,none⟩ (.bool s1)) p7 #[.slice a5 l1.length c5,.slice a6 (dl l2).length c6,.bool s1] 101:=by have:=(((z7).set 0 (.slice a5 l1.length c5)).set 1 (.slice a6 (dl l2).length c6)).set 2 (.bool s1);simpa using this
   have e8:Blk (((W.setCell ⟨p7,0,none⟩ (.slice a5 l1.length c5)).setCell ⟨p7,1,none⟩ (.slice a6 (dl l2).length c6)).setCell ⟨p7,2,none⟩ (.bool s1)) p8 #[.slice none 0 0,.slice none 0 0,.bool false] 101:=(((z8.setOther (a:=⟨p7,0,none⟩) (by dsimp only;omega) (.slice a5 l1.length c5)).setOther (a:=⟨p7,1,none⟩) (by dsimp only;omega) (.slice a6 (dl l2).length c6)).setOther (a:=⟨p7,2,none⟩) (by dsimp only;omega) (.bool s1))
   have h2:=(((g2.setOther (a:=⟨p7,0,none⟩) (by dsimp only;omega) (.slice a5 l1.length c5)).setOther (a:=⟨p7,1,none⟩) (by dsimp only;omega) (.slice a6 (dl l2).length c6)).setOther (a:=⟨p7,2,none⟩) (by dsimp only;omega) (.bool s1))
   have h3:=(((g3.setOther (a:=⟨p7,0,none⟩) (by dsimp only;omega) (.slice a5 l1.length c5)).setOther (a:=⟨p7,1,none⟩) (by dsimp only;omega) (.slice a6 (dl l2).length c6)).setOther (a:=⟨p7,2,none⟩) (by dsimp only;omega) (.bool s1))
   have n1a:=rdI_set3 n1 z7 (by intro x hx n;rcases (by simpa using hx) with rfl|rfl|rfl <;> simp) (.slice a5 l1.length c5) (.slice a6 (dl l2).length c6) (.bool s1) (by simp) (by simp)
   have d1a:=rdI_set3 d1 z7 (by intro x hx n;rcases (by simpa using hx) with rfl|rfl|rfl <;> simp) (.slice a5 l1.length c5) (.slice a6 (dl l2).length c6) (.bool s1) (by simp) (by simp)
   have n2a:=rdI_set3 n2 z7 (by intro x hx n;rcases (by simpa using hx) with rfl|rfl|rfl <;> simp) (.slice a5 l1.length c5) (.slice a6 (dl l2).length c6) (.bool s1) (by simp) (by simp)
   have d2a:=rdI_set3 d2 z7 (by intro x hx n;rcases (by simpa using hx) with rfl|rfl|rfl <;> simp) (.slice a5 l1.length c5) (.slice a6 (dl l2).length c6) (.bool s1) (by simp) (by simp)
   skip
   refine wpAnyH_ready (rs:=[6]) (by kernel_rfl) (by simp) ?_
   refine AllReadyH.cons rfl (fun K hK=>?_) ?_
   rotate_left
   ·exact AllReadyH.nil
   go_simp
   first|refine hK.out _ _ ?_ (fun hHeld=>?_)|(go_wp2_with fail;refine hK.out _ _ ?_ (fun hHeld=>?_))
   ·exact ⟨Blk.s3 h2,Blk.s3 h3⟩
   clear hK K hHeld k7 f7 l7 k8 f8 l8
   (try simp only [Act.put,List.setIfInBounds_toArray,List.set_cons_zero,List.set_cons_succ])
   have k8:=e8.cell;have f8:=e8.free;have l8:=e8.lt
   refine wpAnyH_ready (rs:=[7]) (by kernel_rfl) (by simp) ?_
   refine AllReadyH.cons rfl (fun K hK=>?_) ?_
   rotate_left
   ·exact AllReadyH.nil
   go_simp
   first|refine hK.out _ _ ?_ (fun hHeld=>?_)|(go_wp2_with fail;refine hK.out _ _ ?_ (fun hHeld=>?_))
   ·exact ⟨Blk.s3 ((((h2.setOther (a:=⟨p8,0,none⟩) (by dsimp only;omega) (.slice a7 l3.length c7)).setOther (a:=⟨p8,1,none⟩) (by dsimp only;omega) (.slice a8 (dl l4).length c8)).setOther (a:=⟨p8,2,none⟩) (by dsimp only;omega) (.bool s2))),Blk.s3 ((((h3.setOther (a:=⟨p8,0,none⟩) (by dsimp only;omega) (.slice a7 l3.length c7)).setOther (a:=⟨p8,1,none⟩) (by dsimp only;omega) (.slice a8 (dl l4).length c8)).setOther (a:=⟨p8,2,none⟩) (by dsimp only;omega) (.bool s2)))⟩
   (try simp only [Act.put,List.setIfInBounds_toArray,List.set_cons_zero,List.set_cons_succ])
   refine wpAnyH_done (by kernel_rfl) ?_ _
   clear hK K hHeld k8 f8 l8 h2 h3
   have b7b:Blk ((((((W.setCell ⟨p7,0,none⟩ (.slice a5 l1.length c5)).setCell ⟨p7,1,none⟩ (.slice a6 (dl l2).length c6)).setCell ⟨p7,2,none⟩ (.bool s1)).setCell ⟨p8,0,none⟩ (.slice a7 l3.length c7)).setCell ⟨p8,1,none⟩ (.slice a8 (dl l4).length c8)).setCell ⟨p8,2,none⟩ (.bool s2)) p7 #[.slice a5 l1.length c5,.slice a6 (dl l2).length c6,.bool s1] 101:=(((b7.setOther (a:=⟨p8,0,none⟩) (by dsimp only;omega) (.slice a7 l3.length c7)).setOther (a:=⟨p8,1,none⟩) (by dsimp only;omega) (.slice a8 (dl l4).length c8)).setOther (a:=⟨p8,2,none⟩) (by dsimp only;omega) (.bool s2))
   have b8b:Blk ((((((W.setCell ⟨p7,0,none⟩ (.slice a5 l1.length c5)).setCell ⟨p7,1,none⟩ (.slice a6 (dl l2).length c6)).setCell ⟨p7,2,none⟩ (.bool s1)).setCell ⟨p8,0,none⟩ (.slice a7 l3.length c7)).setCell ⟨p8,1,none⟩ (.slice a8 (dl l4).length c8)).setCell ⟨p8,2,none⟩ (.bool s2)) p8 #[.slice a7 l3.length c7,.slice a8 (dl l4).length c8,.bool s2] 101:=by have:=(((e8).set 0 (.slice a7 l3.length c7)).set 1 (.slice a8 (dl l4).length c8)).set 2 (.bool s2);simpa using this
   have n1b:=rdI_set3 n1a e8 (by intro x hx n;rcases (by simpa using hx) with rfl|rfl|rfl <;> simp) (.slice a7 l3.length c7) (.slice a8 (dl l4).length c8) (.bool s2) (by simp) (by simp)
   have d1b:=rdI_set3 d1a e8 (by intro x hx n;rcases (by simpa using hx) with rfl|rfl|rfl <;> simp) (.slice a7 l3.length c7) (.slice a8 (dl l4).length c8) (.bool s2) (by simp) (by simp)
   have n2b:=rdI_set3 n2a e8 (by intro x hx n;rcases (by simpa using hx) with rfl|rfl|rfl <;> simp) (.slice a7 l3.length c7) (.slice a8 (dl l4).length c8) (.bool s2) (by simp) (by simp)
   have d2b:=rdI_set3 d2a e8 (by intro x hx n;rcases (by simpa using hx) with rfl|rfl|rfl <;> simp) (.slice a7 l3.length c7) (.slice a8 (dl l4).length c8) (.bool s2) (by simp) (by simp)
   have xb:Ext w ((((((W.setCell ⟨p7,0,none⟩ (.slice a5 l1.length c5)).setCell ⟨p7,1,none⟩ (.slice a6 (dl l2).length c6)).setCell ⟨p7,2,none⟩ (.bool s1)).setCell ⟨p8,0,none⟩ (.slice a7 l3.length c7)).setCell ⟨p8,1,none⟩ (.slice a8 (dl l4).length c8)).setCell ⟨p8,2,none⟩ (.bool s2)):=by have x1:=X6.o.trans x;(repeat (first|(with_reducible first|exact Ext.refl _|assumption|refine Ext.alloc ?_ _)|((with_reducible refine Ext.setp ?_ ?_);focus (dsimp only;omega))|(with_reducible first|refine Ext.drew ?_|refine Ext.drewN ?_ _|refine Ext.trans ?_ (by assumption))))
   obtain ⟨Wz,hWz⟩:∃ Wz,Wz=((((((W.setCell ⟨p7,0,none⟩ (.slice a5 l1.length c5)).setCell ⟨p7,1,none⟩ (.slice a6 (dl l2).length c6)).setCell ⟨p7,2,none⟩ (.bool s1)).setCell ⟨p8,0,none⟩ (.slice a7 l3.length c7)).setCell ⟨p8,1,none⟩ (.slice a8 (dl l4).length c8)).setCell ⟨p8,2,none⟩ (.bool s2)):=⟨_,rfl⟩
   rw [← hWz] at b7b b8b n1b d1b n2b d2b xb ⊢
   have B7:=kI b7b;have B8:=kI b8b;have M1:=kI n1b;have M2:=kI d1b;have M3:=kI n2b;have M4:=kI d2b;have XZ:=kI xb
   clear hWz b7b b8b n1b d1b n2b d2b xb b7 e8 n1 d1 n2 d2 n1a d1a n2a d2a z7 z8 g2 g3 x
   have k8:=B8.o.cell;have f8:=B8.o.free;have l8:=B8.o.lt;have k7:=B7.o.cell;have l7:=B7.o.lt
   go_wp2_with fail
   have hr1:=HSUM.o (Wz.setCell ⟨p8,2,none⟩ (.bool (!s2))) _ _ ⟨_,_,rfl,rdI_setBlk M1.o B8.o (by intro x hx n;rcases (by simpa using hx) with rfl|rfl|rfl <;> simp) 2 (.bool (!s2)),rdI_setBlk M2.o B8.o (by intro x hx n;rcases (by simpa using hx) with rfl|rfl|rfl <;> simp) 2 (.bool (!s2))⟩ ⟨_,_,rfl,rdI_setBlk M3.o B8.o (by intro x hx n;rcases (by simpa using hx) with rfl|rfl|rfl <;> simp) 2 (.bool (!s2)),rdI_setBlk M4.o B8.o (by intro x hx n;rcases (by simpa using hx) with rfl|rfl|rfl <;> simp) 2 (.bool (!s2))⟩
   refine hr1.mono ?_
   clear hr1 k8 f8 l8 k7 l7
   rintro e W9 ⟨⟨v,rfl,vn,vd,rfl,hn,hd⟩,hx⟩
   obtain ⟨a9,c9,rfl⟩:=rdU_shape hn
   obtain ⟨a10,c10,rfl⟩:=rdU_shape hd
   have X9:=kI ((XZ.o.set (p:=⟨p8,2,none⟩) (by dsimp only;omega) (.bool (!s2))).trans hx)
   clear hn hd hx
   obtain ⟨tb,tn,td⟩:=TT
   dsimp only at HSG ⊢
   obtain ⟨z1,z2⟩:=HSG.o
   by_cases h0:tn=0
   ·have r1:=z1 h0
    have q1:(((lim tn).length:Int) == 0)=true:=by rw [h0];rfl
    have R1:=kI r1
    clear z1 z2 r1 h0
    go_wp2_with fail
    go_ret2
    exact ⟨by rw [R1.o];rfl,by have:=X9.o;(repeat (first|(with_reducible first|exact Ext.refl _|assumption|refine Ext.alloc ?_ _)|((with_reducible refine Ext.setp ?_ ?_);focus (dsimp only;omega))|(with_reducible first|refine Ext.drew ?_|refine Ext.drewN ?_ _|refine Ext.trans ?_ (by assumption))))⟩
   ·obtain ⟨z3,z4⟩:=z2 h0
    have q1:(((lim tn).length:Int) == 0)=false:=by
     have:lim tn≠[]:=fun e=>h0 (by rw [← nv_lim tn,e];rfl)
     have:=List.length_pos_iff.2 this
     simp only [beq_eq_false_iff_ne];omega
    cases tb
    ·have R1:=kI (z4 rfl)
     clear z1 z2 z3 z4 h0
     go_wp2_with fail
     go_ret2
     exact ⟨by rw [R1.o];rfl,by have:=X9.o;(repeat (first|(with_reducible first|exact Ext.refl _|assumption|refine Ext.alloc ?_ _)|((with_reducible refine Ext.setp ?_ ?_);focus (dsimp only;omega))|(with_reducible first|refine Ext.drew ?_|refine Ext.drewN ?_ _|refine Ext.trans ?_ (by assumption))))⟩
    ·have R1:=kI (z3 rfl)
     clear z1 z2 z3 z4 h0
     go_wp2_with fail
     go_ret2
     exact ⟨by rw [R1.o];rfl,by have:=X9.o;(repeat (first|(with_reducible first|exact Ext.refl _|assumption|refine Ext.alloc ?_ _)|((with_reducible refine Ext.setp ?_ ?_);focus (dsimp only;omega))|(with_reducible first|refine Ext.drew ?_|refine Ext.drewN ?_ _|refine Ext.trans ?_ (by assumption))))⟩
  refine wpAnyH_via 3 #[true,true,true,false,true,true,false,false] (fun a W=>∃ (y6 y14 y15 y16 y17:Value) (a5:Option Addr) (c5:Nat) (a6:Option Addr) (c6:Nat) (p7:Nat) (p8:Nat),a=⟨#[.agg #[.bool s1,.slice a1 l1.length c1,.slice a2 l2.length c2],.agg #[.bool s2,.slice a3 l3.length c3,.slice a4 l4.length c4],.pointer (some ⟨w.heap.size,0,none⟩),.pointer (some ⟨w.heap.size+1,0,none⟩),.int .i64 0,.int .i64 0,y6,.pointer (some ⟨p7,0,none⟩),.pointer (some ⟨p8,0,none⟩),undef,.agg #[.bool s1,.slice a1 l1.length c1,.slice a2 l2.length c2],.int .i64 0,.agg #[.bool s2,.slice a3 l3.length c3,.slice a4 l4.length c4],.int .i64 0,y14,y15,y16,y17,undef,.agg #[.bool s1,.slice a1 l1.length c1,.slice a2 l2.length c2],.agg #[.slice a5 l1.length c5,.slice a6 (dl l2).length c6,.bool s1],.agg #[.bool s2,.slice a3 l3.length c3,.slice a4 l4.length c4],undef,undef,undef,undef,undef,undef,undef,undef,undef,undef,undef,undef,undef,undef,undef,undef,undef],[]⟩∧Ext W6 W∧Blk W w.heap.size #[.bool s1,.slice a1 l1.length c1,.slice a2 l2.length c2] 25∧Blk W (w.heap.size+1) #[.bool s2,.slice a3 l3.length c3,.slice a4 l4.length c4] 25∧RdI .u32 W (.slice a5 l1.length c5) l1∧RdI .u32 W (.slice a6 (dl l2).length c6) (dl l2)∧Blk W p7 #[.slice none 0 0,.slice none 0 0,.bool false] 101∧w.heap.size+1 < p7∧Blk W p8 #[.slice none 0 0,.slice none 0 0,.bool false] 101∧w.heap.size+1 < p8∧p7≠p8) ?_ (fun Hc1a4a5=>?_)
  ·rintro a W ⟨y6,y14,y15,y16,y17,a5,c5,a6,c6,p7,p8,rfl,x,g2,g3,n1,d1,z7,i7,z8,i8,ne⟩
   refine wpAnyH_ready (rs:=[3]) (by kernel_rfl) (by simp) ?_
   refine AllReadyH.cons rfl (fun K hK=>?_) ?_
   ·go_simp
    refine (HOB.o _ (X6.o.trans x)).mono ?_
    rintro e W2 ⟨⟨v,rfl,vn,vd,rfl,n2,d2⟩,hx⟩
    obtain ⟨a7,c7,rfl⟩:=rdU_shape n2
    obtain ⟨a8,c8,rfl⟩:=rdU_shape d2
    first|refine hK.out _ _ ?_ (fun hHeld=>?_)|(go_wp2_with fail;refine hK.out _ _ ?_ (fun hHeld=>?_))
    ·exact ⟨Blk.s3 (g2.ext hx),Blk.s3 (g3.ext hx)⟩
    (try simp only [Act.put,List.setIfInBounds_toArray,List.set_cons_zero,List.set_cons_succ])
    exact Hc1c3a4a5 _ _ ⟨_,_,_,_,_,_,_,_,_,_,_,_,_,_,_,rfl,x.trans hx,g2.ext hx,g3.ext hx,n1.ext hx,d1.ext hx,n2,d2,z7.ext hx,i7,z8.ext hx,i8,ne⟩
   exact AllReadyH.nil
  refine wpAnyH_via 3 #[true,true,true,true,true,false,false,false] (fun a W=>∃ (y6 y14 y15 y16 y17:Value) (a5:Option Addr) (c5:Nat) (a6:Option Addr) (c6:Nat) (a7:Option Addr) (c7:Nat) (a8:Option Addr) (c8:Nat) (p7:Nat),a=⟨#[.agg #[.bool s1,.slice a1 l1.length c1,.slice a2 l2.length c2],.agg #[.bool s2,.slice a3 l3.length c3,.slice a4 l4.length c4],.pointer (some ⟨w.heap.size,0,none⟩),.pointer (some ⟨w.heap.size+1,0,none⟩),.int .i64 0,.int .i64 0,y6,.pointer (some ⟨p7,0,none⟩),undef,undef,.agg #[.bool s1,.slice a1 l1.length c1,.slice a2 l2.length c2],.int .i64 0,.agg #[.bool s2,.slice a3 l3.length c3,.slice a4 l4.length c4],.int .i64 0,y14,y15,y16,y17,undef,.agg #[.bool s1,.slice a1 l1.length c1,.slice a2 l2.length c2],.agg #[.slice a5 l1.length c5,.slice a6 (dl l2).length c6,.bool s1],.agg #[.bool s2,.slice a3 l3.length c3,.slice a4 l4.length c4],.agg #[.slice a7 l3.length c7,.slice a8 (dl l4).length c8,.bool s2],undef,undef,undef,undef,undef,undef,undef,undef,undef,undef,undef,undef,undef,undef,undef,undef],[]⟩∧Ext W6 W∧Blk W w.heap.size #[.bool s1,.slice a1 l1.length c1,.slice a2 l2.length c2] 25∧Blk W (w.heap.size+1) #[.bool s2,.slice a3 l3.length c3,.slice a4 l4.length c4] 25∧RdI .u32 W (.slice a5 l1.length c5) l1∧RdI .u32 W (.slice a6 (dl l2).length c6) (dl l2)∧RdI .u32 W (.slice a7 l3.length c7) l3∧RdI .u32 W (.slice a8 (dl l4).length c8) (dl l4)∧Blk W p7 #[.slice none 0 0,.slice none 0 0,.bool false] 101∧w.heap.size+1 < p7) ?_ (fun Hc1c3a4=>?_)
  ·rintro a W ⟨y6,y14,y15,y16,y17,a5,c5,a6,c6,a7,c7,a8,c8,p7,rfl,x,g2,g3,n1,d1,n2,d2,z7,i7⟩
   refine wpAnyH_ready (rs:=[5]) (by kernel_rfl) (by simp) ?_
   refine AllReadyH.cons rfl (fun K hK=>?_) ?_
   ·go_simp
    first|refine hK.out _ _ ?_ (fun hHeld=>?_)|(go_wp2_with fail;refine hK.out _ _ ?_ (fun hHeld=>?_))
    ·exact ⟨Blk.s3 (g2.alloc _),Blk.s3 (g3.alloc _)⟩
    (try simp only [Act.put,List.setIfInBounds_toArray,List.set_cons_zero,List.set_cons_succ])
    exact Hc1c3a4a5 _ _ ⟨_,_,_,_,_,_,_,_,_,_,_,_,_,_,_,rfl,x.alloc _,g2.alloc _,g3.alloc _,n1.ext ((Ext.refl _).alloc _),d1.ext ((Ext.refl _).alloc _),n2.ext ((Ext.refl _).alloc _),d2.ext ((Ext.refl _).alloc _),z7.alloc _,i7,Blk.new _ _ _,(by have:=x.size;omega),(by have:=z7.lt;omega)⟩
   exact AllReadyH.nil
  refine wpAnyH_via 3 #[true,true,true,true,false,true,false,false] (fun a W=>∃ (y6 y14 y15 y16 y17:Value) (a5:Option Addr) (c5:Nat) (a6:Option Addr) (c6:Nat) (a7:Option Addr) (c7:Nat) (a8:Option Addr) (c8:Nat) (p8:Nat),a=⟨#[.agg #[.bool s1,.slice a1 l1.length c1,.slice a2 l2.length c2],.agg #[.bool s2,.slice a3 l3.length c3,.slice a4 l4.length c4],.pointer (some ⟨w.heap.size,0,none⟩),.pointer (some ⟨w.heap.size+1,0,none⟩),.int .i64 0,.int .i64 0,y6,undef,.pointer (some ⟨p8,0,none⟩),undef,.agg #[.bool s1,.slice a1 l1.length c1,.slice a2 l2.length c2],.int .i64 0,.agg #[.bool s2,.slice a3 l3.length c3,.slice a4 l4.length c4],.int .i64 0,y14,y15,y16,y17,undef,.agg #[.bool s1,.slice a1 l1.length c1,.slice a2 l2.length c2],.agg #[.slice a5 l1.length c5,.slice a6 (dl l2).length c6,.bool s1],.agg #[.bool s2,.slice a3 l3.length c3,.slice a4 l4.length c4],.agg #[.slice a7 l3.length c7,.slice a8 (dl l4).length c8,.bool s2],undef,undef,undef,undef,undef,undef,undef,undef,undef,undef,undef,undef,undef,undef,undef,undef],[]⟩∧Ext W6 W∧Blk W w.heap.size #[.bool s1,.slice a1 l1.length c1,.slice a2 l2.length c2] 25∧Blk W (w.heap.size+1) #[.bool s2,.slice a3 l3.length c3,.slice a4 l4.length c4] 25∧RdI .u32 W (.slice a5 l1.length c5) l1∧RdI .u32 W (.slice a6 (dl l2).length c6) (dl l2)∧RdI .u32 W (.slice a7 l3.length c7) l3∧RdI .u32 W (.slice a8 (dl l4).length c8) (dl l4)∧Blk W p8 #[.slice none 0 0,.slice none 0 0,.bool false] 101∧w.heap.size+1 < p8) ?_ (fun Hc1c3a5=>?_)
  ·rintro a W ⟨y6,y14,y15,y16,y17,a5,c5,a6,c6,a7,c7,a8,c8,p8,rfl,x,g2,g3,n1,d1,n2,d2,z8,i8⟩
   refine wpAnyH_ready (rs:=[4]) (by kernel_rfl) (by simp) ?_
   refine AllReadyH.cons rfl (fun K hK=>?_) ?_
   ·go_simp
    first|refine hK.out _ _ ?_ (fun hHeld=>?_)|(go_wp2_with fail;refine hK.out _ _ ?_ (fun hHeld=>?_))
    ·exact ⟨Blk.s3 (g2.alloc _),Blk.s3 (g3.alloc _)⟩
    (try simp only [Act.put,List.setIfInBounds_toArray,List.set_cons_zero,List.set_cons_succ])
    exact Hc1c3a4a5 _ _ ⟨_,_,_,_,_,_,_,_,_,_,_,_,_,_,_,rfl,x.alloc _,g2.alloc _,g3.alloc _,n1.ext ((Ext.refl _).alloc _),d1.ext ((Ext.refl _).alloc _),n2.ext ((Ext.refl _).alloc _),d2.ext ((Ext.refl _).alloc _),Blk.new _ _ _,(by have:=x.size;omega),z8.alloc _,i8,(by have:=z8.lt;omega)⟩
   exact AllReadyH.nil
  refine wpAnyH_via 4 #[true,false,true,false,true,true,false,false] (fun a W=>∃ (y6 y14 y15 y16 y17:Value) (p7:Nat) (p8:Nat),a=⟨#[.agg #[.bool s1,.slice a1 l1.length c1,.slice a2 l2.length c2],.agg #[.bool s2,.slice a3 l3.length c3,.slice a4 l4.length c4],.pointer (some ⟨w.heap.size,0,none⟩),.pointer (some ⟨w.heap.size+1,0,none⟩),.int .i64 0,.int .i64 0,y6,.pointer (some ⟨p7,0,none⟩),.pointer (some ⟨p8,0,none⟩),undef,.agg #[.bool s1,.slice a1 l1.length c1,.slice a2 l2.length c2],.int .i64 0,.agg #[.bool s2,.slice a3 l3.length c3,.slice a4 l4.length c4],.int .i64 0,y14,y15,y16,y17,undef,.agg #[.bool s1,.slice a1 l1.length c1,.slice a2 l2.length c2],undef,.agg #[.bool s2,.slice a3 l3.length c3,.slice a4 l4.length c4],undef,undef,undef,undef,undef,undef,undef,undef,undef,undef,undef,undef,undef,undef,undef,undef,undef],[]⟩∧Ext W6 W∧Blk W w.heap.size #[.bool s1,.slice a1 l1.length c1,.slice a2 l2.length c2] 25∧Blk W (w.heap.size+1) #[.bool s2,.slice a3 l3.length c3,.slice a4 l4.length c4] 25∧Blk W p7 #[.slice none 0 0,.slice none 0 0,.bool false] 101∧w.heap.size+1 < p7∧Blk W p8 #[.slice none 0 0,.slice none 0 0,.bool false] 101∧w.heap.size+1 < p8∧p7≠p8) ?_ (fun Ha4a5=>?_)
  ·rintro a W ⟨y6,y14,y15,y16,y17,p7,p8,rfl,x,g2,g3,z7,i7,z8,i8,ne⟩
   refine wpAnyH_ready (rs:=[1]) (by kernel_rfl) (by simp) ?_
   refine AllReadyH.cons rfl (fun K hK=>?_) ?_
   ·go_simp
    refine (HOA.o _ (X6.o.trans x)).mono ?_
    rintro e W2 ⟨⟨v,rfl,vn,vd,rfl,n1,d1⟩,hx⟩
    obtain ⟨a5,c5,rfl⟩:=rdU_shape n1
    obtain ⟨a6,c6,rfl⟩:=rdU_shape d1
    first|refine hK.out _ _ ?_ (fun hHeld=>?_)|(go_wp2_with fail;refine hK.out _ _ ?_ (fun hHeld=>?_))
    ·exact ⟨Blk.s3 (g2.ext hx),Blk.s3 (g3.ext hx)⟩
    (try simp only [Act.put,List.setIfInBounds_toArray,List.set_cons_zero,List.set_cons_succ])
    exact Hc1a4a5 _ _ ⟨_,_,_,_,_,_,_,_,_,_,_,rfl,x.trans hx,g2.ext hx,g3.ext hx,n1,d1,z7.ext hx,i7,z8.ext hx,i8,ne⟩
   exact AllReadyH.nil
  refine wpAnyH_via 4 #[true,true,true,false,true,false,false,false] (fun a W=>∃ (y6 y14 y15 y16 y17:Value) (a5:Option Addr) (c5:Nat) (a6:Option Addr) (c6:Nat) (p7:Nat),a=⟨#[.agg #[.bool s1,.slice a1 l1.length c1,.slice a2 l2.length c2],.agg #[.bool s2,.slice a3 l3.length c3,.slice a4 l4.length c4],.pointer (some ⟨w.heap.size,0,none⟩),.pointer (some ⟨w.heap.size+1,0,none⟩),.int .i64 0,.int .i64 0,y6,.pointer (some ⟨p7,0,none⟩),undef,undef,.agg #[.bool s1,.slice a1 l1.length c1,.slice a2 l2.length c2],.int .i64 0,.agg #[.bool s2,.slice a3 l3.length c3,.slice a4 l4.length c4],.int .i64 0,y14,y15,y16,y17,undef,.agg #[.bool s1,.slice a1 l1.length c1,.slice a2 l2.length c2],.agg #[.slice a5 l1.length c5,.slice a6 (dl l2).length c6,.bool s1],.agg #[.bool s2,.slice a3 l3.length c3,.slice a4 l4.length c4],undef,undef,undef,undef,undef,undef,undef,undef,undef,undef,undef,undef,undef,undef,undef,undef,undef],[]⟩∧Ext W6 W∧Blk W w.heap.size #[.bool s1,.slice a1 l1.length c1,.slice a2 l2.length c2] 25∧Blk W (w.heap.size+1) #[.bool s2,.slice a3 l3.length c3,.slice a4 l4.length c4] 25∧RdI .u32 W (.slice a5 l1.length c5) l1∧RdI .u32 W (.slice a6 (dl l2).length c6) (dl l2)∧Blk W p7 #[.slice none 0 0,.slice none 0 0,.bool false] 101∧w.heap.size+1 < p7) ?_ (fun Hc1a4=>?_)
  ·rintro a W ⟨y6,y14,y15,y16,y17,a5,c5,a6,c6,p7,rfl,x,g2,g3,n1,d1,z7,i7⟩
   refine wpAnyH_ready (rs:=[3,5]) (by kernel_rfl) (by simp) ?_
   refine AllReadyH.cons rfl (fun K hK=>?_) ?_
   ·go_simp
    refine (HOB.o _ (X6.o.trans x)).mono ?_
    rintro e W2 ⟨⟨v,rfl,vn,vd,rfl,n2,d2⟩,hx⟩
    obtain ⟨a7,c7,rfl⟩:=rdU_shape n2
    obtain ⟨a8,c8,rfl⟩:=rdU_shape d2
    first|refine hK.out _ _ ?_ (fun hHeld=>?_)|(go_wp2_with fail;refine hK.out _ _ ?_ (fun hHeld=>?_))
    ·exact ⟨Blk.s3 (g2.ext hx),Blk.s3 (g3.ext hx)⟩
    (try simp only [Act.put,List.setIfInBounds_toArray,List.set_cons_zero,List.set_cons_succ])
    exact Hc1c3a4 _ _ ⟨_,_,_,_,_,_,_,_,_,_,_,_,_,_,rfl,x.trans hx,g2.ext hx,g3.ext hx,n1.ext hx,d1.ext hx,n2,d2,z7.ext hx,i7⟩
   refine AllReadyH.cons rfl (fun K hK=>?_) ?_
   ·go_simp
    first|refine hK.out _ _ ?_ (fun hHeld=>?_)|(go_wp2_with fail;refine hK.out _ _ ?_ (fun hHeld=>?_))
    ·exact ⟨Blk.s3 (g2.alloc _),Blk.s3 (g3.alloc _)⟩
    (try simp only [Act.put,List.setIfInBounds_toArray,List.set_cons_zero,List.set_cons_succ])
    exact Hc1a4a5 _ _ ⟨_,_,_,_,_,_,_,_,_,_,_,rfl,x.alloc _,g2.alloc _,g3.alloc _,n1.ext ((Ext.refl _).alloc _),d1.ext ((Ext.refl _).alloc _),z7.alloc _,i7,Blk.new _ _ _,(by have:=x.size;omega),(by have:=z7.lt;omega)⟩
   exact AllReadyH.nil
  refine wpAnyH_via 4 #[true,true,true,false,false,true,false,false] (fun a W=>∃ (y6 y14 y15 y16 y17:Value) (a5:Option Addr) (c5:Nat) (a6:Option Addr) (c6:Nat) (p8:Nat),a=⟨#[.agg #[.bool s1,.slice a1 l1.length c1,.slice a2 l2.length c2],.agg #[.bool s2,.slice a3 l3.length c3,.slice a4 l4.length c4],.pointer (some ⟨w.heap.size,0,none⟩),.pointer (some ⟨w.heap.size+1,0,none⟩),.int .i64 0,.int .i64 0,y6,undef,.pointer (some ⟨p8,0,none⟩),undef,.agg #[.bool s1,.slice a1 l1.length c1,.slice a2 l2.length c2],.int .i64 0,.agg #[.bool s2,.slice a3 l3.length c3,.slice a4 l4.length c4],.int .i64 0,y14,y15,y16,y17,undef,.agg #[.bool s1,.slice a1 l1.length c1,.slice a2 l2.length c2],.agg #[.slice a5 l1.length c5,.slice a6 (dl l2).length c6,.bool s1],.agg #[.bool s2,.slice a3 l3.length c3,.slice a4 l4.length c4],undef,undef,undef,undef,undef,undef,undef,undef,undef,undef,undef,undef,undef,undef,undef,undef,undef],[]⟩∧Ext W6 W∧Blk W w.heap.size #[.bool s1,.slice a1 l1.length c1,.slice a2 l2.length c2] 25∧Blk W (w.heap.size+1) #[.bool s2,.slice a3 l3.length c3,.slice a4 l4.length c4] 25∧RdI .u32 W (.slice a5 l1.length c5) l1∧RdI .u32 W (.slice a6 (dl l2).length c6) (dl l2)∧Blk W p8 #[.slice none 0 0,.slice none 0 0,.bool false] 101∧w.heap.size+1 < p8) ?_ (fun Hc1a5=>?_)
  ·rintro a W ⟨y6,y14,y15,y16,y17,a5,c5,a6,c6,p8,rfl,x,g2,g3,n1,d1,z8,i8⟩
   refine wpAnyH_ready (rs:=[3,4]) (by kernel_rfl) (by simp) ?_
   refine AllReadyH.cons rfl (fun K hK=>?_) ?_
   ·go_simp
    refine (HOB.o _ (X6.o.trans x)).mono ?_
    rintro e W2 ⟨⟨v,rfl,vn,vd,rfl,n2,d2⟩,hx⟩
    obtain ⟨a7,c7,rfl⟩:=rdU_shape n2
    obtain ⟨a8,c8,rfl⟩:=rdU_shape d2
    first|refine hK.out _ _ ?_ (fun hHeld=>?_)|(go_wp2_with fail;refine hK.out _ _ ?_ (fun hHeld=>?_))
    ·exact ⟨Blk.s3 (g2.ext hx),Blk.s3 (g3.ext hx)⟩
    (try simp only [Act.put,List.setIfInBounds_toArray,List.set_cons_zero,List.set_cons_succ])
    exact Hc1c3a5 _ _ ⟨_,_,_,_,_,_,_,_,_,_,_,_,_,_,rfl,x.trans hx,g2.ext hx,g3.ext hx,n1.ext hx,d1.ext hx,n2,d2,z8.ext hx,i8⟩
   refine AllReadyH.cons rfl (fun K hK=>?_) ?_
   ·go_simp
    first|refine hK.out _ _ ?_ (fun hHeld=>?_)|(go_wp2_with fail;refine hK.out _ _ ?_ (fun hHeld=>?_))
    ·exact ⟨Blk.s3 (g2.alloc _),Blk.s3 (g3.alloc _)⟩
    (try simp only [Act.put,List.setIfInBounds_toArray,List.set_cons_zero,List.set_cons_succ])
    exact Hc1a4a5 _ _ ⟨_,_,_,_,_,_,_,_,_,_,_,rfl,x.alloc _,g2.alloc _,g3.alloc _,n1.ext ((Ext.refl _).alloc _),d1.ext ((Ext.refl _).alloc _),Blk.new _ _ _,(by have:=x.size;omega),z8.alloc _,i8,(by have:=z8.lt;omega)⟩
   exact AllReadyH.nil
  refine wpAnyH_via 4 #[true,true,true,true,false,false,false,false] (fun a W=>∃ (y6 y14 y15 y16 y17:Value) (a5:Option Addr) (c5:Nat) (a6:Option Addr) (c6:Nat) (a7:Option Addr) (c7:Nat) (a8:Option Addr) (c8:Nat),a=⟨#[.agg #[.bool s1,.slice a1 l1.length c1,.slice a2 l2.length c2],.agg #[.bool s2,.slice a3 l3.length c3,.slice a4 l4.length c4],.pointer (some ⟨w.heap.size,0,none⟩),.pointer (some ⟨w.heap.size+1,0,none⟩),.int .i64 0,.int .i64 0,y6,undef,undef,undef,.agg #[.bool s1,.slice a1 l1.length c1,.slice a2 l2.length c2],.int .i64 0,.agg #[.bool s2,.slice a3 l3.length c3,.slice a4 l4.length c4],.int .i64 0,y14,y15,y16,y17,undef,.agg #[.bool s1,.slice a1 l1.length c1,.slice a2 l2.length c2],.agg #[.slice a5 l1.length c5,.slice a6 (dl l2).length c6,.bool s1],.agg #[.bool s2,.slice a3 l3.length c3,.slice a4 l4.length c4],.agg #[.slice a7 l3.length c7,.slice a8 (dl l4).length c8,.bool s2],undef,undef,undef,undef,undef,undef,undef,undef,undef,undef,undef,undef,undef,undef,undef,undef],[]⟩∧Ext W6 W∧Blk W w.heap.size #[.bool s1,.slice a1 l1.length c1,.slice a2 l2.length c2] 25∧Blk W (w.heap.size+1) #[.bool s2,.slice a3 l3.length c3,.slice a4 l4.length c4] 25∧RdI .u32 W (.slice a5 l1.length c5) l1∧RdI .u32 W (.slice a6 (dl l2).length c6) (dl l2)∧RdI .u32 W (.slice a7 l3.length c7) l3∧RdI .u32 W (.slice a8 (dl l4).length c8) (dl l4)) ?_ (fun Hc1c3=>?_)
  ·rintro a W ⟨y6,y14,y15,y16,y17,a5,c5,a6,c6,a7,c7,a8,c8,rfl,x,g2,g3,n1,d1,n2,d2⟩
   refine wpAnyH_ready (rs:=[4,5]) (by kernel_rfl) (by simp) ?_
   refine AllReadyH.cons rfl (fun K hK=>?_) ?_
   ·go_simp
    first|refine hK.out _ _ ?_ (fun hHeld=>?_)|(go_wp2_with fail;refine hK.out _ _ ?_ (fun hHeld=>?_))
    ·exact ⟨Blk.s3 (g2.alloc _),Blk.s3 (g3.alloc _)⟩
    (try simp only [Act.put,List.setIfInBounds_toArray,List.set_cons_zero,List.set_cons_succ])
    exact Hc1c3a4 _ _ ⟨_,_,_,_,_,_,_,_,_,_,_,_,_,_,rfl,x.alloc _,g2.alloc _,g3.alloc _,n1.ext ((Ext.refl _).alloc _),d1.ext ((Ext.refl _).alloc _),n2.ext ((Ext.refl _).alloc _),d2.ext ((Ext.refl _).alloc _),Blk.new _ _ _,(by have:=x.size;omega)⟩
   refine AllReadyH.cons rfl (fun K hK=>?_) ?_
   ·go_simp
    first|refine hK.out _ _ ?_ (fun hHeld=>?_)|(go_wp2_with fail;refine hK.out _ _ ?_ (fun hHeld=>?_))
    ·exact ⟨Blk.s3 (g2.alloc _),Blk.s3 (g3.alloc _)⟩
    (try simp only [Act.put,List.setIfInBounds_toArray,List.set_cons_zero,List.set_cons_succ])
    exact Hc1c3a5 _ _ ⟨_,_,_,_,_,_,_,_,_,_,_,_,_,_,rfl,x.alloc _,g2.alloc _,g3.alloc _,n1.ext ((Ext.refl _).alloc _),d1.ext ((Ext.refl _).alloc _),n2.ext ((Ext.refl _).alloc _),d2.ext ((Ext.refl _).alloc _),Blk.new _ _ _,(by have:=x.size;omega)⟩
   exact AllReadyH.nil
  refine wpAnyH_via 5 #[true,false,true,false,true,false,false,false] (fun a W=>∃ (y6 y14 y15 y16 y17:Value) (p7:Nat),a=⟨#[.agg #[.bool s1,.slice a1 l1.length c1,.slice a2 l2.length c2],.agg #[.bool s2,.slice a3 l3.length c3,.slice a4 l4.length c4],.pointer (some ⟨w.heap.size,0,none⟩),.pointer (some ⟨w.heap.size+1,0,none⟩),.int .i64 0,.int .i64 0,y6,.pointer (some ⟨p7,0,none⟩),undef,undef,.agg #[.bool s1,.slice a1 l1.length c1,.slice a2 l2.length c2],.int .i64 0,.agg #[.bool s2,.slice a3 l3.length c3,.slice a4 l4.length c4],.int .i64 0,y14,y15,y16,y17,undef,.agg #[.bool s1,.slice a1 l1.length c1,.slice a2 l2.length c2],undef,.agg #[.bool s2,.slice a3 l3.length c3,.slice a4 l4.length c4],undef,undef,undef,undef,undef,undef,undef,undef,undef,undef,undef,undef,undef,undef,undef,undef,undef],[]⟩∧Ext W6 W∧Blk W w.heap.size #[.bool s1,.slice a1 l1.length c1,.slice a2 l2.length c2] 25∧Blk W (w.heap.size+1) #[.bool s2,.slice a3 l3.length c3,.slice a4 l4.length c4] 25∧Blk W p7 #[.slice none 0 0,.slice none 0 0,.bool false] 101∧w.heap.size+1 < p7) ?_ (fun Ha4=>?_)
  ·rintro a W ⟨y6,y14,y15,y16,y17,p7,rfl,x,g2,g3,z7,i7⟩
   refine wpAnyH_ready (rs:=[1,5]) (by kernel_rfl) (by simp) ?_
   refine AllReadyH.cons rfl (fun K hK=>?_) ?_
   ·go_simp
    refine (HOA.o _ (X6.o.trans x)).mono ?_
    rintro e W2 ⟨⟨v,rfl,vn,vd,rfl,n1,d1⟩,hx⟩
    obtain ⟨a5,c5,rfl⟩:=rdU_shape n1
    obtain ⟨a6,c6,rfl⟩:=rdU_shape d1
    first|refine hK.out _ _ ?_ (fun hHeld=>?_)|(go_wp2_with fail;refine hK.out _ _ ?_ (fun hHeld=>?_))
    ·exact ⟨Blk.s3 (g2.ext hx),Blk.s3 (g3.ext hx)⟩
    (try simp only [Act.put,List.setIfInBounds_toArray,List.set_cons_zero,List.set_cons_succ])
    exact Hc1a4 _ _ ⟨_,_,_,_,_,_,_,_,_,_,rfl,x.trans hx,g2.ext hx,g3.ext hx,n1,d1,z7.ext hx,i7⟩
   refine AllReadyH.cons rfl (fun K hK=>?_) ?_
   ·go_simp
    first|refine hK.out _ _ ?_ (fun hHeld=>?_)|(go_wp2_with fail;refine hK.out _ _ ?_ (fun hHeld=>?_))
    ·exact ⟨Blk.s3 (g2.alloc _),Blk.s3 (g3.alloc _)⟩
    (try simp only [Act.put,List.setIfInBounds_toArray,List.set_cons_zero,List.set_cons_succ])
    exact Ha4a5 _ _ ⟨_,_,_,_,_,_,_,rfl,x.alloc _,g2.alloc _,g3.alloc _,z7.alloc _,i7,Blk.new _ _ _,(by have:=x.size;omega),(by have:=z7.lt;omega)⟩
   exact AllReadyH.nil
  refine wpAnyH_via 5 #[true,false,true,false,false,true,false,false] (fun a W=>∃ (y6 y14 y15 y16 y17:Value) (p8:Nat),a=⟨#[.agg #[.bool s1,.slice a1 l1.length c1,.slice a2 l2.length c2],.agg #[.bool s2,.slice a3 l3.length c3,.slice a4 l4.length c4],.pointer (some ⟨w.heap.size,0,none⟩),.pointer (some ⟨w.heap.size+1,0,none⟩),.int .i64 0,.int .i64 0,y6,undef,.pointer (some ⟨p8,0,none⟩),undef,.agg #[.bool s1,.slice a1 l1.length c1,.slice a2 l2.length c2],.int .i64 0,.agg #[.bool s2,.slice a3 l3.length c3,.slice a4 l4.length c4],.int .i64 0,y14,y15,y16,y17,undef,.agg #[.bool s1,.slice a1 l1.length c1,.slice a2 l2.length c2],undef,.agg #[.bool s2,.slice a3 l3.length c3,.slice a4 l4.length c4],undef,undef,undef,undef,undef,undef,undef,undef,undef,undef,undef,undef,undef,undef,undef,undef,undef],[]⟩∧Ext W6 W∧Blk W w.heap.size #[.bool s1,.slice a1 l1.length c1,.slice a2 l2.length c2] 25∧Blk W (w.heap.size+1) #[.bool s2,.slice a3 l3.length c3,.slice a4 l4.length c4] 25∧Blk W p8 #[.slice none 0 0,.slice none 0 0,.bool false] 101∧w.heap.size+1 < p8) ?_ (fun Ha5=>?_)
  ·rintro a W ⟨y6,y14,y15,y16,y17,p8,rfl,x,g2,g3,z8,i8⟩
   refine wpAnyH_ready (rs:=[1,4]) (by kernel_rfl) (by simp) ?_
   refine AllReadyH.cons rfl (fun K hK=>?_) ?_
   ·go_simp
    refine (HOA.o _ (X6.o.trans x)).mono ?_
    rintro e W2 ⟨⟨v,rfl,vn,vd,rfl,n1,d1⟩,hx⟩
    obtain ⟨a5,c5,rfl⟩:=rdU_shape n1
    obtain ⟨a6,c6,rfl⟩:=rdU_shape d1
    first|refine hK.out _ _ ?_ (fun hHeld=>?_)|(go_wp2_with fail;refine hK.out _ _ ?_ (fun hHeld=>?_))
    ·exact ⟨Blk.s3 (g2.ext hx),Blk.s3 (g3.ext hx)⟩
    (try simp only [Act.put,List.setIfInBounds_toArray,List.set_cons_zero,List.set_cons_succ])
    exact Hc1a5 _ _ ⟨_,_,_,_,_,_,_,_,_,_,rfl,x.trans hx,g2.ext hx,g3.ext hx,n1,d1,z8.ext hx,i8⟩
   refine AllReadyH.cons rfl (fun K hK=>?_) ?_
   ·go_simp
    first|refine hK.out _ _ ?_ (fun hHeld=>?_)|(go_wp2_with fail;refine hK.out _ _ ?_ (fun hHeld=>?_))
    ·exact ⟨Blk.s3 (g2.alloc _),Blk.s3 (g3.alloc _)⟩
    (try simp only [Act.put,List.setIfInBounds_toArray,List.set_cons_zero,List.set_cons_succ])
    exact Ha4a5 _ _ ⟨_,_,_,_,_,_,_,rfl,x.alloc _,g2.alloc _,g3.alloc _,Blk.new _ _ _,(by have:=x.size;omega),z8.alloc _,i8,(by have:=z8.lt;omega)⟩
   exact AllReadyH.nil
  refine wpAnyH_via 5 #[true,true,true,false,false,false,false,false] (fun a W=>∃ (y6 y14 y15 y16 y17:Value) (a5:Option Addr) (c5:Nat) (a6:Option Addr) (c6:Nat),a=⟨#[.agg #[.bool s1,.slice a1 l1.length c1,.slice a2 l2.length c2],.agg #[.bool s2,.slice a3 l3.length c3,.slice a4 l4.length c4],.pointer (some ⟨w.heap.size,0,none⟩),.pointer (some ⟨w.heap.size+1,0,none⟩),.int .i64 0,.int .i64 0,y6,undef,undef,undef,.agg #[.bool s1,.slice a1 l1.length c1,.slice a2 l2.length c2],.int .i64 0,.agg #[.bool s2,.slice a3 l3.length c3,.slice a4 l4.length c4],.int .i64 0,y14,y15,y16,y17,undef,.agg #[.bool s1,.slice a1 l1.length c1,.slice a2 l2.length c2],.agg #[.slice a5 l1.length c5,.slice a6 (dl l2).length c6,.bool s1],.agg #[.bool s2,.slice a3 l3.length c3,.slice a4 l4.length c4],undef,undef,undef,undef,undef,undef,undef,undef,undef,undef,undef,undef,undef,undef,undef,undef,undef],[]⟩∧Ext W6 W∧Blk W w.heap.size #[.bool s1,.slice a1 l1.length c1,.slice a2 l2.length c2] 25∧Blk W (w.heap.size+1) #[.bool s2,.slice a3 l3.length c3,.slice a4 l4.length c4] 25∧RdI .u32 W (.slice a5 l1.length c5) l1∧RdI .u32 W (.slice a6 (dl l2).length c6) (dl l2)) ?_ (fun Hc1=>?_)
  ·rintro a W ⟨y6,y14,y15,y16,y17,a5,c5,a6,c6,rfl,x,g2,g3,n1,d1⟩
   refine wpAnyH_ready (rs:=[3,4,5]) (by kernel_rfl) (by simp) ?_
   refine AllReadyH.cons rfl (fun K hK=>?_) ?_
   ·go_simp
    refine (HOB.o _ (X6.o.trans x)).mono ?_
    rintro e W2 ⟨⟨v,rfl,vn,vd,rfl,n2,d2⟩,hx⟩
    obtain ⟨a7,c7,rfl⟩:=rdU_shape n2
    obtain ⟨a8,c8,rfl⟩:=rdU_shape d2
    first|refine hK.out _ _ ?_ (fun hHeld=>?_)|(go_wp2_with fail;refine hK.out _ _ ?_ (fun hHeld=>?_))
    ·exact ⟨Blk.s3 (g2.ext hx),Blk.s3 (g3.ext hx)⟩
    (try simp only [Act.put,List.setIfInBounds_toArray,List.set_cons_zero,List.set_cons_succ])
    exact Hc1c3 _ _ ⟨_,_,_,_,_,_,_,_,_,_,_,_,_,rfl,x.trans hx,g2.ext hx,g3.ext hx,n1.ext hx,d1.ext hx,n2,d2⟩
   refine AllReadyH.cons rfl (fun K hK=>?_) ?_
   ·go_simp
    first|refine hK.out _ _ ?_ (fun hHeld=>?_)|(go_wp2_with fail;refine hK.out _ _ ?_ (fun hHeld=>?_))
    ·exact ⟨Blk.s3 (g2.alloc _),Blk.s3 (g3.alloc _)⟩
    (try simp only [Act.put,List.setIfInBounds_toArray,List.set_cons_zero,List.set_cons_succ])
    exact Hc1a4 _ _ ⟨_,_,_,_,_,_,_,_,_,_,rfl,x.alloc _,g2.alloc _,g3.alloc _,n1.ext ((Ext.refl _).alloc _),d1.ext ((Ext.refl _).alloc _),Blk.new _ _ _,(by have:=x.size;omega)⟩
   refine AllReadyH.cons rfl (fun K hK=>?_) ?_
   ·go_simp
    first|refine hK.out _ _ ?_ (fun hHeld=>?_)|(go_wp2_with fail;refine hK.out _ _ ?_ (fun hHeld=>?_))
    ·exact ⟨Blk.s3 (g2.alloc _),Blk.s3 (g3.alloc _)⟩
    (try simp only [Act.put,List.setIfInBounds_toArray,List.set_cons_zero,List.set_cons_succ])
    exact Hc1a5 _ _ ⟨_,_,_,_,_,_,_,_,_,_,rfl,x.alloc _,g2.alloc _,g3.alloc _,n1.ext ((Ext.refl _).alloc _),d1.ext ((Ext.refl _).alloc _),Blk.new _ _ _,(by have:=x.size;omega)⟩
   exact AllReadyH.nil
  refine wpAnyH_via 6 #[true,false,true,false,false,false,false,false] (fun a W=>∃ (y6 y14 y15 y16 y17:Value),a=⟨#[.agg #[.bool s1,.slice a1 l1.length c1,.slice a2 l2.length c2],.agg #[.bool s2,.slice a3 l3.length c3,.slice a4 l4.length c4],.pointer (some ⟨w.heap.size,0,none⟩),.pointer (some ⟨w.heap.size+1,0,none⟩),.int .i64 0,.int .i64 0,y6,undef,undef,undef,.agg #[.bool s1,.slice a1 l1.length c1,.slice a2 l2.length c2],.int .i64 0,.agg #[.bool s2,.slice a3 l3.length c3,.slice a4 l4.length c4],.int .i64 0,y14,y15,y16,y17,undef,.agg #[.bool s1,.slice a1 l1.length c1,.slice a2 l2.length c2],undef,.agg #[.bool s2,.slice a3 l3.length c3,.slice a4 l4.length c4],undef,undef,undef,undef,undef,undef,undef,undef,undef,undef,undef,undef,undef,undef,undef,undef,undef],[]⟩∧Ext W6 W∧Blk W w.heap.size #[.bool s1,.slice a1 l1.length c1,.slice a2 l2.length c2] 25∧Blk W (w.heap.size+1) #[.bool s2,.slice a3 l3.length c3,.slice a4 l4.length c4] 25) ?_ (fun Hnone=>?_)
  ·rintro a W ⟨y6,y14,y15,y16,y17,rfl,x,g2,g3⟩
   refine wpAnyH_ready (rs:=[1,4,5]) (by kernel_rfl) (by simp) ?_
   refine AllReadyH.cons rfl (fun K hK=>?_) ?_
   ·go_simp
    refine (HOA.o _ (X6.o.trans x)).mono ?_
    rintro e W2 ⟨⟨v,rfl,vn,vd,rfl,n1,d1⟩,hx⟩
    obtain ⟨a5,c5,rfl⟩:=rdU_shape n1
    obtain ⟨a6,c6,rfl⟩:=rdU_shape d1
    first|refine hK.out _ _ ?_ (fun hHeld=>?_)|(go_wp2_with fail;refine hK.out _ _ ?_ (fun hHeld=>?_))
    ·exact ⟨Blk.s3 (g2.ext hx),Blk.s3 (g3.ext hx)⟩
    (try simp only [Act.put,List.setIfInBounds_toArray,List.set_cons_zero,List.set_cons_succ])
    exact Hc1 _ _ ⟨_,_,_,_,_,_,_,_,_,rfl,x.trans hx,g2.ext hx,g3.ext hx,n1,d1⟩
   refine AllReadyH.cons rfl (fun K hK=>?_) ?_
   ·go_simp
    first|refine hK.out _ _ ?_ (fun hHeld=>?_)|(go_wp2_with fail;refine hK.out _ _ ?_ (fun hHeld=>?_))
    ·exact ⟨Blk.s3 (g2.alloc _),Blk.s3 (g3.alloc _)⟩
    (try simp only [Act.put,List.setIfInBounds_toArray,List.set_cons_zero,List.set_cons_succ])
    exact Ha4 _ _ ⟨_,_,_,_,_,_,rfl,x.alloc _,g2.alloc _,g3.alloc _,Blk.new _ _ _,(by have:=x.size;omega)⟩
   refine AllReadyH.cons rfl (fun K hK=>?_) ?_
   ·go_simp
    first|refine hK.out _ _ ?_ (fun hHeld=>?_)|(go_wp2_with fail;refine hK.out _ _ ?_ (fun hHeld=>?_))
    ·exact ⟨Blk.s3 (g2.alloc _),Blk.s3 (g3.alloc _)⟩
    (try simp only [Act.put,List.setIfInBounds_toArray,List.set_cons_zero,List.set_cons_succ])
    exact Ha5 _ _ ⟨_,_,_,_,_,_,rfl,x.alloc _,g2.alloc _,g3.alloc _,Blk.new _ _ _,(by have:=x.size;omega)⟩
   exact AllReadyH.nil
  exact Hnone _ _ ⟨_,_,_,_,_,rfl,(Ext.refl W6).drew,G6.o.drew,H6.o.drew⟩
 ·have e:cmpR ⟨s1,l1,l2⟩ ⟨s2,l3,l4⟩=(0,chkR2 ⟨s1,l1,l2⟩ ⟨s2,l3,l4⟩):=by unfold cmpR;rw [if_neg hc]
  obtain ⟨ca,hca⟩:∃ ca,ca=chkR ⟨s1,l1,l2⟩:=⟨_,rfl⟩
  obtain ⟨cb,hcb⟩:∃ cb,cb=chkR ⟨s2,l3,l4⟩:=⟨_,rfl⟩
  have hcc:chkR2 ⟨s1,l1,l2⟩ ⟨s2,l3,l4⟩=orE ca cb:=by unfold chkR2;rw [hca,hcb]
  rw [hcc] at e hc
  rw [← hca] at HCA
  rw [← hcb] at HCB
  obtain ⟨cc,hcd⟩:∃ cc,cc=orE ca cb:=⟨_,rfl⟩
  have hor:=fun W b h=>orE_any ca cb b W h
  rw [← hcd] at e hc hor
  have hcz:(cc != 0)=true:=by simpa using hc
  have E:=kI e;have HOR:=kI hor
  clear e hc hcc hca hcb hcd hor
  go_enter Try.func53,Try.ntmps53
  go_wp2_with fail
  have hmx:Try.prog.follows .mixedOrders=true:=by kernel_rfl
  go_region_held3 (fun W=>(Blk W w.heap.size #[.bool s1,.slice a1 l1.length c1,.slice a2 l2.length c2] 25∧W.cell? ⟨w.heap.size,0,none⟩=some (.bool s1)∧W.cell? ⟨w.heap.size,1,none⟩=some (.slice a1 l1.length c1)∧W.cell? ⟨w.heap.size,2,none⟩=some (.slice a2 l2.length c2))∧(Blk W (w.heap.size+1) #[.bool s2,.slice a3 l3.length c3,.slice a4 l4.length c4] 25∧W.cell? ⟨w.heap.size+1,0,none⟩=some (.bool s2)∧W.cell? ⟨w.heap.size+1,1,none⟩=some (.slice a3 l3.length c3)∧W.cell? ⟨w.heap.size+1,2,none⟩=some (.slice a4 l4.length c4)))
   ((refine ⟨Blk.s3 ?_,Blk.s3 ?_⟩ <;> (repeat (first|exact A0.o|exact A1.o|exact k1|exact k2|exact k4|exact k5|exact k7|exact k8|refine Blk.setOther ?_ (by dsimp only;omega) _|refine Blk.alloc ?_ _|refine Blk.drew ?_))))
   (first|(go_at_call_of 52 (Value.slice a1 l1.length c1);refine (HCA.o _ (by (repeat (first|(with_reducible first|exact Ext.refl _|assumption|refine Ext.alloc ?_ _)|((with_reducible refine Ext.setp ?_ ?_);focus (dsimp only;omega))|(with_reducible first|refine Ext.drew ?_|refine Ext.drewN ?_ _|refine Ext.trans ?_ (by assumption)))))).mono ?_;rintro e W4 ⟨rfl,hx4⟩;have x4:=Ext.trans x0 (Ext.trans (by (repeat (first|(with_reducible first|exact Ext.refl _|assumption|refine Ext.alloc ?_ _)|((with_reducible refine Ext.setp ?_ ?_);focus (dsimp only;omega))|(with_reducible first|refine Ext.drew ?_|refine Ext.drewN ?_ _|refine Ext.trans ?_ (by assumption))))) hx4);have k1:=A0.o.ext (Ext.trans (by (repeat (first|(with_reducible first|exact Ext.refl _|assumption|refine Ext.alloc ?_ _)|((with_reducible refine Ext.setp ?_ ?_);focus (dsimp only;omega))|(with_reducible first|refine Ext.drew ?_|refine Ext.drewN ?_ _|refine Ext.trans ?_ (by assumption))))) hx4);have k2:=A1.o.ext (Ext.trans (by (repeat (first|(with_reducible first|exact Ext.refl _|assumption|refine Ext.alloc ?_ _)|((with_reducible refine Ext.setp ?_ ?_);focus (dsimp only;omega))|(with_reducible first|refine Ext.drew ?_|refine Ext.drewN ?_ _|refine Ext.trans ?_ (by assumption))))) hx4))|(go_at_call_of 52 (Value.slice a3 l3.length c3);refine (HCB.o _ (by (repeat (first|(with_reducible first|exact Ext.refl _|assumption|refine Ext.alloc ?_ _)|((with_reducible refine Ext.setp ?_ ?_);focus (dsimp only;omega))|(with_reducible first|refine Ext.drew ?_|refine Ext.drewN ?_ _|refine Ext.trans ?_ (by assumption)))))).mono ?_;rintro e W5 ⟨rfl,hx5⟩;have x5:=x4.trans hx5;have k4:=k1.ext hx5;have k5:=k2.ext hx5)|(go_at_call 56;refine (HOR.o _ _ (Blk.new W5 _ _)).mono ?_;rintro e W6 ⟨rfl,hx6⟩;have x6:=(x5.alloc _).trans hx6;have k7:=(k4.alloc _).ext hx6;have k8:=(k5.alloc _).ext hx6))
  go_wp2_with fail
  go_ret2
  exact ⟨by rw [E.o];rfl,x6⟩
end Go.Proofs.Ytfflknbeidihoaa
namespace Go.Proofs.Ytfflknbeidihoaa
theorem small_int {n:Int} (h0 : -9223372036854775808≤n) (h1:n≤9223372036854775807):small (n:Rat):=by
 refine small_of_bd (k:=2) ⟨?_,?_⟩ (by decide)
 ·rw [Rat.num_intCast];omega
 ·rw [Rat.den_intCast];decide
end Go.Proofs.Ytfflknbeidihoaa
