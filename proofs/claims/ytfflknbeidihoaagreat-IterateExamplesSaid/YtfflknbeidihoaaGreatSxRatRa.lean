/- Lemmas and walks. Conditions: as stated. -/
import Derived.Test.YtfflknbeidihoaaGreatSxGJ
import Derived.Test.YtfflknbeidihoaaGreatSxGH
set_option linter.unusedVariables false
set_option linter.unusedSimpArgs false
set_option maxRecDepth 100000
set_option maxHeartbeats 16000000
namespace Go.Proofs.YtfflknbeidihoaaGreat
open Go.RowKit
theorem one_any (w:World):Calls Tryz.prog 66 #[] w fun e w'=>(∃ v,e=.returned v∧NewV w w' v [1])∧Ext w w':=by
 go_enter Tryz.func66,Tryz.ntmps66
 go_wp2_with fail;go_ret;exact ⟨⟨_,rfl,⟨some w.heap.size,OwV.row (RowU.new w [1] (by simp)),fun g h=>by cases h;exact Nat.le_refl _⟩⟩,(Ext.refl w).alloc _⟩
theorem refNat_any (n:Int) (w:World) (h0 : -9223372036854775808≤n) (h1:n≤9223372036854775807) :
  Calls Tryz.prog 72 #[.int .i64 n] w fun e w'=>(∃ v,e=.returned v∧NewV w w' v (lim n.natAbs))∧Ext w w':=by
 by_cases hn:n < 0
 ·have hf:=fun k hk W=>ref_from_int k n.natAbs W (by omega) hk;have HF:=kI hf;obtain ⟨m,hm⟩:=gN (n.natAbs);rw [← hm] at HF ⊢;have hmn:(m:Int) = -n:=by omega
  clear hf hm;go_enter Tryz.func72,Tryz.ntmps72
  go_wp2_with fail;refine (HF.o _ (by first|omega|(simp [IntKind.wrap,IntKind.signed,IntKind.bits];omega)) _).mono ?_;rintro e w1 ⟨⟨v,rfl,n1⟩,hx1⟩;obtain ⟨a1,c1,rfl⟩:=n1.shape;have N1:=kI n1;have X1:=kI hx1;clear n1 hx1;go_wp2_with fail;go_ret;exact ⟨⟨_,rfl,N1.o⟩,X1.o⟩
 ·have hf:=fun k hk W=>ref_from_int k n.natAbs W (by omega) hk;have HF:=kI hf;obtain ⟨m,hm⟩:=gN (n.natAbs);rw [← hm] at HF ⊢;have hmn:(m:Int)=n:=by omega
  clear hf hm;go_enter Tryz.func72,Tryz.ntmps72
  go_wp2_with fail;refine (HF.o _ (by omega) _).mono ?_;rintro e w1 ⟨⟨v,rfl,n1⟩,hx1⟩;obtain ⟨a1,c1,rfl⟩:=n1.shape;have N1:=kI n1;have X1:=kI hx1;clear n1 hx1;go_wp2_with fail;go_ret;exact ⟨⟨_,rfl,N1.o⟩,X1.o⟩
theorem make_spec (b:Bool) {n d:Nat} (hn:n≠0) (hd:d≠0):rep (mkRat (sg b n) d)=⟨b,lim (n / Nat.gcd n d),if lim (d / Nat.gcd n d)=[1] then [] else lim (d / Nat.gcd n d)⟩:=by
 rw [low_spec b hn hd];have:(lim (d / Nat.gcd n d)=[1])↔(d / Nat.gcd n d=1):=by
  constructor
  ·intro h;rw [← nv_lim (d / Nat.gcd n d),h];rfl
  ·intro h;rw [h];rfl
 by_cases h:d / Nat.gcd n d=1
 ·rw [if_pos h,if_pos (this.2 h)]
 ·rw [if_neg h,if_neg (fun e=>h (this.1 e))]
theorem make_any (b:Bool) (vp vq:Value) (lp lq:List Int) (w:World) (hp:RdI .u32 w vp lp) (hq:RdI .u32 w vq lq) (gp:Lim lp) (gq:Lim lq) (zp:NoZ lp) (zq:NoZ lq) (sp:lp.length≤10000) (sq:lq.length≤10000) (h0:nv lq≠0) :
  Calls Tryz.prog 71 #[.bool b,vp,vq] w fun e w'=>(∃ v,e=.returned v∧NewR w w' v (rep (mkRat (sg b (nv lp)) (nv lq))))∧Ext w w':=by
 have HP:=kI hp;have HQ:=kI hq;obtain ⟨ap,cp,rfl⟩:=rdU_shape hp;obtain ⟨aq,cq,rfl⟩:=rdU_shape hq;clear hp hq;have b0:=Blk.new w #[.bool false,.slice none 0 0,.slice none 0 0] 25;have B0:=kI b0;have X0:=kI ((Ext.refl w).alloc (.cells #[.bool false,.slice none 0 0,.slice none 0 0] 25));clear b0;by_cases hl:lp.length=0
 ·obtain rfl:lp=[]:=List.length_eq_zero_iff.1 hl;rw [show nv ([]:List Int)=0 from rfl,low_zero];clear hl;go_enter Tryz.func71,Tryz.ntmps71
  go_wp2_with fail;exact bodyPost_ret (v:=.agg #[.bool false,.slice none 0 0,.slice none 0 0]) (by simp only [results,Tryz.results71];go_simp) rfl ⟨⟨_,rfl,NewR.zero _ _⟩,by (repeat (first|(with_reducible first|exact eR _|assumption|refine eA ?_ _)|((with_reducible refine eS ?_ ?_);focus (dsimp only;omega))|(with_reducible first|refine eD ?_|refine eN ?_ _|refine eT ?_ (by assumption))))⟩
 ·have hn:nv lp≠0:=fun e=>hl ((nv_zero_iff gp zp).1 e);have hlb:((lp.length:Int) == 0)=false:=by simp only [beq_eq_false_iff_ne];omega
  have hms:=make_spec b hn h0;have hcom:=fun W h1 h2=>common_any (.slice ap lp.length cp) (.slice aq lq.length cq) lp lq W h1 h2 gp gq zp zq sp sq;have hgp:0 < Nat.gcd (nv lp) (nv lq):=Nat.gcd_pos_of_pos_left _ (by omega);obtain ⟨g,hg⟩:=gN (Nat.gcd (nv lp) (nv lq));have hgl:(lim g).length≤10000:=by
   refine Nat.le_trans (lim_len_le.2 ?_) sp;rw [hg];exact Nat.lt_of_le_of_lt (Nat.gcd_le_left _ (by omega)) (nv_lt gp)
  rw [← hg] at hms hcom hgp;have hd1:=fun W v h1 h2=>refDivide_any (.slice ap lp.length cp) v lp (lim g) W h1 h2 gp (lim_lim _) zp (lim_noZ _) sp hgl (by rw [nv_lim];exact hgp);have hd2:=fun W v h1 h2=>refDivide_any (.slice aq lq.length cq) v lq (lim g) W h1 h2 gq (lim_lim _) zq (lim_noZ _) sq hgl (by rw [nv_lim];exact hgp);rw [nv_lim] at hd1 hd2;obtain ⟨L1,hL1⟩:=gN (lim (nv lp / g));obtain ⟨L2,hL2⟩:=gN (lim (nv lq / g));obtain ⟨RS,hRS⟩:=gN (rep (mkRat (sg b (nv lp)) (nv lq)));rw [← hL1] at hms hd1;rw [← hL2] at hms hd2;rw [← hRS] at hms;rw [← hRS];have HCOM:=kI hcom;have HD1:=kI hd1;have HD2:=kI hd2;have HMS:=kI hms;clear hms hcom hd1 hd2 hL1 hL2 hRS hg hgp hl hn;go_enter Tryz.func71,Tryz.ntmps71
  go_wp2_with fail;refine (HCOM.o _ (HP.o.ext X0.o) (HQ.o.ext X0.o)).mono ?_;rintro e w1 ⟨⟨v,rfl,n1⟩,hx1⟩;obtain ⟨a1,c1,rfl⟩:=n1.shape;have N1:=kI n1.rd;have B1:=kI (B0.o.ext hx1);have X1:=kI (X0.o.trans hx1);clear n1 hx1;go_wp2_with fail;refine (HD1.o _ _ (HP.o.ext X1.o) N1.o).mono ?_;rintro e w2 ⟨⟨v1,v2,rfl,n2,n3⟩,hx2⟩;obtain ⟨a2,c2,rfl⟩:=n2.shape;obtain ⟨a3,c3,rfl⟩:=n3.shape;have N2:=kI (n2.from X1.o);have B2:=kI (B1.o.ext hx2);have X2:=kI (X1.o.trans hx2);have N1:=kI (N1.o.ext hx2);clear n2 n3 hx2;go_wp2_with fail;refine (HD2.o _ _ (HQ.o.ext X2.o) N1.o).mono ?_;rintro e w3 ⟨⟨v1,v2,rfl,n4,n5⟩,hx3⟩;obtain ⟨a4,c4,rfl⟩:=n4.shape;obtain ⟨a5,c5,rfl⟩:=n5.shape;have N4:=kI (n4.from X2.o);have B3:=kI (B2.o.ext hx3);have X3:=kI (X2.o.trans hx3);have N2:=kI (N2.o.ext hx3);clear n4 n5 hx3;go_wp2_with fail;refine (one_any _).mono ?_;rintro e w4 ⟨⟨v,rfl,n6⟩,hx4⟩;obtain ⟨a6,c6,rfl⟩:=n6.shape;have N6:=kI n6.rd;have B4:=kI (B3.o.ext hx4);have X4:=kI (X3.o.trans hx4);have N2:=kI (N2.o.ext hx4);have N4:=kI (N4.o.ext hx4);clear n6 hx4;go_wp2_with fail;have heq:=equalNat_any _ _ L2 [1] _ N4.o.rd N6.o;refine heq.mono ?_;clear heq;rintro e w5 ⟨rfl,hx5⟩;have B5:=kI (B4.o.ext hx5);have X5:=kI (X4.o.trans hx5);have N2:=kI (N2.o.ext hx5);have N4:=kI (N4.o.ext hx5);clear hx5;have k0:=B5.o.cell;have f0:=B5.o.free;have l0:=B5.o.lt;by_cases h1:L2=[1]
  ·rw [decide_eq_true h1];have e:=HMS.o;rw [if_pos h1] at e;have E:=kI e;clear e h1;go_wp2_with fail;refine bodyPost_ret (v:=.agg #[.bool b,.slice a2 L1.length c2,.slice none 0 0]) (by simp only [results,Tryz.results71];go_simp) rfl ⟨⟨_,rfl,?_⟩,?_⟩
   ·rw [E.o];exact NewR.set3 (r:=⟨b,L1,[]⟩) ⟨_,_,rfl,N2.o,NewV.nil _ _⟩ B5.o (by decide) _ _ _
   ·have:=X5.o;(repeat (first|(with_reducible first|exact eR _|assumption|refine eA ?_ _)|((with_reducible refine eS ?_ ?_);focus (dsimp only;omega))|(with_reducible first|refine eD ?_|refine eN ?_ _|refine eT ?_ (by assumption))))
  ·rw [decide_eq_false h1];have e:=HMS.o;rw [if_neg h1] at e;have E:=kI e;clear e h1;go_wp2_with fail;refine bodyPost_ret (v:=.agg #[.bool b,.slice a2 L1.length c2,.slice a4 L2.length c4]) (by simp only [results,Tryz.results71];go_simp) rfl ⟨⟨_,rfl,?_⟩,?_⟩
   ·rw [E.o];exact NewR.set3 (r:=⟨b,L1,L2⟩) ⟨_,_,rfl,N2.o,N4.o⟩ B5.o (by decide) _ _ _
   ·have:=X5.o;(repeat (first|(with_reducible first|exact eR _|assumption|refine eA ?_ _)|((with_reducible refine eS ?_ ?_);focus (dsimp only;omega))|(with_reducible first|refine eD ?_|refine eN ?_ _|refine eT ?_ (by assumption))))
end Go.Proofs.YtfflknbeidihoaaGreat
