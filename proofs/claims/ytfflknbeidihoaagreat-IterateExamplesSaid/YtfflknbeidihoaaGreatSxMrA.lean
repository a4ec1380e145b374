/- Lemmas and walks. Conditions: as stated. -/
import Derived.Test.YtfflknbeidihoaaGreatSxAppT
import Derived.Test.YtfflknbeidihoaaGreatSxRatSc
import Derived.Test.YtfflknbeidihoaaGreatSxItO
import Derived.WalkMore
set_option linter.unusedVariables false
set_option linter.unusedSimpArgs false
set_option maxRecDepth 100000
set_option maxHeartbeats 16000000
namespace Go.Proofs.YtfflknbeidihoaaGreat
open Go.RowKit
def mraJ (A:Nat) (lv:Value) (s r s2:RR) (e2:Int) (jj b off:Nat) (j:Nat) (v:Value) (W:World):Prop:=
 match j with
 | 0=>∃ s1 s2 s3 s4,v=.agg #[.bool s.neg,.slice s1 s.num.length s2,.slice s3 s.den.length s4]∧RdR W (.agg #[.bool s.neg,.slice s1 s.num.length s2,.slice s3 s.den.length s4]) s
 | 1=>v=.pointer (some ⟨A,3,none⟩)
 | 2=>v=lv
 | 3=>v=.int .i64 (jj:Nat)
 | 4=>v=.pointer (some ⟨b,off+jj*4,none⟩)
 | 5=>v=.pointer (some ⟨b,off+jj*4+1,none⟩)
 | 6=>∃ s1 s2 s3 s4,v=.agg #[.bool r.neg,.slice s1 r.num.length s2,.slice s3 r.den.length s4]∧RdR W (.agg #[.bool r.neg,.slice s1 r.num.length s2,.slice s3 r.den.length s4]) r
 | 7=>∃ s1 s3 s4 s5,v=.tuple #[.agg #[.bool s2.neg,.slice s1 s2.num.length s3,.slice s4 s2.den.length s5],.int .i64 e2]∧RdR W (.agg #[.bool s2.neg,.slice s1 s2.num.length s3,.slice s4 s2.den.length s5]) s2
 | 8=>∃ s1 s3 s4 s5,v=.tuple #[.agg #[.bool s2.neg,.slice s1 s2.num.length s3,.slice s4 s2.den.length s5],.int .i64 e2]∧RdR W (.agg #[.bool s2.neg,.slice s1 s2.num.length s3,.slice s4 s2.den.length s5]) s2
 | 9=>∃ s1 s3 s4 s5,v=.agg #[.bool s2.neg,.slice s1 s2.num.length s3,.slice s4 s2.den.length s5]∧RdR W (.agg #[.bool s2.neg,.slice s1 s2.num.length s3,.slice s4 s2.den.length s5]) s2
 | 10=>v=.int .i64 e2
 | _=>True
theorem mraJ_ext {A:Nat} {lv:Value} {s r s2:RR} {e2:Int} {jj b off:Nat} {j:Nat} {v:Value} {W W':World} (h:mraJ A lv s r s2 e2 jj b off j v W) (x:Ext W W'):mraJ A lv s r s2 e2 jj b off j v W':=by
 match j,h with
 | 0,⟨s1,s2,s3,s4,h1,h2⟩=>exact ⟨s1,s2,s3,s4,h1,h2.ext x⟩
 | 1,h=>exact h
 | 2,h=>exact h
 | 3,h=>exact h
 | 4,h=>exact h
 | 5,h=>exact h
 | 6,⟨s1,s2,s3,s4,h1,h2⟩=>exact ⟨s1,s2,s3,s4,h1,h2.ext x⟩
 | 7,⟨s1,s3,s4,s5,h1,h2⟩=>exact ⟨s1,s3,s4,s5,h1,h2.ext x⟩
 | 8,⟨s1,s3,s4,s5,h1,h2⟩=>exact ⟨s1,s3,s4,s5,h1,h2.ext x⟩
 | 9,⟨s1,s3,s4,s5,h1,h2⟩=>exact ⟨s1,s3,s4,s5,h1,h2.ext x⟩
 | 10,h=>exact h
 | _+11,_=>trivial
def mreJ (s:RR) (c:Bool) (j:Nat) (v:Value) (W:World):Prop:=
 match j with
 | 0=>∃ s1 s2 s3 s4,v=.agg #[.bool s.neg,.slice s1 s.num.length s2,.slice s3 s.den.length s4]∧RdR W (.agg #[.bool s.neg,.slice s1 s.num.length s2,.slice s3 s.den.length s4]) s
 | 1=>∃ v',v=v'∧RdR W v' (rep ((1:Int):Rat))
 | 2=>v=.bool c
 | 3=>v=.bool !c
 | _=>True
theorem mreJ_ext {s:RR} {c:Bool} {j:Nat} {v:Value} {W W':World} (h:mreJ s c j v W) (x:Ext W W'):mreJ s c j v W':=by
 match j,h with
 | 0,⟨s1,s2,s3,s4,h1,h2⟩=>exact ⟨s1,s2,s3,s4,h1,h2.ext x⟩
 | 1,⟨v9,h1,h2⟩=>exact ⟨v9,h1,h2.ext x⟩
 | 2,h=>exact h
 | 3,h=>exact h
 | _+4,_=>trivial
theorem refAct_any (v:Value) (x:DAct) (n:Nat) (w:World) (h:RdAct w v x) (hl:LimA x) :
  Calls Tryz.prog 73 #[v,.int .i64 (n:Nat)] w fun e w'=>e=.returned (.int .i64 (actE n x))∧Ext w w':=by
 obtain ⟨co,l⟩:=x;obtain ⟨a1,c1,a2,c2,a3,c3,rfl,hr,ho⟩:=h;obtain ⟨hl1,hl2⟩:=hl;dsimp only at hr ho hl1 hl2 ⊢;have hll:l.length≤9223372036854775807:=by obtain ⟨_,_,_,h⟩:=ho.shape;exact h
 have HR:=kI hr;have HO:=kI ho;have HL1:=kI hl1;have HL2:=kI hl2;clear hr ho hl1 hl2;have bb0:=(Blk.new w #[.bool co.neg,.slice a1 co.num.length c1,.slice a2 co.den.length c2,.slice a3 l.length c3] 62);have x0:Ext w (w.alloc (.cells #[.bool co.neg,.slice a1 co.num.length c1,.slice a2 co.den.length c2,.slice a3 l.length c3] 62)):=((Ext.refl w).alloc _);have A0:=kI bb0;have X:=kI x0;clear x0 bb0;replace HR:=kI (HR.o.ext X.o);replace HO:=kI (HO.o.ext X.o);go_enter Tryz.func73,Tryz.ntmps73
 obtain ⟨qA0,fA0,lA0⟩:=A0.o.q3;go_wp2_with fail;refine (refCheckR_any _ co _ HR.o HL1.o).mono ?_;rintro e w1 ⟨rfl,hx⟩;clear qA0 fA0 lA0;replace HR:=kI (HR.o.ext hx);replace HO:=kI (HO.o.ext hx);replace A0:=kI (A0.o.ext hx);replace X:=kI (X.o.trans hx);clear hx;by_cases h1:chkR co=0
 rotate_left
 ·have E:=kI (act_cost (n:=n) (l:=l) h1);obtain ⟨c,hc⟩:=gN (chkR co);rw [← hc] at E h1 ⊢;have q1:(c != 0)=true:=by simpa using h1
  clear h1 hc;go_wp2_with fail;go_ret;exact ⟨ret_int E.o.symm,X.o⟩
 rw [h1];by_cases h2:l.length=0
 ·have E:=kI (act_3 (n:=n) h1 h2);have q2:((l.length:Int) == 0)=true:=by simp [h2]
  clear h1 h2;obtain ⟨qA0,fA0,lA0⟩:=A0.o.q3;go_wp2_with fail;go_ret;exact ⟨ret_int E.o.symm,X.o⟩
 have q2:((l.length:Int) == 0)=false:=beq_eq_false_iff_ne.2 (by omega);by_cases h3:64 < l.length
 ·have E:=kI (act_4 (n:=n) h1 h2 h3);have q3:(64:Int) < (l.length:Int):=by omega
  clear h1 h2 h3;obtain ⟨qA0,fA0,lA0⟩:=A0.o.q3;go_wp2_with fail;go_ret;exact ⟨ret_int E.o.symm,X.o⟩
 have q3:¬ (64:Int) < (l.length:Int):=by omega
 have HE:=kI (fun (k:Nat) (hk:k < l.length) h4 (c:Int) h5 h6=>act_out (n:=n) (k:=k) (c:=c) h1 h2 h3 hk h4 h5 h6);have HI:=kI (act_in (n:=n) h1 h2 h3);clear h1;obtain ⟨qA0,fA0,lA0⟩:=A0.o.q3;go_wp2_with fail;clear qA0 fA0 lA0;clear q2 q3;obtain ⟨wb,hwb⟩:=gN (w1);rw [← hwb] at HR HO A0 X ⊢;clear hwb;obtain ⟨An,hAn⟩:=gN (w.heap.size);rw [← hAn] at A0 ⊢;clear hAn;go_loopw [6] (fun i wr=>∃ k:Nat,k≤l.length∧i=.int .i64 k∧(∀ j,j < k→outE n l j=0)∧Ext wb wr) (fun i _=>l.length - (intOf i).toNat)
 case atStart=>exact ⟨0,by omega,rfl,fun j hj=>by omega,Ext.refl wb⟩
 case round=>
  obtain ⟨wk,hwk⟩:=gN (wr);subst hwk;obtain ⟨k,hk,rfl,hok,hx⟩:=hrel;have OK:=kI hok;have XB:=kI hx;replace HR:=kI (HR.o.ext hx);replace HO:=kI (HO.o.ext hx);replace A0:=kI (A0.o.ext hx);replace X:=kI (X.o.trans hx);clear hok hx;by_cases hlt:k < l.length
  ·obtain ⟨b,off,p1,d1,p2,d2,rfl,z0,z1,z2,z3,z4,z5⟩:=HO.o.at hlt;have hy:=HL2.o k;obtain ⟨y,hyy⟩:=gN (l.getD k dO);rw [← hyy] at z1 z2 z3 z4 z5 hy;obtain ⟨tw,r⟩:=y;dsimp only at z1 z2 z3 z4 z5 hy;have NR:=kI z5;have HY:=kI hyy;have HLY:=kI hy;have q1:(0:Int)≤(k:Int):=by omega
   have q2:(k:Int) < (l.length:Int):=by omega
   clear z5 hyy hy;obtain ⟨wo,hwo⟩:=gN (wk.alloc (.cells #[.int .i64 tw,.bool r.neg,.slice p1 r.num.length d1,.slice p2 r.den.length d2] 59));have hx:Ext wk wo:=by rw [hwo];exact (Ext.refl _).alloc _
   have by0:Blk wo wk.heap.size #[.int .i64 tw,.bool r.neg,.slice p1 r.num.length d1,.slice p2 r.den.length d2] 59:=by rw [hwo];exact Blk.new _ _ _
   have HWO:=kI hwo;have A0k:=A0;replace HR:=kI (HR.o.ext hx);replace HO:=kI (HO.o.ext hx);replace A0:=kI (A0.o.ext hx);replace NR:=kI (NR.o.ext hx);replace X:=kI (X.o.trans hx);obtain ⟨Yn,hYn⟩:=gN (wk.heap.size);have BY:=kI by0;have HYN:=kI hYn;rw [← hYn] at BY;have lY:=BY.o.lt;replace XB:=kI (XB.o.trans hx);have qY0:(wk.alloc (.cells #[.int .i64 tw,.bool r.neg,.slice p1 r.num.length d1,.slice p2 r.den.length d2] 59)).cell? ⟨wk.heap.size,0,none⟩=some (.int .i64 tw):=by rw [← hwo,← hYn];exact BY.o.cell 0
   clear hwo hx by0 hYn lY;have qB:=A0k.o.cell;have lB:=A0k.o.lt;have fB:=A0k.o.free;by_cases d1:tw < 0
   ·have hE:outE n l k=8:=by
     unfold outE;rw [← HY.o];dsimp only;rw [if_pos (.inl d1)]
    have E:=kI (HE.o k hlt OK.o 8 hE (by decide));clear hE;go_wp2_with fail;go_ret;have:=X.o;exact ⟨ret_int E.o.symm,by rw [HWO.o] at this;exact this⟩
   by_cases d2:(n:Int)≤tw
   ·have hE:outE n l k=8:=by
     unfold outE;rw [← HY.o];dsimp only;rw [if_pos (.inr d2)]
    have E:=kI (HE.o k hlt OK.o 8 hE (by decide));clear hE;go_wp2_with fail;go_ret;have:=X.o;exact ⟨ret_int E.o.symm,by rw [HWO.o] at this;exact this⟩
   go_wp2_with fail;rw [← HWO.o,← HYN.o];clear HWO HYN qY0 z0 z1 z2 z3 z4 qB lB fB A0k;have D2:=kI (And.intro d1 d2);clear d1 d2;rcases Nat.eq_zero_or_pos k with h0|h0
   ·have D3:=kI (show ¬ (0 < k∧tw≤(l.getD (k - 1) dO).1) from by omega);have g1:decide ((0:Int) < (k:Int))=false:=decide_eq_false (by omega);go_quiet (fail)
    obtain ⟨wq,hwq⟩:=gN (wo.drewN nq);rw [← hwq];have hx:Ext wo wq:=by rw [hwq];exact (Ext.refl _).drewN _
    replace HR:=kI (HR.o.ext hx);replace HO:=kI (HO.o.ext hx);replace A0:=kI (A0.o.ext hx);replace NR:=kI (NR.o.ext hx);replace BY:=kI (BY.o.ext hx);replace X:=kI (X.o.trans hx);replace XB:=kI (XB.o.trans hx);clear hx hwq;obtain ⟨qA0,fA0,lA0⟩:=A0.o.q3;obtain ⟨qBY,fBY,lBY⟩:=BY.o.q3;go_wp2_with fail;refine (refCheckR_any _ r _ NR.o HLY.o).mono ?_;rintro e w2 ⟨rfl,hx⟩;clear qA0 fA0 lA0 qBY fBY lBY;replace HR:=kI (HR.o.ext hx);replace HO:=kI (HO.o.ext hx);replace A0:=kI (A0.o.ext hx);replace NR:=kI (NR.o.ext hx);replace BY:=kI (BY.o.ext hx);replace X:=kI (X.o.trans hx);replace XB:=kI (XB.o.trans hx);clear hx;by_cases e1:chkR r=0
    rotate_left
    ·have hE:outE n l k=chkR r:=by
      unfold outE;rw [← HY.o];dsimp only;rw [if_neg (by have:=D2.o;omega),if_neg D3.o,if_pos e1]
     have E:=kI (HE.o k hlt OK.o _ hE e1);clear hE;obtain ⟨c,hc⟩:=gN (chkR r);rw [← hc] at E e1 ⊢;have q4:(c != 0)=true:=by simpa using e1
     clear e1 hc;go_wp2_with fail;go_ret;exact ⟨ret_int E.o.symm,X.o⟩
    rw [e1];by_cases e2:r.neg=true∨r.num=[]
    ·have hE:outE n l k=1:=by
      unfold outE;rw [← HY.o];dsimp only;rw [if_neg (by have:=D2.o;omega),if_neg D3.o,if_neg (by simpa using e1),if_pos e2]
     have E:=kI (HE.o k hlt OK.o _ hE (by decide));clear hE e1;by_cases e3:r.neg=true
     ·clear e2;obtain ⟨qBY,fBY,lBY⟩:=BY.o.q3;go_wp2_with fail;go_ret;exact ⟨ret_int E.o.symm,X.o⟩
     ·have e4:r.neg=false:=by simpa using e3
      have q5:((r.num.length:Int) == 0)=true:=by
       rcases e2 with e2|e2
       ·exact absurd e2 e3
       ·simp [e2]
      clear e2 e3;obtain ⟨qBY,fBY,lBY⟩:=BY.o.q3;go_wp2_with fail;go_ret;exact ⟨ret_int E.o.symm,X.o⟩
    have hE:outE n l k=0:=by
     unfold outE;rw [← HY.o];dsimp only;rw [if_neg (by have:=D2.o;omega),if_neg D3.o,if_neg (by simpa using e1),if_neg e2]
    have e4:r.neg=false:=by
     cases hh:r.neg
     ·rfl
     ·exact absurd (.inl hh) e2
    have q5:((r.num.length:Int) == 0)=false:=beq_eq_false_iff_ne.2 (fun h=>e2 (.inr (List.length_eq_zero_iff.1 (by omega))));have hOK:∀ j,j < k+1→outE n l j=0:=fun j hj=>by
     by_cases e:j=k
     ·rw [e];exact hE
     ·exact OK.o j (by omega)
    have OK2:=kI hOK;clear hE e1 e2 hOK;obtain ⟨qBY,fBY,lBY⟩:=BY.o.q3;go_wp2_with fail;go_roundw
    case rel=>exact ⟨k+1,by omega,by go_num,OK2.o,XB.o⟩
    case measure=>simp [intOf];omega
   ·obtain ⟨m,hm⟩:∃ m,k=m+1:=⟨k - 1,by omega⟩;obtain ⟨b',off',p3,d3,p4,d4,eb,y0,y1,-,-,-,-⟩:=HO.o.at (show m < l.length by omega);injection eb with eb
    injection eb with eb1 eb2
    subst eb1;subst eb2;obtain ⟨zt,hzt⟩:=gN ((l.getD m dO).1);rw [← hzt] at y1;have g1:decide ((0:Int) < (k:Int))=true:=decide_eq_true (by omega);have g2:(k:Int) - 1=(m:Int):=by omega
    have g3:(0:Int)≤(m:Int):=by omega
    have g4:(m:Int) < (l.length:Int):=by omega
    have hk1:k - 1=m:=by omega
    by_cases d3:tw≤zt
    ·have hE:outE n l k=16:=by
      unfold outE;rw [← HY.o,hk1,← hzt];dsimp only;rw [if_neg (by have:=D2.o;omega),if_pos ⟨h0,d3⟩]
     have E:=kI (HE.o k hlt OK.o 16 hE (by decide));have g5:decide (tw≤zt)=true:=decide_eq_true d3;clear hE hk1 hzt hm;have g6:decide (0 < k)=true:=decide_eq_true h0;obtain ⟨qA0,fA0,lA0⟩:=A0.o.q3;obtain ⟨qBY,fBY,lBY⟩:=BY.o.q3;go_quiet (fail)
     obtain ⟨wq,hwq⟩:=gN (wo.drewN nq);rw [← hwq];have hx:Ext wo wq:=by rw [hwq];exact (Ext.refl _).drewN _
     clear qA0 fA0 lA0 qBY fBY lBY;replace HR:=kI (HR.o.ext hx);replace HO:=kI (HO.o.ext hx);replace A0:=kI (A0.o.ext hx);replace NR:=kI (NR.o.ext hx);replace BY:=kI (BY.o.ext hx);replace X:=kI (X.o.trans hx);replace XB:=kI (XB.o.trans hx);clear hx hwq;go_wp2_with fail;go_ret;exact ⟨ret_int E.o.symm,X.o⟩
    have D3:=kI (show ¬ (0 < k∧tw≤(l.getD (k - 1) dO).1) from by rw [hk1,← hzt];omega);have g5:decide (tw≤zt)=false:=decide_eq_false d3;clear hk1 hzt hm d3;have g6:decide (0 < k)=true:=decide_eq_true h0;obtain ⟨qA0,fA0,lA0⟩:=A0.o.q3;obtain ⟨qBY,fBY,lBY⟩:=BY.o.q3;go_quiet (fail)
    obtain ⟨wq,hwq⟩:=gN (wo.drewN nq);rw [← hwq];have hx:Ext wo wq:=by rw [hwq];exact (Ext.refl _).drewN _
    clear qA0 fA0 lA0 qBY fBY lBY;replace HR:=kI (HR.o.ext hx);replace HO:=kI (HO.o.ext hx);replace A0:=kI (A0.o.ext hx);replace NR:=kI (NR.o.ext hx);replace BY:=kI (BY.o.ext hx);replace X:=kI (X.o.trans hx);replace XB:=kI (XB.o.trans hx);clear hx hwq;clear y0 y1 g1 g2 g3 g4 g5 g6 h0;obtain ⟨qA0,fA0,lA0⟩:=A0.o.q3;obtain ⟨qBY,fBY,lBY⟩:=BY.o.q3;go_wp2_with fail;refine (refCheckR_any _ r _ NR.o HLY.o).mono ?_;rintro e w2 ⟨rfl,hx⟩;clear qA0 fA0 lA0 qBY fBY lBY;replace HR:=kI (HR.o.ext hx);replace HO:=kI (HO.o.ext hx);replace A0:=kI (A0.o.ext hx);replace NR:=kI (NR.o.ext hx);replace BY:=kI (BY.o.ext hx);replace X:=kI (X.o.trans hx);replace XB:=kI (XB.o.trans hx);clear hx;by_cases e1:chkR r=0
    rotate_left
    ·have hE:outE n l k=chkR r:=by
      unfold outE;rw [← HY.o];dsimp only;rw [if_neg (by have:=D2.o;omega),if_neg D3.o,if_pos e1]
     have E:=kI (HE.o k hlt OK.o _ hE e1);clear hE;obtain ⟨c,hc⟩:=gN (chkR r);rw [← hc] at E e1 ⊢;have q4:(c != 0)=true:=by simpa using e1
     clear e1 hc;go_wp2_with fail;go_ret;exact ⟨ret_int E.o.symm,X.o⟩
    rw [e1];by_cases e2:r.neg=true∨r.num=[]
    ·have hE:outE n l k=1:=by
      unfold outE;rw [← HY.o];dsimp only;rw [if_neg (by have:=D2.o;omega),if_neg D3.o,if_neg (by simpa using e1),if_pos e2]
     have E:=kI (HE.o k hlt OK.o _ hE (by decide));clear hE e1;by_cases e3:r.neg=true
     ·clear e2;obtain ⟨qBY,fBY,lBY⟩:=BY.o.q3;go_wp2_with fail;go_ret;exact ⟨ret_int E.o.symm,X.o⟩
     ·have e4:r.neg=false:=by simpa using e3
      have q5:((r.num.length:Int) == 0)=true:=by
       rcases e2 with e2|e2
       ·exact absurd e2 e3
       ·simp [e2]
      clear e2 e3;obtain ⟨qBY,fBY,lBY⟩:=BY.o.q3;go_wp2_with fail;go_ret;exact ⟨ret_int E.o.symm,X.o⟩
    have hE:outE n l k=0:=by
     unfold outE;rw [← HY.o];dsimp only;rw [if_neg (by have:=D2.o;omega),if_neg D3.o,if_neg (by simpa using e1),if_neg e2]
    have e4:r.neg=false:=by
     cases hh:r.neg
     ·rfl
     ·exact absurd (.inl hh) e2
    have q5:((r.num.length:Int) == 0)=false:=beq_eq_false_iff_ne.2 (fun h=>e2 (.inr (List.length_eq_zero_iff.1 (by omega))));have hOK:∀ j,j < k+1→outE n l j=0:=fun j hj=>by
     by_cases e:j=k
     ·rw [e];exact hE
     ·exact OK.o j (by omega)
    have OK2:=kI hOK;clear hE e1 e2 hOK;obtain ⟨qBY,fBY,lBY⟩:=BY.o.q3;go_wp2_with fail;go_roundw
    case rel=>exact ⟨k+1,by omega,by go_num,OK2.o,XB.o⟩
    case measure=>simp [intOf];omega
  ·obtain rfl:k=l.length:=by omega
   have q1:¬ (l.length:Int) < (l.length:Int):=by omega
   have hI:=HI.o OK.o;clear HE;obtain ⟨qA0,fA0,lA0⟩:=A0.o.q3;go_wp2_with fail;clear qA0 fA0 lA0;obtain ⟨wz,hwz⟩:=gN (wk.alloc (.cells #[.bool false,.slice none 0 0,.slice none 0 0] 25));have hx:Ext wk wz:=by rw [hwz];exact (Ext.refl _).alloc _
   have hb0:Blk wz wk.heap.size #[.bool false,.slice none 0 0,.slice none 0 0] 25:=by rw [hwz];exact Blk.new _ _ _
   rw [← hwz];obtain ⟨Bn,hBn⟩:=gN (wk.heap.size);rw [← hBn] at hb0 ⊢;have hs0:SumB wz Bn 25 zR:=⟨_,_,_,_,hb0,(NewR.zero wz wz).rd⟩;have HS0:=kI hs0;have HX0:=kI hx;have HBN:=kI (Nat.le_of_eq hBn.symm);have HI2:=kI hI;have HWB:=kI (Nat.le_trans X.o.size (Nat.le_of_eq hBn.symm));clear hwz hx hb0 hBn hs0 hI HI;go_loopw [9] (fun i wr=>∃ (k:Nat) (s:RR),k≤l.length∧i=.int .i64 k∧addL zR (prs l)=addL s ((prs l).drop k)∧LimR s∧chkR s=0∧SumB wr Bn 25 s∧Ext wk wr) (fun i _=>l.length - (intOf i).toNat)
   case atStart=>exact ⟨0,zR,by omega,rfl,by rw [List.drop_zero],zR_lim,rfl,HS0.o,HX0.o⟩
   case round=>
    obtain ⟨wj,hwj⟩:=gN (wr);subst hwj;obtain ⟨j,s,hj,rfl,hsum,hsl,hsc,hsb,hx⟩:=hrel;replace HO:=kI (HO.o.ext hx);replace A0:=kI (A0.o.ext hx);replace X:=kI (X.o.trans hx);have XK:=kI hx;have HSUM:=kI hsum;have HSL:=kI hsl;have HSC:=kI hsc;obtain ⟨g1,g2,g3,g4,hbs,hns⟩:=hsb;have BS:=kI hbs;have NS:=kI hns;clear hx hsum hsl hsc hbs hns;by_cases hlt:j < l.length
    ·obtain ⟨b,off,p1,d1,p2,d2,rfl,z0,z1,z2,z3,z4,z5⟩:=HO.o.at hlt;have hy:=HL2.o j;have hst:=addL_step (s:=s) (l:=prs l) (k:=j) (by rw [prs_len];exact hlt);rw [prs_at] at hst;obtain ⟨y,hyy⟩:=gN (l.getD j dO);rw [← hyy] at z1 z2 z3 z4 z5 hy hst;obtain ⟨tw,r⟩:=y;dsimp only at z1 z2 z3 z4 z5 hy hst;have NR:=kI z5;have had:=fun W v1 v2 (e1:RdR W v1 s) (e2:RdR W v2 r)=>refAddR_any v1 v2 s r W e1 e2 HSL.o hy;have hchk:(addR s r).2=0→chkR (addR s r).1=0:=fun h=>addR_chk h;have hlim:=addR_lim s r;obtain ⟨T,hT⟩:=gN (addR s r);rw [← hT] at had hst hchk hlim;obtain ⟨s2,e2⟩:=T;dsimp only at hst hchk hlim;unfold ResR at had;dsimp only at had;have HAD:=kI had;have HST:=kI hst;have HCH:=kI hchk;have HLI:=kI hlim;have q1:(0:Int)≤(j:Int):=by omega
     have q2:(j:Int) < (l.length:Int):=by omega
     clear z5 hyy hy had hst hchk hlim hT;obtain ⟨qA0,fA0,lA0⟩:=A0.o.q3;go_wp2_with fail;clear qA0 fA0 lA0;refine wp_region_each_float 11 10 (mraJ An (.slice (some ⟨b,off,none⟩) l.length c3) s r s2 e2 j b off) rfl (by kernel_rfl) (by kernel_rfl) (by kernel_rfl) (fun _ _ _ _ h x=>mraJ_ext h x) (fun _ _ d _ _ h=>by cases d <;> exact h) ?_ ?_ ?_
     ·refine ⟨?_,?_,?_,?_,?_,?_,?_,?_,?_,?_,?_,trivial⟩
      ·intro a W hW hB hD K hK;have b8:=hB 8 rfl;simp only [sB] at b8;have q9:=(BS.o.ext hW).cell;have l9:=(BS.o.ext hW).lt;go_simp;exact hK _ _ (Ext.refl _) ⟨_,_,_,_,rfl,NS.o.ext hW⟩
      ·intro a W hW hB hD K hK;have b2:=hB 2 rfl;simp only [sB] at b2;go_simp;exact hK _ _ (Ext.refl _) rfl
      ·intro a W hW hB hD K hK;obtain ⟨v85,e85,h85⟩:=dpE (hD 1 _ 85 rfl rfl (by kernel_rfl));obtain rfl:=h85;have q9:=(A0.o.ext hW).cell;have l9:=(A0.o.ext hW).lt;go_simp;exact hK _ _ (Ext.refl _) rfl
      ·intro a W hW hB hD K hK;have b9:=hB 9 rfl;simp only [sB] at b9;go_simp;exact hK _ _ (Ext.refl _) rfl
      ·intro a W hW hB hD K hK;obtain ⟨v86,e86,h86⟩:=dpE (hD 2 _ 86 rfl rfl (by kernel_rfl));obtain rfl:=h86;obtain ⟨v87,e87,h87⟩:=dpE (hD 3 _ 87 rfl rfl (by kernel_rfl));obtain rfl:=h87;go_simp;exact hK _ _ (Ext.refl _) rfl
      ·intro a W hW hB hD K hK;obtain ⟨v88,e88,h88⟩:=dpE (hD 4 _ 88 rfl rfl (by kernel_rfl));obtain rfl:=h88;go_simp;exact hK _ _ (Ext.refl _) rfl
      ·intro a W hW hB hD K hK;obtain ⟨v89,e89,h89⟩:=dpE (hD 5 _ 89 rfl rfl (by kernel_rfl));obtain rfl:=h89;have k2:=(hW.cell (p:=⟨b,off+j*4+1,none⟩) z0).trans z2;have k3:=(hW.cell (p:=⟨b,off+j*4+2,none⟩) z0).trans z3;have k4:=(hW.cell (p:=⟨b,off+j*4+3,none⟩) z0).trans z4;have l9:=Nat.lt_of_lt_of_le z0 hW.size;go_simp;exact hK _ _ (Ext.refl _) ⟨_,_,_,_,rfl,NR.o.ext hW⟩
      ·intro a W hW hB hD K hK;obtain ⟨v84,e84,h84⟩:=dpE (hD 0 _ 84 rfl rfl (by kernel_rfl));obtain ⟨d1,d2,d3,d4,rfl,dh⟩:=h84;obtain ⟨v90,e90,h90⟩:=dpE (hD 6 _ 90 rfl rfl (by kernel_rfl));obtain ⟨e1,e2,e3,e4,rfl,eh⟩:=h90;go_simp;refine (HAD.o _ _ _ dh eh).mono ?_;rintro e9 w9 ⟨⟨v,rfl,nn⟩,hx⟩;obtain ⟨x1,x2,x3,x4,rfl⟩:=nn.shape;exact hK _ _ hx ⟨_,_,_,_,rfl,nn.rd⟩
      ·intro a W hW hB hD K hK;obtain ⟨v91,e91,h91⟩:=dpE (hD 7 _ 91 rfl rfl (by kernel_rfl));obtain ⟨t1,t2,t3,t4,rfl,hn⟩:=h91;go_simp;exact hK _ _ (Ext.refl _) ⟨_,_,_,_,rfl,hn⟩
      ·intro a W hW hB hD K hK;obtain ⟨v83,e83,h83⟩:=dpE (hD 8 _ 83 rfl rfl (by kernel_rfl));obtain ⟨t1,t2,t3,t4,rfl,hn⟩:=h83;go_simp;exact hK _ _ (Ext.refl _) ⟨_,_,_,_,rfl,hn⟩
      ·intro a W hW hB hD K hK;obtain ⟨v83,e83,h83⟩:=dpE (hD 8 _ 83 rfl rfl (by kernel_rfl));obtain ⟨t1,t2,t3,t4,rfl,hn⟩:=h83;go_simp;exact hK _ _ (Ext.refl _) rfl
     ·intro a W hW hB hD;have h83:=hD 8 _ 83 rfl rfl (by kernel_rfl);obtain ⟨v83,e83⟩:∃ x,a.tmps.getD 83 undef=x:=⟨_,rfl⟩;rw [e83] at h83;obtain ⟨t1,t2,t3,t4,rfl,hn⟩:=h83;exact ⟨.int .i64 e2,fun w9=>run_extract9 e83 rfl rfl w9,rfl⟩
     intro w9 hx;simp only [Vals,List.take_succ_cons,List.take_zero,List.drop_succ_cons,List.drop_zero];rintro u0 - u1 - u2 - u3 - u4 - u5 - u6 - u7 - u8 - u9 h9 u10 h10;obtain ⟨x1,x2,x3,x4,rfl,hn⟩:=h9;obtain rfl:u10=.int .i64 e2:=h10;simp only [Act.put,List.setIfInBounds_toArray,List.set_cons_zero,List.set_cons_succ];have N2:=kI hn;replace XK:=kI (XK.o.trans hx);replace HO:=kI (HO.o.ext hx);replace A0:=kI (A0.o.ext hx);replace BS:=kI (BS.o.ext hx);replace NS:=kI (NS.o.ext hx);replace X:=kI (X.o.trans hx);clear hx hn z0 z1 z2 z3 z4 NR HAD;obtain ⟨qBS,fBS,lBS⟩:=BS.o.q3;by_cases he:e2=0
     rotate_left
     ·have hE:actE n ⟨co,l⟩=e2:=by rw [HI2.o,HSUM.o,HST.o,if_neg he];dsimp only;rw [if_pos he]
      have E:=kI hE;have q4:(e2 != 0)=true:=by simpa using he
      clear hE he;go_wp2_with fail;go_ret;exact ⟨ret_int E.o.symm,ext_put3 (o:=0) X.o HWB.o⟩
     subst he;have hs2:addL s ((prs l).drop j)=addL s2 ((prs l).drop (j+1)):=by rw [HST.o,if_pos rfl]
     have hp:=SumB.put (t:=25) ⟨_,_,_,_,BS.o,NS.o⟩ N2.o;have hxk:=ext_put3 (x:=.bool s2.neg) (y:=.slice x1 s2.num.length x2) (z:=.slice x3 s2.den.length x4) (o:=0) XK.o HBN.o;have HS2:=kI (HSUM.o.trans hs2);have HPP:=kI hp;have HXK:=kI hxk;clear hs2 hp hxk;go_wp2_with fail;go_roundw
     case rel=>exact ⟨j+1,s2,by omega,by go_num,HS2.o,HLI.o,HCH.o (by first|trivial|rfl),HPP.o,HXK.o⟩
     case measure=>simp [intOf];omega
    ·obtain rfl:j=l.length:=by omega
     have q1:¬ (l.length:Int) < (l.length:Int):=by omega
     have hend:addL zR (prs l)=(s,0):=by
      rw [HSUM.o,List.drop_of_length_le (by rw [prs_len];exact Nat.le_refl _)];rfl
     have hE:=HI2.o;rw [hend] at hE;dsimp only at hE;rw [if_neg (fun h=>h rfl)] at hE;have heq:=fun W v1 v2 (e1:RdR W v1 s) (e2:RdR W v2 (rep ((1:Int):Rat)))=>equalRat_any v1 v2 s _ W e1 e2;have h11:rep ((1:Int):Rat)=rep 1:=rfl;obtain ⟨c,hc⟩:=gN (decide (s=rep ((1:Int):Rat)));rw [← hc] at heq;have HEQ:=kI heq;have HC:=kI hc;have E:=kI hE;clear hend hE heq hc;obtain ⟨qA0,fA0,lA0⟩:=A0.o.q3;go_wp2_with fail;clear qA0 fA0 lA0;refine wp_region_each (mreJ s c) (by kernel_rfl) (by kernel_rfl) (by kernel_rfl) (fun _ _ _ _ h x=>mreJ_ext h x) ?_ ?_
     ·refine ⟨?_,?_,?_,?_,trivial⟩
      ·intro a W hW hB hD K hK;have b8:=hB 8 rfl;simp only [sB] at b8;have q9:=(BS.o.ext hW).cell;have l9:=(BS.o.ext hW).lt;go_simp;exact hK _ _ (Ext.refl _) ⟨_,_,_,_,rfl,NS.o.ext hW⟩
      ·intro a W hW hB hD K hK;go_simp;refine (refFromR_any 1 W (by omega) (by omega)).mono ?_;rintro e w9 ⟨⟨v,rfl,nn⟩,hx⟩;exact hK _ _ hx ⟨_,rfl,nn.rd⟩
      ·intro a W hW hB hD K hK;obtain ⟨v97,e97,h97⟩:=dpE (hD 0 _ 97 rfl rfl (by kernel_rfl));obtain ⟨d1,d2,d3,d4,rfl,dh⟩:=h97;obtain ⟨v98,e98,h98⟩:=dpE (hD 1 _ 98 rfl rfl (by kernel_rfl));obtain ⟨e1,rfl,eh⟩:=h98;go_simp;refine (HEQ.o _ _ _ dh eh).mono ?_;rintro e w9 ⟨rfl,hx⟩;exact hK _ _ hx rfl
      ·intro a W hW hB hD K hK;obtain ⟨v99,e99,h99⟩:=dpE (hD 2 _ 99 rfl rfl (by kernel_rfl));obtain rfl:=h99;go_simp;exact hK _ _ (Ext.refl _) rfl
     intro w9 hx;simp only [Vals];rintro u0 - u1 - u2 - u3 h3;obtain rfl:u3=.bool !c:=h3;simp only [Act.put,List.setIfInBounds_toArray,List.set_cons_zero,List.set_cons_succ];replace X:=kI (X.o.trans hx);clear hx;by_cases hs1:s=rep 1
     ·have E:=kI (E.o.trans (if_pos hs1));obtain rfl:c=true:=by rw [HC.o];exact decide_eq_true hs1
      clear hs1;go_wp2_with fail;go_ret;exact ⟨ret_int E.o.symm,X.o⟩
     ·have E:=kI (E.o.trans (if_neg hs1));obtain rfl:c=false:=by rw [HC.o];exact decide_eq_false hs1
      clear hs1;go_wp2_with fail;go_ret;exact ⟨ret_int E.o.symm,X.o⟩
end Go.Proofs.YtfflknbeidihoaaGreat
