/- Walks and lemmas. -/
import Derived.Test.YtnnjbaijcaiohaaSyA10
import Derived.WalkMore
import Derived.Test.YtnnjbaijcaiohaaSyA7
import Derived.Test.YtnnjbaijcaiohaaSyA8
set_option linter.unusedVariables false
set_option linter.unusedSimpArgs false
set_option maxRecDepth 100000
set_option maxHeartbeats 16000000
namespace Go.Proofs.Ytnnjbaijcaiohaa
open Go.RowKit
theorem act_cost {n:Nat} {co:RR} {l:List Out} (h:chkR co≠0):actE n ⟨co,l⟩=chkR co:=if_pos h
theorem act_3 {n:Nat} {co:RR} {l:List Out} (h:chkR co=0) (h2:l.length=0):actE n ⟨co,l⟩=3:=by unfold actE;rw [if_neg (by simpa using h),if_pos h2]
theorem act_4 {n:Nat} {co:RR} {l:List Out} (h:chkR co=0) (h2:l.length≠0) (h3:64 < l.length):actE n ⟨co,l⟩=4:=by unfold actE;rw [if_neg (by simpa using h),if_neg h2,if_pos h3]
theorem act_out {n:Nat} {co:RR} {l:List Out} (h:chkR co=0) (h2:l.length≠0) (h3:¬ 64 < l.length) {k:Nat} (hk:k < l.length) (h4:∀ j,j < k→outE n l j=0) {c:Int} (h5:outE n l k=c) (h6:c≠0):actE n ⟨co,l⟩=c:=by
 have e:=frstE_at h4 (by rw [h5];exact h6) hk;unfold actE;rw [if_neg (by simpa using h),if_neg h2,if_neg h3];dsimp only;rw [e,h5,if_pos h6]
theorem act_in {n:Nat} {co:RR} {l:List Out} (h:chkR co=0) (h2:l.length≠0) (h3:¬ 64 < l.length) (h4:∀ j,j < l.length→outE n l j=0):actE n ⟨co,l⟩=if (addL zR (prs l)).2≠0 then (addL zR (prs l)).2 else if (addL zR (prs l)).1=rep 1 then 0 else 2:=by
 have e:=frstE_zero h4;unfold actE;rw [if_neg (by simpa using h),if_neg h2,if_neg h3];dsimp only;rw [e,if_neg (fun h=>h rfl)]
theorem prs_len (l:List Out):(prs l).length=l.length:=by simp [prs]
theorem prs_at (l:List Out) (i:Nat):(prs l).getD i zR=(l.getD i dO).2:=by
 unfold prs;rw [List.getD_eq_getElem?_getD,List.getElem?_map,List.getD_eq_getElem?_getD];cases l[i]? <;> rfl
theorem addR_chk {a b:RR} (h:(addR a b).2=0):chkR (addR a b).1=0:=by
 unfold addR opR at h ⊢;split at h
 ·rename_i h0;rw [if_pos h0];unfold fitR at h ⊢;split at h
  ·rename_i h1;rw [if_pos h1];exact chk_rep h1
  ·cases h
 ·rename_i h0;exact absurd h h0
theorem cmp_one {r:RR} (hl:LimR r) (h:chkR r=0):cmpR r (rep ((1:Int):Rat))=(if r=rep 1 then 0 else (cmpR r (rep ((1:Int):Rat))).1,0)∧((cmpR r (rep ((1:Int):Rat))).1=0↔r=rep 1):=by
 have h1:chkR (rep ((1:Int):Rat))=0:=by kernel_rfl
 have hv:=(valid_rep hl h).2.2;have hq:qv (rep ((1:Int):Rat))=1:=qv_rep _;have hc:cmpR r (rep ((1:Int):Rat))=(cmpQ (qv r) 1,0):=by unfold cmpR;rw [if_pos (chkR2_ok h h1),hq]
 have hi:cmpQ (qv r) 1=0↔r=rep 1:=by
  unfold cmpQ;constructor
  ·intro e;split at e
   ·cases e
   ·split at e
    ·rename_i e2;rw [← hv,e2]
    ·cases e
  ·intro e;have e2:qv r=1:=by rw [e];exact hq
   rw [e2,if_neg (Rat.lt_irrefl),if_pos rfl]
 rw [hc];refine ⟨?_,hi⟩;dsimp only;split
 ·rename_i e;rw [hi.2 e]
 ·rfl
def mdcJ (s:RR) (c:Int) (j:Nat) (v:Value) (W:World):Prop:=
 match j with
 | 0=>∃ s1 s2 s3 s4,v=.agg #[.bool s.neg,.slice s1 s.num.length s2,.slice s3 s.den.length s4]∧RdR W (.agg #[.bool s.neg,.slice s1 s.num.length s2,.slice s3 s.den.length s4]) s
 | 1=>∃ v',v=v'∧RdR W v' (rep ((1:Int):Rat))
 | 2=>v=.tuple #[.int .i64 c,.int .i64 0]
 | 3=>v=.tuple #[.int .i64 c,.int .i64 0]
 | 4=>v=.int .i64 c
 | 5=>v=.int .i64 0
 | 6=>v=.int .i64 c
 | 7=>v=.int .i64 0
 | _=>True
theorem mdcJ_ext {s:RR} {c:Int} {j:Nat} {v:Value} {W W':World} (h:mdcJ s c j v W) (x:Ext W W'):mdcJ s c j v W':=by
 match j,h with
 | 0,⟨s1,s2,s3,s4,h1,h2⟩=>exact ⟨s1,s2,s3,s4,h1,h2.ext x⟩
 | 1,⟨v9,h1,h2⟩=>exact ⟨v9,h1,h2.ext x⟩
 | 2,h=>exact h
 | 3,h=>exact h
 | 4,h=>exact h
 | 5,h=>exact h
 | 6,h=>exact h
 | 7,h=>exact h
 | _+8,_=>trivial
theorem checkAct_any (v:Value) (x:DAct) (n:Nat) (w:World) (h:RdAct w v x) (hl:LimA x) :
  Calls Try.prog 69 #[v,.int .i64 (n:Nat)] w fun e w'=>e=.returned (.int .i64 (actE n x))∧Ext w w':=by
 obtain ⟨co,l⟩:=x;obtain ⟨a1,c1,a2,c2,a3,c3,rfl,hr,ho⟩:=h;obtain ⟨hl1,hl2⟩:=hl;dsimp only at hr ho hl1 hl2 ⊢;have hll:l.length≤9223372036854775807:=by obtain ⟨_,_,_,h⟩:=ho.shape;exact h
 have HR:=kI hr;have HO:=kI ho;have HL1:=kI hl1;have HL2:=kI hl2;clear hr ho hl1 hl2;have bb0:=(Blk.new w #[.bool co.neg,.slice a1 co.num.length c1,.slice a2 co.den.length c2,.slice a3 l.length c3] 68);have x0:Ext w (w.alloc (.cells #[.bool co.neg,.slice a1 co.num.length c1,.slice a2 co.den.length c2,.slice a3 l.length c3] 68)):=((Ext.refl w).alloc _);have A0:=kI bb0;have X:=kI x0;clear x0 bb0;replace HR:=kI (HR.o.ext X.o);replace HO:=kI (HO.o.ext X.o);go_enter Try.func69,Try.ntmps69
 obtain ⟨qA0,fA0,lA0⟩:=A0.o.q3;go_wp2_with fail;refine (checkR_any _ co _ HR.o HL1.o).mono ?_;rintro e w1 ⟨rfl,hx⟩;clear qA0 fA0 lA0;replace HR:=kI (HR.o.ext hx);replace HO:=kI (HO.o.ext hx);replace A0:=kI (A0.o.ext hx);replace X:=kI (X.o.trans hx);clear hx;by_cases h1:chkR co=0
 rotate_left
 ·have E:=kI (act_cost (n:=n) (l:=l) h1);obtain ⟨c,hc⟩:=gN (chkR co);rw [← hc] at E h1 ⊢;have q1:(c != 0)=true:=by simpa using h1
  clear h1 hc;go_wp2_with fail;go_ret;exact ⟨ret_int E.o.symm,X.o⟩
 rw [h1];by_cases h2:l.length=0
 ·have E:=kI (act_3 (n:=n) h1 h2);have q2:((l.length:Int) == 0)=true:=by simp [h2]
  clear h1 h2;obtain ⟨qA0,fA0,lA0⟩:=A0.o.q3;go_wp2_with fail;go_ret;exact ⟨ret_int E.o.symm,X.o⟩
 have q2:((l.length:Int) == 0)=false:=beq_eq_false_iff_ne.2 (by omega);by_cases h3:64 < l.length
 ·have E:=kI (act_4 (n:=n) h1 h2 h3);have q3:(64:Int) < (l.length:Int):=by omega
  clear h1 h2 h3;obtain ⟨qA0,fA0,lA0⟩:=A0.o.q3;go_wp2_with fail;go_ret;exact ⟨ret_int E.o.symm,X.o⟩
 have q3:¬ (64:Int) < (l.length:Int):=by omega
 have HE:=kI (fun (k:Nat) (hk:k < l.length) h4 (c:Int) h5 h6=>act_out (n:=n) (k:=k) (c:=c) h1 h2 h3 hk h4 h5 h6);have HI:=kI (act_in (n:=n) h1 h2 h3);clear h1;obtain ⟨qA0,fA0,lA0⟩:=A0.o.q3;go_wp2_with fail;clear qA0 fA0 lA0;clear q2 q3;obtain ⟨wb,hwb⟩:=gN (w1);rw [← hwb] at HR HO A0 X ⊢;clear hwb;obtain ⟨An,hAn⟩:=gN (w.heap.size);rw [← hAn] at A0 ⊢;clear hAn;go_loopw [35] (fun i wr=>∃ k:Nat,k≤l.length∧i=.int .i64 k∧(∀ j,j < k→outE n l j=0)∧Ext wb wr) (fun i _=>l.length - (intOf i).toNat)
 case atStart=>exact ⟨0,by omega,rfl,fun j hj=>by omega,Ext.refl wb⟩
 case round=>
  obtain ⟨wk,hwk⟩:=gN (wr);subst hwk;obtain ⟨k,hk,rfl,hok,hx⟩:=hrel;have OK:=kI hok;have XB:=kI hx;replace HR:=kI (HR.o.ext hx);replace HO:=kI (HO.o.ext hx);replace A0:=kI (A0.o.ext hx);replace X:=kI (X.o.trans hx);clear hok hx;by_cases hlt:k < l.length
  ·obtain ⟨b,off,p1,d1,p2,d2,rfl,z0,z1,z2,z3,z4,z5⟩:=HO.o.at hlt;have hy:=HL2.o k;obtain ⟨y,hyy⟩:=gN (l.getD k dO);rw [← hyy] at z1 z2 z3 z4 z5 hy;obtain ⟨tw,r⟩:=y;dsimp only at z1 z2 z3 z4 z5 hy;have NR:=kI z5;have HY:=kI hyy;have HLY:=kI hy;have q1:(0:Int)≤(k:Int):=by omega
   have q2:(k:Int) < (l.length:Int):=by omega
   clear z5 hyy hy;obtain ⟨wo,hwo⟩:=gN (wk.alloc (.cells #[.int .i64 tw,.bool r.neg,.slice p1 r.num.length d1,.slice p2 r.den.length d2] 79));have hx:Ext wk wo:=by rw [hwo];exact (Ext.refl _).alloc _
   have by0:Blk wo wk.heap.size #[.int .i64 tw,.bool r.neg,.slice p1 r.num.length d1,.slice p2 r.den.length d2] 79:=by rw [hwo];exact Blk.new _ _ _
   have HWO:=kI hwo;replace HR:=kI (HR.o.ext hx);replace HO:=kI (HO.o.ext hx);replace A0:=kI (A0.o.ext hx);replace NR:=kI (NR.o.ext hx);replace X:=kI (X.o.trans hx);obtain ⟨Yn,hYn⟩:=gN (wk.heap.size);have BY:=kI by0;have HYN:=kI hYn;rw [← hYn] at BY;have lY:=BY.o.lt;replace XB:=kI (XB.o.trans hx);have qY0:(wk.alloc (.cells #[.int .i64 tw,.bool r.neg,.slice p1 r.num.length d1,.slice p2 r.den.length d2] 79)).cell? ⟨wk.heap.size,0,none⟩=some (.int .i64 tw):=by rw [← hwo,← hYn];exact BY.o.cell 0
   clear hwo hx by0 hYn lY;by_cases d1:tw < 0
   ·have hE:outE n l k=8:=by
     unfold outE;rw [← HY.o];dsimp only;rw [if_pos (.inl d1)]
    have E:=kI (HE.o k hlt OK.o 8 hE (by decide));clear hE;go_wp2_with fail;go_ret;have:=X.o;exact ⟨ret_int E.o.symm,by rw [HWO.o] at this;exact this⟩
   by_cases d2:(n:Int)≤tw
   ·have hE:outE n l k=8:=by
     unfold outE;rw [← HY.o];dsimp only;rw [if_pos (.inr d2)]
    have E:=kI (HE.o k hlt OK.o 8 hE (by decide));clear hE;go_wp2_with fail;go_ret;have:=X.o;exact ⟨ret_int E.o.symm,by rw [HWO.o] at this;exact this⟩
   go_wp2_with fail;rw [← HWO.o,← HYN.o];clear HWO HYN qY0 z0 z1 z2 z3 z4;have D2:=kI (And.intro d1 d2);clear d1 d2;rcases Nat.eq_zero_or_pos k with h0|h0
   ·have D3:=kI (show ¬ (0 < k∧tw≤(l.getD (k - 1) dO).1) from by omega);have g1:decide ((0:Int) < (k:Int))=false:=decide_eq_false (by omega);go_quiet (fail)
    obtain ⟨wq,hwq⟩:=gN (wo.drewN nq);rw [← hwq];have hx:Ext wo wq:=by rw [hwq];exact (Ext.refl _).drewN _
    replace HR:=kI (HR.o.ext hx);replace HO:=kI (HO.o.ext hx);replace A0:=kI (A0.o.ext hx);replace NR:=kI (NR.o.ext hx);replace BY:=kI (BY.o.ext hx);replace X:=kI (X.o.trans hx);replace XB:=kI (XB.o.trans hx);clear hx hwq;obtain ⟨qA0,fA0,lA0⟩:=A0.o.q3;obtain ⟨qBY,fBY,lBY⟩:=BY.o.q3;go_wp2_with fail;refine (checkR_any _ r _ NR.o HLY.o).mono ?_;rintro e w2 ⟨rfl,hx⟩;clear qA0 fA0 lA0 qBY fBY lBY;replace HR:=kI (HR.o.ext hx);replace HO:=kI (HO.o.ext hx);replace A0:=kI (A0.o.ext hx);replace NR:=kI (NR.o.ext hx);replace BY:=kI (BY.o.ext hx);replace X:=kI (X.o.trans hx);replace XB:=kI (XB.o.trans hx);clear hx;by_cases e1:chkR r=0
    rotate_left
    ·have hE:outE n l k=chkR r:=by
      unfold outE;rw [← HY.o];dsimp only;rw [if_neg (by have:=D2.o;omega),if_neg D3.o,if_pos e1]
     have E:=kI (HE.o k hlt OK.o _ hE e1);clear hE;obtain ⟨c,hc⟩:=gN (chkR r);rw [← hc] at E e1 ⊢;have q4:(c != 0)=true:=by simpa using e1
     clear e1 hc;go_wp2_with fail;go_ret;exact ⟨ret_int E.o.symm,X.o⟩
    rw [e1];by_cases e2:r.neg=true∨r.num=[]
    ·have hE:outE n l k=1:=by
      unfold outE;rw [← HY.o];dsimp only;rw [if_neg (by have:=D2.o;omega),if_neg D3.o,if_neg (by simpa using e1),if_pos e2]
     have E:=kI (HE.o k hlt OK.o _ hE (by decide));clear hE e1;by_cases e3:r.neg=true
     ·clear e2;obtain ⟨qBY,fBY,lBY⟩:=BY.o.q3;go_wp2_with fail;go_ret;exact ⟨ret_int E.o.symm,X.o⟩
     ·have e4:r.neg=false:=by simpa using e3
      have q5:((r.num.length:Int) == 0)=true:=by
       rcases e2 with e2|e2
       ·exact absurd e2 e3
       ·simp [e2]
      clear e2 e3;obtain ⟨qBY,fBY,lBY⟩:=BY.o.q3;go_wp2_with fail;go_ret;exact ⟨ret_int E.o.symm,X.o⟩
    have hE:outE n l k=0:=by
     unfold outE;rw [← HY.o];dsimp only;rw [if_neg (by have:=D2.o;omega),if_neg D3.o,if_neg (by simpa using e1),if_neg e2]
    have e4:r.neg=false:=by
     cases hh:r.neg
     ·rfl
     ·exact absurd (.inl hh) e2
    have q5:((r.num.length:Int) == 0)=false:=beq_eq_false_iff_ne.2 (fun h=>e2 (.inr (List.length_eq_zero_iff.1 (by omega))));have hOK:∀ j,j < k+1→outE n l j=0:=fun j hj=>by
     by_cases e:j=k
     ·rw [e];exact hE
     ·exact OK.o j (by omega)
    have OK2:=kI hOK;clear hE e1 e2 hOK;obtain ⟨qBY,fBY,lBY⟩:=BY.o.q3;go_wp2_with fail;go_roundw
    case rel=>exact ⟨k+1,by omega,by go_num,OK2.o,XB.o⟩
    case measure=>simp [intOf];omega
   ·obtain ⟨m,hm⟩:∃ m,k=m+1:=⟨k - 1,by omega⟩;obtain ⟨b',off',p3,d3,p4,d4,eb,y0,y1,-,-,-,-⟩:=HO.o.at (show m < l.length by omega);injection eb with eb
    injection eb with eb1 eb2
    subst eb1;subst eb2;obtain ⟨zt,hzt⟩:=gN ((l.getD m dO).1);rw [← hzt] at y1;have g1:decide ((0:Int) < (k:Int))=true:=decide_eq_true (by omega);have g2:(k:Int) - 1=(m:Int):=by omega
    have g3:(0:Int)≤(m:Int):=by omega
    have g4:(m:Int) < (l.length:Int):=by omega
    have hk1:k - 1=m:=by omega
    by_cases d3:tw≤zt
    ·have hE:outE n l k=16:=by
      unfold outE;rw [← HY.o,hk1,← hzt];dsimp only;rw [if_neg (by have:=D2.o;omega),if_pos ⟨h0,d3⟩]
     have E:=kI (HE.o k hlt OK.o 16 hE (by decide));have g5:decide (tw≤zt)=true:=decide_eq_true d3;clear hE hk1 hzt hm;have g6:decide (0 < k)=true:=decide_eq_true h0;obtain ⟨qA0,fA0,lA0⟩:=A0.o.q3;obtain ⟨qBY,fBY,lBY⟩:=BY.o.q3;go_quiet (fail)
     obtain ⟨wq,hwq⟩:=gN (wo.drewN nq);rw [← hwq];have hx:Ext wo wq:=by rw [hwq];exact (Ext.refl _).drewN _
     clear qA0 fA0 lA0 qBY fBY lBY;replace HR:=kI (HR.o.ext hx);replace HO:=kI (HO.o.ext hx);replace A0:=kI (A0.o.ext hx);replace NR:=kI (NR.o.ext hx);replace BY:=kI (BY.o.ext hx);replace X:=kI (X.o.trans hx);replace XB:=kI (XB.o.trans hx);clear hx hwq;go_wp2_with fail;go_ret;exact ⟨ret_int E.o.symm,X.o⟩
    have D3:=kI (show ¬ (0 < k∧tw≤(l.getD (k - 1) dO).1) from by rw [hk1,← hzt];omega);have g5:decide (tw≤zt)=false:=decide_eq_false d3;clear hk1 hzt hm d3;have g6:decide (0 < k)=true:=decide_eq_true h0;obtain ⟨qA0,fA0,lA0⟩:=A0.o.q3;obtain ⟨qBY,fBY,lBY⟩:=BY.o.q3;go_quiet (fail)
    obtain ⟨wq,hwq⟩:=gN (wo.drewN nq);rw [← hwq];have hx:Ext wo wq:=by rw [hwq];exact (Ext.refl _).drewN _
    clear qA0 fA0 lA0 qBY fBY lBY;replace HR:=kI (HR.o.ext hx);replace HO:=kI (HO.o.ext hx);replace A0:=kI (A0.o.ext hx);replace NR:=kI (NR.o.ext hx);replace BY:=kI (BY.o.ext hx);replace X:=kI (X.o.trans hx);replace XB:=kI (XB.o.trans hx);clear hx hwq;clear y0 y1 g1 g2 g3 g4 g5 g6 h0;obtain ⟨qA0,fA0,lA0⟩:=A0.o.q3;obtain ⟨qBY,fBY,lBY⟩:=BY.o.q3;go_wp2_with fail;refine (checkR_any _ r _ NR.o HLY.o).mono ?_;rintro e w2 ⟨rfl,hx⟩;clear qA0 fA0 lA0 qBY fBY lBY;replace HR:=kI (HR.o.ext hx);replace HO:=kI (HO.o.ext hx);replace A0:=kI (A0.o.ext hx);replace NR:=kI (NR.o.ext hx);replace BY:=kI (BY.o.ext hx);replace X:=kI (X.o.trans hx);replace XB:=kI (XB.o.trans hx);clear hx;by_cases e1:chkR r=0
    rotate_left
    ·have hE:outE n l k=chkR r:=by
      unfold outE;rw [← HY.o];dsimp only;rw [if_neg (by have:=D2.o;omega),if_neg D3.o,if_pos e1]
     have E:=kI (HE.o k hlt OK.o _ hE e1);clear hE;obtain ⟨c,hc⟩:=gN (chkR r);rw [← hc] at E e1 ⊢;have q4:(c != 0)=true:=by simpa using e1
     clear e1 hc;go_wp2_with fail;go_ret;exact ⟨ret_int E.o.symm,X.o⟩
    rw [e1];by_cases e2:r.neg=true∨r.num=[]
    ·have hE:outE n l k=1:=by
      unfold outE;rw [← HY.o];dsimp only;rw [if_neg (by have:=D2.o;omega),if_neg D3.o,if_neg (by simpa using e1),if_pos e2]
     have E:=kI (HE.o k hlt OK.o _ hE (by decide));clear hE e1;by_cases e3:r.neg=true
     ·clear e2;obtain ⟨qBY,fBY,lBY⟩:=BY.o.q3;go_wp2_with fail;go_ret;exact ⟨ret_int E.o.symm,X.o⟩
     ·have e4:r.neg=false:=by simpa using e3
      have q5:((r.num.length:Int) == 0)=true:=by
       rcases e2 with e2|e2
       ·exact absurd e2 e3
       ·simp [e2]
      clear e2 e3;obtain ⟨qBY,fBY,lBY⟩:=BY.o.q3;go_wp2_with fail;go_ret;exact ⟨ret_int E.o.symm,X.o⟩
    have hE:outE n l k=0:=by
     unfold outE;rw [← HY.o];dsimp only;rw [if_neg (by have:=D2.o;omega),if_neg D3.o,if_neg (by simpa using e1),if_neg e2]
    have e4:r.neg=false:=by
     cases hh:r.neg
     ·rfl
     ·exact absurd (.inl hh) e2
    have q5:((r.num.length:Int) == 0)=false:=beq_eq_false_iff_ne.2 (fun h=>e2 (.inr (List.length_eq_zero_iff.1 (by omega))));have hOK:∀ j,j < k+1→outE n l j=0:=fun j hj=>by
     by_cases e:j=k
     ·rw [e];exact hE
     ·exact OK.o j (by omega)
    have OK2:=kI hOK;clear hE e1 e2 hOK;obtain ⟨qBY,fBY,lBY⟩:=BY.o.q3;go_wp2_with fail;go_roundw
    case rel=>exact ⟨k+1,by omega,by go_num,OK2.o,XB.o⟩
    case measure=>simp [intOf];omega
  ·obtain rfl:k=l.length:=by omega
   have q1:¬ (l.length:Int) < (l.length:Int):=by omega
   have hI:=HI.o OK.o;clear HE;obtain ⟨qA0,fA0,lA0⟩:=A0.o.q3;go_wp2_with fail;clear qA0 fA0 lA0;obtain ⟨wz,hwz⟩:=gN (wk.alloc (.cells #[.bool false,.slice none 0 0,.slice none 0 0] 25));have hx:Ext wk wz:=by rw [hwz];exact (Ext.refl _).alloc _
   have hb0:Blk wz wk.heap.size #[.bool false,.slice none 0 0,.slice none 0 0] 25:=by rw [hwz];exact Blk.new _ _ _
   rw [← hwz];obtain ⟨Bn,hBn⟩:=gN (wk.heap.size);rw [← hBn] at hb0 ⊢;have hs0:SumB wz Bn 25 zR:=⟨_,_,_,_,hb0,(NewR.zero wz wz).rd⟩;have HS0:=kI hs0;have HX0:=kI hx;have HBN:=kI (Nat.le_of_eq hBn.symm);have HI2:=kI hI;have HWB:=kI (Nat.le_trans X.o.size (Nat.le_of_eq hBn.symm));clear hwz hx hb0 hBn hs0 hI HI;go_loopw [10,88] (fun e i wr=>∃ (k:Nat) (s:RR),k≤l.length∧i=.int .i64 k∧e=.int .i64 0∧addL zR (prs l)=addL s ((prs l).drop k)∧LimR s∧chkR s=0∧SumB wr Bn 25 s∧Ext wk wr) (fun _ i _=>l.length - (intOf i).toNat)
   case atStart=>exact ⟨0,zR,by omega,rfl,rfl,by rw [List.drop_zero],zR_lim,rfl,HS0.o,HX0.o⟩
   case round=>
    obtain ⟨wj,hwj⟩:=gN (wr);subst hwj;obtain ⟨j,s,hj,rfl,rfl,hsum,hsl,hsc,hsb,hx⟩:=hrel;replace HO:=kI (HO.o.ext hx);replace A0:=kI (A0.o.ext hx);replace X:=kI (X.o.trans hx);have XK:=kI hx;have HSUM:=kI hsum;have HSL:=kI hsl;have HSC:=kI hsc;obtain ⟨g1,g2,g3,g4,hbs,hns⟩:=hsb;have BS:=kI hbs;have NS:=kI hns;clear hx hsum hsl hsc hbs hns;by_cases hlt:j < l.length
    ·obtain ⟨b,off,p1,d1,p2,d2,rfl,z0,z1,z2,z3,z4,z5⟩:=HO.o.at hlt;have hy:=HL2.o j;have hst:=addL_step (s:=s) (l:=prs l) (k:=j) (by rw [prs_len];exact hlt);rw [prs_at] at hst;obtain ⟨y,hyy⟩:=gN (l.getD j dO);rw [← hyy] at z1 z2 z3 z4 z5 hy hst;obtain ⟨tw,r⟩:=y;dsimp only at z1 z2 z3 z4 z5 hy hst;have NR:=kI z5;have had:=fun W v1 v2 (e1:RdR W v1 s) (e2:RdR W v2 r)=>addR_any v1 v2 s r W e1 e2 HSL.o hy;have hchk:(addR s r).2=0→chkR (addR s r).1=0:=fun h=>addR_chk h;have hlim:=addR_lim s r;obtain ⟨T,hT⟩:=gN (addR s r);rw [← hT] at had hst hchk hlim;obtain ⟨s2,e2⟩:=T;dsimp only at hst hchk hlim;unfold ResR at had;dsimp only at had;have HAD:=kI had;have HST:=kI hst;have HCH:=kI hchk;have HLI:=kI hlim;have q1:(0:Int)≤(j:Int):=by omega
     have q2:(j:Int) < (l.length:Int):=by omega
     clear z5 hyy hy had hst hchk hlim hT;obtain ⟨wo,hwo⟩:=gN (wj.alloc (.cells #[.int .i64 tw,.bool r.neg,.slice p1 r.num.length d1,.slice p2 r.den.length d2] 79));have hx:Ext wj wo:=by rw [hwo];exact (Ext.refl _).alloc _
     have by0:Blk wo wj.heap.size #[.int .i64 tw,.bool r.neg,.slice p1 r.num.length d1,.slice p2 r.den.length d2] 79:=by rw [hwo];exact Blk.new _ _ _
     replace HO:=kI (HO.o.ext hx);replace A0:=kI (A0.o.ext hx);replace BS:=kI (BS.o.ext hx);replace NS:=kI (NS.o.ext hx);replace NR:=kI (NR.o.ext hx);replace X:=kI (X.o.trans hx);replace XK:=kI (XK.o.trans hx);have BY:=kI by0;clear hx by0;have HWO:=kI hwo;have qB:=BS.o.cell;have lB:=BS.o.lt;have fB:=BS.o.free;have qY:=BY.o.cell;have lY:=BY.o.lt;have fY:=BY.o.free;rw [hwo] at qB lB fB qY lY fY;clear hwo;go_wp2_with fail;clear qB lB fB qY lY fY z0 z1 z2 z3 z4;rw [← HWO.o];refine (HAD.o _ _ _ NS.o NR.o).mono ?_;rintro e w2 ⟨⟨v,rfl,nn⟩,hx⟩;replace HO:=kI (HO.o.ext hx);replace A0:=kI (A0.o.ext hx);replace BS:=kI (BS.o.ext hx);replace NS:=kI (NS.o.ext hx);replace NR:=kI (NR.o.ext hx);replace BY:=kI (BY.o.ext hx);replace X:=kI (X.o.trans hx);obtain ⟨x1,x2,x3,x4,rfl⟩:=nn.shape;have N2:=kI nn.rd;replace XK:=kI (XK.o.trans hx);clear nn hx HAD HWO;obtain ⟨qBS,fBS,lBS⟩:=BS.o.q3;by_cases he:e2=0
     rotate_left
     ·have hE:actE n ⟨co,l⟩=e2:=by rw [HI2.o,HSUM.o,HST.o,if_neg he];dsimp only;rw [if_pos he]
      have E:=kI hE;have q4:(e2 != 0)=true:=by simpa using he
      clear hE he;go_wp2_with fail;go_ret;exact ⟨ret_int E.o.symm,ext_put3 (o:=0) X.o HWB.o⟩
     subst he;have hs2:addL s ((prs l).drop j)=addL s2 ((prs l).drop (j+1)):=by rw [HST.o,if_pos rfl]
     have hp:=SumB.put (t:=25) ⟨_,_,_,_,BS.o,NS.o⟩ N2.o;have hxk:=ext_put3 (x:=.bool s2.neg) (y:=.slice x1 s2.num.length x2) (z:=.slice x3 s2.den.length x4) (o:=0) XK.o HBN.o;have HS2:=kI (HSUM.o.trans hs2);have HPP:=kI hp;have HXK:=kI hxk;clear hs2 hp hxk;go_wp2_with fail;go_roundw
     case rel=>exact ⟨j+1,s2,by omega,by go_num,rfl,HS2.o,HLI.o,HCH.o (by first|trivial|rfl),HPP.o,HXK.o⟩
     case measure=>simp [intOf];omega
    ·obtain rfl:j=l.length:=by omega
     have q1:¬ (l.length:Int) < (l.length:Int):=by omega
     have hend:addL zR (prs l)=(s,0):=by
      rw [HSUM.o,List.drop_of_length_le (by rw [prs_len];exact Nat.le_refl _)];rfl
     have hE:=HI2.o;rw [hend] at hE;dsimp only at hE;rw [if_neg (fun h=>h rfl)] at hE;obtain ⟨hc1,hc2⟩:=cmp_one HSL.o HSC.o;have hcm:=fun W v1 v2 (e1:RdR W v1 s) (e2:RdR W v2 (rep ((1:Int):Rat)))=>cmpR_any v1 v2 s _ W e1 e2 HSL.o (limR_rep _);obtain ⟨T,hT⟩:=gN (cmpR s (rep ((1:Int):Rat)));have hT2:T.2=0:=by rw [hT,hc1]
     rw [← hT] at hcm hc2;obtain ⟨c,ce⟩:=T;dsimp only at hT2 hc2;subst hT2;have HCM:=kI hcm;have HC2:=kI hc2;have E:=kI hE;clear hend hE hc1 hc2 hcm hT;go_wp2_with fail;refine wp_region_each (mdcJ s c) (by kernel_rfl) (by kernel_rfl) (by kernel_rfl) (fun _ _ _ _ h x=>mdcJ_ext h x) ?_ ?_
     ·refine ⟨?_,?_,?_,?_,?_,?_,?_,?_,trivial⟩
      ·intro a W hW hB hD K hK;have b9:=hB 9 rfl;simp only [sB] at b9;have q9:=(BS.o.ext hW).cell;have l9:=(BS.o.ext hW).lt;go_simp;exact hK _ _ (Ext.refl _) ⟨_,_,_,_,rfl,NS.o.ext hW⟩
      ·intro a W hW hB hD K hK;go_simp;refine (fromR_any 1 W (by omega) (by omega)).mono ?_;rintro e w9 ⟨⟨v,rfl,nn⟩,hx⟩;exact hK _ _ hx ⟨_,rfl,nn.rd⟩
      ·intro a W hW hB hD K hK;obtain ⟨v104,e104,h104⟩:=dpE (hD 0 _ 104 rfl rfl (by kernel_rfl));obtain ⟨d1,d2,d3,d4,rfl,dh⟩:=h104;obtain ⟨v105,e105,h105⟩:=dpE (hD 1 _ 105 rfl rfl (by kernel_rfl));obtain ⟨e1,rfl,eh⟩:=h105;go_simp;refine (HCM.o _ _ _ dh eh).mono ?_;rintro e w9 ⟨rfl,hx⟩;exact hK _ _ hx rfl
      ·intro a W hW hB hD K hK;obtain ⟨v106,e106,h106⟩:=dpE (hD 2 _ 106 rfl rfl (by kernel_rfl));obtain rfl:=h106;go_simp;exact hK _ _ (Ext.refl _) rfl
      ·intro a W hW hB hD K hK;obtain ⟨v103,e103,h103⟩:=dpE (hD 3 _ 103 rfl rfl (by kernel_rfl));obtain rfl:=h103;go_simp;exact hK _ _ (Ext.refl _) rfl
      ·intro a W hW hB hD K hK;obtain ⟨v103,e103,h103⟩:=dpE (hD 3 _ 103 rfl rfl (by kernel_rfl));obtain rfl:=h103;go_simp;exact hK _ _ (Ext.refl _) rfl
      ·intro a W hW hB hD K hK;obtain ⟨v107,e107,h107⟩:=dpE (hD 4 _ 107 rfl rfl (by kernel_rfl));obtain rfl:=h107;go_simp;exact hK _ _ (Ext.refl _) rfl
      ·intro a W hW hB hD K hK;obtain ⟨v108,e108,h108⟩:=dpE (hD 5 _ 108 rfl rfl (by kernel_rfl));obtain rfl:=h108;go_simp;exact hK _ _ (Ext.refl _) rfl
     intro w9 hx;simp only [Vals];rintro u0 - u1 - u2 - u3 - u4 - u5 - u6 h6 u7 h7;obtain rfl:u6=.int .i64 c:=h6;obtain rfl:u7=.int .i64 0:=h7;simp only [Act.put,List.setIfInBounds_toArray,List.set_cons_zero,List.set_cons_succ];replace X:=kI (X.o.trans hx);clear hx;by_cases hs1:s=rep 1
     ·have E:=kI (E.o.trans (if_pos hs1));have hc:=HC2.o.2 hs1;have q4:(c != 0)=false:=by simp [hc]
      clear hc hs1;go_wp2_with fail;go_ret;exact ⟨ret_int E.o.symm,X.o⟩
     ·have E:=kI (E.o.trans (if_neg hs1));have hc:c≠0:=fun h=>hs1 (HC2.o.1 h);have q4:(c != 0)=true:=by simpa using hc
      clear hc hs1;go_wp2_with fail;go_ret;exact ⟨ret_int E.o.symm,X.o⟩
theorem st_3 {n:Nat} {ac:List DAct} (h:ac.length=0):stE n ac=3:=if_pos h
theorem st_4 {n:Nat} {ac:List DAct} (h:ac.length≠0) (h2:6 < ac.length):stE n ac=4:=by unfold stE;rw [if_neg h,if_pos h2]
theorem st_act {n:Nat} {ac:List DAct} (h:ac.length≠0) (h2:¬ 6 < ac.length) {a:Nat} (ha:a < ac.length) (h4:∀ j,j < a→actE n (ac.getD j dA)=0) {c:Int} (h5:actE n (ac.getD a dA)=c) (h6:c≠0):stE n ac=c:=by
 have e:=frstE_at (f:=fun a=>actE n (ac.getD a dA)) (k:=a) h4 (by show actE n (ac.getD a dA)≠0;rw [h5];exact h6) ha;unfold stE;rw [if_neg h,if_neg h2,e];exact h5
theorem st_ok {n:Nat} {ac:List DAct} (h:ac.length≠0) (h2:¬ 6 < ac.length) (h4:∀ j,j < ac.length→actE n (ac.getD j dA)=0):stE n ac=0:=by
 unfold stE;rw [if_neg h,if_neg h2];exact frstE_zero h4
theorem md_1 {d:RR} {ss:List (List DAct)} (h:chkR d≠0):mdE ⟨d,ss⟩=chkR d:=if_pos h
theorem md_arg {d:RR} {ss:List (List DAct)} (h:chkR d=0) (h2:d.neg=true∨1 < qv d):mdE ⟨d,ss⟩=1:=by unfold mdE;rw [if_neg (by simpa using h),if_pos h2]
theorem md_3 {d:RR} {ss:List (List DAct)} (h:chkR d=0) (h2:¬ (d.neg=true∨1 < qv d)) (h3:ss.length=0):mdE ⟨d,ss⟩=3:=by unfold mdE;rw [if_neg (by simpa using h),if_neg h2,if_pos h3]
theorem md_4 {d:RR} {ss:List (List DAct)} (h:chkR d=0) (h2:¬ (d.neg=true∨1 < qv d)) (h3:ss.length≠0) (h4:200 < ss.length):mdE ⟨d,ss⟩=4:=by unfold mdE;rw [if_neg (by simpa using h),if_neg h2,if_neg h3,if_pos h4]
theorem md_st {d:RR} {ss:List (List DAct)} (h:chkR d=0) (h2:¬ (d.neg=true∨1 < qv d)) (h3:ss.length≠0) (h4:¬ 200 < ss.length) {k:Nat} (hk:k < ss.length) (h5:∀ j,j < k→stE ss.length (ss.getD j [])=0) {c:Int} (h6:stE ss.length (ss.getD k [])=c) (h7:c≠0):mdE ⟨d,ss⟩=c:=by
 have e:=frstE_at (f:=fun s=>stE ss.length (ss.getD s [])) (k:=k) h5 (by show stE ss.length (ss.getD k [])≠0;rw [h6];exact h7) hk;unfold mdE;rw [if_neg (by simpa using h),if_neg h2,if_neg h3,if_neg h4];exact e.trans h6
theorem md_ok {d:RR} {ss:List (List DAct)} (h:chkR d=0) (h2:¬ (d.neg=true∨1 < qv d)) (h3:ss.length≠0) (h4:¬ 200 < ss.length) (h5:∀ j,j < ss.length→stE ss.length (ss.getD j [])=0):mdE ⟨d,ss⟩=0:=by
 unfold mdE;rw [if_neg (by simpa using h),if_neg h2,if_neg h3,if_neg h4];exact frstE_zero h5
theorem cmp_gt1 {r:RR} (h:chkR r=0):(cmpR r (rep ((1:Int):Rat))).2=0∧(0 < (cmpR r (rep ((1:Int):Rat))).1↔1 < qv r):=by
 have h1:chkR (rep ((1:Int):Rat))=0:=by kernel_rfl
 have hq:qv (rep ((1:Int):Rat))=1:=qv_rep _;have hc:cmpR r (rep ((1:Int):Rat))=(cmpQ (qv r) 1,0):=by unfold cmpR;rw [if_pos (chkR2_ok h h1),hq]
 rw [hc];refine ⟨rfl,?_⟩;dsimp only;unfold cmpQ;constructor
 ·intro e;split at e
  ·omega
  ·rename_i e1;split at e
   ·omega
   ·rename_i e2;have:=Rat.not_lt.1 e1;rcases Rat.le_iff_lt_or_eq.1 this with h|h
    ·exact h
    ·exact absurd h.symm e2
 ·intro e;rw [if_neg (fun h=>absurd (Rat.le_of_lt h) (Rat.not_le.2 e)),if_neg (fun h=>by rw [h] at e;exact Rat.lt_irrefl e)];decide
def mddJ (A:Nat) (s:RR) (c:Int) (j:Nat) (v:Value) (W:World):Prop:=
 match j with
 | 0=>v=.pointer (some ⟨A,0,none⟩)
 | 1=>∃ s1 s2 s3 s4,v=.agg #[.bool s.neg,.slice s1 s.num.length s2,.slice s3 s.den.length s4]∧RdR W (.agg #[.bool s.neg,.slice s1 s.num.length s2,.slice s3 s.den.length s4]) s
 | 2=>∃ v',v=v'∧RdR W v' (rep ((1:Int):Rat))
 | 3=>v=.tuple #[.int .i64 c,.int .i64 0]
 | 4=>v=.tuple #[.int .i64 c,.int .i64 0]
 | 5=>v=.int .i64 c
 | 6=>v=.int .i64 0
 | 7=>v=.int .i64 c
 | 8=>v=.int .i64 0
 | _=>True
theorem mddJ_ext {A:Nat} {s:RR} {c:Int} {j:Nat} {v:Value} {W W':World} (h:mddJ A s c j v W) (x:Ext W W'):mddJ A s c j v W':=by
 match j,h with
 | 0,h=>exact h
 | 1,⟨s1,s2,s3,s4,h1,h2⟩=>exact ⟨s1,s2,s3,s4,h1,h2.ext x⟩
 | 2,⟨v9,h1,h2⟩=>exact ⟨v9,h1,h2.ext x⟩
 | 3,h=>exact h
 | 4,h=>exact h
 | 5,h=>exact h
 | 6,h=>exact h
 | 7,h=>exact h
 | 8,h=>exact h
 | _+9,_=>trivial
theorem mdCheck_any (v:Value) (m:MD) (w:World) (h:RdM w v m) (hl:LimM m) :
  Calls Try.prog 43 #[v] w fun e w'=>e=.returned (.int .i64 (mdE m))∧Ext w w':=by
 obtain ⟨d,ss⟩:=m;obtain ⟨a1,c1,a2,c2,a3,c3,rfl,hr,ho⟩:=h;obtain ⟨hl1,hl2⟩:=hl;unfold MD.act at hl2;dsimp only at hr ho hl1 hl2 ⊢;have hll:ss.length≤9223372036854775807:=by obtain ⟨_,_,_,h⟩:=ho.shape;exact h
 have HR:=kI hr;have HO:=kI ho;have HL1:=kI hl1;have HL2:=kI hl2;clear hr ho hl1 hl2;have bb0:=(Blk.new w #[.bool d.neg,.slice a1 d.num.length c1,.slice a2 d.den.length c2,.slice a3 ss.length c3] 28);have x0:Ext w (w.alloc (.cells #[.bool d.neg,.slice a1 d.num.length c1,.slice a2 d.den.length c2,.slice a3 ss.length c3] 28)):=((Ext.refl w).alloc _);have A0:=kI bb0;have X:=kI x0;clear x0 bb0;replace HR:=kI (HR.o.ext X.o);replace HO:=kI (HO.o.ext X.o);go_enter Try.func43,Try.ntmps43
 obtain ⟨qA0,fA0,lA0⟩:=A0.o.q3;go_wp2_with fail;refine (checkR_any _ d _ HR.o HL1.o).mono ?_;rintro e w1 ⟨rfl,hx⟩;clear qA0 fA0 lA0;replace HR:=kI (HR.o.ext hx);replace HO:=kI (HO.o.ext hx);replace A0:=kI (A0.o.ext hx);replace X:=kI (X.o.trans hx);clear hx;by_cases h1:chkR d=0
 rotate_left
 ·have E:=kI (md_1 (ss:=ss) h1);obtain ⟨c,hc⟩:=gN (chkR d);rw [← hc] at E h1 ⊢;have q1:(c != 0)=true:=by simpa using h1
  clear h1 hc;go_wp2_with fail;go_ret;exact ⟨ret_int E.o.symm,X.o⟩
 rw [h1];obtain ⟨hc0,hc1⟩:=cmp_gt1 h1;have hcm:=fun W v1 v2 (e1:RdR W v1 d) (e2:RdR W v2 (rep ((1:Int):Rat)))=>cmpR_any v1 v2 d _ W e1 e2 HL1.o (limR_rep _);obtain ⟨T,hT⟩:=gN (cmpR d (rep ((1:Int):Rat)));rw [← hT] at hcm hc0 hc1;obtain ⟨c,ce⟩:=T;dsimp only at hc0 hc1;subst hc0;have HCM:=kI hcm;have HC1:=kI hc1;clear hc1 hcm hT;obtain ⟨qA0,fA0,lA0⟩:=A0.o.q3;go_wp2_with fail;clear qA0 fA0 lA0;obtain ⟨wb,hwb⟩:=gN (w1);rw [← hwb] at HR HO A0 X ⊢;clear hwb;obtain ⟨An,hAn⟩:=gN (w.heap.size);rw [← hAn] at A0 ⊢;clear hAn;refine wp_region_each (mddJ An d c) (by kernel_rfl) (by kernel_rfl) (by kernel_rfl) (fun _ _ _ _ h x=>mddJ_ext h x) ?_ ?_
 ·refine ⟨?_,?_,?_,?_,?_,?_,?_,?_,?_,trivial⟩
  ·intro a W hW hB hD K hK;have b1:=hB 1 rfl;simp only [sB] at b1;go_simp;exact hK _ _ (Ext.refl _) rfl
  ·intro a W hW hB hD K hK;obtain ⟨v18,e18,h18⟩:=dpE (hD 0 _ 18 rfl rfl (by kernel_rfl));obtain rfl:=h18;have q9:=(A0.o.ext hW).cell;have l9:=(A0.o.ext hW).lt;go_simp;exact hK _ _ (Ext.refl _) ⟨_,_,_,_,rfl,HR.o.ext hW⟩
  ·intro a W hW hB hD K hK;go_simp;refine (fromR_any 1 W (by omega) (by omega)).mono ?_;rintro e w9 ⟨⟨v,rfl,nn⟩,hx⟩;exact hK _ _ hx ⟨_,rfl,nn.rd⟩
  ·intro a W hW hB hD K hK;obtain ⟨v19,e19,h19⟩:=dpE (hD 1 _ 19 rfl rfl (by kernel_rfl));obtain ⟨d1,d2,d3,d4,rfl,dh⟩:=h19;obtain ⟨v20,e20,h20⟩:=dpE (hD 2 _ 20 rfl rfl (by kernel_rfl));obtain ⟨e1,rfl,eh⟩:=h20;go_simp;refine (HCM.o _ _ _ dh eh).mono ?_;rintro e w9 ⟨rfl,hx⟩;exact hK _ _ hx rfl
  ·intro a W hW hB hD K hK;obtain ⟨v21,e21,h21⟩:=dpE (hD 3 _ 21 rfl rfl (by kernel_rfl));obtain rfl:=h21;go_simp;exact hK _ _ (Ext.refl _) rfl
  ·intro a W hW hB hD K hK;obtain ⟨v17,e17,h17⟩:=dpE (hD 4 _ 17 rfl rfl (by kernel_rfl));obtain rfl:=h17;go_simp;exact hK _ _ (Ext.refl _) rfl
  ·intro a W hW hB hD K hK;obtain ⟨v17,e17,h17⟩:=dpE (hD 4 _ 17 rfl rfl (by kernel_rfl));obtain rfl:=h17;go_simp;exact hK _ _ (Ext.refl _) rfl
  ·intro a W hW hB hD K hK;obtain ⟨v22,e22,h22⟩:=dpE (hD 5 _ 22 rfl rfl (by kernel_rfl));obtain rfl:=h22;go_simp;exact hK _ _ (Ext.refl _) rfl
  ·intro a W hW hB hD K hK;obtain ⟨v23,e23,h23⟩:=dpE (hD 6 _ 23 rfl rfl (by kernel_rfl));obtain rfl:=h23;go_simp;exact hK _ _ (Ext.refl _) rfl
 intro w9 hx;simp only [Vals];rintro u0 - u1 - u2 - u3 - u4 - u5 - u6 - u7 h7 u8 h8;obtain rfl:u7=.int .i64 c:=h7;obtain rfl:u8=.int .i64 0:=h8;simp only [Act.put,List.setIfInBounds_toArray,List.set_cons_zero,List.set_cons_succ];replace HR:=kI (HR.o.ext hx);replace HO:=kI (HO.o.ext hx);replace A0:=kI (A0.o.ext hx);replace X:=kI (X.o.trans hx);clear hx HCM;by_cases h2:d.neg=true∨1 < qv d
 ·have E:=kI (md_arg (ss:=ss) h1 h2);by_cases h3:d.neg=true
  ·clear h1 h2;obtain ⟨qA0,fA0,lA0⟩:=A0.o.q3;go_wp2_with fail;go_ret;exact ⟨ret_int E.o.symm,X.o⟩
  ·have h4:d.neg=false:=by simpa using h3
   have q5:(0:Int) < c:=HC1.o.2 (h2.resolve_left h3);clear h1 h2 h3;obtain ⟨qA0,fA0,lA0⟩:=A0.o.q3;go_wp2_with fail;go_ret;exact ⟨ret_int E.o.symm,X.o⟩
 have h4:d.neg=false:=by
  cases hh:d.neg
  ·rfl
  ·exact absurd (.inl hh) h2
 have q5:¬ (0:Int) < c:=fun h=>h2 (.inr (HC1.o.1 h));by_cases h3:ss.length=0
 ·have E:=kI (md_3 h1 h2 h3);have q6:((ss.length:Int) == 0)=true:=by simp [h3]
  clear h1 h2 h3;obtain ⟨qA0,fA0,lA0⟩:=A0.o.q3;go_wp2_with fail;go_ret;exact ⟨ret_int E.o.symm,X.o⟩
 have q6:((ss.length:Int) == 0)=false:=beq_eq_false_iff_ne.2 (by omega);by_cases h5:200 < ss.length
 ·have E:=kI (md_4 h1 h2 h3 h5);have q7:(200:Int) < (ss.length:Int):=by omega
  clear h1 h2 h3 h5;obtain ⟨qA0,fA0,lA0⟩:=A0.o.q3;go_wp2_with fail;go_ret;exact ⟨ret_int E.o.symm,X.o⟩
 have q7:¬ (200:Int) < (ss.length:Int):=by omega
 have HE:=kI (fun (k:Nat) (hk:k < ss.length) g4 (c:Int) g5 g6=>md_st (k:=k) (c:=c) h1 h2 h3 h5 hk g4 g5 g6);have HI:=kI (md_ok h1 h2 h3 h5);clear h1 h2;obtain ⟨qA0,fA0,lA0⟩:=A0.o.q3;go_wp2_with fail;clear qA0 fA0 lA0;clear q5 q6 q7 h4;go_loopw [45] (fun i wr=>∃ k:Nat,k≤ss.length∧i=.int .i64 k∧(∀ j,j < k→stE ss.length (ss.getD j [])=0)∧Ext w9 wr) (fun i _=>ss.length - (intOf i).toNat)
 case atStart=>exact ⟨0,by omega,rfl,fun j hj=>by omega,Ext.refl w9⟩
 case round=>
  obtain ⟨wk,hwk⟩:=gN (wr);subst hwk;obtain ⟨k,hk,rfl,hok,hx⟩:=hrel;have OK:=kI hok;have XB:=kI hx;replace HO:=kI (HO.o.ext hx);replace A0:=kI (A0.o.ext hx);replace X:=kI (X.o.trans hx);clear hok hx;by_cases hlt:k < ss.length
  ·obtain ⟨b,off,ai,ci,rfl,z0,z1,z2⟩:=HO.o.at hlt;have hla:=HL2.o k;obtain ⟨ac,hac⟩:=gN (ss.getD k []);rw [← hac] at z1 z2 hla;have hal:ac.length≤9223372036854775807:=by obtain ⟨_,_,_,h⟩:=z2.shape;exact h
   have RA:=kI z2;have HAC:=kI hac;have HLA:=kI hla;have q1:(0:Int)≤(k:Int):=by omega
   have q2:(k:Int) < (ss.length:Int):=by omega
   clear z2 hac hla;by_cases g1:ac.length=0
   ·have E:=kI (HE.o k hlt OK.o 3 (by rw [← HAC.o];exact st_3 g1) (by decide));have q3:((ac.length:Int) == 0)=true:=by simp [g1]
    clear g1;go_wp2_with fail;go_ret;exact ⟨ret_int E.o.symm,X.o⟩
   have q3:((ac.length:Int) == 0)=false:=beq_eq_false_iff_ne.2 (by omega);by_cases g2:6 < ac.length
   ·have E:=kI (HE.o k hlt OK.o 4 (by rw [← HAC.o];exact st_4 g1 g2) (by decide));have q4:(6:Int) < (ac.length:Int):=by omega
    clear g1 g2;go_wp2_with fail;go_ret;exact ⟨ret_int E.o.symm,X.o⟩
   have q4:¬ (6:Int) < (ac.length:Int):=by omega
   go_wp2_with fail;clear q3 q4 z0 z1;go_loopw [59] (fun i wr=>∃ j:Nat,j≤ac.length∧i=.int .i64 j∧(∀ i,i < j→actE ss.length (ac.getD i dA)=0)∧Ext wk wr) (fun i _=>ac.length - (intOf i).toNat)
   case atStart=>exact ⟨0,by omega,rfl,fun j hj=>by omega,Ext.refl wk⟩
   case round=>
    obtain ⟨wj,hwj⟩:=gN (wr);subst hwj;obtain ⟨j,hj,rfl,hoa,hx⟩:=hrel;have OA:=kI hoa;have XK:=kI hx;replace HO:=kI (HO.o.ext hx);replace A0:=kI (A0.o.ext hx);replace RA:=kI (RA.o.ext hx);replace X:=kI (X.o.trans hx);clear hoa hx;by_cases hlj:j < ac.length
    ·obtain ⟨ba,oa,p1,e1,p2,e2,p3,e3,rfl,zz⟩:=RA.o.at hlj;have hrd:=zz.rd;obtain ⟨⟨y0,y1,y2,y3,-⟩,y4,-⟩:=zz;have hli:=HLA.o j;obtain ⟨x,hx9⟩:=gN (ac.getD j dA);rw [← hx9] at y1 y2 y3 y4 hrd hli;have hca:=fun W v (h:RdAct W v x)=>checkAct_any v x ss.length W h hli;obtain ⟨c,hc⟩:=gN (actE ss.length x);rw [← hc] at hca;have HX9:=kI (hc.trans (congrArg (actE ss.length) hx9));have HCA:=kI hca;have RD:=kI hrd;have q5:(0:Int)≤(j:Int):=by omega
     have q6:(j:Int) < (ac.length:Int):=by omega
     clear hx9 hc hca hrd hli;obtain ⟨wo,hwo⟩:=gN (wj.alloc (.cells #[.bool x.cost.neg,.slice p1 x.cost.num.length e1,.slice p2 x.cost.den.length e2,.slice p3 x.next.length e3] 68));have hx:Ext wj wo:=by rw [hwo];exact (Ext.refl _).alloc _
     have by0:Blk wo wj.heap.size #[.bool x.cost.neg,.slice p1 x.cost.num.length e1,.slice p2 x.cost.den.length e2,.slice p3 x.next.length e3] 68:=by rw [hwo];exact Blk.new _ _ _
     replace HO:=kI (HO.o.ext hx);replace A0:=kI (A0.o.ext hx);replace RA:=kI (RA.o.ext hx);replace RD:=kI (RD.o.ext hx);replace X:=kI (X.o.trans hx);replace XK:=kI (XK.o.trans hx);have HWO:=kI hwo;have qA:=A0.o.cell;have lA:=A0.o.lt;have fA:=A0.o.free;have qY:=by0.cell;have lY:=by0.lt;have fY:=by0.free;rw [hwo] at qA lA fA qY lY fY;clear hwo hx by0;go_wp2_with fail;clear qA lA fA qY lY fY y0 y1 y2 y3 y4;rw [← HWO.o];refine (HCA.o _ _ RD.o).mono ?_;rintro e w2 ⟨rfl,hx⟩;replace HO:=kI (HO.o.ext hx);replace A0:=kI (A0.o.ext hx);replace RA:=kI (RA.o.ext hx);replace RD:=kI (RD.o.ext hx);replace X:=kI (X.o.trans hx);replace XK:=kI (XK.o.trans hx);clear hx HCA HWO;by_cases he:c=0
     rotate_left
     ·have E:=kI (HE.o k hlt OK.o c (by rw [← HAC.o];exact st_act g1 g2 hlj OA.o HX9.o.symm he) he);have q7:(c != 0)=true:=by simpa using he
      clear he;go_wp2_with fail;go_ret;exact ⟨ret_int E.o.symm,X.o⟩
     subst he;have hOA:∀ i,i < j+1→actE ss.length (ac.getD i dA)=0:=fun i hi=>by
      by_cases e:i=j
      ·rw [e];exact HX9.o.symm
      ·exact OA.o i (by omega)
     have OA2:=kI hOA;clear hOA;go_wp2_with fail;go_roundw
     case rel=>exact ⟨j+1,by omega,by go_num,OA2.o,XK.o⟩
     case measure=>simp [intOf];omega
    ·obtain rfl:j=ac.length:=by omega
     have q5:¬ (ac.length:Int) < (ac.length:Int):=by omega
     have hs:stE ss.length (ss.getD k [])=0:=by rw [← HAC.o];exact st_ok g1 g2 OA.o
     have hOK:∀ j,j < k+1→stE ss.length (ss.getD j [])=0:=fun i hi=>by
      by_cases e:i=k
      ·rw [e];exact hs
      ·exact OK.o i (by omega)
     have OK2:=kI hOK;have XBB:=kI (XB.o.trans XK.o);clear hs hOK g1 g2;go_wp2_with fail;go_roundw
     case rel=>exact ⟨k+1,by omega,by go_num,OK2.o,XBB.o⟩
     case measure=>simp [intOf];omega
  ·obtain rfl:k=ss.length:=by omega
   have q1:¬ (ss.length:Int) < (ss.length:Int):=by omega
   have E:=kI (HI.o OK.o);go_wp2_with fail;go_ret;exact ⟨ret_int E.o.symm,X.o⟩
theorem mdcheck2_any (v lv:Value) (m:MD) (l:List RR) (w:World) (h:RdM w v m) (k:RdRs w lv l) (hl:LimM m) :
  Calls Try.prog 23 #[v,lv] w fun e w'=>e=.returned (.int .i64 (mvE m l))∧Ext w w':=by
 have hck:=fun W v (h:RdM W v m)=>mdCheck_any v m W h hl;obtain ⟨la,lc,rfl,hlc,hlm,f,hf⟩:=k.get;have h':=h;obtain ⟨d,ss⟩:=m;obtain ⟨a1,c1,a2,c2,a3,c3,rfl,hr,ho⟩:=h';dsimp only at hr ho;have hll:ss.length≤9223372036854775807:=by obtain ⟨_,_,_,h⟩:=ho.shape;exact h
 have hlm2:l.length≤9223372036854775807:=by omega
 have HM:=kI h;have HCK:=kI hck;clear h hck k hf hr ho hl hlc hlm f;have bb:=Blk.new w #[.bool d.neg,.slice a1 d.num.length c1,.slice a2 d.den.length c2,.slice a3 ss.length c3] 28;have x0:Ext w (w.alloc (.cells #[.bool d.neg,.slice a1 d.num.length c1,.slice a2 d.den.length c2,.slice a3 ss.length c3] 28)):=(Ext.refl w).alloc _;have A0:=kI bb;have X:=kI x0;have HM:=kI (HM.o.ext x0);clear bb x0;have EQ:=kI (show mvE ⟨d,ss⟩ l=if mdE ⟨d,ss⟩≠0 then mdE ⟨d,ss⟩ else if l.length≠ss.length then 16 else 0 from rfl);obtain ⟨c,hc⟩:=gN (mdE ⟨d,ss⟩);rw [← hc] at EQ HCK;clear hc;go_enter Try.func23,Try.ntmps23
 go_wp2_with fail;refine (HCK.o _ _ HM.o).mono ?_;rintro e w1 ⟨rfl,hx⟩;replace A0:=kI (A0.o.ext hx);replace X:=kI (X.o.trans hx);clear hx HM HCK;have qA:=A0.o.cell;have lA:=A0.o.lt;by_cases h1:c=0
 ·subst h1;by_cases h2:l.length=ss.length
  ·have q2:((l.length:Int) != (ss.length:Int))=false:=by simp [h2]
   have E:=kI (show mvE ⟨d,ss⟩ l=0 by rw [EQ.o,if_neg (fun h=>h rfl),if_neg (fun h=>h h2)]);clear h2;go_wp2_with fail;go_ret;exact ⟨ret_int E.o.symm,X.o⟩
  ·have q2:((l.length:Int) != (ss.length:Int))=true:=bne_iff_ne.2 (by omega);have E:=kI (show mvE ⟨d,ss⟩ l=16 by rw [EQ.o,if_neg (fun h=>h rfl),if_pos h2]);clear h2;go_wp2_with fail;go_ret;exact ⟨ret_int E.o.symm,X.o⟩
 ·have E:=kI (show mvE ⟨d,ss⟩ l=c by rw [EQ.o,if_pos h1]);have q1:(c != 0)=true:=by simpa using h1
  clear h1;go_wp2_with fail;go_ret;exact ⟨ret_int E.o.symm,X.o⟩
theorem run_append_fresh {P:Program} (w:World) (base:Nat) (t ty e:TypeId) (i:TypeInfo) (z:Value) (size bytes:Nat) (ht:P.underlying t=some (.slice e)) (hi:P.info? e=some i) (hz:i.zero=some z)
  (hsize:i.size=size) (hby:i.bytes=bytes) (hzs:z.cells.size=size) (hsz:0 < size)
  (v:Value) (n:Nat) (xs:List Value) (hown:w.ownsRow base e size v n xs)
  (a:Addr) (c:Nat) (news:List Value) (hl:news.length=1*size) (hnews:∀ j u,news[j]?=some u→w.cell? (a.add j)=some u) (h1:∀ u ∈ news,u.oneCell'=true)
  (h63:n+1≤maxLen) (hbytes:(n+1)*bytes≤140737488355328) (hbase:base≤w.heap.size) :
  ∃ v' w',(Builtin.append_ #[t,t] ty #[v,.slice (some a) 1 c]).run P w=.ok v' w'∧w'.ownsRow base e size v' (n+1) (xs ++ news)∧w.grownBy w' v.ownBlock∧(∀ q,v'.ownBlock=some q→v.ownBlock=some q∨w.heap.size≤q):=by
 obtain ⟨v',w',hr,h2,h3,_⟩:=run_append_own (P:=P) w base t ty e i z size bytes ht hi hz hsize hby hzs hsz v n xs hown a 1 c news hl hnews h1 h63 hbytes hbase;refine ⟨v',w',hr,h2,h3,?_⟩;have hsmall:n+1≤9223372036854775807:=by simp only [maxLen] at h63;omega
 subst hsize;subst hby;rcases hown.2 with ⟨rfl,rfl⟩|⟨g,cap,cur,rfl,hbg,hg,hnc,hcm,hcs,htake⟩
 ·have hr2:=run_append_nil (P:=P) w t ty e i z ht hi hz a 1 c news hl hnews (by omega) (by omega) (by have hb:=hbytes;simp only [Nat.zero_add] at hb;omega);rw [hr] at hr2;injection hr2 with e1 _
  subst e1;intro q hq;injection hq with hq
  exact .inr (Nat.le_of_eq hq)
 ·by_cases hroom:n+1≤cap
  ·have hfit:n*i.size+news.length≤cur.size:=by rw [hl,hcs,← Nat.add_mul];exact Nat.mul_le_mul_right _ hroom
   have hr2:=run_append_room (P:=P) w t ty e i ht hi g n cap cur hg a 1 c news hl hnews h1 hroom hfit;rw [hr] at hr2;injection hr2 with e1 _
   subst e1;intro q hq;exact .inl hq
  ·have holds:∀ j u,xs[j]?=some u→w.cell? ((⟨g,0,none⟩:Addr).add j)=some u:=hown.cells (g:=g) rfl;have hr2:=run_append_grow (P:=P) w t ty e i z ht hi hz ⟨g,0,none⟩ n cap xs hown.1 holds a 1 c news hl hnews (by omega) (by omega) (growslice_fits (by omega) hbytes);rw [hr] at hr2;injection hr2 with e1 _
   subst e1;intro q hq;injection hq with hq
   exact .inr (Nat.le_of_eq hq)
theorem wp_append_rowF {P:Program} (W:World) {o:Oper} {a:Act} {K:Act→World→Prop} {Q:Exit→Act→World→Prop} (s x:Operand) (t:TypeId)
  (ho:o.op=.call { callee:=.builtin .append,args:=#[s,x],argTypes:=#[t,t] })
  (B:Nat) (e:TypeId) (z:Value) (size bytes:Nat) (ht:P.underlying t=some (.slice e)) (hinfo:(P.info? e).map (fun i=>(i.zero,i.size,i.bytes))=some (some z,size,bytes))
  (hzs:z.cells.size=size) (hsz:0 < size) {α:Type} {El:World→List Value→α→Prop} (hEl:∀ w w' h y,El w h y→Keeps B e w w'→El w' h y) (v:Value) (l:List α) (hown:OwRow e size El B W v l) (hs:a.eval s=v)
  (cs:List Value) (hcs:cs.length=size) (h1c:∀ u ∈ cs,u.oneCell'=true) (y:α) (hy:El W cs y) (bn:Nat) (hbn:Blk W bn cs.toArray e) (hx:a.eval x=.slice (some ⟨bn,0,none⟩) 1 1)
  (h63:l.length+1≤9223372036854775807) (hbytes:(l.length+1)*bytes≤140737488355328) (hB:B≤W.heap.size)
  (h:∀ g cap w',OwRow e size El B w' (.slice (some ⟨g,0,none⟩) (l.length+1) cap) (l ++ [y])→W.grownBy w' v.ownBlock→(v.ownBlock=some g∨W.heap.size≤g)→K (a.put o.dst (.slice (some ⟨g,0,none⟩) (l.length+1) cap)) w') :
  o.wp P a W K Q:=by
 obtain ⟨i0,hi,hz0,hz1,hz2⟩:=info_parts hinfo;obtain ⟨hs0,h1,h2,h3,h4⟩:=hown;have hnews:∀ j u,cs[j]?=some u→W.cell? ((⟨bn,0,none⟩:Addr).add j)=some u:=by
  intro j u hj;have hlt:j < cs.length:=(List.getElem?_eq_some_iff.1 hj).1;have hadd:(⟨bn,0,none⟩:Addr).add j=⟨bn,j,none⟩:=by unfold Addr.add;split <;> simp_all
  rw [hadd,hbn.cell];simpa using hj
 obtain ⟨v',w',hr,hown',hgrow,hfr⟩:=run_append_fresh (P:=P) W B t o.type e i0 z size bytes ht hi hz0 hz1 hz2 hzs hsz v l.length hs0.flatten h1 ⟨bn,0,none⟩ 1 cs (by simp [hcs]) hnews h1c (by unfold maxLen;omega) hbytes hB;unfold Oper.wp execOp;simp only [ho,resolve,invoke,builtin,Sem.run_bind,Sem.run_pure,Result.andThen_ok,List.map_toArray,List.map_cons,List.map_nil,hs,hx,hr];have hk:Keeps B e W w':=by
  refine ⟨⟨hgrow.os,hgrow.tape,hgrow.output,hgrow.size,fun i hi=>by omega⟩,fun i hi ho=>hgrow.block i hi ?_⟩;intro heq;rcases h1.2 with ⟨rfl,_⟩|⟨g,cap,cur,rfl,hb,hg,_⟩
  ·simp [Value.ownBlock] at heq
  ·simp [Value.ownBlock] at heq;subst heq;have hg2:Blk W i cur e:=hg;rcases ho with ho|⟨c2,u,h5,h6⟩
   ·omega
   ·unfold Blk at hg2 h5;rw [hg2] at h5;injection h5 with h5
    injection h5 with _ h7
    exact h6 h7.symm
 have hrow:OwRow e size El B w' v' (l ++ [y]):=by
  refine ⟨hs0 ++ [cs],?_,by simp [h2],?_,?_⟩
  ·rw [List.flatten_append,List.length_append];simpa using hown'
  ·intro q hq;rcases List.mem_append.1 hq with hq|hq
   ·exact h3 q hq
   ·rw [List.mem_singleton.1 hq];exact hcs
  ·intro i x0 hi0;by_cases hlt:i < l.length
   ·rw [List.getElem?_append_left hlt] at hi0;obtain ⟨q,e1,e2⟩:=h4 i x0 hi0;exact ⟨q,by rw [List.getElem?_append_left (by omega)];exact e1,hEl _ _ _ _ e2 hk⟩
   ·have hil:i=l.length:=by
     have:=(List.getElem?_eq_some_iff.1 hi0).1;simp at this;omega
    subst hil;rw [List.getElem?_append_right (Nat.le_refl _)] at hi0;simp at hi0;subst hi0;exact ⟨cs,by rw [List.getElem?_append_right (by omega),h2];simp,hEl _ _ _ _ hy hk⟩
 have h5:=hown'.2;rcases h5 with ⟨_,h0⟩|⟨g,cap,cur,rfl,_⟩
 ·omega
 ·exact h g cap w' hrow hgrow (hfr g rfl)
theorem c4T {W:World} {b:Nat} {c0 c1 c2 c3:Value} {t:TypeId} (h:Blk W b #[c0,c1,c2,c3] t):W.cell? ⟨b,0,none⟩=some c0∧W.cell? ⟨b,1,none⟩=some c1∧W.cell? ⟨b,2,none⟩=some c2∧W.cell? ⟨b,3,none⟩=some c3:=⟨h.cell 0,h.cell 1,h.cell 2,h.cell 3⟩
theorem viaT {Goal:Prop} {G:World→Value→Value→Nat→Nat→Prop} (F:World→Value→Value→Prop) (h1:(∀ W x y n m,F W x y→G W x y n m)→Goal) (h2:∀ W x y n m,F W x y→G W x y n m):Goal:=h1 h2
theorem OwRs.keptT {B:Nat} {w w':World} {v:Value} {l:List RR} {row:Option Nat} (h:OwRs B w v l) (hg:w.grownBy w' row) (hne:v.ownBlock=none∨v.ownBlock≠row) (hB:∀ q,row=some q→∃ cur,Blk w q cur 25∧B≤q):OwRs B w' v l:=by
 obtain ⟨hs,h1,h2,h3,h4⟩:=h;have hk:Keeps B 25 w w':=⟨⟨hg.os,hg.tape,hg.output,hg.size,fun i hi=>by omega⟩,fun i hi ho=>hg.block i hi (fun e=>by
  obtain ⟨cur,hb,hq⟩:=hB i e.symm;rcases ho with ho|⟨c2,u,h5,h6⟩
  ·omega
  ·unfold Blk at hb h5;rw [hb] at h5;injection h5 with h5
   injection h5 with _ h7
   exact h6 h7.symm)⟩
 exact ⟨hs,World.ownsRow.kept h1 hg hne,h2,h3,fun i y hi=>by obtain ⟨q,e1,e2⟩:=h4 i y hi;exact ⟨q,e1,ElR.keeps (by decide) _ _ _ _ e2 hk⟩⟩
theorem OwRs.shapeT {B:Nat} {w:World} {v:Value} {l:List RR} (h:OwRs B w v l):∃ a c,v=.slice a l.length c:=by
 obtain ⟨a,c,h,_⟩:=OwRow.rdN h;exact ⟨a,c,h⟩
theorem OwRs.own_atT {B:Nat} {w:World} {v:Value} {l:List RR} (h:OwRs B w v l) {q:Nat} (hq:v.ownBlock=some q):(∃ cur,Blk w q cur 25)∧B≤q∧q < w.heap.size:=by
 obtain ⟨hs,h1,_⟩:=h;rcases h1.2 with ⟨rfl,_⟩|⟨g,cap,cur,rfl,hb,hg,_⟩
 ·cases hq
 ·injection hq with hq
  dsimp only at hq;subst hq;exact ⟨⟨cur,hg⟩,hb,(Array.getElem?_eq_some_iff.1 hg).1⟩
theorem OwRs.gKeepsT {B:Nat} {w w':World} {v:Value} {l:List RR} (h:OwRs B w v l) (hg:w.grownBy w' v.ownBlock):Keeps B 25 w w':=
 ⟨⟨hg.os,hg.tape,hg.output,hg.size,fun i hi=>by omega⟩,fun i hi ho=>hg.block i hi (fun e=>by
  obtain ⟨⟨cur,hb⟩,hq,_⟩:=h.own_atT e.symm;rcases ho with ho|⟨c2,u,h5,h6⟩
  ·omega
  ·unfold Blk at hb h5;rw [hb] at h5;injection h5 with h5
   injection h5 with _ h7
   exact h6 h7.symm)⟩
theorem dj_neT {a b:Option Nat} (h:∀ q,a=some q→b≠some q):b=none∨b≠a:=by
 cases b with
 | none=>exact .inl rfl
 | some q=>exact .inr fun e=>h q e.symm rfl
theorem dj_symmT {a b:Option Nat} (h:∀ q,a=some q→b≠some q):∀ q,b=some q→a≠some q:=fun q hb ha=>h q ha hb
theorem dj_stepT {va vb va2:Option Nat} {g n:Nat} (hd:∀ q,va=some q→vb≠some q) (hb:∀ q,vb=some q→q < n) (h2:va2=some g) (hf:va=some g∨n≤g):∀ q,va2=some q→vb≠some q:=by
 intro q hq hv;rw [h2] at hq;injection hq with hq
 subst hq;rcases hf with hf|hf
 ·exact hd g hf hv
 ·have:=hb g hv;omega
end Go.Proofs.Ytnnjbaijcaiohaa
