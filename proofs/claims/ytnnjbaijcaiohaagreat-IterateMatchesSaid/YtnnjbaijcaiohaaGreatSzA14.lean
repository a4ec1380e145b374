/- Walks and lemmas. -/
import Derived.Test.YtnnjbaijcaiohaaGreatSzA8
import Derived.Test.YtnnjbaijcaiohaaGreatSzA13
import Derived.WalkMore
import Derived.Test.YtnnjbaijcaiohaaGreatSzA11
import Derived.Test.YtnnjbaijcaiohaaGreatSzA10
import Derived.Test.YtnnjbaijcaiohaaGreatSzA7
import Derived.RangeFuncLeaves
import Derived.RangeFuncIn
import Derived.Sort.LoopGhostIn
set_option linter.unusedVariables false
set_option linter.unusedSimpArgs false
set_option maxRecDepth 100000
set_option maxHeartbeats 16000000
namespace Go.Proofs.YtnnjbaijcaiohaaGreat
open Go.RowKit
variable {a a0:Act} {listed:Array Bool} {T:Array Bool→World→Prop} {ops:Array Oper} {ps:Array Tmp} {args tmps:Array Value} {assign body:Code} {Q:Exit→Act→World→Prop} {F:Fence} {u:FrameMode} {f:FuncId} {c s:Int} {plan:List (List Int)} {ds:List Deferred} {l l1 l2 la lb lq:List Int} {rest:List Oper} {cs h vs xs:List Value} {An B C H L N b b0 bx c1 c2 cap d1 d2 fuel g i id j jn k m1 m2 n n1 n2 nf nn off xn y:Nat} {X:Nat→Prop} {oi om:Oper} {a1 a2 a3 xa:Option Addr} {P:Program} {R p p0 p1 p10 p11 p12 p13 p2 p3 p4 p5 p6 p7 p8 p9:Prop} {md:Region.Mode} {α:Type} {e t t1 t2 t3:TypeId} {lv v vb vr z:Value} {A W W' W0 w w' w0 w2 w3 w4 wB:World} {S S1 S2:World→Prop}
def Me (A:Nat) (lv:Value) (s r s2:RR) (e2:Int) (jj b off:Nat) (j:Nat) (v:Value) (W:World):Prop:=
 match j with
 | 0=>∃ s1 s2 s3 s4,v=.agg #[.bool s.neg,.slice s1 s.num.length s2,.slice s3 s.den.length s4]∧bH W (.agg #[.bool s.neg,.slice s1 s.num.length s2,.slice s3 s.den.length s4]) s
 | 1=>v=.pointer (some ⟨A,3,none⟩)
 | 2=>v=lv
 | 3=>v=.int .i64 (jj:Nat)
 | 4=>v=.pointer (some ⟨b,off+jj*4,none⟩)
 | 5=>v=.pointer (some ⟨b,off+jj*4+1,none⟩)
 | 6=>∃ s1 s2 s3 s4,v=.agg #[.bool r.neg,.slice s1 r.num.length s2,.slice s3 r.den.length s4]∧bH W (.agg #[.bool r.neg,.slice s1 r.num.length s2,.slice s3 r.den.length s4]) r
 | 7=>∃ s1 s3 s4 s5,v=.tuple #[.agg #[.bool s2.neg,.slice s1 s2.num.length s3,.slice s4 s2.den.length s5],.int .i64 e2]∧bH W (.agg #[.bool s2.neg,.slice s1 s2.num.length s3,.slice s4 s2.den.length s5]) s2
 | 8=>∃ s1 s3 s4 s5,v=.tuple #[.agg #[.bool s2.neg,.slice s1 s2.num.length s3,.slice s4 s2.den.length s5],.int .i64 e2]∧bH W (.agg #[.bool s2.neg,.slice s1 s2.num.length s3,.slice s4 s2.den.length s5]) s2
 | 9=>∃ s1 s3 s4 s5,v=.agg #[.bool s2.neg,.slice s1 s2.num.length s3,.slice s4 s2.den.length s5]∧bH W (.agg #[.bool s2.neg,.slice s1 s2.num.length s3,.slice s4 s2.den.length s5]) s2
 | 10=>v=.int .i64 e2
 | _=>True
theorem E8 {A:Nat} {s r s2:RR} {e2:Int} {jj:Nat} (h:Me A lv s r s2 e2 jj b off j v W) (x:Ext W W'):Me A lv s r s2 e2 jj b off j v W':=by
 match j,h with
 | 0,⟨s1,s2,s3,s4,h1,h2⟩=>exact ⟨s1,s2,s3,s4,h1,h2.ext x⟩
 | 1,h=>exact h
 | 2,h=>exact h
 | 3,h=>exact h
 | 4,h=>exact h
 | 5,h=>exact h
 | 6,⟨s1,s2,s3,s4,h1,h2⟩=>exact ⟨s1,s2,s3,s4,h1,h2.ext x⟩
 | 7,⟨s1,s3,s4,s5,h1,h2⟩=>exact ⟨s1,s3,s4,s5,h1,h2.ext x⟩
 | 8,⟨s1,s3,s4,s5,h1,h2⟩=>exact ⟨s1,s3,s4,s5,h1,h2.ext x⟩
 | 9,⟨s1,s3,s4,s5,h1,h2⟩=>exact ⟨s1,s3,s4,s5,h1,h2.ext x⟩
 | 10,h=>exact h
 | _+11,_=>trivial
def Mf (s:RR) (c:Bool) (j:Nat) (v:Value) (W:World):Prop:=
 match j with
 | 0=>∃ s1 s2 s3 s4,v=.agg #[.bool s.neg,.slice s1 s.num.length s2,.slice s3 s.den.length s4]∧bH W (.agg #[.bool s.neg,.slice s1 s.num.length s2,.slice s3 s.den.length s4]) s
 | 1=>∃ v',v=v'∧bH W v' (rep ((1:Int):Rat))
 | 2=>v=.bool c
 | 3=>v=.bool !c
 | _=>True
theorem E9 {s:RR} {c:Bool} (h:Mf s c j v W) (x:Ext W W'):Mf s c j v W':=by
 match j,h with
 | 0,⟨s1,s2,s3,s4,h1,h2⟩=>exact ⟨s1,s2,s3,s4,h1,h2.ext x⟩
 | 1,⟨v9,h1,h2⟩=>exact ⟨v9,h1,h2.ext x⟩
 | 2,h=>exact h
 | 3,h=>exact h
 | _+4,_=>trivial
theorem zi (v:Value) (x:aL) (n:Nat) (w:World) (h:ee w v x) (hl:pW x) :
  Calls Tryz.prog 128 #[v,.int .i64 (n:Nat)] w fun e w'=>e=.returned (.int .i64 (dZ n x))∧Ext w w':=by
 obtain ⟨co,l⟩:=x;obtain ⟨a1,c1,a2,c2,a3,c3,rfl,hr,ho⟩:=h;obtain ⟨hl1,hl2⟩:=hl;dsimp only at hr ho hl1 hl2 ⊢;have hll:l.length≤9223372036854775807:=by obtain ⟨_,_,_,h⟩:=ho.shape;exact h
 obtain ⟨HR,HO,jg,HL2⟩:=dW hr ho hl1 hl2;clear hr ho hl1 hl2;have bb0:=(af.new w #[.bool co.neg,.slice a1 co.num.length c1,.slice a2 co.den.length c2,.slice a3 l.length c3] 83);have x0:Ext w (w.alloc (.cells #[.bool co.neg,.slice a1 co.num.length c1,.slice a2 co.den.length c2,.slice a3 l.length c3] 83)):=((Ext.refl w).alloc _);have A0:=kI bb0;have X:=kI x0;clear x0 bb0;replace HR:=kI (HR.o.ext X.o);replace HO:=kI (HO.o.ext X.o);go_enter Tryz.func128,Tryz.ntmps128
 obtain ⟨aK,fA0,aJ⟩:=A0.o.q3;go_wp2_with fail;refine (cY _ co _ HR.o jg.o).mono ?_;rintro e w1 ⟨rfl,hx⟩;clear aK fA0 aJ;replace HR:=HR.x hx;replace HO:=HO.x hx;replace A0:=A0.x hx;replace X:=X.x hx;clear hx;by_cases h1:aE co=0
 rotate_left
 ·have E:=kI (uX (n:=n) (l:=l) h1);obtain ⟨c,hc⟩:=gN (aE co);rw [← hc] at E h1 ⊢;have q1:(c != 0)=true:=by simpa using h1
  clear h1 hc;go_wp2_with fail;go_ret;exact ⟨aV E.o.symm,X.o⟩
 rw [h1];by_cases h2:l.length=0
 ·have E:=kI (JV (n:=n) h1 h2);have q2:((l.length:Int) == 0)=true:=by simp [h2]
  clear h1 h2;obtain ⟨aK,fA0,aJ⟩:=A0.o.q3;go_wp2_with fail;go_ret;exact ⟨aV E.o.symm,X.o⟩
 have q2:((l.length:Int) == 0)=false:=beq_eq_false_iff_ne.2 Z;by_cases h3:64 < l.length
 ·have E:=kI (JU (n:=n) h1 h2 h3);have q3:(64:Int) < (l.length:Int):=by omega
  clear h1 h2 h3;obtain ⟨aK,fA0,aJ⟩:=A0.o.q3;go_wp2_with fail;go_ret;exact ⟨aV E.o.symm,X.o⟩
 have q3:¬ (64:Int) < (l.length:Int):=by omega
 have HE:=kI (fun (k:Nat) (hk:k < l.length) h4 (c:Int) h5 h6=>AB (n:=n) (k:=k) (c:=c) h1 h2 h3 hk h4 h5 h6);have HI:=kI (Ej (n:=n) h1 h2 h3);clear h1;obtain ⟨aK,fA0,aJ⟩:=A0.o.q3;go_wp2_with fail;clear aK fA0 aJ;clear q2 q3;obtain ⟨wb,hwb⟩:=gN (w1);rw [← hwb] at HR HO A0 X ⊢;clear hwb;obtain ⟨An,hAn⟩:=gN (w.heap.size);rw [← hAn] at A0 ⊢;clear hAn;go_loopw [6] (fun i wr=>∃ k:Nat,k≤l.length∧i=.int .i64 k∧(∀ j,j < k→cL n l j=0)∧Ext wb wr) (fun i _=>l.length - (intOf i).toNat)
 case atStart=>exact ⟨0,by omega,rfl,fun j hj=>by omega,Ext.refl wb⟩
 case round=>
  obtain ⟨wk,hwk⟩:=gN (wr);subst hwk;obtain ⟨k,hk,rfl,hok,hx⟩:=hrel;have OK:=kI hok;have XB:=kI hx;replace HR:=HR.x hx;replace HO:=HO.x hx;replace A0:=A0.x hx;replace X:=X.x hx;clear hok hx;by_cases hlt:k < l.length
  ·obtain ⟨b,off,p1,d1,p2,d2,rfl,z0,z1,z2,z3,z4,z5⟩:=HO.o.at hlt;have hy:=HL2.o k;obtain ⟨y,eQ⟩:=gN (l.getD k dO);rw [← eQ] at z1 z2 z3 z4 z5 hy;obtain ⟨tw,r⟩:=y;dsimp only at z1 z2 z3 z4 z5 hy;obtain ⟨NR,HY,Pr⟩:=cC z5 eQ hy;have q1:(0:Int)≤(k:Int):=by omega
   have q2:(k:Int) < (l.length:Int):=by omega
   clear z5 eQ hy;obtain ⟨wo,hwo⟩:=gN (wk.alloc (.cells #[.int .i64 tw,.bool r.neg,.slice p1 r.num.length d1,.slice p2 r.den.length d2] 80));have hx:Ext wk wo:=by rw [hwo];exact (Ext.refl _).alloc _
   have rC:af wo wk.heap.size #[.int .i64 tw,.bool r.neg,.slice p1 r.num.length d1,.slice p2 r.den.length d2] 80:=by rw [hwo];exact af.new _ _ _
   have uV:=kI hwo;have UQ:=A0;replace HR:=HR.x hx;replace HO:=HO.x hx;replace A0:=A0.x hx;replace NR:=NR.x hx;replace X:=X.x hx;obtain ⟨Yn,If⟩:=gN (wk.heap.size);have BY:=kI rC;have QN:=kI If;rw [← If] at BY;have lY:=BY.o.lt;replace XB:=XB.x hx;have Ym:(wk.alloc (.cells #[.int .i64 tw,.bool r.neg,.slice p1 r.num.length d1,.slice p2 r.den.length d2] 80)).cell? ⟨wk.heap.size,0,none⟩=some (.int .i64 tw):=by rw [← hwo,← If];exact BY.o.cell 0
   clear hwo hx rC If lY;have qB:=UQ.o.cell;have lB:=UQ.o.lt;have fB:=UQ.o.free;by_cases d1:tw < 0
   ·have hE:cL n l k=8:=by
     unfold cL;rw [← HY.o];dsimp only;rw [if_pos (.inl d1)]
    have E:=kI (HE.o k hlt OK.o 8 hE ah);clear hE;go_wp2_with fail;go_ret;have:=X.o;exact ⟨aV E.o.symm,by rw [uV.o] at this;exact this⟩
   by_cases d2:(n:Int)≤tw
   ·have hE:cL n l k=8:=by
     unfold cL;rw [← HY.o];dsimp only;rw [if_pos (.inr d2)]
    have E:=kI (HE.o k hlt OK.o 8 hE ah);clear hE;go_wp2_with fail;go_ret;have:=X.o;exact ⟨aV E.o.symm,by rw [uV.o] at this;exact this⟩
   go_wp2_with fail;rw [← uV.o,← QN.o];clear uV QN Ym z0 z1 z2 z3 z4 qB lB fB UQ;have D2:=kI (And.intro d1 d2);clear d1 d2;rcases Nat.eq_zero_or_pos k with h0|h0
   ·have D3:=kI (show ¬ (0 < k∧tw≤(l.getD (k - 1) dO).1) from by omega);have g1:decide ((0:Int) < (k:Int))=false:=decide_eq_false Z;go_quiet (fail)
    obtain ⟨wq,hwq⟩:=gN (wo.drewN nq);rw [← hwq];have hx:Ext wo wq:=by rw [hwq];exact (Ext.refl _).drewN _
    replace HR:=HR.x hx;replace HO:=HO.x hx;replace A0:=A0.x hx;replace NR:=NR.x hx;replace BY:=BY.x hx;replace X:=X.x hx;replace XB:=XB.x hx;clear hx hwq;obtain ⟨aK,fA0,aJ⟩:=A0.o.q3;obtain ⟨oh,ol,ou⟩:=BY.o.q3;go_wp2_with fail;refine (cY _ r _ NR.o Pr.o).mono ?_;rintro e w2 ⟨rfl,hx⟩;clear aK fA0 aJ oh ol ou;replace HR:=HR.x hx;replace HO:=HO.x hx;replace A0:=A0.x hx;replace NR:=NR.x hx;replace BY:=BY.x hx;replace X:=X.x hx;replace XB:=XB.x hx;clear hx;by_cases e1:aE r=0
    rotate_left
    ·have hE:cL n l k=aE r:=by
      unfold cL;rw [← HY.o];dsimp only;rw [if_neg Db,if_neg D3.o,if_pos e1]
     have E:=kI (HE.o k hlt OK.o _ hE e1);clear hE;obtain ⟨c,hc⟩:=gN (aE r);rw [← hc] at E e1 ⊢;have q4:(c != 0)=true:=by simpa using e1
     clear e1 hc;go_wp2_with fail;go_ret;exact ⟨aV E.o.symm,X.o⟩
    rw [e1];by_cases e2:r.neg=true∨r.num=[]
    ·have hE:cL n l k=1:=by
      unfold cL;rw [← HY.o];dsimp only;rw [if_neg Db,if_neg D3.o,if_neg (by simpa using e1),if_pos e2]
     have E:=kI (HE.o k hlt OK.o _ hE ah);clear hE e1;by_cases e3:r.neg=true
     ·clear e2;obtain ⟨oh,ol,ou⟩:=BY.o.q3;go_wp2_with fail;go_ret;exact ⟨aV E.o.symm,X.o⟩
     ·have e4:r.neg=false:=by simpa using e3
      have q5:((r.num.length:Int) == 0)=true:=by
       rcases e2 with e2|e2
       ·exact absurd e2 e3
       ·simp [e2]
      clear e2 e3;obtain ⟨oh,ol,ou⟩:=BY.o.q3;go_wp2_with fail;go_ret;exact ⟨aV E.o.symm,X.o⟩
    have hE:cL n l k=0:=by
     unfold cL;rw [← HY.o];dsimp only;rw [if_neg Db,if_neg D3.o,if_neg (by simpa using e1),if_neg e2]
    have e4:r.neg=false:=by
     cases hh:r.neg
     ·rfl
     ·exact absurd (.inl hh) e2
    have q5:((r.num.length:Int) == 0)=false:=beq_eq_false_iff_ne.2 (fun h=>e2 (.inr (List.length_eq_zero_iff.1 Z)));have oO:∀ j,j < k+1→cL n l j=0:=fun j hj=>by
     by_cases e:j=k
     ·rw [e];exact hE
     ·exact OK.o j Z
    have oP:=kI oO;clear hE e1 e2 oO;obtain ⟨oh,ol,ou⟩:=BY.o.q3;go_wp2_with fail;go_roundw
    case rel=>exact ⟨k+1,by omega,by go_num,oP.o,XB.o⟩
    case measure=>simp [intOf];omega
   ·obtain ⟨m,hm⟩:∃ m,k=m+1:=⟨k - 1,by omega⟩;obtain ⟨b',off',p3,d3,p4,d4,eb,y0,y1,-,-,-,-⟩:=HO.o.at (show m < l.length by omega);injection eb with eb
    injection eb with QO QP
    subst QO;subst QP;obtain ⟨zt,Dm⟩:=gN ((l.getD m dO).1);rw [← Dm] at y1;have g1:decide ((0:Int) < (k:Int))=true:=decide_eq_true Z;have g2:(k:Int) - 1=(m:Int):=by omega
    have g3:(0:Int)≤(m:Int):=by omega
    have g4:(m:Int) < (l.length:Int):=by omega
    have hk1:k - 1=m:=by omega
    by_cases d3:tw≤zt
    ·have hE:cL n l k=16:=by
      unfold cL;rw [← HY.o,hk1,← Dm];dsimp only;rw [if_neg Db,if_pos ⟨h0,d3⟩]
     have E:=kI (HE.o k hlt OK.o 16 hE ah);have g5:decide (tw≤zt)=true:=decide_eq_true d3;clear hE hk1 Dm hm;have g6:decide (0 < k)=true:=decide_eq_true h0;obtain ⟨aK,fA0,aJ⟩:=A0.o.q3;obtain ⟨oh,ol,ou⟩:=BY.o.q3;go_quiet (fail)
     obtain ⟨wq,hwq⟩:=gN (wo.drewN nq);rw [← hwq];have hx:Ext wo wq:=by rw [hwq];exact (Ext.refl _).drewN _
     clear aK fA0 aJ oh ol ou;replace HR:=HR.x hx;replace HO:=HO.x hx;replace A0:=A0.x hx;replace NR:=NR.x hx;replace BY:=BY.x hx;replace X:=X.x hx;replace XB:=XB.x hx;clear hx hwq;go_wp2_with fail;go_ret;exact ⟨aV E.o.symm,X.o⟩
    have D3:=kI (show ¬ (0 < k∧tw≤(l.getD (k - 1) dO).1) from by rw [hk1,← Dm];omega);have g5:decide (tw≤zt)=false:=decide_eq_false d3;clear hk1 Dm hm d3;have g6:decide (0 < k)=true:=decide_eq_true h0;obtain ⟨aK,fA0,aJ⟩:=A0.o.q3;obtain ⟨oh,ol,ou⟩:=BY.o.q3;go_quiet (fail)
    obtain ⟨wq,hwq⟩:=gN (wo.drewN nq);rw [← hwq];have hx:Ext wo wq:=by rw [hwq];exact (Ext.refl _).drewN _
    clear aK fA0 aJ oh ol ou;replace HR:=HR.x hx;replace HO:=HO.x hx;replace A0:=A0.x hx;replace NR:=NR.x hx;replace BY:=BY.x hx;replace X:=X.x hx;replace XB:=XB.x hx;clear hx hwq;clear y0 y1 g1 g2 g3 g4 g5 g6 h0;obtain ⟨aK,fA0,aJ⟩:=A0.o.q3;obtain ⟨oh,ol,ou⟩:=BY.o.q3;go_wp2_with fail;refine (cY _ r _ NR.o Pr.o).mono ?_;rintro e w2 ⟨rfl,hx⟩;clear aK fA0 aJ oh ol ou;replace HR:=HR.x hx;replace HO:=HO.x hx;replace A0:=A0.x hx;replace NR:=NR.x hx;replace BY:=BY.x hx;replace X:=X.x hx;replace XB:=XB.x hx;clear hx;by_cases e1:aE r=0
    rotate_left
    ·have hE:cL n l k=aE r:=by
      unfold cL;rw [← HY.o];dsimp only;rw [if_neg Db,if_neg D3.o,if_pos e1]
     have E:=kI (HE.o k hlt OK.o _ hE e1);clear hE;obtain ⟨c,hc⟩:=gN (aE r);rw [← hc] at E e1 ⊢;have q4:(c != 0)=true:=by simpa using e1
     clear e1 hc;go_wp2_with fail;go_ret;exact ⟨aV E.o.symm,X.o⟩
    rw [e1];by_cases e2:r.neg=true∨r.num=[]
    ·have hE:cL n l k=1:=by
      unfold cL;rw [← HY.o];dsimp only;rw [if_neg Db,if_neg D3.o,if_neg (by simpa using e1),if_pos e2]
     have E:=kI (HE.o k hlt OK.o _ hE ah);clear hE e1;by_cases e3:r.neg=true
     ·clear e2;obtain ⟨oh,ol,ou⟩:=BY.o.q3;go_wp2_with fail;go_ret;exact ⟨aV E.o.symm,X.o⟩
     ·have e4:r.neg=false:=by simpa using e3
      have q5:((r.num.length:Int) == 0)=true:=by
       rcases e2 with e2|e2
       ·exact absurd e2 e3
       ·simp [e2]
      clear e2 e3;obtain ⟨oh,ol,ou⟩:=BY.o.q3;go_wp2_with fail;go_ret;exact ⟨aV E.o.symm,X.o⟩
    have hE:cL n l k=0:=by
     unfold cL;rw [← HY.o];dsimp only;rw [if_neg Db,if_neg D3.o,if_neg (by simpa using e1),if_neg e2]
    have e4:r.neg=false:=by
     cases hh:r.neg
     ·rfl
     ·exact absurd (.inl hh) e2
    have q5:((r.num.length:Int) == 0)=false:=beq_eq_false_iff_ne.2 (fun h=>e2 (.inr (List.length_eq_zero_iff.1 Z)));have oO:∀ j,j < k+1→cL n l j=0:=fun j hj=>by
     by_cases e:j=k
     ·rw [e];exact hE
     ·exact OK.o j Z
    have oP:=kI oO;clear hE e1 e2 oO;obtain ⟨oh,ol,ou⟩:=BY.o.q3;go_wp2_with fail;go_roundw
    case rel=>exact ⟨k+1,by omega,by go_num,oP.o,XB.o⟩
    case measure=>simp [intOf];omega
  ·obtain rfl:k=l.length:=by omega
   have q1:¬ (l.length:Int) < (l.length:Int):=by omega
   have hI:=HI.o OK.o;clear HE;obtain ⟨aK,fA0,aJ⟩:=A0.o.q3;go_wp2_with fail;clear aK fA0 aJ;obtain ⟨wz,hwz⟩:=gN (wk.alloc (.cells #[.bool false,.slice none 0 0,.slice none 0 0] 25));have hx:Ext wk wz:=by rw [hwz];exact (Ext.refl _).alloc _
   have hb0:af wz wk.heap.size #[.bool false,.slice none 0 0,.slice none 0 0] 25:=by rw [hwz];exact af.new _ _ _
   rw [← hwz];obtain ⟨Bn,hBn⟩:=gN (wk.heap.size);rw [← hBn] at hb0 ⊢;have hs0:tW wz Bn 25 zR:=⟨_,_,_,_,hb0,(aO.zero wz wz).rd⟩;have Yo:=kI hs0;have HX0:=kI hx;have zO:=kI (Nat.le_of_eq hBn.symm);have HI2:=kI hI;have GC:=kI (Nat.le_trans X.o.size (Nat.le_of_eq hBn.symm));clear hwz hx hb0 hBn hs0 hI HI;go_loopw [9] (fun i wr=>∃ (k:Nat) (s:RR),k≤l.length∧i=.int .i64 k∧du zR (dY l)=du s ((dY l).drop k)∧bj s∧aE s=0∧tW wr Bn 25 s∧Ext wk wr) (fun i _=>l.length - (intOf i).toNat)
   case atStart=>exact ⟨0,zR,by omega,rfl,by rw [List.drop_zero],bO,rfl,Yo.o,HX0.o⟩
   case round=>
    obtain ⟨wj,qZ⟩:=gN (wr);subst qZ;obtain ⟨j,s,hj,rfl,hsum,hsl,hsc,hsb,hx⟩:=hrel;replace HO:=HO.x hx;replace A0:=A0.x hx;replace X:=X.x hx;obtain ⟨XK,oX,HSL,nL⟩:=dW hx hsum hsl hsc;obtain ⟨g1,g2,g3,g4,hbs,hns⟩:=hsb;have BS:=kI hbs;have NS:=kI hns;clear hx hsum hsl hsc hbs hns;by_cases hlt:j < l.length
    ·obtain ⟨b,off,p1,d1,p2,d2,rfl,z0,z1,z2,z3,z4,z5⟩:=HO.o.at hlt;have hy:=HL2.o j;have hst:=mK (s:=s) (l:=dY l) (k:=j) Ue;rw [qe] at hst;obtain ⟨y,eQ⟩:=gN (l.getD j dO);rw [← eQ] at z1 z2 z3 z4 z5 hy hst;obtain ⟨tw,r⟩:=y;dsimp only at z1 z2 z3 z4 z5 hy hst;have NR:=kI z5;have had:=fun W v1 v2 (e1:bH W v1 s) (e2:bH W v2 r)=>eu v1 v2 s r W e1 e2 HSL.o hy;have ud:(bL s r).2=0→aE (bL s r).1=0:=fun h=>hZ h;have hlim:=dX s r;obtain ⟨T,hT⟩:=gN (bL s r);rw [← hT] at had hst ud hlim;obtain ⟨s2,e2⟩:=T;dsimp only at hst ud hlim;unfold bG at had;dsimp only at had;obtain ⟨HAD,HST,Yp,Yq⟩:=dW had hst ud hlim;have q1:(0:Int)≤(j:Int):=by omega
     have q2:(j:Int) < (l.length:Int):=by omega
     clear z5 eQ hy had hst ud hlim hT;obtain ⟨aK,fA0,aJ⟩:=A0.o.q3;go_wp2_with fail;clear aK fA0 aJ;refine bM 11 10 (Me An (.slice (some ⟨b,off,none⟩) l.length c3) s r s2 e2 j b off) rfl ak ak ak (fun _ _ _ _ h x=>E8 h x) (fun _ _ d _ _ h=>by cases d <;> exact h) ?_ ?_ ?_
     ·refine ⟨?_,?_,?_,?_,?_,?_,?_,?_,?_,?_,?_,trivial⟩
      ·intro a W hW hB hD K hK;have b8:=hB 8 rfl;simp only [sB] at b8;have q9:=(BS.o.ext hW).cell;have l9:=(BS.o.ext hW).lt;go_simp;exact hK _ _ (Ext.refl _) ⟨_,_,_,_,rfl,NS.o.ext hW⟩
      ·intro a W hW hB hD K hK;have b2:=hB 2 rfl;simp only [sB] at b2;go_simp;exact hK _ _ (Ext.refl _) rfl
      ·intro a W hW hB hD K hK;obtain ⟨v85,e85,h85⟩:=aQ (hD 1 _ 85 rfl rfl ak);obtain rfl:=h85;have q9:=(A0.o.ext hW).cell;have l9:=(A0.o.ext hW).lt;go_simp;exact hK _ _ (Ext.refl _) rfl
      ·intro a W hW hB hD K hK;have b9:=hB 9 rfl;simp only [sB] at b9;go_simp;exact hK _ _ (Ext.refl _) rfl
      ·intro a W hW hB hD K hK;obtain ⟨v86,e86,h86⟩:=aQ (hD 2 _ 86 rfl rfl ak);obtain rfl:=h86;obtain ⟨v87,e87,h87⟩:=aQ (hD 3 _ 87 rfl rfl ak);obtain rfl:=h87;go_simp;exact hK _ _ (Ext.refl _) rfl
      ·intro a W hW hB hD K hK;obtain ⟨v88,e88,h88⟩:=aQ (hD 4 _ 88 rfl rfl ak);obtain rfl:=h88;go_simp;exact hK _ _ (Ext.refl _) rfl
      ·intro a W hW hB hD K hK;obtain ⟨v89,e89,h89⟩:=aQ (hD 5 _ 89 rfl rfl ak);obtain rfl:=h89;have k2:=(hW.cell (p:=⟨b,off+j*4+1,none⟩) z0).trans z2;have k3:=(hW.cell (p:=⟨b,off+j*4+2,none⟩) z0).trans z3;have k4:=(hW.cell (p:=⟨b,off+j*4+3,none⟩) z0).trans z4;have l9:=Nat.lt_of_lt_of_le z0 hW.size;go_simp;exact hK _ _ (Ext.refl _) ⟨_,_,_,_,rfl,NR.o.ext hW⟩
      ·intro a W hW hB hD K hK;obtain ⟨v84,e84,h84⟩:=aQ (hD 0 _ 84 rfl rfl ak);obtain ⟨d1,d2,d3,d4,rfl,dh⟩:=h84;obtain ⟨v90,e90,h90⟩:=aQ (hD 6 _ 90 rfl rfl ak);obtain ⟨e1,e2,e3,e4,rfl,eh⟩:=h90;go_simp;refine (HAD.o _ _ _ dh eh).mono ?_;rintro e9 w9 ⟨⟨v,rfl,nn⟩,hx⟩;obtain ⟨x1,x2,x3,x4,rfl⟩:=nn.shape;exact hK _ _ hx ⟨_,_,_,_,rfl,nn.rd⟩
      ·intro a W hW hB hD K hK;obtain ⟨v91,e91,h91⟩:=aQ (hD 7 _ 91 rfl rfl ak);obtain ⟨t1,t2,t3,t4,rfl,hn⟩:=h91;go_simp;exact hK _ _ (Ext.refl _) ⟨_,_,_,_,rfl,hn⟩
      ·intro a W hW hB hD K hK;obtain ⟨v83,UR,Oq⟩:=aQ (hD 8 _ 83 rfl rfl ak);obtain ⟨t1,t2,t3,t4,rfl,hn⟩:=Oq;go_simp;exact hK _ _ (Ext.refl _) ⟨_,_,_,_,rfl,hn⟩
      ·intro a W hW hB hD K hK;obtain ⟨v83,UR,Oq⟩:=aQ (hD 8 _ 83 rfl rfl ak);obtain ⟨t1,t2,t3,t4,rfl,hn⟩:=Oq;go_simp;exact hK _ _ (Ext.refl _) rfl
     ·intro a W hW hB hD;have Oq:=hD 8 _ 83 rfl rfl ak;obtain ⟨v83,UR⟩:∃ x,a.tmps.getD 83 undef=x:=⟨_,rfl⟩;rw [UR] at Oq;obtain ⟨t1,t2,t3,t4,rfl,hn⟩:=Oq;exact ⟨.int .i64 e2,fun w9=>cQ UR rfl rfl w9,rfl⟩
     intro w9 hx;simp only [dR,List.take_succ_cons,List.take_zero,List.drop_succ_cons,List.drop_zero];rintro u0 - u1 - u2 - u3 - u4 - u5 - u6 - u7 - u8 - u9 h9 u10 h10;obtain ⟨x1,x2,x3,x4,rfl,hn⟩:=h9;obtain rfl:u10=.int .i64 e2:=h10;simp only [Act.put,List.setIfInBounds_toArray,List.set_cons_zero,List.set_cons_succ];have N2:=kI hn;replace XK:=XK.x hx;replace HO:=HO.x hx;replace A0:=A0.x hx;replace BS:=BS.x hx;replace NS:=NS.x hx;replace X:=X.x hx;clear hx hn z0 z1 z2 z3 z4 NR HAD;obtain ⟨qBS,fBS,lBS⟩:=BS.o.q3;by_cases he:e2=0
     rotate_left
     ·have hE:dZ n ⟨co,l⟩=e2:=by rw [HI2.o,oX.o,HST.o,if_neg he];dsimp only;rw [if_pos he]
      have E:=kI hE;have q4:(e2 != 0)=true:=by simpa using he
      clear hE he;go_wp2_with fail;go_ret;exact ⟨aV E.o.symm,cw (o:=0) X.o GC.o⟩
     subst he;have hs2:du s ((dY l).drop j)=du s2 ((dY l).drop (j+1)):=by rw [HST.o,if_pos rfl]
     have hp:=tW.put (t:=25) ⟨_,_,_,_,BS.o,NS.o⟩ N2.o;have hxk:=cw (x:=.bool s2.neg) (y:=.slice x1 s2.num.length x2) (z:=.slice x3 s2.den.length x4) (o:=0) XK.o zO.o;have HS2:=oX.x hs2;have Yr:=kI hp;have Ys:=kI hxk;clear hs2 hp hxk;go_wp2_with fail;go_roundw
     case rel=>exact ⟨j+1,s2,by omega,by go_num,HS2.o,Yq.o,Yp.o uY,Yr.o,Ys.o⟩
     case measure=>simp [intOf];omega
    ·obtain rfl:j=l.length:=by omega
     have q1:¬ (l.length:Int) < (l.length:Int):=by omega
     have hend:du zR (dY l)=(s,0):=by
      rw [oX.o,List.drop_of_length_le T8];rfl
     have hE:=HI2.o;rw [hend] at hE;dsimp only at hE;rw [if_neg (fun h=>h rfl)] at hE;have heq:=fun W v1 v2 (e1:bH W v1 s) (e2:bH W v2 (rep ((1:Int):Rat)))=>eK v1 v2 s _ W e1 e2;have h11:rep ((1:Int):Rat)=rep 1:=rfl;obtain ⟨c,hc⟩:=gN (decide (s=rep ((1:Int):Rat)));rw [← hc] at heq;obtain ⟨HEQ,HC,E⟩:=cC heq hc hE;clear hend hE heq hc;obtain ⟨aK,fA0,aJ⟩:=A0.o.q3;go_wp2_with fail;clear aK fA0 aJ;refine di (Mf s c) ak ak ak (fun _ _ _ _ h x=>E9 h x) ?_ ?_
     ·refine ⟨?_,?_,?_,?_,trivial⟩
      ·intro a W hW hB hD K hK;have b8:=hB 8 rfl;simp only [sB] at b8;have q9:=(BS.o.ext hW).cell;have l9:=(BS.o.ext hW).lt;go_simp;exact hK _ _ (Ext.refl _) ⟨_,_,_,_,rfl,NS.o.ext hW⟩
      ·intro a W hW hB hD K hK;go_simp;refine (eI 1 W Z Z).mono ?_;rintro e w9 ⟨⟨v,rfl,nn⟩,hx⟩;exact hK _ _ hx ⟨_,rfl,nn.rd⟩
      ·intro a W hW hB hD K hK;obtain ⟨v97,e97,h97⟩:=aQ (hD 0 _ 97 rfl rfl ak);obtain ⟨d1,d2,d3,d4,rfl,dh⟩:=h97;obtain ⟨v98,e98,h98⟩:=aQ (hD 1 _ 98 rfl rfl ak);obtain ⟨e1,rfl,eh⟩:=h98;go_simp;refine (HEQ.o _ _ _ dh eh).mono ?_;rintro e w9 ⟨rfl,hx⟩;exact hK _ _ hx rfl
      ·intro a W hW hB hD K hK;obtain ⟨v99,e99,h99⟩:=aQ (hD 2 _ 99 rfl rfl ak);obtain rfl:=h99;go_simp;exact hK _ _ (Ext.refl _) rfl
     intro w9 hx;simp only [dR];rintro u0 - u1 - u2 - u3 h3;obtain rfl:u3=.bool !c:=h3;simp only [Act.put,List.setIfInBounds_toArray,List.set_cons_zero,List.set_cons_succ];replace X:=X.x hx;clear hx;by_cases hs1:s=rep 1
     ·have E:=kI (E.o.trans (if_pos hs1));obtain rfl:c=true:=by rw [HC.o];exact decide_eq_true hs1
      clear hs1;go_wp2_with fail;go_ret;exact ⟨aV E.o.symm,X.o⟩
     ·have E:=kI (E.o.trans (if_neg hs1));obtain rfl:c=false:=by rw [HC.o];exact decide_eq_false hs1
      clear hs1;go_wp2_with fail;go_ret;exact ⟨aV E.o.symm,X.o⟩
section
theorem Fa {m:MD} {v:List RR} (h:k < m.states.length):(kr m v).getD k zR=(bK m v (m.states.getD k [])).getD (mf (bK m v (m.states.getD k []))) zR:=by
 unfold kr;exact TP
theorem IK (m:MD) (v:List RR):bQ (kr m v):=fun i hi=>by
 rw [fM] at hi;rw [Fa hi];by_cases h0:0 < (bK m v (m.states.getD i [])).length
 ·exact wM _ _ _ _ (jF _ _ _ (Nat.le_refl _) h0)
 ·exact WV
theorem zj (m:MD) (v:List RR):bQ (az m v).1:=by
 unfold az;split
 ·intro i hi;cases hi
 ·split
  ·intro i hi;cases hi
  ·exact IK m v
theorem Cp {m:MD} {v:List RR} (h:(az m v).2.2=0):cJ m v=0∧li m v=0∧(az m v).1=kr m v∧(az m v).2.1=qT m v:=by
 unfold az at h ⊢;split at h
 ·rename_i h1;exact absurd h h1
 ·rename_i h1;rw [if_neg h1];split at h
  ·rename_i h2;exact absurd h h2
  ·rename_i h2;rw [if_neg h2];exact ⟨by simpa using h1,by simpa using h2,rfl,rfl⟩
theorem IL {m:MD} {v:List RR} (h1:cJ m v=0) (h2:li m v=0):∀ i,i < (kr m v).length→aE ((kr m v).getD i zR)=0:=fun i hi=>by
 rw [fM] at hi;rw [Fa hi];obtain ⟨_,_,_,h3⟩:=bD (bU h1).1;have h4:=(dm (h3 i hi)).1;have h5:gS m v (m.states.getD i [])=0:=bS h2 i hi;have hb:mf (bK m v (m.states.getD i [])) < (m.states.getD i []).length:=by
  exact Nat.lt_of_lt_of_eq (jF (bK m v (m.states.getD i [])) _ _ (Nat.le_refl _) (show 0 < (bK m v (m.states.getD i [])).length by rw [cS];omega)) (cS _ _ _)
 rw [mq hb];exact mQ (bS h5 _ hb)
theorem wY {m:MD} {v:List RR} (h:bQ v):∀ j,bQ (bu m v j)
 | 0=>h
 | j+1=>zj m _
theorem wZ {r:RR} (h:aE r=0):r.num.length≤1000000∧r.den.length≤1000000:=by
 unfold aE at h;split at h
 ·cases h
 ·omega
theorem Fb {m:MD} {v:List RR} (h1:cJ m v=0) (h2:li m v=0):jE (kr m v):=fun i hi=>wZ (IL h1 h2 i hi)
theorem zk (m:MD) (m1:Option Addr) (n1:Nat) (m2:Option Addr) (n2:Nat) (m3:Option Addr) (n3:Nat) (a:Option Addr) (n c:Nat) (k:Int) (w:World) :
  Calls Tryz.prog 74 #[.agg (wL m m1 n1 m2 n2 m3 n3),.slice a n c,.int .i64 k] w fun e w'=>e=.returned (.func (.func 134) #[] (Kg w.heap.size))∧w'=((w.alloc (.cells (wL m m1 n1 m2 n2 m3 n3) 28)).alloc (.cells #[.slice a n c] 29)).alloc (.cells #[.int .i64 k] 3):=by
 go_enter Tryz.func74,Tryz.ntmps74
 exact KI
theorem Mg {m:MD} {p:List Int} {v:List RR} (h:(aU m p v).2=0):cJ m v=0∧p.length=m.states.length∧(∀ j,j < p.length→xY m p v j=0)∧(aU m p v).1=sk m p v:=by
 unfold aU at h ⊢;by_cases h1:cJ m v=0
 ·rw [if_neg JY] at h ⊢;by_cases h2:p.length=m.states.length
  ·rw [if_neg Bk] at h ⊢;by_cases h3:bZ (xY m p v) p.length=0
   ·rw [if_neg (by simpa using h3)];exact ⟨h1,h2,bS h3,rfl⟩
   ·rw [if_pos h3] at h;exact absurd h h3
  ·exact JT
 ·exact Pu
theorem xd {q:Rat} (h:(dv q).2=0):qv (dv q).1=q∧aE (dv q).1=0:=by
 unfold dv at h ⊢;by_cases h1:small q
 ·rw [if_pos h1];exact ⟨gd q,oF h1⟩
 ·rw [if_neg h1] at h;cases h
theorem ut {a b:RR} {x:RR × Int} (h:(ng a b x).2=0):ng a b x=x∧x.2=0:=by
 unfold ng at h ⊢;by_cases h1:cK a b=0
 ·rw [if_pos h1] at h ⊢;exact ⟨rfl,h⟩
 ·rw [if_neg h1] at h;exact absurd h h1
theorem qC {a b:RR} (h:(bL a b).2=0):qv (bL a b).1=qv a+qv b∧aE (bL a b).1=0:=by
 unfold bL at h ⊢;obtain ⟨e1,e2⟩:=ut h;rw [e1];exact xd e2
theorem Fc {a b:RR} (h:(mulR a b).2=0):qv (mulR a b).1=qv a*qv b∧aE (mulR a b).1=0:=by
 unfold mulR at h ⊢;obtain ⟨e1,e2⟩:=ut h;rw [e1];exact xd e2
theorem Fd:qv zR=0:=by rw [← vO,gd]
def Mh:List RR→List RR→Rat
 | a :: la,b :: bs=>qv a*qv b+Mh la bs
 | _,_=>0
theorem sO {r:RR} (h:r.neg=false):0≤qv r:=by
 by_cases h0:tK r.den=0
 ·unfold qv;rw [h0,Rat.mkRat_zero];exact Rat.le_refl
 ·have hs:=tU (x:=J5 r) h0;show 0≤vq (J5 r);by_cases hn:(J5 r).2.1=0
  ·rw [hs.1 hn];exact Rat.le_refl
  ·exact Rat.le_of_lt ((hs.2 hn).2 h)
theorem uu {l:List Out} (h:∀ i,i < l.length→cL n l i=0):∀ o ∈ l,0≤o.1∧o.1 < n∧aE o.2=0∧o.2.neg=false:=fun o ho=>by
 obtain ⟨i,hi,e⟩:=List.mem_iff_getElem.1 ho;have:=j0 (h i hi);rw [List.getD_eq_getElem?_getD,List.getElem?_eq_getElem hi,e] at this;exact this
theorem qD {m:MD} (h:fS m=0) {s a:Nat} (hs:s < m.states.length) (ha:a < (m.states.getD s []).length):dZ m.states.length (m.act s a)=0:=(dm ((bD h).2.2.2 s hs)).2.2 a ha
theorem Mi {m:MD} {p:List Int} {u:List RR} {s:Nat} (h:s < p.length):(sk m p u).getD s zR=(aC m u (m.act s (p.getD s 0).toNat)).1:=by
 exact kL6
theorem sR {f:Nat→Int}:∀ {n:Nat},bZ f n≠0→∃ i,i < n∧(∀ j,j < i→f j=0)∧bZ f n=f i
 | 0,h=>absurd rfl h
 | n+1,h=>by
  by_cases h0:bZ f n=0
  ·refine ⟨n,by omega,bS h0,?_⟩;unfold bZ;rw [h0,if_neg (fun h=>h rfl)]
  ·obtain ⟨i,h1,h2,h3⟩:=sR h0;refine ⟨i,by omega,h2,?_⟩;unfold bZ;rw [if_pos h0];exact h3
section
variable {F:Fence} {n:Nat} {P:Program} {Q:Exit→Act→World→Prop} {a:Act} {w:World}
def qE (F:Fence) (n:Nat) (P:Program) (c:Code) (Q:Exit→Act→World→Prop) (a:Act) (w:World):Prop:=
 ∀ (b:Frame) (k:List Item) (cs:List Frame),(∃ d,P.funcs[b.fn]?=some d)→b.roundOf=F.round→F.fn b.fn→F.room (cs.length+1+n)→
  ∃ e a' w',Q e a' w'∧ArrivesIn (Machine.fenced P F) P (lone (b.atR a (.code c :: k)) cs w) b k cs e a' w'
theorem ej {c:Code} (h:c.wpIn F n P Q a w):qE F n P c Q a w:=fun b k cs _ hro hb hr=>h b k cs hro hb hr
theorem dq {x y:Code} (h:qE F n P x (Exit.then (qE F n P y Q) Q) a w):qE F n P (Code.seq x y) Q a w:=by
 intro b k cs hex hro hb hr;have h0:(lone (b.atR a (.code (.seq x y) :: k)) cs w).fenced P F:=fenced_calm hb hr rfl;obtain ⟨e,a₁,w₁,hq,harr⟩:=h b (.code y :: k) cs hex hro hb hr;cases e with
 | normal=>
  obtain ⟨e₂,a₂,w₂,hq₂,harr₂⟩:=hq b k cs hex hro hb hr;exact ⟨e₂,a₂,w₂,hq₂,.of_steps (.head h0 stepR_seq harr) harr₂⟩
 | _=>exact ⟨_,a₁,w₁,hq,.of_steps (.one h0 stepR_seq) (.pass (x:=.code y) rfl (fun _ _=>.inl dc) harr)⟩
theorem qF {c:Code} (h:qE F n P c (fun e a w=>(e=.normal∨∃ ch,e=.panic ch)∧Q e a w) a w):qE F n P (Code.block id c) Q a w:=by
 intro b k cs hex hro hb hr;have h0:(lone (b.atR a (.code (.block id c) :: k)) cs w).fenced P F:=fenced_calm hb hr rfl;obtain ⟨e,a₁,w₁,⟨he,hq⟩,harr⟩:=h b (.inBlock id :: k) cs hex hro hb hr;rcases he with rfl|⟨ch,rfl⟩
 ·exact ⟨.normal,a₁,w₁,hq,.head h0 stepR_block (StepsIn.trans harr (.one (fenced_calm hb hr rfl) stepR_inBlock))⟩
 ·exact ⟨_,a₁,w₁,hq,.of_steps (.one h0 stepR_block) harr⟩
def zl (P:Program) (l:Nat) (R:Ending→World→Prop):Exit→Act→World→Prop
 | .normal,_,w=>∃ v w',(Instr.endRound l none).run P w=.ok v w'∧R (.returned v) w'
 | .panic ch,a,w=>a.defers=[]∧R (.panicked ch) w
 | _,_,_=>False
theorem Fe {l:Nat} {R:Ending→World→Prop} (hF:F.fn f) (hex:∃ d,P.funcs[f]?=some d)
  (h:assign.wpIn (F.inRound l) n P (Exit.then (fun a₁ w₁=>∃ w₂,(Instr.beginRound l).run P w₁=.ok () w₂∧body.wpIn (F.inRound l) n P (zl P l R) a₁ w₂) (fun _ _ _=>False))
   { tmps:=tmps,defers:=[] } w):RoundIn F n P l f tmps assign body w R:=by
 refine ⟨hF,fun c cs hr=>?_⟩;obtain ⟨b,hbd⟩:∃ b:Frame,b={ (default:Frame) with fn:=f,kind:=.normal,roundOf:=some l }:=⟨_,rfl⟩;have hb0:Frame.round l f tmps assign body .normal=b.atR { tmps:=tmps,defers:=[] } [.code assign,.beginRound,.code body]:=by
  rw [hbd];simp [Frame.round,Frame.atR]
 have hbr:b.roundOf=some l:=by rw [hbd]
 have hbf:b.fn=f:=by rw [hbd]
 have hbk:b.kind=.normal:=by rw [hbd]
 have hr':(F.inRound l).room ((c :: cs).length+1+n):=hr;have hF':(F.inRound l).fn b.fn:=by rw [hbf];exact hF
 obtain ⟨e,a₁,w₁,hq,harr⟩:=h b [.beginRound,.code body] (c :: cs) hbr hF' hr';rw [← hb0] at harr;cases e with
 | normal=>
  obtain ⟨w₂,hbg,hbody⟩:=hq;have s1:StepsIn (Machine.fenced P (F.inRound l)) P (lone (b.atR a₁ [.beginRound,.code body]) (c :: cs) w₁) (lone (b.atR a₁ [.code body]) (c :: cs) w₂):=
   .one (fenced_calm (fr:=b.atR a₁ [.beginRound,.code body]) hF' hr' rfl) (stepR_beginRound hbr hbg)
  obtain ⟨e₂,a₂,w₃,hq₂,harr₂⟩:=hbody b [] (c :: cs) hbr hF' hr';cases e₂ with
  | normal=>
   obtain ⟨v,w₄,hend,hR⟩:=hq₂;exact ⟨.returned v,w₄,hR,(StepsIn.trans harr s1).trans (StepsIn.trans harr₂ (.one (fenced_calm (fr:=b.atR a₂ []) hF' hr' rfl) (stepR_round_end hbr hbk hend)))⟩
  | panic chain=>
   obtain ⟨hd,hR⟩:=hq₂;obtain ⟨todo,hs⟩:=harr₂;have hl:({ b.atR a₂ todo with mode:=.panicking chain }:Frame).leaving P w₃ (.panicked chain):=⟨rfl,hd,by obtain ⟨d,h⟩:=hex;exact ⟨d,by rw [← hbf] at h;exact h⟩⟩;exact ⟨.panicked chain,w₃,hR,(StepsIn.trans harr s1).trans (StepsIn.trans hs (.one (fenced_leaving hF' hr' hl) (step_leave_panicked hl)))⟩
  | ret=>exact hq₂.elim
  | exit id=>exact hq₂.elim
  | goto t=>exact hq₂.elim
  | outgrown=>exact hq₂.elim
 | exit id=>exact hq.elim
 | goto t=>exact hq.elim
 | ret=>exact hq.elim
 | panic chain=>exact hq.elim
 | outgrown=>exact hq.elim
theorem qG {g:Operand} 
  (h:∀ fn,F.fn fn→(∃ d,P.funcs[fn]?=some d)→∃ (l:Nat) (mark:List Deferred) (w₁:World) (d:Deferred) (w₁':World) (f:FuncId) (args:Array Value) (w₂:World),
   (Instr.enterLoop fn a.tmps ps assign body F.round).run P w=.ok (l,mark) w₁∧
   (resolve a.eval (rangeCall g l) 0).run P w₁=.ok d w₁'∧
   (∀ f',Target.leads P w₁' d.target d.args=some f'→F.fn f')∧
   (invoke d.target d.args).run P w₁'=.ok (.enter f args) w₂∧
   (F.depth.isSome=true→1≤n)∧
   CallsIn F (n - 1) P f args w₂ (rangePost F n P l Q { a with defers:=mark ++ a.defers })):qE F n P (Code.rangeFunc g ps assign body) Q a w:=by
 intro b k cs hex hro hb hr;obtain ⟨l,mark,w₁,d,w₁',f,args,w₂,he,hres,hlead,hinv,hn,hF,hcall⟩:=h b.fn hb hex;rw [← hro] at he;have hev:=Frame.eval_atR b a (.code (.rangeFunc g ps assign body) :: k);simp only [Frame.atR] at hev;have h0:(lone (b.atR a (.code (.rangeFunc g ps assign body) :: k)) cs w).fenced P F:=by
  refine fenced_lone (.inl hb) (fun f' hf'=>hlead f' ?_) (Fence.room_le hr Z);simp only [Frame.about,Frame.atR,he,hev,hres] at hf';exact hf'
 have henter:=stepR_rangeFunc (P:=P) (b:=b) (a:=a) (k:=k) (cs:=cs) (w:=w) he hres hinv;have hroom:F.room ((b.atR { a with defers:=mark ++ a.defers } (.inRangeFunc l :: k) :: cs).length+1+(n - 1)):=Fence.room_enter hr hn;obtain ⟨e,w₃,fr,hR,hsteps,hfn,hleave⟩:=hcall (b.atR { a with defers:=mark ++ a.defers } (.inRangeFunc l :: k) :: cs) hroom;cases e with
 | outgrown=>
  obtain ⟨a₀,w₀,hq⟩:=hR;exact ⟨.outgrown,a₀,w₀,hq,.inr (Outgrown.of_steps (.one henter) hsteps)⟩
 | returned v=>
  have hl:=fenced_leaving (F:=F) (hfn ▸ hF) hroom hleave;obtain ⟨jump,w₄,hend,hj⟩:=hR;have sback:StepsIn (Machine.fenced P F) P (lone (b.atR a (.code (.rangeFunc g ps assign body) :: k)) cs w) (lone (b.atR { a with defers:=mark ++ a.defers } ((jump.map Item.code).toList ++ k)) cs w₄):=by
   refine .head h0 henter (StepsIn.trans hsteps (.head hl ?_ (.one (fenced_calm (fr:=b.atR { a with defers:=mark ++ a.defers } (.endRangeFunc l :: k)) hb hr rfl) (stepR_endRangeFunc hend))));rw [← finish_atR_inRangeFunc l v];exact step_leave_returned hleave
  cases jump with
  | none=>exact ⟨.normal,_,w₄,hj,sback⟩
  | some c=>
   obtain ⟨e',a'',w₅,hq,harr⟩:=hj b k cs hro hb hr;exact ⟨e',a'',w₅,hq,.of_steps sback harr⟩
 | panicked chain=>
  have hl:=fenced_leaving (F:=F) (hfn ▸ hF) hroom hleave;refine ⟨.panic chain,_,w₃,hR,.inRangeFunc l :: k,.head h0 henter (StepsIn.trans hsteps (.one hl ?_))⟩;rw [← Frame.raise_atR];exact step_leave_panicked hleave
theorem nS {fn:Func} {c:Code} {R:Ending→World→Prop} (hf:P.funcs[f]?=some fn) (hb:fn.body=some c)
  (h:qE Fence.wide n P c (bodyPostM Fence.wide n P fn R) { tmps:=args ++ Array.replicate (fn.ntmps - args.size) undef,defers:=[] } w):CallsIn Fence.wide n P f args w R:=by
 refine ⟨trivial,fun cs hr=>?_⟩;let b:Frame:={ (default:Frame) with fn:=f,kind:=.normal,roundOf:=none }
 have henter:Frame.enter P f args .normal=b.atR { tmps:=args ++ Array.replicate (fn.ntmps - args.size) undef,defers:=[] } [.code c]:=by
  simp [Frame.enter,Frame.atR,hf,hb,b]
 obtain ⟨e,a',w',hq,harr⟩:=h b [] cs ⟨fn,hf⟩ rfl trivial hr;rw [← henter] at harr;cases e with
 | normal=>
  obtain ⟨e',w'',fr',hR,hs,hfn,hl⟩:=leaves_stepsInM a'.defers .returning w' { b.atR a' [] with mode:=.returning } cs rfl rfl rfl hf rfl trivial hr hq;exact ⟨e',w'',fr',hR,ComesIn.of_steps (StepsIn.trans harr (.one (fenced_calm (F:=Fence.wide) (fr:=b.atR a' []) trivial hr rfl) (stepR_end rfl))) hs,hfn,hl⟩
 | ret=>
  obtain ⟨todo,hs₀⟩:=harr.1 rfl;obtain ⟨e',w'',fr',hR,hs,hfn,hl⟩:=leaves_stepsInM a'.defers .returning w' { b.atR a' todo with mode:=.returning } cs rfl rfl rfl hf rfl trivial hr hq;exact ⟨e',w'',fr',hR,ComesIn.of_steps hs₀ hs,hfn,hl⟩
 | panic chain=>
  obtain ⟨todo,hs₀⟩:=harr;obtain ⟨e',w'',fr',hR,hs,hfn,hl⟩:=leaves_stepsInM a'.defers (.panicking chain) w' { b.atR a' todo with mode:=.panicking chain } cs rfl rfl rfl hf rfl trivial hr hq;exact ⟨e',w'',fr',hR,ComesIn.of_steps hs₀ hs,hfn,hl⟩
 | exit id=>exact hq.elim
 | goto l=>exact hq.elim
 | outgrown=>exact ⟨.outgrown,w',b,hq,harr.resolve_left (by simp [b]),rfl,trivial⟩
end
def IM (R:World→World→Prop) (m:Nat) (I:List α→World→Prop) (Ip:List PanicEntry→List α→World→Prop) (xs:List α) (W:World):Exit→Act→World→Prop
 | .normal,_,W'=>Kd m W W'∧R W W'∧I xs W'
 | .panic ch,a,W'=>a.defers=[]∧Kd m W W'∧R W W'∧Ip ch xs W'
 | _,_,_=>False
def uv (F:Fence) (n:Nat) (P:Program) (gf:Nat) (lb:Array Value) (R Ri:World→World→Prop) (encs:α→Array Value) (Nx:List α→α→World→Prop) (Fin:List α→Prop) (l:Nat) (W1:World):Prop:=
 ∀ (J:List α→World→Prop) (Jp:List PanicEntry→List α→World→Prop),(∀ pre A B,J pre A→Ri A B→J pre B)→
  (∀ pre x W,J pre W→Nx pre x W→YieldAt F (n - 1) P l (encs x) W fun e W'=>R W W'∧((e=.returned (.bool true)∧J (pre ++ [x]) W')∨∃ ch,e=.panicked ch∧Jp ch (pre ++ [x]) W'))→
  J [] W1→CallsIn F n P gf (#[.func (.yield l) #[] #[]] ++ lb) W1 fun e W'=>((∃ v,e=.returned v)∧∃ xs,Fin xs∧J xs W')∨∃ ch xs,e=.panicked ch∧Jp ch xs W'
section
variable {F:Fence} {n:Nat} {P:Program}
theorem jJ {g:Operand} 
  (hro:F.round=none) (h1:1≤n) {gf:Nat} {lb:Array Value} (hg:a.eval g=.func (.func gf) #[] lb) (hFg:F.fn gf) (eg:∀ args w,(callFunc gf args).run P w=.ok (.enter gf args) w)
  (R Ri:World→World→Prop) (hRi:∀ A B,Ri A B→w.heap.size+1 < A.heap.size→B.heap[w.heap.size]?=A.heap[w.heap.size]?∧B.heap[w.heap.size+1]?=A.heap[w.heap.size+1]?) (NF:∀ A B C,R A B→R B C→R A C) (hRk:∀ A B,w.heap.size≤A.heap.size→Kq w.heap.size A B→R A B) {encs:α→Array Value} {Nx:List α→α→World→Prop} {Fin:List α→Prop}
  (hseq:∀ W1,Ext w W1→uv F (n - 1) P gf lb R Ri encs Nx Fin (w.heap.size+1) W1) (hps:∀ x,(encs x).size=ps.size)
  (I:List α→World→Prop) (Ip:List PanicEntry→List α→World→Prop) (hI:∀ pre A B,I pre A→Kq w.heap.size A B→I pre B)
  (He:∀ pre A B,I pre A→Ri A B→I pre B) (h0:I [] w)
  (Ax:List α→α→Act→World→Prop) (hAx:∀ pre x a1 A B,Ax pre x a1 A→Kq w.heap.size A B→Ax pre x a1 B)
  (hassign:∀ (l:Nat) (pre:List α) (x:α) (W:World) (K:Act→World→Prop),I pre W→Nx pre x W→w.heap.size+1 < W.heap.size→(∀ a1 W1,Ext W W1→Ax pre x a1 W1→K a1 W1)→
   assign.wpIn (F.inRound l) (n - 1 - 1) P (Exit.then K (fun _ _ _=>False)) { tmps:=(ps.zip (encs x)).foldl (fun t (p,v)=>t.setIfInBounds p v) a.tmps,defers:=[] } W)
  (hbody:∀ (l:Nat) (pre:List α) (x:α) (a1:Act) (W:World),Ax pre x a1 W→w.heap.size+1 < W.heap.size→body.wpIn (F.inRound l) (n - 1 - 1) P (IM R w.heap.size I Ip (pre ++ [x]) W) a1 W)
  (hdone:∀ (xs:List α) (W:World),Fin xs→I xs W→W.heap[w.heap.size]?=some (.deferred (some []))→Q .normal { a with defers:={ target:=.collected w.heap.size,args:=#[] } :: a.defers } W)
  (gj:∀ (ch:List PanicEntry) (xs:List α) (W:World),Ip ch xs W→W.heap[w.heap.size]?=some (.deferred (some []))→Q (.panic ch) { a with defers:={ target:=.collected w.heap.size,args:=#[] } :: a.defers } W) :
  qE F n P (Code.rangeFunc g ps assign body) Q a w:=by
 refine qG ?_;intro fn hfn hex;rw [hro];obtain ⟨rec,hrec⟩:∃ rec:LoopState→Option Code→Loop,rec=fun st pe=>{ state:=st,pending:=pe,fn,tmps:=a.tmps,params:=ps,assign,body,defers:=w.heap.size }:=⟨_,rfl⟩;obtain ⟨W1,hW1⟩:∃ W1,(w.alloc (.deferred (some []))).alloc (.loop (rec .ready none))=W1:=⟨_,rfl⟩;have hL1:W1.heap[w.heap.size+1]?=some (.loop (rec .ready none)):=by
  exact WI
 have hK1:W1.heap[w.heap.size]?=some (.deferred (some [])):=by
  exact WS
 have hx1:Ext w W1:=by rw [← hW1];exact ((Ext.refl w).alloc _).alloc _
 have hI1:I [] W1:=hI _ _ _ h0 (.ext hx1);refine ⟨w.heap.size+1,[{ target:=.collected w.heap.size,args:=#[] }],W1,{ target:=.fn (.func gf) lb,args:=#[.func (.yield (w.heap.size+1)) #[] #[]] },W1,gf,
  #[.func (.yield (w.heap.size+1)) #[] #[]] ++ lb,W1,?_,?_,?_,?_,fun _=>h1,?_⟩
 ·exact Xd
 ·simp only [resolve,hg];simp [go_sem]
 ·exact Xc
 ·simp [invoke,go_sem,eg]
 ·refine (hseq W1 hx1
   (fun pre W=>I pre W∧W.heap[w.heap.size+1]?=some (.loop (rec .ready none))∧W.heap[w.heap.size]?=some (.deferred (some [])))
   (fun ch pre W=>Ip ch pre W∧W.heap[w.heap.size]?=some (.deferred (some [])))
   (fun pre A B hs x=>⟨He _ _ _ hs.1 x,(hRi _ _ x (Array.getElem?_eq_some_iff.1 hs.2.1).1).2.trans hs.2.1,(hRi _ _ x (Array.getElem?_eq_some_iff.1 hs.2.1).1).1.trans hs.2.2⟩)
   ?_ ⟨hI1,hL1,hK1⟩).mono ?_
  ·rintro pre x W ⟨hi,hl,hk⟩ hnx;have hlt:w.heap.size+1 < W.heap.size:=(Array.getElem?_eq_some_iff.1 hl).1;have hy:=run_yield (P:=P) (args:=encs x) hl (by rw [hrec];exact hps x);rw [hrec] at hy;refine ⟨fn,_,assign,body,hy,Fe hfn hex (hassign _ pre x W _ hi hnx hlt ?_)⟩;intro a1 V CX hax;have Bf:=(CX.block _ (Array.getElem?_eq_some_iff.1 hl).1).trans hl;have PZ:=(CX.block _ (Array.getElem?_eq_some_iff.1 hk).1).trans hk;refine ⟨_,run_beginRound Bf (by rw [hrec]),?_⟩;have vl:w.heap.size+1 < V.heap.size:=(Array.getElem?_eq_some_iff.1 Bf).1;have hl2:(V.putObj (w.heap.size+1) (.loop { rec .ready none with state:=.busy })).heap[w.heap.size+1]?=some (.loop { rec .ready none with state:=.busy }):=World.putObj_heap_same vl;have hk2:(V.putObj (w.heap.size+1) (.loop { rec .ready none with state:=.busy })).heap[w.heap.size]?=some (.deferred (some [])):=(World.putObj_heap_other Z).trans PZ;have hV1:R W (V.putObj (w.heap.size+1) (.loop { rec .ready none with state:=.busy })):=NF _ _ _ (hRk _ _ Z (Kq.ext CX)) (hRk _ _ (by have:=CX.size;omega) (Kq.iZ _ Bf));have fin:∀ (jump:Option Code) (W3:World),Kd w.heap.size (V.putObj (w.heap.size+1) (.loop { rec .ready none with state:=.busy })) W3→R (V.putObj (w.heap.size+1) (.loop { rec .ready none with state:=.busy })) W3→
     (Instr.endRound (w.heap.size+1) jump).run P W3=.ok (.bool jump.isNone) (W3.putObj (w.heap.size+1) (.loop (rec (if jump.isNone then .ready else .done) jump)))∧
     (W3.putObj (w.heap.size+1) (.loop (rec (if jump.isNone then .ready else .done) jump))).heap[w.heap.size+1]?=some (.loop (rec (if jump.isNone then .ready else .done) jump))∧
     (W3.putObj (w.heap.size+1) (.loop (rec (if jump.isNone then .ready else .done) jump))).heap[w.heap.size]?=some (.deferred (some []))∧
     R W (W3.putObj (w.heap.size+1) (.loop (rec (if jump.isNone then .ready else .done) jump))):=fun jump W3 hk3 hb3=>by
    exact zC8
   refine wpIn_mono (hbody _ pre x a1 _ (hAx _ _ _ _ _ hax (Kq.iZ _ Bf)) (by simpa using vl)) ?_;rintro e a3 W3 hp;cases e with
   | normal=>
    exact qNm
   | ret=>exact hp.elim
   | exit id=>exact hp.elim
   | goto t=>exact hp.elim
   | panic ch=>
    obtain ⟨hd3,hk3,hb3,hi3⟩:=hp;exact ⟨hd3,NF _ _ _ hV1 hb3,.inr ⟨_,rfl,hi3,hk3.2.1.trans hk2⟩⟩
   | outgrown=>exact hp.elim
  ·rintro e W2 (⟨⟨v,rfl⟩,⟨xs,hF,hi,hl,hk⟩⟩|⟨ch,xs,rfl,hi,hk⟩)
   ·exact qV5
   ·exact gj ch xs _ hi hk
end
end
def qX (x:RR):List Out→List RR→List RR × Int
 | [],nx=>(nx,0)
 | o :: os,nx=>if (mulR x o.2).2≠0 then (nx,(mulR x o.2).2) else if (bL (nx.getD o.1.toNat zR) (mulR x o.2).1).2≠0 then (nx,(bL (nx.getD o.1.toNat zR) (mulR x o.2).1).2) else qX x os (nx.set o.1.toNat (bL (nx.getD o.1.toNat zR) (mulR x o.2).1).1)
theorem xh {x:RR} {os:List Out} {nx:List RR} (h:i < os.length):qX x (os.drop i) nx =
  if (mulR x (os.getD i dO).2).2≠0 then (nx,(mulR x (os.getD i dO).2).2) else if (bL (nx.getD (os.getD i dO).1.toNat zR) (mulR x (os.getD i dO).2).1).2≠0 then (nx,(bL (nx.getD (os.getD i dO).1.toNat zR) (mulR x (os.getD i dO).2).1).2) else qX x (os.drop (i+1)) (nx.set (os.getD i dO).1.toNat (bL (nx.getD (os.getD i dO).1.toNat zR) (mulR x (os.getD i dO).2).1).1):=by
 exact WP
def mG (m:MD) (p:List Int) (l:List RR):List Nat→List RR→List RR × Int
 | [],nx=>(nx,0)
 | u :: us,nx=>if (l.getD u zR).num=[] then mG m p l us nx else if (qX (l.getD u zR) (m.act u (p.getD u 0).toNat).next nx).2≠0 then qX (l.getD u zR) (m.act u (p.getD u 0).toNat).next nx else mG m p l us (qX (l.getD u zR) (m.act u (p.getD u 0).toNat).next nx).1
theorem xj {m:MD} {p:List Int} {l:List RR} {u:Nat} {nx:List RR} (h:u < n):mG m p l ((List.range n).drop u) nx =
  if (l.getD u zR).num=[] then mG m p l ((List.range n).drop (u+1)) nx else if (qX (l.getD u zR) (m.act u (p.getD u 0).toNat).next nx).2≠0 then qX (l.getD u zR) (m.act u (p.getD u 0).toNat).next nx else mG m p l ((List.range n).drop (u+1)) (qX (l.getD u zR) (m.act u (p.getD u 0).toNat).next nx).1:=by
 rw [List.drop_eq_getElem_cons iw,List.getElem_range];rfl
def mH (m:MD):List (List Int)→List RR→List RR × Int
 | [],l=>(l,0)
 | p :: ps,l=>if (mG m p l (List.range m.states.length) (List.replicate m.states.length zR)).2≠0 then mG m p l (List.range m.states.length) (List.replicate m.states.length zR) else mH m ps (mG m p l (List.range m.states.length) (List.replicate m.states.length zR)).1
theorem xk {m:MD} {ps:List (List Int)} {l:List RR} (h:j < ps.length):mH m (ps.drop j) l =
  if (mG m (ps.getD j []) l (List.range m.states.length) (List.replicate m.states.length zR)).2≠0 then mG m (ps.getD j []) l (List.range m.states.length) (List.replicate m.states.length zR) else mH m (ps.drop (j+1)) (mG m (ps.getD j []) l (List.range m.states.length) (List.replicate m.states.length zR)).1:=by
 exact WP
def fH (m:MD) (p:List Int):Int:=if p.length≠m.states.length then 16 else bZ (fD m p) p.length
def Ot (m:MD) (ps:List (List Int)):Int:=bZ (fun j=>fH m (ps.getD j [])) ps.length
def jh (m:MD) (s:Int):List RR:=(List.replicate m.states.length zR).set s.toNat (rep ((1:Int):Rat))
def aM (m:MD) (plan:List (List Int)) (s:Int):List RR × Int:=
 if fS m≠0 then ([],fS m) else if s < 0∨(m.states.length:Int)≤s then ([],8) else if 24 < plan.length then ([],4)
 else if Ot m plan.reverse≠0 then ([],Ot m plan.reverse) else if (mH m plan.reverse (jh m s)).2≠0 then ([],(mH m plan.reverse (jh m s)).2) else mH m plan.reverse (jh m s)
theorem sS {m:MD} (h:c=fS m) (hc:c≠0):aM m plan s=([],c):=by unfold aM;rw [← h,if_pos hc]
theorem sT {m:MD} (h:fS m=0) (h2:s < 0∨(m.states.length:Int)≤s):aM m plan s=([],8):=by unfold aM;rw [if_neg iw,if_pos h2]
theorem sU {m:MD} (h:fS m=0) (h2:¬ (s < 0∨(m.states.length:Int)≤s)) (h3:24 < plan.length):aM m plan s=([],4):=by unfold aM;rw [if_neg iw,if_neg h2,if_pos h3]
theorem sV {m:MD} (h:fS m=0) (h2:¬ (s < 0∨(m.states.length:Int)≤s)) (h3:¬ 24 < plan.length) {j:Nat} (hj:j < plan.reverse.length) (hz:∀ i,i < j→fH m (plan.reverse.getD i [])=0) (hc:fH m (plan.reverse.getD j [])=c) (hn:c≠0):aM m plan s=([],c):=by
 have e:Ot m plan.reverse=c:=(cz (f:=fun j=>fH m (plan.reverse.getD j [])) hz (by rw [hc];exact hn) hj).trans hc;unfold aM;rw [if_neg iw,if_neg h2,if_neg h3,e,if_pos hn]
theorem sW {m:MD} (h:fS m=0) (h2:¬ (s < 0∨(m.states.length:Int)≤s)) (h3:¬ 24 < plan.length) (hz:∀ i,i < plan.reverse.length→fH m (plan.reverse.getD i [])=0):aM m plan s=if (mH m plan.reverse (jh m s)).2≠0 then ([],(mH m plan.reverse (jh m s)).2) else mH m plan.reverse (jh m s):=by
 have e:Ot m plan.reverse=0:=bg hz;unfold aM;rw [if_neg iw,if_neg h2,if_neg h3,e,if_neg (fun h=>h rfl)]
theorem uw {m:MD} {p:List Int} (h:fH m p=0):p.length=m.states.length∧∀ u,u < m.states.length→0≤p.getD u 0∧p.getD u 0 < ((m.states.getD u []).length:Int):=by
 unfold fH at h;by_cases h1:p.length=m.states.length
 ·rw [if_neg JY] at h;refine ⟨h1,fun u hu=>?_⟩;have:=bS h u Z;unfold fD at this;by_cases h2:p.getD u 0 < 0∨((m.states.getD u []).length:Int)≤p.getD u 0
  ·rw [if_pos h2] at this;cases this
  ·omega
 ·rw [if_pos h1] at h;cases h
theorem xm (a:Option Addr) (n c:Nat) (w:World) :
  Calls Tryz.prog 82 #[.slice a n c] w fun e w'=>e=.returned (.func (.func 139) #[] #[.pointer (some ⟨w.heap.size,0,none⟩)])∧w'=w.alloc (.cells #[.slice a n c] 30):=by
 have hmf:∀ (fn:Fn) (first cap:Array Value) (w:World),(Instr.makeFunc fn first cap).run Tryz.prog w=.ok (.func fn first cap) w:=fun _ _ _ _=>rfl;go_enter Tryz.func82,Tryz.ntmps82
 exact KI
def Ff (w0:World) (p:List (List Int)) (pre:List (Int × Value)) (x:Int × Value) (_:World):Prop:=pre.length < p.length∧aY .i64 w0 x.2 (p.reverse.getD pre.length [])
theorem xp (n:Nat) (hn:1≤n) (pa:Option Addr) (pc:Nat) (p:List (List Int)) (H N lb:Nat) (X:Nat→Prop) (w0 W1:World) (hp:dL w0 (.slice pa p.length pc) p) (hl:p.length≤1000000)
  (hx:Ext w0 W1) (hX:∀ i,X i→w0.heap.size≤i∧i < H) (UA:w0.heap.size≤H) (hH:H < N) (hN:N≤W1.heap.size) (hb0:af W1 H #[.slice pa p.length pc] 30) :
  uv Fence.wide n Tryz.prog 139 #[.pointer (some ⟨H,0,none⟩)] (ei N X) Ext (fun x:Int × Value=>#[.int .i64 x.1,x.2]) (Ff w0 p) (fun xs=>xs.length=p.length) lb W1:=by
 intro J Jp hJ hY h0;obtain ⟨HP,HX,HB0,Rk,HY⟩:=iR hp hx hb0 hJ hY;have hw0:w0.heap.size≤W1.heap.size:=HX.o.size;clear hp hx hJ hY;refine callsIn_of_wp Tryz.func139 rfl trivial ?_ rfl;simp only [Tryz.ntmps139,List.size_toArray,List.length_cons,List.length_nil,Nat.reduceAdd,Nat.reduceSub,Array.replicate_succ,Array.replicate_zero,List.push_toArray,List.append_toArray,List.nil_append,List.cons_append];have d0:=hb0.cell;have d1:=hb0.lt;gi_wp2_with fail;clear d0 d1 hb0;gi_loopw [3] (fun i wr=>∃ (j:Nat) (q:Int) (pre:List (Int × Value)),j≤p.length∧i=.int .i64 q∧q=(p.length:Int) - 1 - j∧pre.length=j∧J pre wr∧ei N X W1 wr) (fun i _=>(intOf i+1).toNat)
 case atStart=>exact ⟨0,_,[],by omega,rfl,by omega,rfl,h0,ei.refl _ _ _⟩
 case round=>
  obtain ⟨wk,hwk⟩:=gN (wr);subst hwk;obtain ⟨j,q,pre,hjk,rfl,hq,hpl,hj,hkp⟩:=hrel;have XK:Hid (Ext w0 wk):=kI (Below.trans HX.o (hkp.below (fun i h=>(hX i h).1) Z hw0));have BK:=kI (HB0.o.yd hkp Z (fun h=>by have:=(hX _ h).2;omega));obtain ⟨KP,HJ,mD⟩:=cC hkp hj hpl;clear hkp hj hpl;by_cases hlt:j < p.length
  ·obtain ⟨qn,rfl⟩:∃ qn:Nat,q=(qn:Int):=⟨q.toNat,by omega⟩;have Hm:qn=p.length - 1 - j:=Z
   have OL:qn < p.length:=Z
   obtain ⟨b,off,ai,ci,rfl,Ou,So,t2⟩:=HP.o.at OL;have t0:=Nat.lt_of_lt_of_le Ou XK.o.size;have t1:=(XK.o.cell (p:=⟨b,off+qn,none⟩) Ou).trans So;clear Ou So;have hrev:p.reverse.getD j []=p.getD qn []:=by
    rw [List.getD_eq_getElem?_getD,List.getElem?_reverse hlt,← List.getD_eq_getElem?_getD,Hm]
   rw [← hrev] at t1 t2;obtain ⟨pj,Fg⟩:=gN (p.reverse.getD j []);rw [← Fg] at t1 t2;obtain ⟨Ze,T2,HQN⟩:=cC Fg t2 Hm;have q1:(0:Int)≤(qn:Int):=Z
   have q2:(qn:Int) < (p.length:Int):=Z
   obtain ⟨fn,tmps,assign,body,hy,hR⟩:=HY.o pre ((qn:Int),.slice ai pj.length ci) wk HJ.o ⟨by rw [mD.o];exact hlt,by rw [mD.o,← Ze.o];exact T2.o⟩;have HRR:=kI hR;dsimp only at hy HRR;have LM:=BK.o.cell;have kb2:=BK.o.lt;clear hR t2 Fg hrev hq Hm;gi_wp2_with fail;refine HRR.o.mono ?_;rintro e9 W3 ⟨hb3,(⟨rfl,hJ3⟩|⟨ch,rfl,hJ3⟩)⟩
   ·have yu:=kI hJ3;have YK:=KP.x hb3;clear hJ3 hb3 hy HRR LM kb2;gi_wp2_with fail;go_roundw
    case rel=>exact ⟨j+1,(qn:Int) - 1,_,by omega,rfl,by have:=HQN.o;omega,by have:=mD.o;simp [this],yu.o,YK.o⟩
    case measure=>simp [intOf] <;> omega
   ·simp +zetaDelta only [Exit.then,Exit.inBlock];exact cH rfl (.inr ⟨_,_,rfl,hJ3⟩)
  ·obtain rfl:j=p.length:=Z
   have q6:¬ (0:Int)≤q:=Z
   gi_wp2_with fail;go_end0
   exact .inl ⟨⟨_,rfl⟩,⟨_,mD.o,HJ.o⟩⟩
theorem xt {q:Rat} (h:(dv q).2=0):(dv q).1=rep q∧small q:=by
 unfold dv at h ⊢;by_cases h1:small q
 ·rw [if_pos h1];exact ⟨rfl,h1⟩
 ·rw [if_neg h1] at h;cases h
theorem Fh {a b:RR} (h:(bL a b).2=0):(bL a b).1=rep (qv a+qv b)∧small (qv a+qv b):=by
 unfold bL at h ⊢;obtain ⟨e1,e2⟩:=ut h;rw [e1];exact xt e2
theorem Fi {a b:RR} (h:(mulR a b).2=0):(mulR a b).1=rep (qv a*qv b)∧small (qv a*qv b):=by
 unfold mulR at h ⊢;obtain ⟨e1,e2⟩:=ut h;rw [e1];exact xt e2
theorem Fj {q:Rat} (h:0≤q):(rep q).neg=false:=by
 unfold rep;exact decide_eq_false (Int.not_lt.2 (Rat.num_nonneg.2 h))
def NN (r:RR):Prop:=aE r=0∧bj r∧r.neg=false
theorem NN.zR:NN zR:=⟨rfl,bO,rfl⟩
theorem NN.of {q:Rat} (h:small q) (h0:0≤q):NN (rep q):=⟨oF h,cG q,Fj h0⟩
theorem NN.add {a b:RR} (ha:0≤qv a) (hb:0≤qv b) (h:(bL a b).2=0):NN (bL a b).1:=by
 obtain ⟨e,s⟩:=Fh h;rw [e];exact NN.of s (Rat.add_nonneg ha hb)
theorem NN.mul {a b:RR} (ha:0≤qv a) (hb:0≤qv b) (h:(mulR a b).2=0):NN (mulR a b).1:=by
 obtain ⟨e,s⟩:=Fi h;rw [e];exact NN.of s (Rat.mul_nonneg ha hb)
theorem NN.q {r:RR} (h:NN r):0≤qv r:=sO h.2.2
def yf (n:Nat) (l:List RR):Prop:=l.length=n∧∀ i,NN (l.getD i zR)
theorem ik (l:List RR) (i j:Nat) (x:RR) (h:i < l.length):(l.set i x).getD j zR=if j=i then x else l.getD j zR:=by
 rw [List.getD_eq_getElem?_getD,List.getElem?_set];by_cases e:j=i
 ·subst e;rw [if_pos rfl,if_pos h,if_pos rfl];rfl
 ·rw [if_neg (fun g=>e g.symm),if_neg e,← List.getD_eq_getElem?_getD]
theorem yf.set {l:List RR} (h:yf n l) {x:RR} (hx:NN x) {i:Nat} (hi:i < n):yf n (l.set i x):=by
 refine ⟨by rw [List.length_set];exact h.1,fun j=>?_⟩;rw [ik l i j x (by rw [h.1];exact hi)];split
 ·exact hx
 ·exact h.2 j
theorem mT (n i:Nat):(List.replicate n zR).getD i zR=zR:=by
 exact Xa
theorem yf.Sp (n:Nat):yf n (List.replicate n zR):=⟨List.length_replicate,fun i=>by rw [mT];exact NN.zR⟩
def sumF (f:Nat→Rat):Nat→Rat
 | 0=>0
 | n+1=>sumF f n+f n
theorem qH {f g:Nat→Rat}:∀ {n:Nat},(∀ i,i < n→f i=g i)→sumF f n=sumF g n
 | 0,_=>rfl
 | n+1,h=>by
  show sumF f n+f n=sumF g n+g n;rw [qH (fun i hi=>h i Z),h n Z]
theorem sX {f:Nat→Rat}:∀ {n:Nat},(∀ i,i < n→f i=0)→sumF f n=0
 | 0,_=>rfl
 | n+1,h=>by
  show sumF f n+f n=0;rw [sX (fun i hi=>h i Z),h n Z,Rat.add_zero]
theorem xu {f g:Nat→Rat}:∀ {n:Nat},i < n→(∀ j,j < n→j≠i→g j=f j)→sumF g n=sumF f n+(g i - f i)
 | 0,h,_=>by omega
 | n+1,h,hj=>by
  show sumF g n+g n=sumF f n+f n+(g i - f i);by_cases e:i=n
  ·subst e;rw [qH (f:=g) (g:=f) (fun j h1=>hj j Z Z)];grind
  ·rw [xu (n:=n) Z (fun j h1 h2=>hj j Z h2),hj n Z Z];grind
theorem zm (f:Nat→Rat):∀ n,sumF f (n+1)=f 0+sumF (fun i=>f (i+1)) n
 | 0=>by show (0:Rat)+f 0=f 0+0;rw [Rat.zero_add,Rat.add_zero]
 | n+1=>by
  show sumF f (n+1)+f (n+1)=f 0+(sumF (fun i=>f (i+1)) n+f (n+1));rw [zm f n,Rat.add_assoc]
def wS (n:Nat) (l:List RR) (f:Nat→Rat):Rat:=sumF (fun u=>qv (l.getD u zR)*f u) n
theorem Fk {l:List RR} (hi:i < n) (hl:l.length=n) (x:RR) (f:Nat→Rat):wS n (l.set i x) f=wS n l f+(qv x - qv (l.getD i zR))*f i:=by
 have h:=xu (f:=fun u=>qv (l.getD u zR)*f u) (g:=fun u=>qv ((l.set i x).getD u zR)*f u) hi (fun j h1 h2=>by
  show qv ((l.set i x).getD j zR)*f j=_;rw [ik l i j x Z,if_neg h2])
 rw [ik l i i x Z,if_pos rfl] at h;unfold wS;rw [h];grind
theorem AT (n:Nat) (f:Nat→Rat):wS n (List.replicate n zR) f=0:=sX (fun i _=>by rw [mT,Fd,Rat.zero_mul])
def mz:List Out→(Nat→Rat)→Rat
 | [],_=>0
 | o :: os,f=>qv o.2*f o.1.toNat+mz os f
theorem IP (v:List RR):∀ l:List Out,Mh (dY l) (ic v l)=mz l (fun t=>qv (v.getD t zR))
 | []=>rfl
 | o :: l=>by
  show qv o.2*qv (v.getD o.1.toNat zR)+Mh (dY l) (ic v l)=_;rw [IP v l];rfl
theorem qI {f g:Nat→Rat}:∀ {l:List Out},(∀ o ∈ l,f o.1.toNat=g o.1.toNat)→mz l f=mz l g
 | [],_=>rfl
 | o :: l,h=>by
  show qv o.2*f o.1.toNat+mz l f=qv o.2*g o.1.toNat+mz l g;rw [h o dc,qI (fun x hx=>h x PM)]
def Fl (n:Nat) (os:List Out):Prop:=∀ o ∈ os,0≤o.1∧o.1 < (n:Int)∧aE o.2=0∧o.2.neg=false
theorem AU {x:RR} (hx:NN x) {n:Nat} (f:Nat→Rat):∀ (os:List Out) (nx:List RR),Fl n os→yf n nx→(qX x os nx).2=0→yf n (qX x os nx).1∧wS n (qX x os nx).1 f=wS n nx f+qv x*mz os f
 | [],nx,_,h,_=>by
  refine ⟨h,?_⟩;show wS n nx f=wS n nx f+qv x*0;rw [Rat.mul_zero,Rat.add_zero]
 | o :: os,nx,ho,h,he=>by
  obtain ⟨o1,o2,o3,o4⟩:=ho o dc;unfold qX at he ⊢;by_cases h1:(mulR x o.2).2=0
  ·rw [if_neg JY] at he ⊢;by_cases h2:(bL (nx.getD o.1.toNat zR) (mulR x o.2).1).2=0
   ·rw [if_neg Bk] at he ⊢;have hm:=NN.mul hx.q (sO o4) h1;have hi:o.1.toNat < n:=Z
    have ha:=NN.add (h.2 o.1.toNat).q hm.q h2;obtain ⟨k1,k2⟩:=AU hx f os _ (fun y hy=>ho y N0) (h.set ha hi) he;refine ⟨k1,?_⟩;rw [k2,Fk hi h.1,(qC h2).1,(Fc h1).1];show _=wS n nx f+qv x*(qv o.2*f o.1.toNat+mz os f);grind
   ·rw [if_pos h2] at he;exact absurd he h2
  ·rw [if_pos h1] at he;exact absurd he h1
theorem Mj {r:RR} (h:r.num=[]):qv r=0:=by
 unfold qv;rw [h];have e:sg r.neg (nv [])=0:=by cases r.neg <;> rfl
 rw [e,Rat.zero_mkRat]
def nT (g:Nat→Rat):List Nat→Rat
 | []=>0
 | u :: us=>g u+nT g us
theorem xy (g:Nat→Rat) (b:List Nat):∀ a,nT g (a ++ b)=nT g a+nT g b
 | []=>by show nT g b=0+nT g b;rw [Rat.zero_add]
 | u :: a=>by
  show g u+nT g (a ++ b)=g u+nT g a+nT g b;rw [xy g b a,Rat.add_assoc]
theorem qJ (g:Nat→Rat):∀ n,nT g (List.range n)=sumF g n
 | 0=>rfl
 | n+1=>by
  rw [List.range_succ,xy,qJ g n];show sumF g n+(g n+0)=sumF g n+g n;rw [Rat.add_zero]
theorem ux {m:MD} {p:List Int} {l:List RR} (hl:yf n l) (hO:∀ u,u < n→Fl n (m.act u (p.getD u 0).toNat).next) (f:Nat→Rat) :
  ∀ (us:List Nat) (nx:List RR),(∀ u ∈ us,u < n)→yf n nx→(mG m p l us nx).2=0→yf n (mG m p l us nx).1∧wS n (mG m p l us nx).1 f=wS n nx f+nT (fun u=>qv (l.getD u zR)*mz (m.act u (p.getD u 0).toNat).next f) us
 | [],nx,_,h,_=>by
  refine ⟨h,?_⟩;show wS n nx f=wS n nx f+0;rw [Rat.add_zero]
 | u :: us,nx,hu,h,he=>by
  unfold mG at he ⊢;by_cases h1:(l.getD u zR).num=[]
  ·rw [if_pos h1] at he ⊢;obtain ⟨k1,k2⟩:=ux hl hO f us nx (fun x hx=>hu x PM) h he;refine ⟨k1,?_⟩;rw [k2];show _=wS n nx f+(qv (l.getD u zR)*_+nT _ us);rw [Mj h1,Rat.zero_mul,Rat.zero_add]
  ·rw [if_neg h1] at he ⊢;by_cases h2:(qX (l.getD u zR) (m.act u (p.getD u 0).toNat).next nx).2=0
   ·rw [if_neg Bk] at he ⊢;obtain ⟨j1,j2⟩:=AU (hl.2 u) f _ nx (hO u (hu u dc)) h h2;obtain ⟨k1,k2⟩:=ux hl hO f us _ (fun x hx=>hu x PM) j1 he;refine ⟨k1,?_⟩;rw [k2,j2,Rat.add_assoc];rfl
   ·rw [if_pos h2] at he;exact absurd he h2
def TT (m:MD):List (List Int)→(Nat→Rat)→Nat→Rat
 | [],f=>f
 | p :: ps,f=>fun u=>mz (m.act u (p.getD u 0).toNat).next (TT m ps f)
def IQ (m:MD) (p:List Int):Prop:=p.length=m.states.length∧∀ u,u < m.states.length→0≤p.getD u 0∧p.getD u 0 < ((m.states.getD u []).length:Int)
theorem AV {m:MD} (hm:fS m=0) {p:List Int} (hp:IQ m p) {u:Nat} (hu:u < m.states.length):Fl m.states.length (m.act u (p.getD u 0).toNat).next:=by
 have h:=hp.2 u hu;exact uu (fd (qD hm hu Z)).2.2.2.1
theorem AW {m:MD} (hm:fS m=0) (f:Nat→Rat):∀ (ps:List (List Int)) (l:List RR),(∀ p ∈ ps,IQ m p)→yf m.states.length l→(mH m ps l).2=0→yf m.states.length (mH m ps l).1∧wS m.states.length (mH m ps l).1 f=wS m.states.length l (TT m ps f)
 | [],l,_,h,_=>⟨h,rfl⟩
 | p :: ps,l,hp,h,he=>by
  unfold mH at he ⊢;by_cases h2:(mG m p l (List.range m.states.length) (List.replicate m.states.length zR)).2=0
  ·rw [if_neg Bk] at he ⊢;obtain ⟨j1,j2⟩:=ux h (fun u hu=>AV hm (hp p dc) hu) (TT m ps f) _ _ (fun u hu=>List.mem_range.1 hu) (yf.Sp _) h2;obtain ⟨k1,k2⟩:=AW hm f ps _ (fun x hx=>hp x PM) j1 he;refine ⟨k1,?_⟩;rw [k2,j2,AT,Rat.zero_add,qJ];rfl
  ·rw [if_pos h2] at he;exact absurd he h2
theorem xA:∀ (l:List RR) (s:RR),aE s=0→(du s l).2=0→qv (du s l).1=qv s+(l.map qv).foldr (· + ·) 0
 | [],s,_,_=>by show qv s=qv s+0;rw [Rat.add_zero]
 | x :: l,s,hs,h=>by
  unfold du at h ⊢;by_cases h1:(bL s x).2=0
  ·rw [if_pos h1] at h ⊢;rw [xA l _ (qC h1).2 h,(qC h1).1];show _=qv s+(qv x+_);rw [Rat.add_assoc]
  ·rw [if_neg h1] at h;exact absurd h h1
theorem sY:∀ (l:List Out),mz l (fun _=>1)=((dY l).map qv).foldr (· + ·) 0
 | []=>rfl
 | o :: l=>by
  show qv o.2*1+mz l (fun _=>1)=qv o.2+((dY l).map qv).foldr (· + ·) 0;rw [Rat.mul_one,sY l]
theorem IR {x:aL} (h:dZ n x=0):mz x.next (fun _=>1)=1:=by
 have h5:=(fd h).2.2.2.2;have e:=xA (dY x.next) zR rfl (by rw [h5]);rw [h5,Fd,Rat.zero_add] at e;dsimp only at e;rw [gd] at e;rw [sY,← e]
theorem Fm {m:MD} (hm:fS m=0):∀ (ps:List (List Int)),(∀ p ∈ ps,IQ m p)→∀ u,u < m.states.length→TT m ps (fun _=>1) u=1
 | [],_,_,_=>rfl
 | p :: ps,hp,u,hu=>by
  show mz (m.act u (p.getD u 0).toNat).next (TT m ps fun _=>1)=1;have hv:=AV hm (hp p dc) hu;rw [qI (g:=fun _=>1) (fun o ho=>Fm hm ps (fun x hx=>hp x PM) _ (by have:=hv o ho;omega))];have h:=(hp p dc).2 u hu;exact IR (qD hm hu Z)
theorem sZ:small ((1:Int):Rat):=BV ah ah
theorem Mk (m:MD) {s:Int} (h0:0≤s) (h1:s < (m.states.length:Int)):yf m.states.length (jh m s):=(yf.Sp _).set (NN.of sZ ah) Z
theorem Ml (m:MD) {s:Int} (h0:0≤s) (h1:s < (m.states.length:Int)) (f:Nat→Rat):wS m.states.length (jh m s) f=f s.toNat:=by
 unfold jh;rw [Fk Z List.length_replicate,AT,mT,Fd,gd];grind
theorem zo {m:MD} (h:(aM m plan s).2=0):fS m=0∧0≤s∧s < (m.states.length:Int)∧plan.length≤24∧(∀ p ∈ plan.reverse,IQ m p)∧(mH m plan.reverse (jh m s)).2=0∧(aM m plan s).1=(mH m plan.reverse (jh m s)).1:=by
 unfold aM at h ⊢;by_cases h1:fS m=0
 ·rw [if_neg JY] at h ⊢;by_cases h2:s < 0∨(m.states.length:Int)≤s
  ·exact JT
  ·rw [if_neg h2] at h ⊢;by_cases h3:24 < plan.length
   ·rw [if_pos h3] at h;cases h
   ·rw [if_neg h3] at h ⊢;by_cases h4:Ot m plan.reverse=0
    ·rw [if_neg (by simpa using h4)] at h ⊢;by_cases h5:(mH m plan.reverse (jh m s)).2=0
     ·rw [if_neg (by simpa using h5)];refine ⟨h1,by omega,by omega,by omega,fun p hp=>?_,h5,rfl⟩;obtain ⟨i,hi,e⟩:=List.mem_iff_getElem.1 hp;have h6:=bS h4 i hi;rw [List.getD_eq_getElem?_getD,List.getElem?_eq_getElem hi,e] at h6;exact uw h6
     ·rw [if_pos h5] at h;exact absurd h h5
    ·rw [if_pos h4] at h;exact absurd h h4
 ·exact Pu
theorem xB {m:MD} (h:(aM m plan s).2≠0):(aM m plan s).1=[]:=by
 unfold aM at h ⊢;by_cases h1:fS m=0
 ·rw [if_neg JY] at h ⊢;by_cases h2:s < 0∨(m.states.length:Int)≤s
  ·rw [if_pos h2]
  ·rw [if_neg h2] at h ⊢;by_cases h3:24 < plan.length
   ·rw [if_pos h3]
   ·rw [if_neg h3] at h ⊢;by_cases h4:Ot m plan.reverse=0
    ·rw [if_neg (by simpa using h4)] at h ⊢;by_cases h5:(mH m plan.reverse (jh m s)).2=0
     ·rw [if_neg (by simpa using h5)] at h;exact absurd h5 h
     ·rw [if_pos h5]
    ·rw [if_pos h4]
 ·rw [if_pos h1]
theorem xC {m:MD} (h:(aM m plan s).2=0):yf m.states.length (aM m plan s).1∧wS m.states.length (aM m plan s).1 (fun _=>1)=1:=by
 obtain ⟨h1,h2,h3,h4,h5,h6,h7⟩:=zo h;rw [h7];obtain ⟨k1,k2⟩:=AW h1 (fun _=>1) plan.reverse (jh m s) h5 (Mk m h2 h3) h6;refine ⟨k1,?_⟩;rw [k2,Ml m h2 h3,Fm h1 _ h5 _ Z]
theorem zr {r:RR} (hl:bj r) (hc:aE r=0):rep (qv r)=r:=(fQ hl hc).2.2
theorem qK {l:List RR}:d8 l (k+1)=if qv (l.getD k zR) < qv (l.getD (d8 l k) zR) then k else d8 l k:=rfl
end Go.Proofs.YtnnjbaijcaiohaaGreat
