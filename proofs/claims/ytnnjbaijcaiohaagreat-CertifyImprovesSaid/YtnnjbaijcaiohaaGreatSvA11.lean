/- Walks and lemmas. -/
import Derived.Test.YtnnjbaijcaiohaaGreatSvA10
import Derived.WalkMore
import Derived.Test.YtnnjbaijcaiohaaGreatSvA7
import Derived.Test.YtnnjbaijcaiohaaGreatSvA8
set_option linter.unusedVariables false
set_option linter.unusedSimpArgs false
set_option maxRecDepth 100000
set_option maxHeartbeats 16000000
namespace Go.Proofs.YtnnjbaijcaiohaaGreat
open Go.RowKit
theorem Cx {n:Nat} {co:RR} {l:List Out} (h:aA co≠0):eW n ⟨co,l⟩=aA co:=if_pos h
theorem Ol {n:Nat} {co:RR} {l:List Out} (h:aA co=0) (h2:l.length=0):eW n ⟨co,l⟩=3:=by unfold eW;rw [if_neg kN,if_pos h2]
theorem Oo {n:Nat} {co:RR} {l:List Out} (h:aA co=0) (h2:l.length≠0) (h3:64 < l.length):eW n ⟨co,l⟩=4:=by unfold eW;rw [if_neg kN,if_neg h2,if_pos h3]
theorem FQ {n:Nat} {co:RR} {l:List Out} (h:aA co=0) (h2:l.length≠0) (h3:¬ 64 < l.length) {k:Nat} (hk:k < l.length) (h4:∀ j,j < k→ej n l j=0) {c:Int} (h5:ej n l k=c) (h6:c≠0):eW n ⟨co,l⟩=c:=by
 have e:=dF h4 (by rw [h5];exact h6) hk;unfold eW;rw [if_neg kN,if_neg h2,if_neg h3];dsimp only;rw [e,h5,if_pos h6]
theorem Js {n:Nat} {co:RR} {l:List Out} (h:aA co=0) (h2:l.length≠0) (h3:¬ 64 < l.length) (h4:∀ j,j < l.length→ej n l j=0):eW n ⟨co,l⟩=if (cZ zR (fj l)).2≠0 then (cZ zR (fj l)).2 else if (cZ zR (fj l)).1=rep 1 then 0 else 2:=by
 have e:=bH h4;unfold eW;rw [if_neg kN,if_neg h2,if_neg h3];dsimp only;rw [e,if_neg (fun h=>h rfl)]
theorem iN (l:List Out):(fj l).length=l.length:=by simp [fj]
theorem xM (l:List Out) (i:Nat):(fj l).getD i zR=(l.getD i dO).2:=by
 unfold fj;rw [List.getD_eq_getElem?_getD,List.getElem?_map,List.getD_eq_getElem?_getD];cases l[i]? <;> rfl
theorem uY {a b:RR} (h:(cz a b).2=0):aA (cz a b).1=0:=by
 unfold cz i9 at h ⊢;split at h
 ·rename_i h0;rw [if_pos h0];unfold dK at h ⊢;split at h
  ·rename_i h1;rw [if_pos h1];exact yN h1
  ·cases h
 ·rename_i h0;exact absurd h h0
theorem FS {r:RR} (hl:aC r) (h:aA r=0):cA r (rep ((1:Int):Rat))=(if r=rep 1 then 0 else (cA r (rep ((1:Int):Rat))).1,0)∧((cA r (rep ((1:Int):Rat))).1=0↔r=rep 1):=by
 have h1:aA (rep ((1:Int):Rat))=0:=ax
 have hv:=(eQ hl h).2.2;have hq:qv (rep ((1:Int):Rat))=1:=jk _;have hc:cA r (rep ((1:Int):Rat))=(eu (qv r) 1,0):=by unfold cA;rw [if_pos (dz h h1),hq]
 have hi:eu (qv r) 1=0↔r=rep 1:=by
  unfold eu;constructor
  ·intro e;split at e
   ·cases e
   ·split at e
    ·rename_i e2;rw [← hv,e2]
    ·cases e
  ·intro e;have e2:qv r=1:=by rw [e];exact hq
   rw [e2,if_neg (Rat.lt_irrefl),if_pos rfl]
 rw [hc];refine ⟨?_,hi⟩;dsimp only;split
 ·rename_i e;rw [hi.2 e]
 ·rfl
def Jt (s:RR) (c:Int) (j:Nat) (v:Value) (W:World):Prop:=
 match j with
 | 0=>∃ s1 s2 s3 s4,v=.agg #[.bool s.neg,.slice s1 s.num.length s2,.slice s3 s.den.length s4]∧bh W (.agg #[.bool s.neg,.slice s1 s.num.length s2,.slice s3 s.den.length s4]) s
 | 1=>∃ v',v=v'∧bh W v' (rep ((1:Int):Rat))
 | 2=>v=.tuple #[.int .i64 c,.int .i64 0]
 | 3=>v=.tuple #[.int .i64 c,.int .i64 0]
 | 4=>v=.int .i64 c
 | 5=>v=.int .i64 0
 | 6=>v=.int .i64 c
 | 7=>v=.int .i64 0
 | _=>True
theorem Cy {s:RR} {c:Int} {j:Nat} {v:Value} {W W':World} (h:Jt s c j v W) (x:Ext W W'):Jt s c j v W':=by
 match j,h with
 | 0,⟨s1,s2,s3,s4,h1,h2⟩=>exact ⟨s1,s2,s3,s4,h1,h2.ext x⟩
 | 1,⟨v9,h1,h2⟩=>exact ⟨v9,h1,h2.ext x⟩
 | 2,h=>exact h
 | 3,h=>exact h
 | 4,h=>exact h
 | 5,h=>exact h
 | 6,h=>exact h
 | 7,h=>exact h
 | _+8,_=>trivial
theorem tf (v:Value) (x:bg) (n:Nat) (w:World) (h:iu w v x) (hl:qO x) :
  Calls Tryz.prog 138 #[v,.int .i64 (n:Nat)] w fun e w'=>e=.returned (.int .i64 (eW n x))∧Ext w w':=by
 obtain ⟨co,l⟩:=x;obtain ⟨a1,c1,a2,c2,a3,c3,rfl,hr,ho⟩:=h;obtain ⟨hl1,hl2⟩:=hl;dsimp only at hr ho hl1 hl2 ⊢;have hll:l.length≤9223372036854775807:=by obtain ⟨_,_,_,h⟩:=ho.shape;exact h
 have HR:=kI hr;have HO:=kI ho;have kY:=kI hl1;have HL2:=kI hl2;clear hr ho hl1 hl2;have bb0:=(ag.new w #[.bool co.neg,.slice a1 co.num.length c1,.slice a2 co.den.length c2,.slice a3 l.length c3] 83);have x0:Ext w (w.alloc (.cells #[.bool co.neg,.slice a1 co.num.length c1,.slice a2 co.den.length c2,.slice a3 l.length c3] 83)):=((Ext.refl w).alloc _);have A0:=kI bb0;have X:=kI x0;clear x0 bb0;replace HR:=kI (HR.o.ext X.o);replace HO:=kI (HO.o.ext X.o);go_enter Tryz.func138,Tryz.ntmps138
 obtain ⟨aK,fA0,aJ⟩:=A0.o.q3;go_wp2_with fail;refine (ee _ co _ HR.o kY.o).mono ?_;rintro e w1 ⟨rfl,hx⟩;clear aK fA0 aJ;replace HR:=kI (HR.o.ext hx);replace HO:=kI (HO.o.ext hx);replace A0:=kI (A0.o.ext hx);replace X:=kI (X.o.trans hx);clear hx;by_cases h1:aA co=0
 rotate_left
 ·have E:=kI (Cx (n:=n) (l:=l) h1);obtain ⟨c,hc⟩:=gN (aA co);rw [← hc] at E h1 ⊢;have q1:(c != 0)=true:=by simpa using h1
  clear h1 hc;go_wp2_with fail;go_ret;exact ⟨bp E.o.symm,X.o⟩
 rw [h1];by_cases h2:l.length=0
 ·have E:=kI (Ol (n:=n) h1 h2);have q2:((l.length:Int) == 0)=true:=by simp [h2]
  clear h1 h2;obtain ⟨aK,fA0,aJ⟩:=A0.o.q3;go_wp2_with fail;go_ret;exact ⟨bp E.o.symm,X.o⟩
 have q2:((l.length:Int) == 0)=false:=beq_eq_false_iff_ne.2 Z;by_cases h3:64 < l.length
 ·have E:=kI (Oo (n:=n) h1 h2 h3);have q3:(64:Int) < (l.length:Int):=Z
  clear h1 h2 h3;obtain ⟨aK,fA0,aJ⟩:=A0.o.q3;go_wp2_with fail;go_ret;exact ⟨bp E.o.symm,X.o⟩
 have q3:¬ (64:Int) < (l.length:Int):=Z
 have HE:=kI (fun (k:Nat) (hk:k < l.length) h4 (c:Int) h5 h6=>FQ (n:=n) (k:=k) (c:=c) h1 h2 h3 hk h4 h5 h6);have HI:=kI (Js (n:=n) h1 h2 h3);clear h1;obtain ⟨aK,fA0,aJ⟩:=A0.o.q3;go_wp2_with fail;clear aK fA0 aJ;clear q2 q3;obtain ⟨wb,hwb⟩:=gN (w1);rw [← hwb] at HR HO A0 X ⊢;clear hwb;obtain ⟨An,hAn⟩:=gN (w.heap.size);rw [← hAn] at A0 ⊢;clear hAn;go_loopw [35] (fun i wr=>∃ k:Nat,k≤l.length∧i=.int .i64 k∧(∀ j,j < k→ej n l j=0)∧Ext wb wr) (fun i _=>l.length - (intOf i).toNat)
 case atStart=>exact ⟨0,by omega,rfl,fun j hj=>by omega,Ext.refl wb⟩
 case round=>
  obtain ⟨wk,hwk⟩:=gN (wr);subst hwk;obtain ⟨k,hk,rfl,hok,hx⟩:=hrel;have OK:=kI hok;have XB:=kI hx;replace HR:=kI (HR.o.ext hx);replace HO:=kI (HO.o.ext hx);replace A0:=kI (A0.o.ext hx);replace X:=kI (X.o.trans hx);clear hok hx;by_cases hlt:k < l.length
  ·obtain ⟨b,off,p1,d1,p2,d2,rfl,z0,z1,z2,z3,z4,z5⟩:=HO.o.at hlt;have hy:=HL2.o k;obtain ⟨y,kO⟩:=gN (l.getD k dO);rw [← kO] at z1 z2 z3 z4 z5 hy;obtain ⟨tw,r⟩:=y;dsimp only at z1 z2 z3 z4 z5 hy;have NR:=kI z5;have HY:=kI kO;have Rp:=kI hy;have q1:(0:Int)≤(k:Int):=Z
   have q2:(k:Int) < (l.length:Int):=Z
   clear z5 kO hy;obtain ⟨wo,hwo⟩:=gN (wk.alloc (.cells #[.int .i64 tw,.bool r.neg,.slice p1 r.num.length d1,.slice p2 r.den.length d2] 80));have hx:Ext wk wo:=by rw [hwo];exact (Ext.refl _).alloc _
   have qE:ag wo wk.heap.size #[.int .i64 tw,.bool r.neg,.slice p1 r.num.length d1,.slice p2 r.den.length d2] 80:=by rw [hwo];exact ag.new _ _ _
   have qF:=kI hwo;replace HR:=kI (HR.o.ext hx);replace HO:=kI (HO.o.ext hx);replace A0:=kI (A0.o.ext hx);replace NR:=kI (NR.o.ext hx);replace X:=kI (X.o.trans hx);obtain ⟨Yn,Rq⟩:=gN (wk.heap.size);have BY:=kI qE;have Xb:=kI Rq;rw [← Rq] at BY;have lY:=BY.o.lt;replace XB:=kI (XB.o.trans hx);have Z4:(wk.alloc (.cells #[.int .i64 tw,.bool r.neg,.slice p1 r.num.length d1,.slice p2 r.den.length d2] 80)).cell? ⟨wk.heap.size,0,none⟩=some (.int .i64 tw):=by rw [← hwo,← Rq];exact BY.o.cell 0
   clear hwo hx qE Rq lY;by_cases d1:tw < 0
   ·have hE:ej n l k=8:=by
     unfold ej;rw [← HY.o];dsimp only;rw [if_pos (.inl d1)]
    have E:=kI (HE.o k hlt OK.o 8 hE ap);clear hE;go_wp2_with fail;go_ret;have:=X.o;exact ⟨bp E.o.symm,by rw [qF.o] at this;exact this⟩
   by_cases d2:(n:Int)≤tw
   ·have hE:ej n l k=8:=by
     unfold ej;rw [← HY.o];dsimp only;rw [if_pos (.inr d2)]
    have E:=kI (HE.o k hlt OK.o 8 hE ap);clear hE;go_wp2_with fail;go_ret;have:=X.o;exact ⟨bp E.o.symm,by rw [qF.o] at this;exact this⟩
   go_wp2_with fail;rw [← qF.o,← Xb.o];clear qF Xb Z4 z0 z1 z2 z3 z4;have D2:=kI (And.intro d1 d2);clear d1 d2;rcases Nat.eq_zero_or_pos k with h0|h0
   ·have D3:=kI (show ¬ (0 < k∧tw≤(l.getD (k - 1) dO).1) from by omega);have g1:decide ((0:Int) < (k:Int))=false:=decide_eq_false Z;go_quiet (fail)
    obtain ⟨wq,hwq⟩:=gN (wo.drewN nq);rw [← hwq];have hx:Ext wo wq:=by rw [hwq];exact (Ext.refl _).drewN _
    replace HR:=kI (HR.o.ext hx);replace HO:=kI (HO.o.ext hx);replace A0:=kI (A0.o.ext hx);replace NR:=kI (NR.o.ext hx);replace BY:=kI (BY.o.ext hx);replace X:=kI (X.o.trans hx);replace XB:=kI (XB.o.trans hx);clear hx hwq;obtain ⟨aK,fA0,aJ⟩:=A0.o.q3;obtain ⟨Ah,Ai,Aj⟩:=BY.o.q3;go_wp2_with fail;refine (ee _ r _ NR.o Rp.o).mono ?_;rintro e w2 ⟨rfl,hx⟩;clear aK fA0 aJ Ah Ai Aj;replace HR:=kI (HR.o.ext hx);replace HO:=kI (HO.o.ext hx);replace A0:=kI (A0.o.ext hx);replace NR:=kI (NR.o.ext hx);replace BY:=kI (BY.o.ext hx);replace X:=kI (X.o.trans hx);replace XB:=kI (XB.o.trans hx);clear hx;by_cases e1:aA r=0
    rotate_left
    ·have hE:ej n l k=aA r:=by
      unfold ej;rw [← HY.o];dsimp only;rw [if_neg IL,if_neg D3.o,if_pos e1]
     have E:=kI (HE.o k hlt OK.o _ hE e1);clear hE;obtain ⟨c,hc⟩:=gN (aA r);rw [← hc] at E e1 ⊢;have q4:(c != 0)=true:=by simpa using e1
     clear e1 hc;go_wp2_with fail;go_ret;exact ⟨bp E.o.symm,X.o⟩
    rw [e1];by_cases e2:r.neg=true∨r.num=[]
    ·have hE:ej n l k=1:=by
      unfold ej;rw [← HY.o];dsimp only;rw [if_neg IL,if_neg D3.o,if_neg Q7,if_pos e2]
     have E:=kI (HE.o k hlt OK.o _ hE ap);clear hE e1;by_cases e3:r.neg=true
     ·clear e2;obtain ⟨Ah,Ai,Aj⟩:=BY.o.q3;go_wp2_with fail;go_ret;exact ⟨bp E.o.symm,X.o⟩
     ·have e4:r.neg=false:=by simpa using e3
      have q5:((r.num.length:Int) == 0)=true:=by
       rcases e2 with e2|e2
       ·exact absurd e2 e3
       ·simp [e2]
      clear e2 e3;obtain ⟨Ah,Ai,Aj⟩:=BY.o.q3;go_wp2_with fail;go_ret;exact ⟨bp E.o.symm,X.o⟩
    have hE:ej n l k=0:=by
     unfold ej;rw [← HY.o];dsimp only;rw [if_neg IL,if_neg D3.o,if_neg Q7,if_neg e2]
    have e4:r.neg=false:=by
     cases hh:r.neg
     ·rfl
     ·exact absurd (.inl hh) e2
    have q5:((r.num.length:Int) == 0)=false:=beq_eq_false_iff_ne.2 (fun h=>e2 (.inr (List.length_eq_zero_iff.1 Z)));have Ip:∀ j,j < k+1→ej n l j=0:=fun j hj=>by
     by_cases e:j=k
     ·rw [e];exact hE
     ·exact OK.o j Z
    have Ju:=kI Ip;clear hE e1 e2 Ip;obtain ⟨Ah,Ai,Aj⟩:=BY.o.q3;go_wp2_with fail;go_roundw
    case rel=>exact ⟨k+1,by omega,by go_num,Ju.o,XB.o⟩
    case measure=>simp [intOf];omega
   ·obtain ⟨m,hm⟩:∃ m,k=m+1:=⟨k - 1,by omega⟩;obtain ⟨b',off',p3,d3,p4,d4,eb,y0,y1,-,-,-,-⟩:=HO.o.at (show m < l.length by omega);injection eb with eb
    injection eb with Iq Oq
    subst Iq;subst Oq;obtain ⟨zt,Ot⟩:=gN ((l.getD m dO).1);rw [← Ot] at y1;have g1:decide ((0:Int) < (k:Int))=true:=decide_eq_true Z;have g2:(k:Int) - 1=(m:Int):=Z
    have g3:(0:Int)≤(m:Int):=Z
    have g4:(m:Int) < (l.length:Int):=Z
    have hk1:k - 1=m:=Z
    by_cases d3:tw≤zt
    ·have hE:ej n l k=16:=by
      unfold ej;rw [← HY.o,hk1,← Ot];dsimp only;rw [if_neg IL,if_pos ⟨h0,d3⟩]
     have E:=kI (HE.o k hlt OK.o 16 hE ap);have g5:decide (tw≤zt)=true:=decide_eq_true d3;clear hE hk1 Ot hm;have g6:decide (0 < k)=true:=decide_eq_true h0;obtain ⟨aK,fA0,aJ⟩:=A0.o.q3;obtain ⟨Ah,Ai,Aj⟩:=BY.o.q3;go_quiet (fail)
     obtain ⟨wq,hwq⟩:=gN (wo.drewN nq);rw [← hwq];have hx:Ext wo wq:=by rw [hwq];exact (Ext.refl _).drewN _
     clear aK fA0 aJ Ah Ai Aj;replace HR:=kI (HR.o.ext hx);replace HO:=kI (HO.o.ext hx);replace A0:=kI (A0.o.ext hx);replace NR:=kI (NR.o.ext hx);replace BY:=kI (BY.o.ext hx);replace X:=kI (X.o.trans hx);replace XB:=kI (XB.o.trans hx);clear hx hwq;go_wp2_with fail;go_ret;exact ⟨bp E.o.symm,X.o⟩
    have D3:=kI (show ¬ (0 < k∧tw≤(l.getD (k - 1) dO).1) from by rw [hk1,← Ot];omega);have g5:decide (tw≤zt)=false:=decide_eq_false d3;clear hk1 Ot hm d3;have g6:decide (0 < k)=true:=decide_eq_true h0;obtain ⟨aK,fA0,aJ⟩:=A0.o.q3;obtain ⟨Ah,Ai,Aj⟩:=BY.o.q3;go_quiet (fail)
    obtain ⟨wq,hwq⟩:=gN (wo.drewN nq);rw [← hwq];have hx:Ext wo wq:=by rw [hwq];exact (Ext.refl _).drewN _
    clear aK fA0 aJ Ah Ai Aj;replace HR:=kI (HR.o.ext hx);replace HO:=kI (HO.o.ext hx);replace A0:=kI (A0.o.ext hx);replace NR:=kI (NR.o.ext hx);replace BY:=kI (BY.o.ext hx);replace X:=kI (X.o.trans hx);replace XB:=kI (XB.o.trans hx);clear hx hwq;clear y0 y1 g1 g2 g3 g4 g5 g6 h0;obtain ⟨aK,fA0,aJ⟩:=A0.o.q3;obtain ⟨Ah,Ai,Aj⟩:=BY.o.q3;go_wp2_with fail;refine (ee _ r _ NR.o Rp.o).mono ?_;rintro e w2 ⟨rfl,hx⟩;clear aK fA0 aJ Ah Ai Aj;replace HR:=kI (HR.o.ext hx);replace HO:=kI (HO.o.ext hx);replace A0:=kI (A0.o.ext hx);replace NR:=kI (NR.o.ext hx);replace BY:=kI (BY.o.ext hx);replace X:=kI (X.o.trans hx);replace XB:=kI (XB.o.trans hx);clear hx;by_cases e1:aA r=0
    rotate_left
    ·have hE:ej n l k=aA r:=by
      unfold ej;rw [← HY.o];dsimp only;rw [if_neg IL,if_neg D3.o,if_pos e1]
     have E:=kI (HE.o k hlt OK.o _ hE e1);clear hE;obtain ⟨c,hc⟩:=gN (aA r);rw [← hc] at E e1 ⊢;have q4:(c != 0)=true:=by simpa using e1
     clear e1 hc;go_wp2_with fail;go_ret;exact ⟨bp E.o.symm,X.o⟩
    rw [e1];by_cases e2:r.neg=true∨r.num=[]
    ·have hE:ej n l k=1:=by
      unfold ej;rw [← HY.o];dsimp only;rw [if_neg IL,if_neg D3.o,if_neg Q7,if_pos e2]
     have E:=kI (HE.o k hlt OK.o _ hE ap);clear hE e1;by_cases e3:r.neg=true
     ·clear e2;obtain ⟨Ah,Ai,Aj⟩:=BY.o.q3;go_wp2_with fail;go_ret;exact ⟨bp E.o.symm,X.o⟩
     ·have e4:r.neg=false:=by simpa using e3
      have q5:((r.num.length:Int) == 0)=true:=by
       rcases e2 with e2|e2
       ·exact absurd e2 e3
       ·simp [e2]
      clear e2 e3;obtain ⟨Ah,Ai,Aj⟩:=BY.o.q3;go_wp2_with fail;go_ret;exact ⟨bp E.o.symm,X.o⟩
    have hE:ej n l k=0:=by
     unfold ej;rw [← HY.o];dsimp only;rw [if_neg IL,if_neg D3.o,if_neg Q7,if_neg e2]
    have e4:r.neg=false:=by
     cases hh:r.neg
     ·rfl
     ·exact absurd (.inl hh) e2
    have q5:((r.num.length:Int) == 0)=false:=beq_eq_false_iff_ne.2 (fun h=>e2 (.inr (List.length_eq_zero_iff.1 Z)));have Ip:∀ j,j < k+1→ej n l j=0:=fun j hj=>by
     by_cases e:j=k
     ·rw [e];exact hE
     ·exact OK.o j Z
    have Ju:=kI Ip;clear hE e1 e2 Ip;obtain ⟨Ah,Ai,Aj⟩:=BY.o.q3;go_wp2_with fail;go_roundw
    case rel=>exact ⟨k+1,by omega,by go_num,Ju.o,XB.o⟩
    case measure=>simp [intOf];omega
  ·obtain rfl:k=l.length:=Z
   have q1:¬ (l.length:Int) < (l.length:Int):=Z
   have hI:=HI.o OK.o;clear HE;obtain ⟨aK,fA0,aJ⟩:=A0.o.q3;go_wp2_with fail;clear aK fA0 aJ;obtain ⟨wz,hwz⟩:=gN (wk.alloc (.cells #[.bool false,.slice none 0 0,.slice none 0 0] 25));have hx:Ext wk wz:=by rw [hwz];exact (Ext.refl _).alloc _
   have hb0:ag wz wk.heap.size #[.bool false,.slice none 0 0,.slice none 0 0] 25:=by rw [hwz];exact ag.new _ _ _
   rw [← hwz];obtain ⟨Bn,hBn⟩:=gN (wk.heap.size);rw [← hBn] at hb0 ⊢;have hs0:mZ wz Bn 25 zR:=⟨_,_,_,_,hb0,(aV.zero wz wz).rd⟩;have TD:=kI hs0;have HX0:=kI hx;have Z5:=kI (Nat.le_of_eq hBn.symm);have HI2:=kI hI;have Rr:=kI (Nat.le_trans X.o.size (Nat.le_of_eq hBn.symm));clear hwz hx hb0 hBn hs0 hI HI;go_loopw [10,88] (fun e i wr=>∃ (k:Nat) (s:RR),k≤l.length∧i=.int .i64 k∧e=.int .i64 0∧cZ zR (fj l)=cZ s ((fj l).drop k)∧aC s∧aA s=0∧mZ wr Bn 25 s∧Ext wk wr) (fun _ i _=>l.length - (intOf i).toNat)
   case atStart=>exact ⟨0,zR,by omega,rfl,rfl,by rw [List.drop_zero],aT,rfl,TD.o,HX0.o⟩
   case round=>
    obtain ⟨wj,Cz⟩:=gN (wr);subst Cz;obtain ⟨j,s,hj,rfl,rfl,hsum,hsl,hsc,hsb,hx⟩:=hrel;replace HO:=kI (HO.o.ext hx);replace A0:=kI (A0.o.ext hx);replace X:=kI (X.o.trans hx);have XK:=kI hx;have Ct:=kI hsum;have HSL:=kI hsl;have Jv:=kI hsc;obtain ⟨g1,g2,g3,g4,hbs,hns⟩:=hsb;have BS:=kI hbs;have NS:=kI hns;clear hx hsum hsl hsc hbs hns;by_cases hlt:j < l.length
    ·obtain ⟨b,off,p1,d1,p2,d2,rfl,z0,z1,z2,z3,z4,z5⟩:=HO.o.at hlt;have hy:=HL2.o j;have hst:=rJ (s:=s) (l:=fj l) (k:=j) (by rw [iN];exact hlt);rw [xM] at hst;obtain ⟨y,kO⟩:=gN (l.getD j dO);rw [← kO] at z1 z2 z3 z4 z5 hy hst;obtain ⟨tw,r⟩:=y;dsimp only at z1 z2 z3 z4 z5 hy hst;have NR:=kI z5;have had:=fun W v1 v2 (e1:bh W v1 s) (e2:bh W v2 r)=>jn v1 v2 s r W e1 e2 HSL.o hy;have FT:(cz s r).2=0→aA (cz s r).1=0:=fun h=>uY h;have hlim:=gz s r;obtain ⟨T,hT⟩:=gN (cz s r);rw [← hT] at had hst FT hlim;obtain ⟨s2,e2⟩:=T;dsimp only at hst FT hlim;unfold bU at had;dsimp only at had;have HAD:=kI had;have HST:=kI hst;have Ir:=kI FT;have Z6:=kI hlim;have q1:(0:Int)≤(j:Int):=Z
     have q2:(j:Int) < (l.length:Int):=Z
     clear z5 kO hy had hst FT hlim hT;obtain ⟨wo,hwo⟩:=gN (wj.alloc (.cells #[.int .i64 tw,.bool r.neg,.slice p1 r.num.length d1,.slice p2 r.den.length d2] 80));have hx:Ext wj wo:=by rw [hwo];exact (Ext.refl _).alloc _
     have qE:ag wo wj.heap.size #[.int .i64 tw,.bool r.neg,.slice p1 r.num.length d1,.slice p2 r.den.length d2] 80:=by rw [hwo];exact ag.new _ _ _
     replace HO:=kI (HO.o.ext hx);replace A0:=kI (A0.o.ext hx);replace BS:=kI (BS.o.ext hx);replace NS:=kI (NS.o.ext hx);replace NR:=kI (NR.o.ext hx);replace X:=kI (X.o.trans hx);replace XK:=kI (XK.o.trans hx);have BY:=kI qE;clear hx qE;have qF:=kI hwo;have qB:=BS.o.cell;have lB:=BS.o.lt;have fB:=BS.o.free;have qY:=BY.o.cell;have lY:=BY.o.lt;have fY:=BY.o.free;rw [hwo] at qB lB fB qY lY fY;clear hwo;go_wp2_with fail;clear qB lB fB qY lY fY z0 z1 z2 z3 z4;rw [← qF.o];refine (HAD.o _ _ _ NS.o NR.o).mono ?_;rintro e w2 ⟨⟨v,rfl,nn⟩,hx⟩;replace HO:=kI (HO.o.ext hx);replace A0:=kI (A0.o.ext hx);replace BS:=kI (BS.o.ext hx);replace NS:=kI (NS.o.ext hx);replace NR:=kI (NR.o.ext hx);replace BY:=kI (BY.o.ext hx);replace X:=kI (X.o.trans hx);obtain ⟨x1,x2,x3,x4,rfl⟩:=nn.shape;have N2:=kI nn.rd;replace XK:=kI (XK.o.trans hx);clear nn hx HAD qF;obtain ⟨qBS,fBS,lBS⟩:=BS.o.q3;by_cases he:e2=0
     rotate_left
     ·have hE:eW n ⟨co,l⟩=e2:=by rw [HI2.o,Ct.o,HST.o,if_neg he];dsimp only;rw [if_pos he]
      have E:=kI hE;have q4:(e2 != 0)=true:=by simpa using he
      clear hE he;go_wp2_with fail;go_ret;exact ⟨bp E.o.symm,jz (o:=0) X.o Rr.o⟩
     subst he;have hs2:cZ s ((fj l).drop j)=cZ s2 ((fj l).drop (j+1)):=by rw [HST.o,if_pos rfl]
     have hp:=mZ.put (t:=25) ⟨_,_,_,_,BS.o,NS.o⟩ N2.o;have hxk:=jz (x:=.bool s2.neg) (y:=.slice x1 s2.num.length x2) (z:=.slice x3 s2.den.length x4) (o:=0) XK.o Z5.o;have HS2:=kI (Ct.o.trans hs2);have Z7:=kI hp;have Z8:=kI hxk;clear hs2 hp hxk;go_wp2_with fail;go_roundw
     case rel=>exact ⟨j+1,s2,by omega,by go_num,rfl,HS2.o,Z6.o,Ir.o Mn,Z7.o,Z8.o⟩
     case measure=>simp [intOf];omega
    ·obtain rfl:j=l.length:=Z
     have q1:¬ (l.length:Int) < (l.length:Int):=Z
     have hend:cZ zR (fj l)=(s,0):=by
      rw [Ct.o,List.drop_of_length_le (by rw [iN];exact Nat.le_refl _)];rfl
     have hE:=HI2.o;rw [hend] at hE;dsimp only at hE;rw [if_neg (fun h=>h rfl)] at hE;obtain ⟨hc1,hc2⟩:=FS HSL.o Jv.o;have hcm:=fun W v1 v2 (e1:bh W v1 s) (e2:bh W v2 (rep ((1:Int):Rat)))=>fi v1 v2 s _ W e1 e2 HSL.o (cU _);obtain ⟨T,hT⟩:=gN (cA s (rep ((1:Int):Rat)));have hT2:T.2=0:=by rw [hT,hc1]
     rw [← hT] at hcm hc2;obtain ⟨c,ce⟩:=T;dsimp only at hT2 hc2;subst hT2;have HCM:=kI hcm;have HC2:=kI hc2;have E:=kI hE;clear hend hE hc1 hc2 hcm hT;go_wp2_with fail;refine gy (Jt s c) ax ax ax (fun _ _ _ _ h x=>Cy h x) ?_ ?_
     ·refine ⟨?_,?_,?_,?_,?_,?_,?_,?_,trivial⟩
      ·intro a W hW hB hD K hK;have b9:=hB 9 rfl;simp only [sB] at b9;have q9:=(BS.o.ext hW).cell;have l9:=(BS.o.ext hW).lt;go_simp;exact hK _ _ (Ext.refl _) ⟨_,_,_,_,rfl,NS.o.ext hW⟩
      ·intro a W hW hB hD K hK;go_simp;refine (eV 1 W Z Z).mono ?_;rintro e w9 ⟨⟨v,rfl,nn⟩,hx⟩;exact hK _ _ hx ⟨_,rfl,nn.rd⟩
      ·intro a W hW hB hD K hK;obtain ⟨Z9,aa0,TE⟩:=aE (hD 0 _ 104 rfl rfl ax);obtain ⟨d1,d2,d3,d4,rfl,dh⟩:=TE;obtain ⟨v105,aa2,TF⟩:=aE (hD 1 _ 105 rfl rfl ax);obtain ⟨e1,rfl,eh⟩:=TF;go_simp;refine (HCM.o _ _ _ dh eh).mono ?_;rintro e w9 ⟨rfl,hx⟩;exact hK _ _ hx rfl
      ·intro a W hW hB hD K hK;obtain ⟨aa3,aa4,TG⟩:=aE (hD 2 _ 106 rfl rfl ax);obtain rfl:=TG;go_simp;exact hK _ _ (Ext.refl _) rfl
      ·intro a W hW hB hD K hK;obtain ⟨TH,TI,Jw⟩:=aE (hD 3 _ 103 rfl rfl ax);obtain rfl:=Jw;go_simp;exact hK _ _ (Ext.refl _) rfl
      ·intro a W hW hB hD K hK;obtain ⟨TH,TI,Jw⟩:=aE (hD 3 _ 103 rfl rfl ax);obtain rfl:=Jw;go_simp;exact hK _ _ (Ext.refl _) rfl
      ·intro a W hW hB hD K hK;obtain ⟨v107,TJ,Jy⟩:=aE (hD 4 _ 107 rfl rfl ax);obtain rfl:=Jy;go_simp;exact hK _ _ (Ext.refl _) rfl
      ·intro a W hW hB hD K hK;obtain ⟨aa5,e108,TK⟩:=aE (hD 5 _ 108 rfl rfl ax);obtain rfl:=TK;go_simp;exact hK _ _ (Ext.refl _) rfl
     intro w9 hx;simp only [cW];rintro u0 - u1 - u2 - u3 - u4 - u5 - u6 h6 u7 h7;obtain rfl:u6=.int .i64 c:=h6;obtain rfl:u7=.int .i64 0:=h7;simp only [Act.put,List.setIfInBounds_toArray,List.set_cons_zero,List.set_cons_succ];replace X:=kI (X.o.trans hx);clear hx;by_cases hs1:s=rep 1
     ·have E:=kI (E.o.trans (if_pos hs1));have hc:=HC2.o.2 hs1;have q4:(c != 0)=false:=by simp [hc]
      clear hc hs1;go_wp2_with fail;go_ret;exact ⟨bp E.o.symm,X.o⟩
     ·have E:=kI (E.o.trans (if_neg hs1));have hc:c≠0:=fun h=>hs1 (HC2.o.1 h);have q4:(c != 0)=true:=by simpa using hc
      clear hc hs1;go_wp2_with fail;go_ret;exact ⟨bp E.o.symm,X.o⟩
theorem Ou {n:Nat} {ac:List bg} (h:ac.length=0):tc n ac=3:=if_pos h
theorem TL {n:Nat} {ac:List bg} (h:ac.length≠0) (h2:6 < ac.length):tc n ac=4:=by unfold tc;rw [if_neg h,if_pos h2]
theorem Jz {n:Nat} {ac:List bg} (h:ac.length≠0) (h2:¬ 6 < ac.length) {a:Nat} (ha:a < ac.length) (h4:∀ j,j < a→eW n (ac.getD j dA)=0) {c:Int} (h5:eW n (ac.getD a dA)=c) (h6:c≠0):tc n ac=c:=by
 have e:=dF (f:=fun a=>eW n (ac.getD a dA)) (k:=a) h4 (by show eW n (ac.getD a dA)≠0;rw [h5];exact h6) ha;unfold tc;rw [if_neg h,if_neg h2,e];exact h5
theorem Ov {n:Nat} {ac:List bg} (h:ac.length≠0) (h2:¬ 6 < ac.length) (h4:∀ j,j < ac.length→eW n (ac.getD j dA)=0):tc n ac=0:=by
 unfold tc;rw [if_neg h,if_neg h2];exact bH h4
theorem TM {d:RR} {ss:List (List bg)} (h:aA d≠0):fs ⟨d,ss⟩=aA d:=if_pos h
theorem JA {d:RR} {ss:List (List bg)} (h:aA d=0) (h2:d.neg=true∨1 < qv d):fs ⟨d,ss⟩=1:=by unfold fs;rw [if_neg kN,if_pos h2]
theorem TN {d:RR} {ss:List (List bg)} (h:aA d=0) (h2:¬ (d.neg=true∨1 < qv d)) (h3:ss.length=0):fs ⟨d,ss⟩=3:=by unfold fs;rw [if_neg kN,if_neg h2,if_pos h3]
theorem TO {d:RR} {ss:List (List bg)} (h:aA d=0) (h2:¬ (d.neg=true∨1 < qv d)) (h3:ss.length≠0) (h4:200 < ss.length):fs ⟨d,ss⟩=4:=by unfold fs;rw [if_neg kN,if_neg h2,if_neg h3,if_pos h4]
theorem Ow {d:RR} {ss:List (List bg)} (h:aA d=0) (h2:¬ (d.neg=true∨1 < qv d)) (h3:ss.length≠0) (h4:¬ 200 < ss.length) {k:Nat} (hk:k < ss.length) (h5:∀ j,j < k→tc ss.length (ss.getD j [])=0) {c:Int} (h6:tc ss.length (ss.getD k [])=c) (h7:c≠0):fs ⟨d,ss⟩=c:=by
 have e:=dF (f:=fun s=>tc ss.length (ss.getD s [])) (k:=k) h5 (by show tc ss.length (ss.getD k [])≠0;rw [h6];exact h7) hk;unfold fs;rw [if_neg kN,if_neg h2,if_neg h3,if_neg h4];exact e.trans h6
theorem Ox {d:RR} {ss:List (List bg)} (h:aA d=0) (h2:¬ (d.neg=true∨1 < qv d)) (h3:ss.length≠0) (h4:¬ 200 < ss.length) (h5:∀ j,j < ss.length→tc ss.length (ss.getD j [])=0):fs ⟨d,ss⟩=0:=by
 unfold fs;rw [if_neg kN,if_neg h2,if_neg h3,if_neg h4];exact bH h5
theorem FU {r:RR} (h:aA r=0):(cA r (rep ((1:Int):Rat))).2=0∧(0 < (cA r (rep ((1:Int):Rat))).1↔1 < qv r):=by
 have h1:aA (rep ((1:Int):Rat))=0:=ax
 have hq:qv (rep ((1:Int):Rat))=1:=jk _;have hc:cA r (rep ((1:Int):Rat))=(eu (qv r) 1,0):=by unfold cA;rw [if_pos (dz h h1),hq]
 rw [hc];refine ⟨rfl,?_⟩;dsimp only;unfold eu;constructor
 ·intro e;split at e
  ·omega
  ·rename_i e1;split at e
   ·omega
   ·rename_i e2;have:=Rat.not_lt.1 e1;rcases Rat.le_iff_lt_or_eq.1 this with h|h
    ·exact h
    ·exact absurd h.symm e2
 ·intro e;rw [if_neg (fun h=>absurd (Rat.le_of_lt h) (Rat.not_le.2 e)),if_neg (fun h=>by rw [h] at e;exact Rat.lt_irrefl e)];decide
def JC (A:Nat) (s:RR) (c:Int) (j:Nat) (v:Value) (W:World):Prop:=
 match j with
 | 0=>v=.pointer (some ⟨A,0,none⟩)
 | 1=>∃ s1 s2 s3 s4,v=.agg #[.bool s.neg,.slice s1 s.num.length s2,.slice s3 s.den.length s4]∧bh W (.agg #[.bool s.neg,.slice s1 s.num.length s2,.slice s3 s.den.length s4]) s
 | 2=>∃ v',v=v'∧bh W v' (rep ((1:Int):Rat))
 | 3=>v=.tuple #[.int .i64 c,.int .i64 0]
 | 4=>v=.tuple #[.int .i64 c,.int .i64 0]
 | 5=>v=.int .i64 c
 | 6=>v=.int .i64 0
 | 7=>v=.int .i64 c
 | 8=>v=.int .i64 0
 | _=>True
theorem CE {A:Nat} {s:RR} {c:Int} {j:Nat} {v:Value} {W W':World} (h:JC A s c j v W) (x:Ext W W'):JC A s c j v W':=by
 match j,h with
 | 0,h=>exact h
 | 1,⟨s1,s2,s3,s4,h1,h2⟩=>exact ⟨s1,s2,s3,s4,h1,h2.ext x⟩
 | 2,⟨v9,h1,h2⟩=>exact ⟨v9,h1,h2.ext x⟩
 | 3,h=>exact h
 | 4,h=>exact h
 | 5,h=>exact h
 | 6,h=>exact h
 | 7,h=>exact h
 | 8,h=>exact h
 | _+9,_=>trivial
theorem jD (v:Value) (m:MD) (w:World) (h:eY w v m) (hl:iY m) :
  Calls Tryz.prog 81 #[v] w fun e w'=>e=.returned (.int .i64 (fs m))∧Ext w w':=by
 obtain ⟨d,ss⟩:=m;obtain ⟨a1,c1,a2,c2,a3,c3,rfl,hr,ho⟩:=h;obtain ⟨hl1,hl2⟩:=hl;unfold MD.act at hl2;dsimp only at hr ho hl1 hl2 ⊢;have hll:ss.length≤9223372036854775807:=by obtain ⟨_,_,_,h⟩:=ho.shape;exact h
 have HR:=kI hr;have HO:=kI ho;have kY:=kI hl1;have HL2:=kI hl2;clear hr ho hl1 hl2;have bb0:=(ag.new w #[.bool d.neg,.slice a1 d.num.length c1,.slice a2 d.den.length c2,.slice a3 ss.length c3] 28);have x0:Ext w (w.alloc (.cells #[.bool d.neg,.slice a1 d.num.length c1,.slice a2 d.den.length c2,.slice a3 ss.length c3] 28)):=((Ext.refl w).alloc _);have A0:=kI bb0;have X:=kI x0;clear x0 bb0;replace HR:=kI (HR.o.ext X.o);replace HO:=kI (HO.o.ext X.o);go_enter Tryz.func81,Tryz.ntmps81
 obtain ⟨aK,fA0,aJ⟩:=A0.o.q3;go_wp2_with fail;refine (ee _ d _ HR.o kY.o).mono ?_;rintro e w1 ⟨rfl,hx⟩;clear aK fA0 aJ;replace HR:=kI (HR.o.ext hx);replace HO:=kI (HO.o.ext hx);replace A0:=kI (A0.o.ext hx);replace X:=kI (X.o.trans hx);clear hx;by_cases h1:aA d=0
 rotate_left
 ·have E:=kI (TM (ss:=ss) h1);obtain ⟨c,hc⟩:=gN (aA d);rw [← hc] at E h1 ⊢;have q1:(c != 0)=true:=by simpa using h1
  clear h1 hc;go_wp2_with fail;go_ret;exact ⟨bp E.o.symm,X.o⟩
 rw [h1];obtain ⟨hc0,hc1⟩:=FU h1;have hcm:=fun W v1 v2 (e1:bh W v1 d) (e2:bh W v2 (rep ((1:Int):Rat)))=>fi v1 v2 d _ W e1 e2 kY.o (cU _);obtain ⟨T,hT⟩:=gN (cA d (rep ((1:Int):Rat)));rw [← hT] at hcm hc0 hc1;obtain ⟨c,ce⟩:=T;dsimp only at hc0 hc1;subst hc0;have HCM:=kI hcm;have Aa:=kI hc1;clear hc1 hcm hT;obtain ⟨aK,fA0,aJ⟩:=A0.o.q3;go_wp2_with fail;clear aK fA0 aJ;obtain ⟨wb,hwb⟩:=gN (w1);rw [← hwb] at HR HO A0 X ⊢;clear hwb;obtain ⟨An,hAn⟩:=gN (w.heap.size);rw [← hAn] at A0 ⊢;clear hAn;refine gy (JC An d c) ax ax ax (fun _ _ _ _ h x=>CE h x) ?_ ?_
 ·refine ⟨?_,?_,?_,?_,?_,?_,?_,?_,?_,trivial⟩
  ·intro a W hW hB hD K hK;have b1:=hB 1 rfl;simp only [sB] at b1;go_simp;exact hK _ _ (Ext.refl _) rfl
  ·intro a W hW hB hD K hK;obtain ⟨v18,e18,h18⟩:=aE (hD 0 _ 18 rfl rfl ax);obtain rfl:=h18;have q9:=(A0.o.ext hW).cell;have l9:=(A0.o.ext hW).lt;go_simp;exact hK _ _ (Ext.refl _) ⟨_,_,_,_,rfl,HR.o.ext hW⟩
  ·intro a W hW hB hD K hK;go_simp;refine (eV 1 W Z Z).mono ?_;rintro e w9 ⟨⟨v,rfl,nn⟩,hx⟩;exact hK _ _ hx ⟨_,rfl,nn.rd⟩
  ·intro a W hW hB hD K hK;obtain ⟨v19,e19,h19⟩:=aE (hD 1 _ 19 rfl rfl ax);obtain ⟨d1,d2,d3,d4,rfl,dh⟩:=h19;obtain ⟨v20,e20,h20⟩:=aE (hD 2 _ 20 rfl rfl ax);obtain ⟨e1,rfl,eh⟩:=h20;go_simp;refine (HCM.o _ _ _ dh eh).mono ?_;rintro e w9 ⟨rfl,hx⟩;exact hK _ _ hx rfl
  ·intro a W hW hB hD K hK;obtain ⟨v21,e21,h21⟩:=aE (hD 3 _ 21 rfl rfl ax);obtain rfl:=h21;go_simp;exact hK _ _ (Ext.refl _) rfl
  ·intro a W hW hB hD K hK;obtain ⟨v17,e17,h17⟩:=aE (hD 4 _ 17 rfl rfl ax);obtain rfl:=h17;go_simp;exact hK _ _ (Ext.refl _) rfl
  ·intro a W hW hB hD K hK;obtain ⟨v17,e17,h17⟩:=aE (hD 4 _ 17 rfl rfl ax);obtain rfl:=h17;go_simp;exact hK _ _ (Ext.refl _) rfl
  ·intro a W hW hB hD K hK;obtain ⟨v22,e22,h22⟩:=aE (hD 5 _ 22 rfl rfl ax);obtain rfl:=h22;go_simp;exact hK _ _ (Ext.refl _) rfl
  ·intro a W hW hB hD K hK;obtain ⟨v23,e23,h23⟩:=aE (hD 6 _ 23 rfl rfl ax);obtain rfl:=h23;go_simp;exact hK _ _ (Ext.refl _) rfl
 intro w9 hx;simp only [cW];rintro u0 - u1 - u2 - u3 - u4 - u5 - u6 - u7 h7 u8 h8;obtain rfl:u7=.int .i64 c:=h7;obtain rfl:u8=.int .i64 0:=h8;simp only [Act.put,List.setIfInBounds_toArray,List.set_cons_zero,List.set_cons_succ];replace HR:=kI (HR.o.ext hx);replace HO:=kI (HO.o.ext hx);replace A0:=kI (A0.o.ext hx);replace X:=kI (X.o.trans hx);clear hx HCM;by_cases h2:d.neg=true∨1 < qv d
 ·have E:=kI (JA (ss:=ss) h1 h2);by_cases h3:d.neg=true
  ·clear h1 h2;obtain ⟨aK,fA0,aJ⟩:=A0.o.q3;go_wp2_with fail;go_ret;exact ⟨bp E.o.symm,X.o⟩
  ·have h4:d.neg=false:=by simpa using h3
   have q5:(0:Int) < c:=Aa.o.2 (h2.resolve_left h3);clear h1 h2 h3;obtain ⟨aK,fA0,aJ⟩:=A0.o.q3;go_wp2_with fail;go_ret;exact ⟨bp E.o.symm,X.o⟩
 have h4:d.neg=false:=by
  cases hh:d.neg
  ·rfl
  ·exact absurd (.inl hh) h2
 have q5:¬ (0:Int) < c:=fun h=>h2 (.inr (Aa.o.1 h));by_cases h3:ss.length=0
 ·have E:=kI (TN h1 h2 h3);have q6:((ss.length:Int) == 0)=true:=by simp [h3]
  clear h1 h2 h3;obtain ⟨aK,fA0,aJ⟩:=A0.o.q3;go_wp2_with fail;go_ret;exact ⟨bp E.o.symm,X.o⟩
 have q6:((ss.length:Int) == 0)=false:=beq_eq_false_iff_ne.2 Z;by_cases h5:200 < ss.length
 ·have E:=kI (TO h1 h2 h3 h5);have q7:(200:Int) < (ss.length:Int):=Z
  clear h1 h2 h3 h5;obtain ⟨aK,fA0,aJ⟩:=A0.o.q3;go_wp2_with fail;go_ret;exact ⟨bp E.o.symm,X.o⟩
 have q7:¬ (200:Int) < (ss.length:Int):=Z
 have HE:=kI (fun (k:Nat) (hk:k < ss.length) g4 (c:Int) g5 g6=>Ow (k:=k) (c:=c) h1 h2 h3 h5 hk g4 g5 g6);have HI:=kI (Ox h1 h2 h3 h5);clear h1 h2;obtain ⟨aK,fA0,aJ⟩:=A0.o.q3;go_wp2_with fail;clear aK fA0 aJ;clear q5 q6 q7 h4;go_loopw [45] (fun i wr=>∃ k:Nat,k≤ss.length∧i=.int .i64 k∧(∀ j,j < k→tc ss.length (ss.getD j [])=0)∧Ext w9 wr) (fun i _=>ss.length - (intOf i).toNat)
 case atStart=>exact ⟨0,by omega,rfl,fun j hj=>by omega,Ext.refl w9⟩
 case round=>
  obtain ⟨wk,hwk⟩:=gN (wr);subst hwk;obtain ⟨k,hk,rfl,hok,hx⟩:=hrel;have OK:=kI hok;have XB:=kI hx;replace HO:=kI (HO.o.ext hx);replace A0:=kI (A0.o.ext hx);replace X:=kI (X.o.trans hx);clear hok hx;by_cases hlt:k < ss.length
  ·obtain ⟨b,off,ai,ci,rfl,z0,z1,z2⟩:=HO.o.at hlt;have hla:=HL2.o k;obtain ⟨ac,hac⟩:=gN (ss.getD k []);rw [← hac] at z1 z2 hla;have hal:ac.length≤9223372036854775807:=by obtain ⟨_,_,_,h⟩:=z2.shape;exact h
   have RA:=kI z2;have rP:=kI hac;have Ih:=kI hla;have q1:(0:Int)≤(k:Int):=Z
   have q2:(k:Int) < (ss.length:Int):=Z
   clear z2 hac hla;by_cases g1:ac.length=0
   ·have E:=kI (HE.o k hlt OK.o 3 (by rw [← rP.o];exact Ou g1) ap);have q3:((ac.length:Int) == 0)=true:=by simp [g1]
    clear g1;go_wp2_with fail;go_ret;exact ⟨bp E.o.symm,X.o⟩
   have q3:((ac.length:Int) == 0)=false:=beq_eq_false_iff_ne.2 Z;by_cases g2:6 < ac.length
   ·have E:=kI (HE.o k hlt OK.o 4 (by rw [← rP.o];exact TL g1 g2) ap);have q4:(6:Int) < (ac.length:Int):=Z
    clear g1 g2;go_wp2_with fail;go_ret;exact ⟨bp E.o.symm,X.o⟩
   have q4:¬ (6:Int) < (ac.length:Int):=Z
   go_wp2_with fail;clear q3 q4 z0 z1;go_loopw [59] (fun i wr=>∃ j:Nat,j≤ac.length∧i=.int .i64 j∧(∀ i,i < j→eW ss.length (ac.getD i dA)=0)∧Ext wk wr) (fun i _=>ac.length - (intOf i).toNat)
   case atStart=>exact ⟨0,by omega,rfl,fun j hj=>by omega,Ext.refl wk⟩
   case round=>
    obtain ⟨wj,Cz⟩:=gN (wr);subst Cz;obtain ⟨j,hj,rfl,hoa,hx⟩:=hrel;have OA:=kI hoa;have XK:=kI hx;replace HO:=kI (HO.o.ext hx);replace A0:=kI (A0.o.ext hx);replace RA:=kI (RA.o.ext hx);replace X:=kI (X.o.trans hx);clear hoa hx;by_cases hlj:j < ac.length
    ·obtain ⟨ba,oa,p1,e1,p2,e2,p3,e3,rfl,zz⟩:=RA.o.at hlj;have hrd:=zz.rd;obtain ⟨⟨y0,y1,y2,y3,-⟩,y4,-⟩:=zz;have TP:=Ih.o j;obtain ⟨x,lh⟩:=gN (ac.getD j dA);rw [← lh] at y1 y2 y3 y4 hrd TP;have hca:=fun W v (h:iu W v x)=>tf v x ss.length W h TP;obtain ⟨c,hc⟩:=gN (eW ss.length x);rw [← hc] at hca;have Xc:=kI (hc.trans (congrArg (eW ss.length) lh));have rD:=kI hca;have RD:=kI hrd;have q5:(0:Int)≤(j:Int):=Z
     have q6:(j:Int) < (ac.length:Int):=Z
     clear lh hc hca hrd TP;obtain ⟨wo,hwo⟩:=gN (wj.alloc (.cells #[.bool x.cost.neg,.slice p1 x.cost.num.length e1,.slice p2 x.cost.den.length e2,.slice p3 x.next.length e3] 83));have hx:Ext wj wo:=by rw [hwo];exact (Ext.refl _).alloc _
     have qE:ag wo wj.heap.size #[.bool x.cost.neg,.slice p1 x.cost.num.length e1,.slice p2 x.cost.den.length e2,.slice p3 x.next.length e3] 83:=by rw [hwo];exact ag.new _ _ _
     replace HO:=kI (HO.o.ext hx);replace A0:=kI (A0.o.ext hx);replace RA:=kI (RA.o.ext hx);replace RD:=kI (RD.o.ext hx);replace X:=kI (X.o.trans hx);replace XK:=kI (XK.o.trans hx);have qF:=kI hwo;have qA:=A0.o.cell;have lA:=A0.o.lt;have fA:=A0.o.free;have qY:=qE.cell;have lY:=qE.lt;have fY:=qE.free;rw [hwo] at qA lA fA qY lY fY;clear hwo hx qE;go_wp2_with fail;clear qA lA fA qY lY fY y0 y1 y2 y3 y4;rw [← qF.o];refine (rD.o _ _ RD.o).mono ?_;rintro e w2 ⟨rfl,hx⟩;replace HO:=kI (HO.o.ext hx);replace A0:=kI (A0.o.ext hx);replace RA:=kI (RA.o.ext hx);replace RD:=kI (RD.o.ext hx);replace X:=kI (X.o.trans hx);replace XK:=kI (XK.o.trans hx);clear hx rD qF;by_cases he:c=0
     rotate_left
     ·have E:=kI (HE.o k hlt OK.o c (by rw [← rP.o];exact Jz g1 g2 hlj OA.o Xc.o.symm he) he);have q7:(c != 0)=true:=by simpa using he
      clear he;go_wp2_with fail;go_ret;exact ⟨bp E.o.symm,X.o⟩
     subst he;have Xd:∀ i,i < j+1→eW ss.length (ac.getD i dA)=0:=fun i hi=>by
      by_cases e:i=j
      ·rw [e];exact Xc.o.symm
      ·exact OA.o i Z
     have OA2:=kI Xd;clear Xd;go_wp2_with fail;go_roundw
     case rel=>exact ⟨j+1,by omega,by go_num,OA2.o,XK.o⟩
     case measure=>simp [intOf];omega
    ·obtain rfl:j=ac.length:=Z
     have q5:¬ (ac.length:Int) < (ac.length:Int):=Z
     have hs:tc ss.length (ss.getD k [])=0:=by rw [← rP.o];exact Ov g1 g2 OA.o
     have Ip:∀ j,j < k+1→tc ss.length (ss.getD j [])=0:=fun i hi=>by
      by_cases e:i=k
      ·rw [e];exact hs
      ·exact OK.o i Z
     have Ju:=kI Ip;have XBB:=kI (XB.o.trans XK.o);clear hs Ip g1 g2;go_wp2_with fail;go_roundw
     case rel=>exact ⟨k+1,by omega,by go_num,Ju.o,XBB.o⟩
     case measure=>simp [intOf];omega
  ·obtain rfl:k=ss.length:=Z
   have q1:¬ (ss.length:Int) < (ss.length:Int):=Z
   have E:=kI (HI.o OK.o);go_wp2_with fail;go_ret;exact ⟨bp E.o.symm,X.o⟩
theorem tg (v lv:Value) (m:MD) (l:List RR) (w:World) (h:eY w v m) (k:cH w lv l) (hl:iY m) :
  Calls Tryz.prog 135 #[v,lv] w fun e w'=>e=.returned (.int .i64 (gJ m l))∧Ext w w':=by
 have hck:=fun W v (h:eY W v m)=>jD v m W h hl;obtain ⟨la,lc,rfl,hlc,hlm,f,hf⟩:=k.get;have h':=h;obtain ⟨d,ss⟩:=m;obtain ⟨a1,c1,a2,c2,a3,c3,rfl,hr,ho⟩:=h';dsimp only at hr ho;have hll:ss.length≤9223372036854775807:=by obtain ⟨_,_,_,h⟩:=ho.shape;exact h
 have aa6:l.length≤9223372036854775807:=Z
 have HM:=kI h;have qP:=kI hck;clear h hck k hf hr ho hl hlc hlm f;have bb:=ag.new w #[.bool d.neg,.slice a1 d.num.length c1,.slice a2 d.den.length c2,.slice a3 ss.length c3] 28;have x0:Ext w (w.alloc (.cells #[.bool d.neg,.slice a1 d.num.length c1,.slice a2 d.den.length c2,.slice a3 ss.length c3] 28)):=(Ext.refl w).alloc _;have A0:=kI bb;have X:=kI x0;have HM:=kI (HM.o.ext x0);clear bb x0;have EQ:=kI (show gJ ⟨d,ss⟩ l=if fs ⟨d,ss⟩≠0 then fs ⟨d,ss⟩ else if l.length≠ss.length then 16 else 0 from rfl);obtain ⟨c,hc⟩:=gN (fs ⟨d,ss⟩);rw [← hc] at EQ qP;clear hc;go_enter Tryz.func135,Tryz.ntmps135
 go_wp2_with fail;refine (qP.o _ _ HM.o).mono ?_;rintro e w1 ⟨rfl,hx⟩;replace A0:=kI (A0.o.ext hx);replace X:=kI (X.o.trans hx);clear hx HM qP;have qA:=A0.o.cell;have lA:=A0.o.lt;by_cases h1:c=0
 ·subst h1;by_cases h2:l.length=ss.length
  ·have q2:((l.length:Int) != (ss.length:Int))=false:=by simp [h2]
   have E:=kI (show gJ ⟨d,ss⟩ l=0 by rw [EQ.o,if_neg (fun h=>h rfl),if_neg (fun h=>h h2)]);clear h2;go_wp2_with fail;go_ret;exact ⟨bp E.o.symm,X.o⟩
  ·have q2:((l.length:Int) != (ss.length:Int))=true:=bne_iff_ne.2 Z;have E:=kI (show gJ ⟨d,ss⟩ l=16 by rw [EQ.o,if_neg (fun h=>h rfl),if_pos h2]);clear h2;go_wp2_with fail;go_ret;exact ⟨bp E.o.symm,X.o⟩
 ·have E:=kI (show gJ ⟨d,ss⟩ l=c by rw [EQ.o,if_pos h1]);have q1:(c != 0)=true:=by simpa using h1
  clear h1;go_wp2_with fail;go_ret;exact ⟨bp E.o.symm,X.o⟩
theorem iw {P:Program} (w:World) (base:Nat) (t ty e:TypeId) (i:TypeInfo) (z:Value) (size bytes:Nat) (ht:P.underlying t=some (.slice e)) (hi:P.info? e=some i) (hz:i.zero=some z)
  (hsize:i.size=size) (hby:i.bytes=bytes) (hzs:z.cells.size=size) (hsz:0 < size)
  (v:Value) (n:Nat) (xs:List Value) (hown:w.ownsRow base e size v n xs)
  (a:Addr) (c:Nat) (news:List Value) (hl:news.length=1*size) (hnews:∀ j u,news[j]?=some u→w.cell? (a.add j)=some u) (h1:∀ u ∈ news,u.oneCell'=true)
  (h63:n+1≤maxLen) (hbytes:(n+1)*bytes≤140737488355328) (hbase:base≤w.heap.size) :
  ∃ v' w',(Builtin.append_ #[t,t] ty #[v,.slice (some a) 1 c]).run P w=.ok v' w'∧w'.ownsRow base e size v' (n+1) (xs ++ news)∧w.grownBy w' v.ownBlock∧(∀ q,v'.ownBlock=some q→v.ownBlock=some q∨w.heap.size≤q):=by
 obtain ⟨v',w',hr,h2,h3,_⟩:=run_append_own (P:=P) w base t ty e i z size bytes ht hi hz hsize hby hzs hsz v n xs hown a 1 c news hl hnews h1 h63 hbytes hbase;refine ⟨v',w',hr,h2,h3,?_⟩;have hsmall:n+1≤9223372036854775807:=by simp only [maxLen] at h63;omega
 subst hsize;subst hby;rcases hown.2 with ⟨rfl,rfl⟩|⟨g,cap,cur,rfl,hbg,hg,hnc,hcm,hcs,htake⟩
 ·have hr2:=run_append_nil (P:=P) w t ty e i z ht hi hz a 1 c news hl hnews Z Z (by have hb:=hbytes;simp only [Nat.zero_add] at hb;omega);rw [hr] at hr2;injection hr2 with e1 _
  subst e1;intro q hq;injection hq with hq
  exact .inr (Nat.le_of_eq hq)
 ·by_cases hroom:n+1≤cap
  ·have hfit:n*i.size+news.length≤cur.size:=by rw [hl,hcs,← Nat.add_mul];exact Nat.mul_le_mul_right _ hroom
   have hr2:=run_append_room (P:=P) w t ty e i ht hi g n cap cur hg a 1 c news hl hnews h1 hroom hfit;rw [hr] at hr2;injection hr2 with e1 _
   subst e1;intro q hq;exact .inl hq
  ·have holds:∀ j u,xs[j]?=some u→w.cell? ((⟨g,0,none⟩:Addr).add j)=some u:=hown.cells (g:=g) rfl;have hr2:=run_append_grow (P:=P) w t ty e i z ht hi hz ⟨g,0,none⟩ n cap xs hown.1 holds a 1 c news hl hnews Z Z (growslice_fits Z hbytes);rw [hr] at hr2;injection hr2 with e1 _
   subst e1;intro q hq;injection hq with hq
   exact .inr (Nat.le_of_eq hq)
theorem aW {P:Program} (W:World) {o:Oper} {a:Act} {K:Act→World→Prop} {Q:Exit→Act→World→Prop} (s x:Operand) (t:TypeId)
  (ho:o.op=.call { callee:=.builtin .append,args:=#[s,x],argTypes:=#[t,t] })
  (B:Nat) (e:TypeId) (z:Value) (size bytes:Nat) (ht:P.underlying t=some (.slice e)) (hinfo:(P.info? e).map (fun i=>(i.zero,i.size,i.bytes))=some (some z,size,bytes))
  (hzs:z.cells.size=size) (hsz:0 < size) {α:Type} {El:World→List Value→α→Prop} (hEl:∀ w w' h y,El w h y→Keeps B e w w'→El w' h y) (v:Value) (l:List α) (hown:aD e size El B W v l) (hs:a.eval s=v)
  (cs:List Value) (hcs:cs.length=size) (h1c:∀ u ∈ cs,u.oneCell'=true) (y:α) (hy:El W cs y) (bn:Nat) (hbn:ag W bn cs.toArray e) (hx:a.eval x=.slice (some ⟨bn,0,none⟩) 1 1)
  (h63:l.length+1≤9223372036854775807) (hbytes:(l.length+1)*bytes≤140737488355328) (hB:B≤W.heap.size)
  (h:∀ g cap w',aD e size El B w' (.slice (some ⟨g,0,none⟩) (l.length+1) cap) (l ++ [y])→W.grownBy w' v.ownBlock→(v.ownBlock=some g∨W.heap.size≤g)→K (a.put o.dst (.slice (some ⟨g,0,none⟩) (l.length+1) cap)) w') :
  o.wp P a W K Q:=by
 obtain ⟨i0,hi,hz0,hz1,hz2⟩:=info_parts hinfo;obtain ⟨hs0,h1,h2,h3,h4⟩:=hown;have hnews:∀ j u,cs[j]?=some u→W.cell? ((⟨bn,0,none⟩:Addr).add j)=some u:=by
  intro j u hj;have hlt:j < cs.length:=(List.getElem?_eq_some_iff.1 hj).1;have hadd:(⟨bn,0,none⟩:Addr).add j=⟨bn,j,none⟩:=by unfold Addr.add;split <;> simp_all
  rw [hadd,hbn.cell];simpa using hj
 obtain ⟨v',w',hr,hown',hgrow,hfr⟩:=iw (P:=P) W B t o.type e i0 z size bytes ht hi hz0 hz1 hz2 hzs hsz v l.length hs0.flatten h1 ⟨bn,0,none⟩ 1 cs Ni hnews h1c Nf hbytes hB;unfold Oper.wp execOp;simp only [ho,resolve,invoke,builtin,Sem.run_bind,Sem.run_pure,Result.andThen_ok,List.map_toArray,List.map_cons,List.map_nil,hs,hx,hr];have hk:Keeps B e W w':=by
  refine ⟨⟨hgrow.os,hgrow.tape,hgrow.output,hgrow.size,fun i hi=>by omega⟩,fun i hi ho=>hgrow.block i hi ?_⟩;intro heq;rcases h1.2 with ⟨rfl,_⟩|⟨g,cap,cur,rfl,hb,hg,_⟩
  ·simp [Value.ownBlock] at heq
  ·simp [Value.ownBlock] at heq;subst heq;have hg2:ag W i cur e:=hg;rcases ho with ho|⟨c2,u,h5,h6⟩
   ·omega
   ·unfold ag at hg2 h5;rw [hg2] at h5;injection h5 with h5
    injection h5 with _ h7
    exact h6 h7.symm
 have hrow:aD e size El B w' v' (l ++ [y]):=by
  refine ⟨hs0 ++ [cs],?_,by simp [h2],?_,?_⟩
  ·rw [List.flatten_append,List.length_append];simpa using hown'
  ·intro q hq;rcases List.mem_append.1 hq with hq|hq
   ·exact h3 q hq
   ·rw [List.mem_singleton.1 hq];exact hcs
  ·intro i x0 hi0;by_cases hlt:i < l.length
   ·rw [List.getElem?_append_left hlt] at hi0;obtain ⟨q,e1,e2⟩:=h4 i x0 hi0;exact ⟨q,by rw [List.getElem?_append_left Z];exact e1,hEl _ _ _ _ e2 hk⟩
   ·have hil:i=l.length:=by
     have:=(List.getElem?_eq_some_iff.1 hi0).1;simp at this;omega
    subst hil;rw [List.getElem?_append_right (Nat.le_refl _)] at hi0;simp at hi0;subst hi0;exact ⟨cs,by rw [List.getElem?_append_right Z,h2];simp,hEl _ _ _ _ hy hk⟩
 have h5:=hown'.2;rcases h5 with ⟨_,h0⟩|⟨g,cap,cur,rfl,_⟩
 ·omega
 ·exact h g cap w' hrow hgrow (hfr g rfl)
theorem xN {W:World} {b:Nat} {c0 c1 c2 c3:Value} {t:TypeId} (h:ag W b #[c0,c1,c2,c3] t):W.cell? ⟨b,0,none⟩=some c0∧W.cell? ⟨b,1,none⟩=some c1∧W.cell? ⟨b,2,none⟩=some c2∧W.cell? ⟨b,3,none⟩=some c3:=⟨h.cell 0,h.cell 1,h.cell 2,h.cell 3⟩
theorem JD {Goal:Prop} {G:World→Value→Value→Nat→Nat→Prop} (F:World→Value→Value→Prop) (h1:(∀ W x y n m,F W x y→G W x y n m)→Goal) (h2:∀ W x y n m,F W x y→G W x y n m):Goal:=h1 h2
theorem bS.rQ {B:Nat} {w w':World} {v:Value} {l:List RR} {row:Option Nat} (h:bS B w v l) (hg:w.grownBy w' row) (hne:v.ownBlock=none∨v.ownBlock≠row) (hB:∀ q,row=some q→∃ cur,ag w q cur 25∧B≤q):bS B w' v l:=by
 obtain ⟨hs,h1,h2,h3,h4⟩:=h;have hk:Keeps B 25 w w':=⟨⟨hg.os,hg.tape,hg.output,hg.size,fun i hi=>by omega⟩,fun i hi ho=>hg.block i hi (fun e=>by
  obtain ⟨cur,hb,hq⟩:=hB i e.symm;rcases ho with ho|⟨c2,u,h5,h6⟩
  ·omega
  ·unfold ag at hb h5;rw [hb] at h5;injection h5 with h5
   injection h5 with _ h7
   exact h6 h7.symm)⟩
 exact ⟨hs,World.ownsRow.kept h1 hg hne,h2,h3,fun i y hi=>by obtain ⟨q,e1,e2⟩:=h4 i y hi;exact ⟨q,e1,qD.keeps ap _ _ _ _ e2 hk⟩⟩
theorem bS.CG {B:Nat} {w:World} {v:Value} {l:List RR} (h:bS B w v l):∃ a c,v=.slice a l.length c:=by
 obtain ⟨a,c,h,_⟩:=aD.wI h;exact ⟨a,c,h⟩
theorem bS.d8 {B:Nat} {w:World} {v:Value} {l:List RR} (h:bS B w v l) {q:Nat} (hq:v.ownBlock=some q):(∃ cur,ag w q cur 25)∧B≤q∧q < w.heap.size:=by
 obtain ⟨hs,h1,_⟩:=h;rcases h1.2 with ⟨rfl,_⟩|⟨g,cap,cur,rfl,hb,hg,_⟩
 ·cases hq
 ·injection hq with hq
  dsimp only at hq;subst hq;exact ⟨⟨cur,hg⟩,hb,(Array.getElem?_eq_some_iff.1 hg).1⟩
theorem bS.kf {B:Nat} {w w':World} {v:Value} {l:List RR} (h:bS B w v l) (hg:w.grownBy w' v.ownBlock):Keeps B 25 w w':=
 ⟨⟨hg.os,hg.tape,hg.output,hg.size,fun i hi=>by omega⟩,fun i hi ho=>hg.block i hi (fun e=>by
  obtain ⟨⟨cur,hb⟩,hq,_⟩:=h.d8 e.symm;rcases ho with ho|⟨c2,u,h5,h6⟩
  ·omega
  ·unfold ag at hb h5;rw [hb] at h5;injection h5 with h5
   injection h5 with _ h7
   exact h6 h7.symm)⟩
theorem m6 {a b:Option Nat} (h:∀ q,a=some q→b≠some q):b=none∨b≠a:=by
 cases b with
 | none=>exact .inl rfl
 | some q=>exact .inr fun e=>h q e.symm rfl
theorem eE {a b:Option Nat} (h:∀ q,a=some q→b≠some q):∀ q,b=some q→a≠some q:=fun q hb ha=>h q ha hb
theorem ix {va vb Xe:Option Nat} {g n:Nat} (hd:∀ q,va=some q→vb≠some q) (hb:∀ q,vb=some q→q < n) (h2:Xe=some g) (hf:va=some g∨n≤g):∀ q,Xe=some q→vb≠some q:=by
 intro q hq hv;rw [h2] at hq;injection hq with hq
 subst hq;rcases hf with hf|hf
 ·exact hd g hf hv
 ·have:=hb g hv;omega
end Go.Proofs.YtnnjbaijcaiohaaGreat
