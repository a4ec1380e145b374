/- Walks and lemmas. -/
import Derived.Test.YtnnjbaijcaiohaaGreatSzA15
import Derived.Test.YtnnjbaijcaiohaaGreatSzA20
import Derived.Test.YtnnjbaijcaiohaaGreatSzA13
import Derived.Test.YtnnjbaijcaiohaaGreatSzA8
import Derived.Test.YtnnjbaijcaiohaaGreatSzA14
set_option linter.unusedVariables false
set_option linter.unusedSimpArgs false
set_option maxRecDepth 100000
set_option maxHeartbeats 16000000
namespace Go.Proofs.YtnnjbaijcaiohaaGreat
open Go.RowKit
variable {a a0:Act} {listed:Array Bool} {T:Array Bool→World→Prop} {ops:Array Oper} {ps:Array Tmp} {args tmps:Array Value} {assign body:Code} {Q:Exit→Act→World→Prop} {F:Fence} {u:FrameMode} {f:FuncId} {c s:Int} {plan:List (List Int)} {ds:List Deferred} {l l1 l2 la lb lq:List Int} {rest:List Oper} {cs h vs xs:List Value} {An B C H L N b b0 bx c1 c2 cap d1 d2 fuel g i id j jn k m1 m2 n n1 n2 nf nn off xn y:Nat} {X:Nat→Prop} {oi om:Oper} {a1 a2 a3 xa:Option Addr} {P:Program} {R p p0 p1 p10 p11 p12 p13 p2 p3 p4 p5 p6 p7 p8 p9:Prop} {md:Region.Mode} {α:Type} {e t t1 t2 t3:TypeId} {lv v vb vr z:Value} {A W W' W0 w w' w0 w2 w3 w4 wB:World} {S S1 S2:World→Prop}
def MP (bl n u:Nat) (ob oo:Nat) (on oc k:Nat) (x op:RR) (r:RR × Int) (B:Nat) (j:Nat) (v:Value) (W:World):Prop:=
 match j with
 | 0=>v=.slice (some ⟨bl,0,none⟩) n n
 | 1=>v=.int .i64 (u:Nat)
 | 2=>v=.pointer (some ⟨bl,u*3,none⟩)
 | 3=>∃ s1 s2 s3 s4,v=.agg #[.bool x.neg,.slice s1 x.num.length s2,.slice s3 x.den.length s4]∧bH W (.agg #[.bool x.neg,.slice s1 x.num.length s2,.slice s3 x.den.length s4]) x
 | 4=>v=.slice (some ⟨ob,oo,none⟩) on oc
 | 5=>v=.int .i64 (k:Nat)
 | 6=>v=.pointer (some ⟨ob,oo+k*4,none⟩)
 | 7=>v=.pointer (some ⟨ob,oo+k*4+1,none⟩)
 | 8=>∃ s1 s2 s3 s4,v=.agg #[.bool op.neg,.slice s1 op.num.length s2,.slice s3 op.den.length s4]∧bH W (.agg #[.bool op.neg,.slice s1 op.num.length s2,.slice s3 op.den.length s4]) op
 | 9=>∃ s1 s2 s3 s4,v=.tuple #[.agg #[.bool r.1.neg,.slice s1 r.1.num.length s2,.slice s3 r.1.den.length s4],.int .i64 r.2]∧bH W (.agg #[.bool r.1.neg,.slice s1 r.1.num.length s2,.slice s3 r.1.den.length s4]) r.1
 | 10=>∃ s1 s2 s3 s4,v=.tuple #[.agg #[.bool r.1.neg,.slice s1 r.1.num.length s2,.slice s3 r.1.den.length s4],.int .i64 r.2]∧bH W (.agg #[.bool r.1.neg,.slice s1 r.1.num.length s2,.slice s3 r.1.den.length s4]) r.1
 | 11=>∃ s1 s2 s3 s4,v=.agg #[.bool r.1.neg,.slice s1 r.1.num.length s2,.slice s3 r.1.den.length s4]∧bH W (.agg #[.bool r.1.neg,.slice s1 r.1.num.length s2,.slice s3 r.1.den.length s4]) r.1
 | 12=>v=.int .i64 r.2
 | 13=>∃ b,v=.pointer (some ⟨b,0,none⟩)∧B≤b∧af W b #[.bool false,.slice none 0 0,.slice none 0 0] 25
 | _=>True
theorem FV {bl u:Nat} {ob oo:Nat} {on oc:Nat} {x op:RR} {r:RR × Int} (h:MP bl n u ob oo on oc k x op r B j v W) (xx:Ext W W'):MP bl n u ob oo on oc k x op r B j v W':=by
 match j,h with
 | 0,h=>exact h
 | 1,h=>exact h
 | 2,h=>exact h
 | 3,⟨s1,s2,s3,s4,h1,h2⟩=>exact ⟨s1,s2,s3,s4,h1,h2.ext xx⟩
 | 4,h=>exact h
 | 5,h=>exact h
 | 6,h=>exact h
 | 7,h=>exact h
 | 8,⟨s1,s2,s3,s4,h1,h2⟩=>exact ⟨s1,s2,s3,s4,h1,h2.ext xx⟩
 | 9,⟨s1,s2,s3,s4,h0,h1⟩=>exact ⟨s1,s2,s3,s4,h0,h1.ext xx⟩
 | 10,⟨s1,s2,s3,s4,h0,h1⟩=>exact ⟨s1,s2,s3,s4,h0,h1.ext xx⟩
 | 11,⟨s1,s2,s3,s4,h1,h2⟩=>exact ⟨s1,s2,s3,s4,h1,h2.ext xx⟩
 | 12,h=>exact h
 | 13,⟨b,h0,h1,h2⟩=>exact ⟨b,h0,h1,h2.ext xx⟩
 | _+14,_=>trivial
def MQ (nb n tn:Nat) (ob oo:Nat) (on oc k:Nat) (y pr:RR) (r:RR × Int) (B:Nat) (j:Nat) (v:Value) (W:World):Prop:=
 match j with
 | 0=>v=.slice (some ⟨nb,0,none⟩) n n
 | 1=>v=.slice (some ⟨ob,oo,none⟩) on oc
 | 2=>v=.int .i64 (k:Nat)
 | 3=>v=.pointer (some ⟨ob,oo+k*4,none⟩)
 | 4=>v=.pointer (some ⟨ob,oo+k*4,none⟩)
 | 5=>v=.int .i64 (tn:Nat)
 | 6=>v=.slice (some ⟨nb,0,none⟩) n n
 | 7=>v=.slice (some ⟨ob,oo,none⟩) on oc
 | 8=>v=.int .i64 (k:Nat)
 | 9=>v=.pointer (some ⟨ob,oo+k*4,none⟩)
 | 10=>v=.pointer (some ⟨ob,oo+k*4,none⟩)
 | 11=>v=.int .i64 (tn:Nat)
 | 12=>v=.pointer (some ⟨nb,tn*3,none⟩)
 | 13=>∃ s1 s2 s3 s4,v=.agg #[.bool y.neg,.slice s1 y.num.length s2,.slice s3 y.den.length s4]∧bH W (.agg #[.bool y.neg,.slice s1 y.num.length s2,.slice s3 y.den.length s4]) y
 | 14=>∃ s1 s2 s3 s4,v=.agg #[.bool pr.neg,.slice s1 pr.num.length s2,.slice s3 pr.den.length s4]∧bH W (.agg #[.bool pr.neg,.slice s1 pr.num.length s2,.slice s3 pr.den.length s4]) pr
 | 15=>∃ s1 s2 s3 s4,v=.tuple #[.agg #[.bool r.1.neg,.slice s1 r.1.num.length s2,.slice s3 r.1.den.length s4],.int .i64 r.2]∧gB B W (.slice s1 r.1.num.length s2) r.1.num∧gB B W (.slice s3 r.1.den.length s4) r.1.den
 | 16=>∃ s1 s2 s3 s4,v=.tuple #[.agg #[.bool r.1.neg,.slice s1 r.1.num.length s2,.slice s3 r.1.den.length s4],.int .i64 r.2]∧gB B W (.slice s1 r.1.num.length s2) r.1.num∧gB B W (.slice s3 r.1.den.length s4) r.1.den
 | 17=>∃ s1 s2 s3 s4,v=.agg #[.bool r.1.neg,.slice s1 r.1.num.length s2,.slice s3 r.1.den.length s4]∧gB B W (.slice s1 r.1.num.length s2) r.1.num∧gB B W (.slice s3 r.1.den.length s4) r.1.den
 | 18=>v=.int .i64 r.2
 | _=>True
theorem FW {nb tn:Nat} {ob oo:Nat} {on oc:Nat} {y pr:RR} {r:RR × Int} (h:MQ nb n tn ob oo on oc k y pr r B j v W) (x:Ext W W'):MQ nb n tn ob oo on oc k y pr r B j v W':=by
 match j,h with
 | 0,h=>exact h
 | 1,h=>exact h
 | 2,h=>exact h
 | 3,h=>exact h
 | 4,h=>exact h
 | 5,h=>exact h
 | 6,h=>exact h
 | 7,h=>exact h
 | 8,h=>exact h
 | 9,h=>exact h
 | 10,h=>exact h
 | 11,h=>exact h
 | 12,h=>exact h
 | 13,⟨s1,s2,s3,s4,h1,h2⟩=>exact ⟨s1,s2,s3,s4,h1,h2.ext x⟩
 | 14,⟨s1,s2,s3,s4,h1,h2⟩=>exact ⟨s1,s2,s3,s4,h1,h2.ext x⟩
 | 15,⟨s1,s2,s3,s4,h0,h1,h2⟩=>exact ⟨s1,s2,s3,s4,h0,h1.ext x,h2.ext x⟩
 | 16,⟨s1,s2,s3,s4,h0,h1,h2⟩=>exact ⟨s1,s2,s3,s4,h0,h1.ext x,h2.ext x⟩
 | 17,⟨s1,s2,s3,s4,h0,h1,h2⟩=>exact ⟨s1,s2,s3,s4,h0,h1.ext x,h2.ext x⟩
 | 18,h=>exact h
 | _+19,_=>trivial
theorem rev_at {p:List (List Int)} (h:p.length - k=jn+1):p.reverse.getD k []=p.getD jn []:=by
 have hk:k < p.length:=Z
 rw [List.getD_eq_getElem?_getD,List.getElem?_reverse hk,List.getD_eq_getElem?_getD,show p.length - 1 - k=jn by omega]
theorem tf (h:n - k=jn+1):((jn:Nat):Int) - 1=((n - (k+1):Nat):Int) - 1:=by rw [show n - (k+1)=jn by omega]
theorem zx (l:List α) (d:α):(List.range l.length).map (fun k=>l.getD k d)=l:=by
 apply List.ext_getElem?;intro i;rw [List.getElem?_map];by_cases h:i < l.length
 ·rw [List.getElem?_range h,List.getElem?_eq_getElem h];simp [List.getD_eq_getElem?_getD,h]
 ·rw [List.getElem?_eq_none oZ,List.getElem?_eq_none Z];rfl
theorem mX (mv pv:Value) (m:MD) (plan:List (List Int)) (s:Int) (w:World) (hm:dd w mv m) (hp:dL w pv plan) (hlm:eG m) :
  Calls Tryz.prog 17 #[mv,pv,.int .i64 s] w fun e w'=>dN w w' e (aM m plan s)∧Ext w w':=by
 have gY:=kI (fun W mv (h:dd W mv m)=>jK mv m W h hlm);obtain ⟨HM,HP,xZ⟩:=cC hm hp hlm;obtain ⟨m1,n1,m2,n2,m3,n3,rfl,-,hms⟩:=hm;have sN:=kI hms;have SM:=HM;have ZY:=sN;obtain ⟨pa,pc,rfl,SN⟩:=hp.shape;have Oy:=HP;clear hp hlm hms SN;have bb0:=(af.new w #[.bool m.ag.neg,.slice m1 m.ag.num.length n1,.slice m2 m.ag.den.length n2,.slice m3 m.states.length n3] 28);have x0:Ext w (w.alloc (.cells #[.bool m.ag.neg,.slice m1 m.ag.num.length n1,.slice m2 m.ag.den.length n2,.slice m3 m.states.length n3] 28)):=((Ext.refl w).alloc _);have A0:=kI bb0;have X:=kI x0;clear x0 bb0;replace HM:=kI (HM.o.ext X.o);replace sN:=kI (sN.o.ext X.o);replace HP:=kI (HP.o.ext X.o);go_enter Tryz.func17,Tryz.ntmps17
 obtain ⟨aK,fA0,aJ⟩:=A0.o.q3;go_wp2_with fail;refine (gY.o _ _ HM.o).mono ?_;rintro e w1 ⟨rfl,hx⟩;clear aK fA0 aJ;revert A0 X HM sN HP;refine lf hx ?_;intro A0 X HM sN HP;clear hx gY;by_cases h1:fS m=0
 rotate_left
 ·obtain ⟨c,hc⟩:=gN (fS m);have E:=kI (sS (plan:=plan) (s:=s) hc Uh);rw [← hc] at h1 ⊢;exact WQ
 rw [h1];have H1:=kI h1;have uJ:=(bD h1).2.2.1;clear h1;by_cases h2:s < 0∨(m.states.length:Int)≤s
 ·have E:=kI (sT (plan:=plan) H1.o h2);by_cases h3:s < 0
  ·clear h2;exact NJ
  ·have h4:(m.states.length:Int)≤s:=Z
   clear h2;exact NJ
 have H2:=kI h2;obtain ⟨sn,rfl⟩:∃ n:Nat,s=(n:Int):=⟨s.toNat,by omega⟩;have hsn:sn < m.states.length:=Z
 have q0:¬ ((sn:Int) < 0):=Z
 have q9:¬ ((m.states.length:Int)≤(sn:Int)):=Z
 clear h2;by_cases h3:24 < plan.length
 ·have E:=kI (sU H1.o H2.o h3);have h4:(24:Int) < (plan.length:Int):=Z
  exact NJ
 have H3:=kI h3;have h4:¬ ((24:Int) < (plan.length:Int)):=Z
 have h5:plan.length≤24:=Z
 obtain ⟨aK,fA0,aJ⟩:=A0.o.q3;go_wp2_with fail;clear aK fA0 aJ;clear h4 q0 q9 h3;obtain ⟨w2,hw2⟩:=gN (w1);rw [← hw2] at HM sN HP A0 X ⊢;clear hw2;obtain ⟨ZZ,JJ,IX⟩:=cC hsn uJ h5;clear hsn uJ;clear h5;generalize (decide ((sn:Int) < 0))=bq1
 generalize (decide (m.states.length≤sn))=bq2
 generalize (decide ((24:Int) < (plan.length:Int)))=bq3
 go_loopw [9] (fun i wr=>∃ k:Nat,k≤plan.length∧i=.int .i64 (((plan.length - k:Nat):Int) - 1)∧(∀ i,i < k→fH m (plan.reverse.getD i [])=0)∧Ext w2 wr) (fun i _=>(intOf i+1).toNat)
 case atStart=>exact ⟨0,Nat.zero_le _,rfl,fun i hi=>by omega,Ext.refl _⟩
 case round=>
  obtain ⟨wi,hwi⟩:=gN (wr);subst hwi;obtain ⟨k,hk,rfl,hok,hxi⟩:=hrel;have XI:=kI hxi;have OK:=kI hok;clear hxi hok;by_cases hlt:k < plan.length
  ·obtain ⟨jn,hjn⟩:∃ jn,plan.length - k=jn+1:=⟨plan.length - k - 1,by omega⟩;have Z3:=kI hjn;have Oz:=rev_at hjn;rw [hjn,show ((jn+1:Nat):Int) - 1=(jn:Int) by omega];have Z4:jn≤24:=by have:=IX.o;omega
   have hjp:jn < plan.length:=Z
   obtain ⟨pb,po,la,lc,e0,g0,g1,g2⟩:=(HP.o.ext XI.o).at hjp;subst e0;obtain ⟨pl,hpl⟩:=gN (plan.getD jn []);rw [← hpl] at g1 g2 Oz;have G9:Hid (pb < wi.heap.size∧wi.cell? ⟨pb,po+jn,none⟩=some (.slice la pl.length lc)∧aY .i64 wi (.slice la pl.length lc) pl):=kI ⟨g0,g1,g2⟩;have RV:=kI Oz;have ZK:pl.length≤9223372036854775807:=by obtain ⟨_,_,_,_,h,_⟩:=g2.get;omega
   have AI:=kI (A0.o.ext XI.o);have NEXT:Hid (fH m pl=0→∀ i,i < k+1→fH m (plan.reverse.getD i [])=0):=kI (fun h i hi=>by
    by_cases e:i=k
    ·rw [e,RV.o];exact h
    ·exact OK.o i Z)
   have BAD:Hid (∀ c,c≠0→fH m pl=c→aM m plan (sn:Int)=([],c)):=kI (fun c hc h=>sV H1.o H2.o H3.o (j:=k) (by rw [List.length_reverse];exact hlt) OK.o (by rw [RV.o];exact h) hc);have q1:(jn:Int) < (plan.length:Int):=Z
   have q2:(0:Int)≤(jn:Int):=Z
   clear Oz hpl g2 hjn hjp;have ox:=kI hlt;clear hlt hk;by_cases hle:pl.length=m.states.length
   rotate_left
   ·have E:=kI (BAD.o 16 ah (by unfold fH;rw [if_pos hle]));have SQ:((pl.length:Int) != (m.states.length:Int))=true:=bne_iff_ne.2 Z;clear hle;obtain ⟨Va,Vb,Vc⟩:=AI.o.q3;go_wp2_with fail;(refine aF ak ak ?_;(repeat (go_big_quiet_step ((fail))));refine wpQuiet_nil ?_;rintro w1 ⟨⟨_,hx1⟩,rfl⟩;(try dsimp only))
    have XD:=XI.x hx1;go_wp2_with fail;go_ret2
    exact ⟨dN.mk (bm.nil _ _) E.o,X.o.trans XD.o⟩
   have NY:=kI hle;have SQ:((pl.length:Int) != (m.states.length:Int))=false:=by simp [hle]
   clear hle;obtain ⟨Va,Vb,Vc⟩:=AI.o.q3;go_wp2_with fail;(refine aF ak ak ?_;(repeat (go_big_quiet_step ((fail))));refine wpQuiet_nil ?_;rintro w1 ⟨⟨_,hx1⟩,rfl⟩;(try dsimp only))
   have XD:=kI ((Ext.refl wi).trans hx1);go_wp2_with fail;clear Va Vb Vc;clear SQ g0 g1 hx1;go_loopw [10] (fun i wr=>∃ u:Nat,u≤pl.length∧i=.int .i64 u∧(∀ t,t < u→fD m pl t=0)∧Ext wi wr) (fun i _=>pl.length - (intOf i).toNat)
   case atStart=>exact ⟨0,Nat.zero_le _,rfl,fun t h=>by omega,XD.o⟩
   case round=>
    obtain ⟨wk,hwk⟩:=gN (wr);subst hwk;obtain ⟨u,hu,rfl,hpo,hxk⟩:=hrel;have PO:=kI hpo;have XK:=kI hxk;have AK:=AI.x hxk;have g0:=Nat.lt_of_lt_of_le G9.o.1 hxk.size;have g1:=(hxk.cell (p:=⟨pb,po+jn,none⟩) G9.o.1).trans G9.o.2.1;clear hpo hxk;by_cases kA:u < pl.length
    ·obtain ⟨xb,xo,rfl,t0,t1⟩:=iE (G9.o.2.2.ext XK.o) kA;obtain ⟨pk,hpk⟩:=gN (pl.getD u 0);rw [← hpk] at t1;have YG:=kI hpk;clear hpk;have hun:u < m.states.length:=by rw [← NY.o];exact kA
     obtain ⟨sb,so,ai,ci,rfl,s0,s1,-⟩:=(sN.o.ext (XI.o.trans XK.o)).at hun;obtain ⟨al,hal⟩:=gN ((m.states.getD u []).length);have xO:=kI hal;rw [← hal] at s1;clear hal;have FAIL:Hid ((pk < 0∨(al:Int)≤pk)→fH m pl=8):=kI (fun h=>by
      have e:fD m pl u=8:=by unfold fD;rw [← YG.o,← xO.o,if_pos h]
      unfold fH;rw [if_neg T7];exact (cz (f:=fD m pl) PO.o (by rw [e];decide) kA).trans e)
     have q3:(0:Int)≤(u:Int):=Z
     have q4:(u:Int) < (pl.length:Int):=Z
     have q5:(u:Int) < (m.states.length:Int):=Z
     by_cases d1:pk < 0
     ·have E:=kI (BAD.o 8 ah (FAIL.o (.inl d1)));obtain ⟨Vd,Ve,Vf⟩:=AK.o.q3;go_wp2_with fail;have d3:decide (pk < 0)=true:=decide_eq_true d1;(refine aF ak ak ?_;(repeat (go_big_quiet_step ((fail))));refine wpQuiet_nil ?_;rintro w1 ⟨⟨_,hx1⟩,rfl⟩;(try dsimp only))
      have XD:=XK.x hx1;go_wp2_with fail;go_ret2
      exact ⟨dN.mk (bm.nil _ _) E.o,X.o.trans (XI.o.trans (XD:Hid _).out)⟩
     by_cases d2:(al:Int)≤pk
     ·have E:=kI (BAD.o 8 ah (FAIL.o (.inr d2)));obtain ⟨Vd,Ve,Vf⟩:=AK.o.q3;go_wp2_with fail;have d3:decide (pk < 0)=false:=decide_eq_false Z;have d4:decide ((al:Int)≤pk)=true:=decide_eq_true d2;(refine aF ak ak ?_;(repeat (go_big_quiet_step ((fail))));refine wpQuiet_nil ?_;rintro w1 ⟨⟨_,hx1⟩,rfl⟩;(try dsimp only))
      have XD:=XK.x hx1;go_wp2_with fail;go_ret2
      exact ⟨dN.mk (bm.nil _ _) E.o,X.o.trans (XI.o.trans XD.o)⟩
     obtain ⟨Vd,Ve,Vf⟩:=AK.o.q3;go_wp2_with fail;have d3:decide (pk < 0)=false:=decide_eq_false Z;have d4:decide ((al:Int)≤pk)=false:=decide_eq_false Z;(refine aF ak ak ?_;(repeat (go_big_quiet_step ((fail))));refine wpQuiet_nil ?_;rintro w1 ⟨⟨_,hx1⟩,rfl⟩;(try dsimp only))
     have XD:=XK.x hx1;go_wp2_with fail;go_roundw
     case rel=>
      refine ⟨u+1,by omega,by go_num,fun t ht=>?_,XD.o⟩;by_cases e:t=u
      ·subst e;unfold fD;rw [← YG.o,← xO.o,if_neg Z]
      ·exact PO.o t Z
     case measure=>first|(simp [intOf];done)|(simp [intOf];omega)
    ·obtain rfl:u=pl.length:=Z
     have q6:¬ (pl.length:Int) < (pl.length:Int):=Z
     go_wp2_with fail;have hzz:fH m pl=0:=by
      exact zIv
     go_roundw
     case rel=>exact ⟨k+1,ox.o,by rw [← tf Z3.o],NEXT.o hzz,XI.o.trans XK.o⟩
     case measure=>first|(simp [intOf];done)|(simp [intOf];omega)
  ·obtain rfl:k=plan.length:=Z
   rw [Nat.sub_self];have U7:Hid (∀ i,i < plan.length→fH m (plan.reverse.getD i [])=0):=OK;have E5:=kI (sW H1.o H2.o H3.o (fun i hi=>U7.o i NW));clear hk hlt;have HB0:=kI (gy.new (B:=w.heap.size) (n:=m.states.length) (af.new wi (madeCells #[.bool false,.slice none 0 0,.slice none 0 0] (m.states.length*3)) 25));obtain ⟨CC,Ei⟩:=gN (madeCells #[Value.bool false,.slice none 0 0,.slice none 0 0] (m.states.length*3));rw [← Ei] at HB0;have Gq:=kI Ei;have uJ:=JJ.o;clear Ei;replace HM:=kI (HM.o.ext XI.o);replace sN:=kI (sN.o.ext XI.o);replace HP:=kI (HP.o.ext XI.o);replace A0:=kI (A0.o.ext XI.o);replace X:=kI (X.o.trans XI.o);clear XI OK;obtain ⟨aK,fA0,aJ⟩:=A0.o.q3;go_wp2_with (at_make;(refine dB rfl _ _ rfl m.states.length rfl rfl Tryz.underlying29 Tryz.dH Z Z CC (by exact Gq.o.symm) ?_))
   clear aK fA0 aJ;obtain ⟨b0,hb0⟩:=gN (wi.heap.size);obtain ⟨w5,hw5⟩:=gN (wi.alloc (.cells CC 25));have hx:Ext wi w5:=by rw [hw5];exact (Ext.refl _).alloc _
   have hfr:=HB0.o;rw [← hb0,← hw5] at hfr;rw [← hb0,← hw5];have FR:=kI hfr;have S5:w.heap.size≤b0:=by rw [hb0];exact X.o.size
   have SG:=kI S5;have A0B:Hid (w.heap.size < b0):=kI (by rw [hb0];exact A0.o.lt);have hfl:=FR.o.lt;have LTB:=kI hfl;clear hw5 hb0 S5 HB0 Gq hfr hfl;revert HM sN HP A0 X;refine lf hx ?_;intro HM sN HP A0 X;clear hx;have q1:(0:Int)≤(sn:Int):=Z
   have q2:(sn:Int) < (m.states.length:Int):=by have:=ZZ.o;omega
   refine (eI 1 w5 ah ah).mono ?_;rintro e w6 ⟨⟨v,rfl,nn⟩,hx⟩;obtain ⟨one,hone⟩:=gN (rep ((1:Int):Rat));rw [← hone] at nn;have ys:=kI hone;obtain ⟨r1,r2,r3,r4,rfl⟩:=nn.shape;obtain ⟨hs1,hs2⟩:=nn.sf (B:=w.heap.size) X.o.size;have S1:=kI hs1;have S2:=kI hs2;replace FR:=FR.x hx;clear nn hs1 hs2 hone;revert HM sN HP A0 X;refine lf hx ?_;intro HM sN HP A0 X;clear hx;obtain ⟨g1,g2,g3,g4,z0,z1,z2,-⟩:=FR.o.at (j:=sn) ZZ.o;have f0:=FR.o.free;have fl:=FR.o.lt;go_wp2_with fail;clear z0 z1 z2 f0 fl;obtain ⟨w7,hw7⟩:=gN (((w6.setCell ⟨b0,sn*3,none⟩ (.bool one.neg)).setCell ⟨b0,sn*3+1,none⟩ (.slice r1 one.num.length r2)).setCell ⟨b0,sn*3+2,none⟩ (.slice r3 one.den.length r4));have hfr:gy w7 w.heap.size b0 m.states.length (fun k=>(jh m (sn:Int)).getD k zR):=by
    have h:=FR.o.set (a:=sn) (r:=one) ZZ.o S1.o S2.o;exact kRi
   obtain ⟨cur,hcur,-,-⟩:=FR.o;have Gu:Keeps b0 25 w6 w7:=by rw [hw7];exact tX hcur _ _ _ _
   have c0:=A0.o.keeps Gu ah;have hxn:Below b0 w6 w7:=Gu.below (Nat.le_of_lt FR.o.lt);have eF:Ext w w7:=Below.trans X.o (hxn.mono SG.o);have hl0:bQ (jh m (sn:Int)):=fun i hi=>by
    exact qLy
   have hlen0:(jh m (sn:Int)).length=m.states.length:=by unfold jh;rw [List.length_set,List.length_replicate]
   have EJ:=SM.o.ext eF;have S7:=ZY.o.ext eF;have hp9:=Oy.o.ext eF;rw [← hw7];replace A0:=kI c0;replace X:=kI eF;replace FR:=kI hfr;have L0:=kI hl0;have ZO:=kI hlen0;replace HM:=kI EJ;replace sN:=kI S7;replace HP:=kI hp9;clear hw7 hfr hcur Gu hxn c0 eF S1 S2 hl0 hlen0 ys q1 q2 EJ S7 hp9;have h5:=IX.o;go_wp2_with fail;clear h5;go_loopw [11,12] (fun lv i wr=>∃ (k bl:Nat) (l:List RR),k≤plan.length∧i=.int .i64 (((plan.length - k:Nat):Int) - 1)∧lv=.slice (some ⟨bl,0,none⟩) m.states.length m.states.length∧l.length=m.states.length∧bQ l∧gy wr w.heap.size bl m.states.length (fun k=>l.getD k zR)∧w.heap.size≤bl∧mH m plan.reverse (jh m (sn:Int))=mH m (plan.reverse.drop k) l∧Ext w7 wr) (fun _ i _=>(intOf i+1).toNat)
   case atStart=>exact ⟨0,b0,_,Nat.zero_le _,rfl,rfl,ZO.o,L0.o,FR.o,SG.o,rfl,Ext.refl _⟩
   case round=>
    obtain ⟨wi,hwi⟩:=gN (wr);subst hwi;obtain ⟨k,bl,l,hk,rfl,rfl,hll,hlm,hf,hbw,hch,hxi⟩:=hrel;obtain ⟨XI,FL,U8,LL,CH,BW⟩:=od hxi hf hll hlm hch hbw;clear hxi hf hll hlm hch hbw;by_cases hlt:k < plan.length
    ·obtain ⟨jn,hjn⟩:∃ jn,plan.length - k=jn+1:=⟨plan.length - k - 1,by omega⟩;have Z3:=kI hjn;have Oz:=rev_at hjn;rw [hjn,show ((jn+1:Nat):Int) - 1=(jn:Int) by omega];have Z4:jn≤24:=by have:=IX.o;omega
     have hjp:jn < plan.length:=Z
     obtain ⟨pb,po,la,lc,e0,g0,g1,g2⟩:=(HP.o.ext XI.o).at hjp;subst e0;obtain ⟨pl,hpl⟩:=gN (plan.getD jn []);have hE1:=U7.o k hlt;have hst:=xk (m:=m) (l:=l) (ps:=plan.reverse) (j:=k) Uj;rw [Oz,← hpl] at hE1 hst;rw [← hpl] at g1 g2;obtain ⟨S9,hpa⟩:=uw hE1;have G9:Hid (pb < wi.heap.size∧wi.cell? ⟨pb,po+jn,none⟩=some (.slice la pl.length lc)∧aY .i64 wi (.slice la pl.length lc) pl):=kI ⟨g0,g1,g2⟩;have AI:=kI (A0.o.ext XI.o);have PLE:=kI S9;have PA:=kI hpa;have MH:Hid (∀ (c:Int),c≠0→(mG m pl l (List.range m.states.length) (List.replicate m.states.length zR)).2=c→aM m plan (sn:Int)=([],c)):=kI (fun c hc he=>by
      have e1:(mH m plan.reverse (jh m (sn:Int))).2=c:=by rw [CH.o,hst,if_pos (by rw [he];exact hc)];exact he
      rw [E5.o,e1,if_pos hc])
     have NEXT:Hid (∀ nx,mG m pl l (List.range m.states.length) (List.replicate m.states.length zR)=(nx,0)→mH m plan.reverse (jh m (sn:Int))=mH m (plan.reverse.drop (k+1)) nx):=kI (fun nx he=>by
      rw [CH.o,hst,he];rfl)
     have ox:=kI hlt;have q1:(jn:Int) < (plan.length:Int):=Z
     have q2:(0:Int)≤(jn:Int):=Z
     have HB2:=kI (gy.new (B:=w.heap.size) (n:=m.states.length) (af.new wi (madeCells #[.bool false,.slice none 0 0,.slice none 0 0] (m.states.length*3)) 25));obtain ⟨CD,MI⟩:=gN (madeCells #[Value.bool false,.slice none 0 0,.slice none 0 0] (m.states.length*3));rw [← MI] at HB2;have SU:=kI MI;clear MI hst Oz hpl g0 g1 g2 hjp hjn hE1 S9 hpa hlt hk;obtain ⟨Va,Vb,Vc⟩:=AI.o.q3;go_wp2_with (at_make;(refine dB rfl _ _ rfl m.states.length rfl rfl Tryz.underlying29 Tryz.dH Z Z CD (by exact SU.o.symm) ?_))
     clear Va Vb Vc;obtain ⟨nb,hnb⟩:=gN (wi.heap.size);rw [← hnb] at HB2 ⊢;obtain ⟨wz,hwz⟩:=gN (wi.alloc (.cells CD 25));rw [← hwz] at HB2 ⊢;have hxz:Ext wi wz:=by rw [hwz];exact (Ext.refl _).alloc _
     have FZ:Hid (gy wz w.heap.size nb m.states.length (fun k=>(List.replicate m.states.length zR).getD k zR)):=kI (HB2.o.congr (fun k hk=>by rw [List.getD_eq_getElem?_getD,List.getElem?_replicate,if_pos hk];rfl));have XZ:=kI hxz;have SW:Hid (wi.heap.size≤nb):=kI (by rw [hnb];exact Nat.le_refl _);have LZ:Hid (bQ (List.replicate m.states.length zR)):=kI (fun i hi=>by rw [List.length_replicate] at hi;rw [List.getD_eq_getElem?_getD,List.getElem?_replicate,if_pos hi];exact bO);clear hnb hwz hxz HB2 SU;go_loopw [14] (fun i wr=>∃ (u:Nat) (nx:List RR),u≤m.states.length∧i=.int .i64 u∧nx.length=m.states.length∧bQ nx∧gy wr w.heap.size nb m.states.length (fun k=>nx.getD k zR)∧mG m pl l (List.range m.states.length) (List.replicate m.states.length zR)=mG m pl l ((List.range m.states.length).drop u) nx∧Ext wi wr) (fun i _=>m.states.length - (intOf i).toNat)
     case atStart=>exact ⟨0,(List.replicate m.states.length zR),Nat.zero_le _,rfl,by rw [List.length_replicate],LZ.o,FZ.o,rfl,XZ.o⟩
     case round=>
      obtain ⟨wk,hwk⟩:=gN (wr);subst hwk;obtain ⟨u,nx,hu,rfl,hnl,hnm,hfn,Je,hxk⟩:=hrel;obtain ⟨NL,NM,FN,CU,XK⟩:=iR hnl hnm hfn Je hxk;clear hnl hnm hfn Je hxk FZ XZ LZ;by_cases kA:u < m.states.length
      ·have JN:=kI kA;obtain ⟨x1,x2,x3,x4,MJ,ML,MM,Jf⟩:=FL.o.at kA;have y0:=(XK.o.cell (p:=⟨bl,u*3,none⟩) FL.o.lt).trans MJ;have y1:=(XK.o.cell (p:=⟨bl,u*3+1,none⟩) FL.o.lt).trans ML;have y2:=(XK.o.cell (p:=⟨bl,u*3+2,none⟩) FL.o.lt).trans MM;have yr:=Jf.ext XK.o;have hst:=xj (m:=m) (p:=pl) (l:=l) (nx:=nx) kA;have qO:bj (l.getD u zR):=LL.o u (by rw [U8.o];exact kA);obtain ⟨x,hxx⟩:=gN (l.getD u zR);rw [← hxx] at y0 y1 y2 yr hst qO MJ ML MM Jf;have YI:Hid (wi.cell? ⟨bl,u*3,none⟩=some (.bool x.neg)∧wi.cell? ⟨bl,u*3+1,none⟩=some (.slice x1 x.num.length x2)∧wi.cell? ⟨bl,u*3+2,none⟩=some (.slice x3 x.den.length x4)∧bH wi (.agg #[.bool x.neg,.slice x1 x.num.length x2,.slice x3 x.den.length x4]) x):=kI ⟨MJ,ML,MM,Jf⟩;clear MJ ML MM Jf;have YS:Hid (bl < wk.heap.size∧wk.cell? ⟨bl,u*3,none⟩=some (.bool x.neg)∧wk.cell? ⟨bl,u*3+1,none⟩=some (.slice x1 x.num.length x2)∧wk.cell? ⟨bl,u*3+2,none⟩=some (.slice x3 x.den.length x4)):=kI ⟨(FL.o.ext XK.o).lt,y0,y1,y2⟩;obtain ⟨XR,XL,Jg⟩:=cC yr qO hst;clear hxx yr qO hst;have q3:(0:Int)≤(u:Int):=Z
       have q4:(u:Int) < (m.states.length:Int):=Z
       have ZS:=YS.o.1;by_cases hx0:x.num=[]
       ·have q5:((x.num.length:Int) == 0)=true:=by simp [hx0]
        have q6:(x.num.length:Int)=0:=by simp [hx0]
        have HX0:=kI hx0;clear hx0;go_wp2_with fail;go_roundw
        case rel=>exact ⟨u+1,nx,JN.o,by go_num,NL.o,NM.o,FN.o,by rw [CU.o,Jg.o,if_pos HX0.o],XK.o⟩
        case measure=>first|(simp [intOf];done)|(simp [intOf];omega)
       have q5:((x.num.length:Int) == 0)=false:=by simp [hx0]
       have q6:¬ (x.num.length:Int)=0:=by simp [hx0]
       have HX0:=kI hx0;clear hx0;go_wp2_with fail;clear q5 q6 y0 y1 y2 ZS;obtain ⟨ha0,ha1⟩:=PA.o u kA;obtain ⟨an,han⟩:∃ n:Nat,pl.getD u 0=(n:Int):=⟨(pl.getD u 0).toNat,by omega⟩;obtain ⟨xb,xo,rfl,t0,t1⟩:=iE (G9.o.2.2.ext XK.o) (i:=u) (by rw [PLE.o];exact kA);rw [han] at t1 ha1;obtain ⟨sb,so,ai,ci,rfl,Z5,s01,s2⟩:=(sN.o.ext XI.o).at kA;have s0:=Nat.lt_of_lt_of_le Z5 XK.o.size;have s1:=(XK.o.cell (p:=⟨sb,so+u,none⟩) Z5).trans s01;clear Z5 s01;have FS:(m.states.getD u []).length≤6:=(dm ((bD H1.o).2.2.2 u kA)).2.1;have uD:an < (m.states.getD u []).length:=Z
       obtain ⟨ab,ao,p1,e1,p2,e2,p3,e3,rfl,na,v30,v4⟩:=s2.at uD;have v0:=Nat.lt_of_lt_of_le na.1 XK.o.size;have v3:=(XK.o.cell (p:=⟨ab,ao+an*4+3,none⟩) na.1).trans v30;clear v30;have hact:(m.states.getD u []).getD an dA=m.act u (pl.getD u 0).toNat:=by rw [han,Int.toNat_natCast];rfl
       have hav:=fd (qD H1.o kA uD);have hov:=uu hav.2.2.2.1;have h64:=hav.2.2.1;rw [hact] at v3 v4;rw [show m.act u an=m.act u (pl.getD u 0).toNat by rw [han,Int.toNat_natCast]] at hov h64;obtain ⟨al,hal⟩:=gN ((m.states.getD u []).length);rw [← hal] at s1 ha1 FS uD;obtain ⟨os,hos⟩:=gN ((m.act u (pl.getD u 0).toNat).next);rw [← hos] at v3 v4 hov h64;obtain ⟨rE,ZT,V4I⟩:=cC hos hov v4;have HOL:=kI (show ∀ i,bj (os.getD i dO).2 from by rw [hos];exact (xZ.o.2 u _).2);have q5:(0:Int)≤(an:Int):=Z
       have q6:(an:Int) < (al:Int):=Z
       have q7:(u:Int) < (pl.length:Int):=by rw [PLE.o];exact q4
       have g0:=Nat.lt_of_lt_of_le G9.o.1 XK.o.size;have g1:=(XK.o.cell (p:=⟨pb,po+jn,none⟩) G9.o.1).trans G9.o.2.1;have AK:=kI (AI.o.ext XK.o);have h65:=kI h64;clear s2 v4 na hos hov hact hav hal ha0 ha1 FS uD han h64;obtain ⟨Vd,Ve,Vf⟩:=AK.o.q3;(refine aF ak ak ?_;(repeat (go_big_quiet_step (fail)));refine wpQuiet_nil ?_;rintro wm ⟨⟨_,hx1⟩,rfl⟩;(try dsimp only))
       go_wp2_with fail;clear Vd Ve Vf;have XM:=kI hx1;have FM:=FN.x hx1;clear t0 t1 s0 s1 v0 v3 g0 g1 q5 q6 q7 hx1 AK;have xP:Hid (∀ (c:Int),c≠0→(qX x os nx).2=c→aM m plan (sn:Int)=([],c)):=kI (fun c hc h=>MH.o c hc (by
        rw [CU.o,Jg.o,if_neg HX0.o,← rE.o,if_pos (by rw [h];exact hc)];exact h))
       have XWM:=kI (XK.o.trans XM.o);go_loopw [16] (fun i wr=>∃ (k:Nat) (ny:List RR),k≤os.length∧i=.int .i64 k∧ny.length=m.states.length∧bQ ny∧gy wr w.heap.size nb m.states.length (fun k=>ny.getD k zR)∧qX x os nx=qX x (os.drop k) ny∧Ext wi wr) (fun i _=>os.length - (intOf i).toNat)
       case atStart=>exact ⟨0,nx,Nat.zero_le _,rfl,NL.o,NM.o,FM.o,rfl,XWM.o⟩
       case round=>
        obtain ⟨wj,qZ⟩:=gN (wr);subst qZ;obtain ⟨i,ny,hi,rfl,hyl,hym,SX,hco,hxj⟩:=hrel;obtain ⟨YL,YM,FY,CO,XJ⟩:=iR hyl hym SX hco hxj;clear hyl hym SX hco hxj;by_cases hil:i < os.length
        ·have HIL:=kI hil;obtain ⟨ob,oo,o1,o2,o3,o4,rfl,v0,v1,v2,v3,v4,v5⟩:=(V4I.o.ext XJ.o).at hil;have hov:=ZT.o (os.getD i dO) (by rw [List.getD_eq_getElem?_getD,List.getElem?_eq_getElem hil];exact List.getElem_mem hil);have hst:=xh (x:=x) (nx:=ny) hil;have hol:=HOL.o i;obtain ⟨O,hO⟩:=gN (os.getD i dO);rw [← hO] at v1 v2 v3 v4 v5 hov hst hol;obtain ⟨ot,op⟩:=O;dsimp only at v1 v2 v3 v4 v5 hov hst hol;obtain ⟨tn,rfl⟩:∃ n:Nat,ot=(n:Int):=⟨ot.toNat,by omega⟩;rw [Int.toNat_natCast] at hst;have htn:tn < m.states.length:=Z
         obtain ⟨WW,FT,MN⟩:=cC htn hst hol;have VS:Hid (ob < wj.heap.size∧wj.cell? ⟨ob,oo+i*4,none⟩=some (.int .i64 (tn:Int))∧wj.cell? ⟨ob,oo+i*4+1,none⟩=some (.bool op.neg)∧wj.cell? ⟨ob,oo+i*4+2,none⟩=some (.slice o1 op.num.length o2)∧wj.cell? ⟨ob,oo+i*4+3,none⟩=some (.slice o3 op.den.length o4)∧bH wj (.agg #[.bool op.neg,.slice o1 op.num.length o2,.slice o3 op.den.length o4]) op):=kI ⟨v0,v1,v2,v3,v4,v5⟩;have XS:Hid (bl < wj.heap.size∧wj.cell? ⟨bl,u*3,none⟩=some (.bool x.neg)∧wj.cell? ⟨bl,u*3+1,none⟩=some (.slice x1 x.num.length x2)∧wj.cell? ⟨bl,u*3+2,none⟩=some (.slice x3 x.den.length x4)∧bH wj (.agg #[.bool x.neg,.slice x1 x.num.length x2,.slice x3 x.den.length x4]) x):=kI ⟨(FL.o.ext XJ.o).lt,(XJ.o.cell (p:=⟨bl,u*3,none⟩) FL.o.lt).trans YI.o.1,(XJ.o.cell (p:=⟨bl,u*3+1,none⟩) FL.o.lt).trans YI.o.2.1,(XJ.o.cell (p:=⟨bl,u*3+2,none⟩) FL.o.lt).trans YI.o.2.2.1,YI.o.2.2.2.ext XJ.o⟩;obtain ⟨R,hR⟩:=gN (mulR x op);have hml:bj R.1:=by rw [hR];exact fg _ _
         have HR:=kI hR;have Lv:=kI hml;have q5:(0:Int)≤(i:Int):=Z
         have q6:(i:Int) < (os.length:Int):=Z
         have qtn:(tn:Int) < (m.states.length:Int):=Z
         have qt0:(0:Int)≤(tn:Int):=Z
         clear hst hol v5 hov hO hR hml v0 v1 v2 v3 v4;go_wp2_with fail;have Mz:=X;have X:=kI (Ext.refl wj);refine bM 14 12 (MP bl m.states.length u ob oo os.length e3 i x op R wj.heap.size) rfl ak ak ak (fun _ _ _ _ h x=>FV h x) (fun _ _ d _ _ h=>by cases d <;> exact h) ?_ ?_ ?_
         ·refine ⟨?_,?_,?_,?_,?_,?_,?_,?_,?_,?_,?_,?_,?_,?_,trivial⟩
          ·intro a W hW hB hD K hK;have b11:=hB 11 rfl;simp only [sB] at b11;exact fu
          ·intro a W hW hB hD K hK;have b14:=hB 14 rfl;simp only [sB] at b14;exact fu
          ·intro a W hW hB hD K hK;obtain ⟨v139,aj4,Z7⟩:=aQ (hD 0 _ 139 rfl rfl ak);obtain rfl:=Z7;obtain ⟨aj5,aj6,Z8⟩:=aQ (hD 1 _ 140 rfl rfl ak);obtain rfl:=Z8;exact fu
          ·intro a W hW hB hD K hK;obtain ⟨v141,aj7,Z9⟩:=aQ (hD 2 _ 141 rfl rfl ak);obtain rfl:=Z9;have m0:=(hW.cell (p:=⟨bl,u*3,none⟩) XS.o.1).trans XS.o.2.1;have m1:=(hW.cell (p:=⟨bl,u*3+1,none⟩) XS.o.1).trans XS.o.2.2.1;have m2:=(hW.cell (p:=⟨bl,u*3+2,none⟩) XS.o.1).trans XS.o.2.2.2.1;have ml:=Nat.lt_of_lt_of_le XS.o.1 hW.size;go_simp;exact hK _ _ (Ext.refl _) ⟨_,_,_,_,rfl,XS.o.2.2.2.2.ext hW⟩
          ·exact WZ
          ·exact WY
          ·intro a W hW hB hD K hK;obtain ⟨v143,e143,aa0⟩:=aQ (hD 4 _ 143 rfl rfl ak);obtain rfl:=aa0;obtain ⟨aj8,aj9,aa2⟩:=aQ (hD 5 _ 144 rfl rfl ak);obtain rfl:=aa2;exact fu
          ·intro a W hW hB hD K hK;obtain ⟨v145,ak0,aa3⟩:=aQ (hD 6 _ 145 rfl rfl ak);obtain rfl:=aa3;exact fu
          ·intro a W hW hB hD K hK;obtain ⟨v146,ak1,aa4⟩:=aQ (hD 7 _ 146 rfl rfl ak);obtain rfl:=aa4;have m0:=(hW.cell (p:=⟨ob,oo+i*4+1,none⟩) VS.o.1).trans VS.o.2.2.1;have m1:=(hW.cell (p:=⟨ob,oo+i*4+2,none⟩) VS.o.1).trans VS.o.2.2.2.1;have m2:=(hW.cell (p:=⟨ob,oo+i*4+3,none⟩) VS.o.1).trans VS.o.2.2.2.2.1;have ml:=Nat.lt_of_lt_of_le VS.o.1 hW.size;go_simp;exact hK _ _ (Ext.refl _) ⟨_,_,_,_,rfl,VS.o.2.2.2.2.2.ext hW⟩
          ·intro a W hW hB hD K hK;obtain ⟨ak2,ak3,aa5⟩:=aQ (hD 3 _ 142 rfl rfl ak);obtain ⟨x91,Ji,x93,Jj,rfl,x9h⟩:=aa5;obtain ⟨ak4,ak5,aa6⟩:=aQ (hD 8 _ 147 rfl rfl ak);obtain ⟨y91,y92,y93,y94,rfl,y9h⟩:=aa6;go_simp;have hmu:=gK _ _ x op W x9h y9h XL.o MN.o;rw [← HR.o] at hmu;refine hmu.mono ?_;rintro e w9 ⟨⟨v,rfl,nn⟩,hx⟩;obtain ⟨t1,t2,t3,t4,rfl⟩:=nn.shape;exact hK _ _ hx ⟨_,_,_,_,rfl,nn.rd⟩
          ·intro a W hW hB hD K hK;obtain ⟨v148,ak6,aa7⟩:=aQ (hD 9 _ 148 rfl rfl ak);obtain ⟨x91,Ji,x93,Jj,rfl,xq⟩:=aa7;go_simp;exact hK _ _ (Ext.refl _) ⟨_,_,_,_,rfl,xq⟩
          ·intro a W hW hB hD K hK;obtain ⟨v138,e138,Cx⟩:=aQ (hD 10 _ 138 rfl rfl ak);obtain ⟨x91,Ji,x93,Jj,rfl,xq⟩:=Cx;go_simp;exact hK _ _ (Ext.refl _) ⟨_,_,_,_,rfl,xq⟩
          ·intro a W hW hB hD K hK;obtain ⟨v138,e138,Cx⟩:=aQ (hD 10 _ 138 rfl rfl ak);obtain ⟨x91,Ji,x93,Jj,rfl,xq⟩:=Cx;exact fu
          ·exact qHj
         ·intro a W hW hB hD;have Cx:=hD 10 _ 138 rfl rfl ak;obtain ⟨v138,e138⟩:∃ x,a.tmps.getD 138 undef=x:=⟨_,rfl⟩;rw [e138] at Cx;obtain ⟨x91,Ji,x93,Jj,rfl,xq⟩:=Cx;exact ⟨.int .i64 R.2,fun w9=>cQ e138 rfl rfl w9,rfl⟩
         intro w8 hx;simp only [dR,List.take_succ_cons,List.take_zero,List.drop_succ_cons,List.drop_zero];rintro u0 - u1 - u2 - u3 - u4 - u5 - u6 - u7 - u8 - u9 - u10 - u11 h11 u12 h12 u13 h13;obtain ⟨s1,s2,s3,s4,rfl,PR⟩:=h11;obtain rfl:u12=.int .i64 R.2:=h12;obtain ⟨bp,rfl,hbp,PB⟩:=h13;simp only [Act.put,List.setIfInBounds_toArray,List.set_cons_zero,List.set_cons_succ];obtain ⟨pr,pe⟩:=R;dsimp only at PR ⊢;replace PR:=kI PR;have x0:=PB.cell;have x1':=PB.free;have x2':=PB.lt;by_cases hpe:pe=0
         rotate_left
         ·have E:=kI (xP.o pe hpe (by rw [CO.o,FT.o,← HR.o,if_pos hpe]));have q7:(pe != 0)=true:=bne_iff_ne.2 hpe;clear hpe;go_wp2_with fail;clear x0 x1' x2';obtain ⟨w9,FX⟩:=gN (((w8.setCell ⟨bp,0,none⟩ (.bool pr.neg)).setCell ⟨bp,1,none⟩ (.slice s1 pr.num.length s2)).setCell ⟨bp,2,none⟩ (.slice s3 pr.den.length s4));have hxp:Ext wj w9:=by rw [FX];exact cw (o:=0) hx hbp
          have hbb:af w9 bp #[.bool pr.neg,.slice s1 pr.num.length s2,.slice s3 pr.den.length s4] 25:=by rw [FX];exact ((PB.set 0 _).set 1 _).set 2 _
          have F4:bH w9 (.agg #[.bool pr.neg,.slice s1 pr.num.length s2,.slice s3 pr.den.length s4]) pr:=by rw [FX];exact (i9.of (o:=0) PB pV).Lp PR.o
          rw [← FX];obtain ⟨XP,BP,PRD⟩:=cC hxp hbb F4;have Ta:=XJ.x hxp;have FP:=FY.x hxp;have BPN:Hid (nb < bp):=kI (Nat.lt_of_lt_of_le FY.o.lt hbp);clear hx hbp PB FX hxp hbb F4 PR;go_ret2
          exact ⟨dN.mk (bm.nil _ _) E.o,Mz.o.trans (XI.o.trans Ta.o)⟩
         subst hpe;go_wp2_with fail;clear x0 x1' x2';obtain ⟨w9,FX⟩:=gN (((w8.setCell ⟨bp,0,none⟩ (.bool pr.neg)).setCell ⟨bp,1,none⟩ (.slice s1 pr.num.length s2)).setCell ⟨bp,2,none⟩ (.slice s3 pr.den.length s4));have hxp:Ext wj w9:=by rw [FX];exact cw (o:=0) hx hbp
         have hbb:af w9 bp #[.bool pr.neg,.slice s1 pr.num.length s2,.slice s3 pr.den.length s4] 25:=by rw [FX];exact ((PB.set 0 _).set 1 _).set 2 _
         have F4:bH w9 (.agg #[.bool pr.neg,.slice s1 pr.num.length s2,.slice s3 pr.den.length s4]) pr:=by rw [FX];exact (i9.of (o:=0) PB pV).Lp PR.o
         rw [← FX];obtain ⟨XP,BP,PRD⟩:=cC hxp hbb F4;have Ta:=XJ.x hxp;have FP:=FY.x hxp;have BPN:Hid (nb < bp):=kI (Nat.lt_of_lt_of_le FY.o.lt hbp);clear hx hbp PB FX hxp hbb F4 PR;obtain ⟨R2,hR2⟩:=gN (bL (ny.getD tn zR) pr);have hml:bj R2.1:=by rw [hR2];exact dX _ _
         have hst:=FT.o;rw [← HR.o] at hst;rw [if_neg (fun h=>h rfl),← hR2] at hst;obtain ⟨Tb,HR2,HM2⟩:=cC hst hR2 hml;have YLM:=kI (YM.o tn (by rw [YL.o];exact htn));clear hst hR2 hml;obtain ⟨c1,c2,c3,c4,k0,k1,k2,k3⟩:=FP.o.at htn;obtain ⟨yy,eQ⟩:=gN (ny.getD tn zR);(try dsimp only at k0 k1 k2 k3);rw [← eQ] at k0 k1 k2 k3;have YS2:Hid (nb < w9.heap.size∧w9.cell? ⟨nb,tn*3,none⟩=some (.bool yy.neg)∧w9.cell? ⟨nb,tn*3+1,none⟩=some (.slice c1 yy.num.length c2)∧w9.cell? ⟨nb,tn*3+2,none⟩=some (.slice c3 yy.den.length c4)∧bH w9 (.agg #[.bool yy.neg,.slice c1 yy.num.length c2,.slice c3 yy.den.length c4]) yy):=kI ⟨FP.o.lt,k0,k1,k2,k3⟩;have NX:=kI eQ;clear k0 k1 k2 k3 eQ;replace X:=kI (Ext.refl w9);refine bM 19 18 (MQ nb m.states.length tn ob oo os.length e3 i yy pr R2 w.heap.size) rfl ak ak ak (fun _ _ _ _ h x=>FW h x) (fun _ _ d _ _ h=>by cases d <;> exact h) ?_ ?_ ?_
         ·refine ⟨?_,?_,?_,?_,?_,?_,?_,?_,?_,?_,?_,?_,?_,?_,?_,?_,?_,?_,?_,trivial⟩
          ·exact zAs
          ·exact WZ
          ·exact WY
          ·intro a W hW hB hD K hK;obtain ⟨ak7,ak8,aa8⟩:=aQ (hD 1 _ 156 rfl rfl ak);obtain rfl:=aa8;obtain ⟨v157,ak9,aa9⟩:=aQ (hD 2 _ 157 rfl rfl ak);obtain rfl:=aa9;exact fu
          ·intro a W hW hB hD K hK;obtain ⟨al0,al1,ab0⟩:=aQ (hD 3 _ 158 rfl rfl ak);obtain rfl:=ab0;exact fu
          ·intro a W hW hB hD K hK;obtain ⟨v159,al2,ab1⟩:=aQ (hD 4 _ 159 rfl rfl ak);obtain rfl:=ab1;exact kTg
          ·exact zAs
          ·exact WZ
          ·exact WY
          ·intro a W hW hB hD K hK;obtain ⟨v162,e162,ab2⟩:=aQ (hD 7 _ 162 rfl rfl ak);obtain rfl:=ab2;obtain ⟨al3,al4,ab3⟩:=aQ (hD 8 _ 163 rfl rfl ak);obtain rfl:=ab3;exact fu
          ·intro a W hW hB hD K hK;obtain ⟨v164,al5,ab4⟩:=aQ (hD 9 _ 164 rfl rfl ak);obtain rfl:=ab4;exact fu
          ·intro a W hW hB hD K hK;obtain ⟨al6,e165,ab5⟩:=aQ (hD 10 _ 165 rfl rfl ak);obtain rfl:=ab5;exact kTg
          ·intro a W hW hB hD K hK;obtain ⟨al7,e161,ab6⟩:=aQ (hD 6 _ 161 rfl rfl ak);obtain rfl:=ab6;obtain ⟨al8,e166,ab7⟩:=aQ (hD 11 _ 166 rfl rfl ak);obtain rfl:=ab7;exact fu
          ·intro a W hW hB hD K hK;obtain ⟨v167,e167,ab8⟩:=aQ (hD 12 _ 167 rfl rfl ak);obtain rfl:=ab8;have m0:=(hW.cell (p:=⟨nb,tn*3,none⟩) YS2.o.1).trans YS2.o.2.1;have m1:=(hW.cell (p:=⟨nb,tn*3+1,none⟩) YS2.o.1).trans YS2.o.2.2.1;have m2:=(hW.cell (p:=⟨nb,tn*3+2,none⟩) YS2.o.1).trans YS2.o.2.2.2.1;have ml:=Nat.lt_of_lt_of_le YS2.o.1 hW.size;go_simp;exact hK _ _ (Ext.refl _) ⟨_,_,_,_,rfl,YS2.o.2.2.2.2.ext hW⟩
          ·intro a W hW hB hD K hK;have b17:=hB 17 rfl;simp only [sB] at b17;have q9:=(BP.o.ext hW).cell;have l9:=(BP.o.ext hW).lt;go_simp;exact hK _ _ (Ext.refl _) ⟨_,_,_,_,rfl,PRD.o.ext hW⟩
          ·intro a W hW hB hD K hK;obtain ⟨v168,e168,ab9⟩:=aQ (hD 13 _ 168 rfl rfl ak);obtain ⟨x91,Ji,x93,Jj,rfl,x9h⟩:=ab9;obtain ⟨al9,e169,ac0⟩:=aQ (hD 14 _ 169 rfl rfl ak);obtain ⟨y91,y92,y93,y94,rfl,y9h⟩:=ac0;go_simp;have had:=eu _ _ yy pr W x9h y9h (by rw [NX.o];exact YLM.o) Lv.o;have hr9:R2=bL yy pr:=by rw [NX.o];exact HR2.o
           rw [← hr9] at had;clear hr9;refine had.mono ?_;rintro e w9' ⟨⟨v,rfl,nn⟩,hx⟩;obtain ⟨t1,t2,t3,t4,rfl⟩:=nn.shape;obtain ⟨hs1,hs2⟩:=nn.sf (B:=w.heap.size) (Nat.le_trans Mz.o.size (Nat.le_trans XI.o.size (Nat.le_trans Ta.o.size hW.size)));exact hK _ _ hx ⟨_,_,_,_,rfl,hs1,hs2⟩
          ·intro a W hW hB hD K hK;obtain ⟨am0,e170,ac2⟩:=aQ (hD 15 _ 170 rfl rfl ak);obtain ⟨x91,Ji,x93,Jj,rfl,xq,xr⟩:=ac2;go_simp;exact hK _ _ (Ext.refl _) ⟨_,_,_,_,rfl,xq,xr⟩
          ·intro a W hW hB hD K hK;obtain ⟨v154,e154,Cy⟩:=aQ (hD 16 _ 154 rfl rfl ak);obtain ⟨x91,Ji,x93,Jj,rfl,xq,xr⟩:=Cy;go_simp;exact hK _ _ (Ext.refl _) ⟨_,_,_,_,rfl,xq,xr⟩
          ·intro a W hW hB hD K hK;obtain ⟨v154,e154,Cy⟩:=aQ (hD 16 _ 154 rfl rfl ak);obtain ⟨x91,Ji,x93,Jj,rfl,xq,xr⟩:=Cy;exact fu
         ·intro a W hW hB hD;have Cy:=hD 16 _ 154 rfl rfl ak;obtain ⟨v154,e154⟩:∃ x,a.tmps.getD 154 undef=x:=⟨_,rfl⟩;rw [e154] at Cy;obtain ⟨x91,Ji,x93,Jj,rfl,xq,xr⟩:=Cy;exact ⟨.int .i64 R2.2,fun w9=>cQ e154 rfl rfl w9,rfl⟩
         intro w10 hx;simp only [dR,List.take_succ_cons,List.take_zero,List.drop_succ_cons,List.drop_zero];rintro u0 h0 u1 - u2 - u3 - u4 - u5 h5 u6 - u7 - u8 - u9 - u10 - u11 - u12 - u13 - u14 - u15 - u16 - u17 h17 u18 h18;obtain rfl:u0=.slice (some ⟨nb,0,none⟩) m.states.length m.states.length:=h0;obtain rfl:u5=.int .i64 (tn:Int):=h5;obtain ⟨r1,r2,r3,r4,rfl,S1,S2⟩:=h17;obtain rfl:u18=.int .i64 R2.2:=h18;simp only [Act.put,List.setIfInBounds_toArray,List.set_cons_zero,List.set_cons_succ];obtain ⟨rr,re⟩:=R2;dsimp only at S1 S2 ⊢;replace S1:=kI S1;replace S2:=kI S2;have XQ:=kI hx;have FQ:=FP.x hx;clear hx;obtain ⟨g1,g2,g3,g4,z0,z1,z2,-⟩:=FQ.o.at (j:=tn) htn;have f0:=FQ.o.free;have fl:=FQ.o.lt;by_cases hpe:re=0
         rotate_left
         ·have E:=kI (xP.o re hpe (by rw [CO.o,Tb.o,if_pos hpe]));have q7:(re != 0)=true:=bne_iff_ne.2 hpe;clear hpe;go_wp2_with fail;clear z0 z1 z2 f0 fl;obtain ⟨uM,uW⟩:=gN (((w10.setCell ⟨nb,tn*3,none⟩ (.bool rr.neg)).setCell ⟨nb,tn*3+1,none⟩ (.slice r1 rr.num.length r2)).setCell ⟨nb,tn*3+2,none⟩ (.slice r3 rr.den.length r4));have hfr:gy uM w.heap.size nb m.states.length (fun k=>(ny.set tn rr).getD k zR):=by
           exact qUv
          have eF:Ext wi uM:=by rw [uW];exact cw (Ta.o.trans XQ.o) SW.o
          rw [← uW];have FF:=kI hfr;have XF:=kI eF;clear uW hfr eF S1 S2;go_ret2
          exact ⟨dN.mk (bm.nil _ _) E.o,Mz.o.trans (XI.o.trans XF.o)⟩
         subst hpe;have am1:=h65.out;go_wp2_with fail;clear z0 z1 z2 f0 fl;obtain ⟨uM,uW⟩:=gN (((w10.setCell ⟨nb,tn*3,none⟩ (.bool rr.neg)).setCell ⟨nb,tn*3+1,none⟩ (.slice r1 rr.num.length r2)).setCell ⟨nb,tn*3+2,none⟩ (.slice r3 rr.den.length r4));have hfr:gy uM w.heap.size nb m.states.length (fun k=>(ny.set tn rr).getD k zR):=by
          exact qUv
         have eF:Ext wi uM:=by rw [uW];exact cw (Ta.o.trans XQ.o) SW.o
         rw [← uW];have FF:=kI hfr;have XF:=kI eF;clear uW hfr eF S1 S2;have hst:=Tb.o;rw [if_neg (fun h=>h rfl)] at hst;have ac3:=kI hst;have YL2:Hid ((ny.set tn rr).length=m.states.length):=kI (by rw [List.length_set];exact YL.o);have YM2:Hid (bQ (ny.set tn rr)):=kI (fun k hk=>by
          rw [List.length_set] at hk;rw [ik _ _ _ _ (by rw [YL.o];exact WW.o)];by_cases e:k=tn
          ·rw [if_pos e];exact HM2.o
          ·rw [if_neg e];exact YM.o k hk)
         clear hst;go_roundw
         case rel=>exact ⟨i+1,_,HIL.o,by go_num,YL2.o,YM2.o,FF.o,by rw [CO.o,ac3.o],XF.o⟩
         case measure=>first|(simp [intOf];done)|(simp [intOf];omega)
        ·obtain rfl:i=os.length:=Z
         have q6:¬ ((os.length:Int) < (os.length:Int)):=Z
         have hfin:qX x os nx=(ny,0):=by rw [CO.o,List.drop_length];rfl
         have HF:=kI hfin;clear hfin;go_wp2_with fail;go_roundw
         case rel=>exact ⟨u+1,ny,JN.o,by go_num,YL.o,YM.o,FY.o,by rw [CU.o,Jg.o,if_neg HX0.o,← rE.o,HF.o,if_neg (fun h=>h rfl)],XJ.o⟩
         case measure=>first|(simp [intOf];done)|(simp [intOf];omega)
      ·obtain rfl:u=m.states.length:=Z
       have q6:¬ ((m.states.length:Int) < (m.states.length:Int)):=Z
       have hfin:mG m pl l (List.range m.states.length) (List.replicate m.states.length zR)=(nx,0):=by rw [CU.o,List.drop_of_length_le dc];rfl
       have HF:=kI hfin;have NBW:Hid (w.heap.size≤nb):=kI (Nat.le_trans X.o.size (Nat.le_trans XI.o.size SW.o));clear hfin;go_wp2_with fail;go_roundw
       case rel=>exact ⟨k+1,nb,nx,ox.o,by rw [← tf Z3.o],rfl,NL.o,NM.o,FN.o,NBW.o,NEXT.o nx HF.o,XI.o.trans XK.o⟩
       case measure=>first|(simp [intOf];done)|(simp [intOf];omega)
    ·obtain rfl:k=plan.length:=Z
     rw [Nat.sub_self];have hfin:mH m plan.reverse (jh m (sn:Int))=(l,0):=by rw [CH.o,List.drop_of_length_le dc];rfl
     have E:=kI (show aM m plan (sn:Int)=(l,0) by rw [E5.o,hfin];rfl);have hfo:=FL.o.own BW.o (by have:=JJ.o;omega);rw [show (List.range m.states.length).map (fun k=>l.getD k zR)=l by rw [← U8.o];exact zx l zR] at hfo;have OW:=kI hfo;clear hfin hfo;go_wp2_with fail;go_ret2
     exact ⟨dN.mk OW.o E.o,X.o.trans XI.o⟩
end Go.Proofs.YtnnjbaijcaiohaaGreat
