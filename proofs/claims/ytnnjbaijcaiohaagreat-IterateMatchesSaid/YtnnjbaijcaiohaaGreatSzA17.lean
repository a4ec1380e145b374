/- Walks and lemmas. -/
import Derived.Test.YtnnjbaijcaiohaaGreatSzA16
import Derived.Test.YtnnjbaijcaiohaaGreatSzA9
import Derived.Test.YtnnjbaijcaiohaaGreatSzA11
import Derived.Test.YtnnjbaijcaiohaaGreatSzA5
import Derived.Test.YtnnjbaijcaiohaaGreatSzA8
set_option linter.unusedVariables false
set_option linter.unusedSimpArgs false
set_option maxRecDepth 100000
set_option maxHeartbeats 16000000
namespace Go.Proofs.YtnnjbaijcaiohaaGreat
open Go.RowKit
variable {a a0:Act} {listed:Array Bool} {T:Array Bool→World→Prop} {ops:Array Oper} {ps:Array Tmp} {args tmps:Array Value} {assign body:Code} {Q:Exit→Act→World→Prop} {F:Fence} {u:FrameMode} {f:FuncId} {c s:Int} {plan:List (List Int)} {ds:List Deferred} {l l1 l2 la lb lq:List Int} {rest:List Oper} {cs h vs xs:List Value} {An B C H L N b b0 bx c1 c2 cap d1 d2 fuel g i id j jn k m1 m2 n n1 n2 nf nn off xn y:Nat} {X:Nat→Prop} {oi om:Oper} {a1 a2 a3 xa:Option Addr} {P:Program} {R p p0 p1 p10 p11 p12 p13 p2 p3 p4 p5 p6 p7 p8 p9:Prop} {md:Region.Mode} {α:Type} {e t t1 t2 t3:TypeId} {lv v vb vr z:Value} {A W W' W0 w w' w0 w2 w3 w4 wB:World} {S S1 S2:World→Prop}
section
theorem mV (mv vv:Value) (m:MD) (vals:List RR) (s a:Nat) (w:World) (hm:dd w mv m) (hv:aT w vv vals) (hlm:eG m) (hlv:bQ vals) (h:cJ m vals=0) (hs:s < m.states.length) (ha:a < (m.states.getD s []).length) :
  Calls Tryz.prog 127 #[mv,vv,.int .i64 (s:Nat),.int .i64 (a:Nat)] w fun e w'=>bG w w' e (aC m vals (m.act s a))∧Ext w w':=by
 obtain ⟨h1,h2⟩:=bU h;obtain ⟨_,_,h0,h3⟩:=bD h1;obtain ⟨_,h6,h4⟩:=dm (h3 s hs);obtain ⟨_,_,h5,h7,_⟩:=fd (h4 a ha);exact jL mv vv m vals s a w hm hv hlm hlv hs Z ha Z (fun i hi=>by
  obtain ⟨g1,g2,_⟩:=j0 (h7 i hi);unfold MD.act;exact ⟨g1,by rw [h2];exact g2⟩) h5
def Mw (A:Nat) (mv lv pv:Value) (k:Nat) (a:Nat) (pb po:Nat) (r:RR) (e:Int) (wB:World) (j:Nat) (v:Value) (W:World):Prop:=
 match j with
 | 0=>v=mv
 | 1=>v=lv
 | 2=>v=.int .i64 (k:Nat)
 | 3=>v=pv
 | 4=>v=.int .i64 (k:Nat)
 | 5=>v=.pointer (some ⟨pb,po+k,none⟩)
 | 6=>v=.int .i64 (a:Nat)
 | 7=>∃ s1 s2 s3 s4,v=.tuple #[.agg #[.bool r.neg,.slice s1 r.num.length s2,.slice s3 r.den.length s4],.int .i64 e]∧aO wB W (.agg #[.bool r.neg,.slice s1 r.num.length s2,.slice s3 r.den.length s4]) r
 | 8=>∃ s1 s2 s3 s4,v=.tuple #[.agg #[.bool r.neg,.slice s1 r.num.length s2,.slice s3 r.den.length s4],.int .i64 e]∧aO wB W (.agg #[.bool r.neg,.slice s1 r.num.length s2,.slice s3 r.den.length s4]) r
 | 9=>∃ s1 s2 s3 s4,v=.agg #[.bool r.neg,.slice s1 r.num.length s2,.slice s3 r.den.length s4]∧aO wB W (.agg #[.bool r.neg,.slice s1 r.num.length s2,.slice s3 r.den.length s4]) r
 | 10=>v=.int .i64 e
 | 11=>∃ b,v=.pointer (some ⟨b,0,none⟩)∧wB.heap.size≤b∧af W b #[.bool false,.slice none 0 0,.slice none 0 0] 25
 | _=>True
theorem Fu {A:Nat} {mv pv:Value} {a:Nat} {pb po:Nat} {r:RR} {e:Int} (h:Mw A mv lv pv k a pb po r e wB j v W) (x:Ext W W'):Mw A mv lv pv k a pb po r e wB j v W':=by
 match j,h with
 | 0,h=>exact h
 | 1,h=>exact h
 | 2,h=>exact h
 | 3,h=>exact h
 | 4,h=>exact h
 | 5,h=>exact h
 | 6,h=>exact h
 | 7,⟨s1,s2,s3,s4,h1,h2⟩=>exact ⟨s1,s2,s3,s4,h1,h2.ext x⟩
 | 8,⟨s1,s2,s3,s4,h1,h2⟩=>exact ⟨s1,s2,s3,s4,h1,h2.ext x⟩
 | 9,⟨s1,s2,s3,s4,h1,h2⟩=>exact ⟨s1,s2,s3,s4,h1,h2.ext x⟩
 | 10,h=>exact h
 | 11,⟨b,h0,h1,h2⟩=>exact ⟨b,h0,h1,h2.ext x⟩
 | _+12,_=>trivial
theorem qM (mv pv vv:Value) (m:MD) (p:List Int) (vals:List RR) (w:World) (hm:dd w mv m) (hp:aY .i64 w pv p) (hv:aT w vv vals) (hlm:eG m) (hlv:bQ vals) :
  Calls Tryz.prog 65 #[mv,pv,vv] w fun e w'=>dN w w' e (aU m p vals)∧Ext w w':=by
 have hck:=fun W mv vv (h:dd W mv m) (k:aT W vv vals)=>kE mv vv m vals W h k hlm;have hsc:=fun W mv vv s a (h:dd W mv m) (k:aT W vv vals)=>mV mv vv m vals s a W h k hlm hlv;have QY:=AH (m:=m) (p:=p) (v:=vals);have QZ:=AL (m:=m) (p:=p) (v:=vals);have Q0:=fun k=>AM (m:=m) (p:=p) (v:=vals) (k:=k);have Q5:=AQ (m:=m) (p:=p) (v:=vals);have kA:=mo m p vals;have hut:=fun k=>wC (m:=m) (p:=p) (v:=vals) (k:=k);have HM:=kI hm;obtain ⟨m1,n1,m2,n2,m3,n3,rfl,hmd,hst⟩:=hm;have hsl:m.states.length≤9223372036854775807:=by obtain ⟨_,_,_,h⟩:=hst.shape;exact h
 obtain ⟨ap,cp,rfl,hpc,hpm,_⟩:=hp.get;have hpl:p.length≤9223372036854775807:=by omega
 obtain ⟨av,cv,rfl,rA,hvm,fv,hvf⟩:=hv.get;have hvl:vals.length≤9223372036854775807:=by omega
 obtain ⟨HP,HV,HST,gY,nL,Pz,Py,Q6,Q7,JN,YC⟩:=C5 hp hv hst hck hsc QY QZ Q0 Q5 kA hut;clear hp hv hmd hst hck hsc hpc hpm rA hvm fv hvf QY QZ Q0 Q5 kA hut hlm hlv;have bb0:=(af.new w #[.bool m.ag.neg,.slice m1 m.ag.num.length n1,.slice m2 m.ag.den.length n2,.slice m3 m.states.length n3] 28);have x0:Ext w (w.alloc (.cells #[.bool m.ag.neg,.slice m1 m.ag.num.length n1,.slice m2 m.ag.den.length n2,.slice m3 m.states.length n3] 28)):=((Ext.refl w).alloc _);have A0:=kI bb0;have X:=kI x0;clear x0 bb0;replace HM:=kI (HM.o.ext X.o);replace HP:=kI (HP.o.ext X.o);replace HV:=kI (HV.o.ext X.o);replace HST:=kI (HST.o.ext X.o);go_enter Tryz.func65,Tryz.ntmps65
 obtain ⟨aK,fA0,aJ⟩:=A0.o.q3;go_wp2_with fail;refine (gY.o _ _ _ HM.o HV.o).mono ?_;rintro e w1 ⟨rfl,hx⟩;clear aK fA0 aJ;replace HM:=HM.x hx;replace HP:=HP.x hx;replace HV:=HV.x hx;replace HST:=HST.x hx;replace A0:=A0.x hx;replace X:=X.x hx;clear hx gY;by_cases h1:cJ m vals=0
 rotate_left
 ·have E:=kI (Pz.o h1);obtain ⟨c,hc⟩:=gN (cJ m vals);rw [← hc] at E h1 ⊢;have q1:(c != 0)=true:=by simpa using h1
  clear h1 hc;go_wp2_with fail;go_ret2
  exact ⟨dN.mk (bm.nil _ _) E.o,X.o⟩
 rw [h1];by_cases h2:p.length=m.states.length
 rotate_left
 ·have E:=kI (Py.o h1 h2);have q2:((p.length:Int) != (m.states.length:Int))=true:=bne_iff_ne.2 Z;clear h1 h2;obtain ⟨aK,fA0,aJ⟩:=A0.o.q3;go_wp2_with fail;go_ret2
  exact ⟨dN.mk (bm.nil _ _) E.o,X.o⟩
 have q2:((p.length:Int) != (m.states.length:Int))=false:=by rw [h2];simp
 have H2:=kI h2;have H1:=kI h1;have Df:Hid (p.length≤200):=kI kZz;have HE:=kI (fun k=>Q6.o k h1 h2);have HI:=kI (Q7.o h1 h2);clear h1 h2 Pz Py Q6 Q7;obtain ⟨aK,fA0,aJ⟩:=A0.o.q3;go_wp2_with fail;clear aK fA0 aJ;clear q2;obtain ⟨wl,hwl⟩:=gN (w1);rw [← hwl] at HM HP HV HST A0 X ⊢;clear hwl;have WL:=kI X.o.size;obtain ⟨An,hAn⟩:=gN (w.heap.size);rw [← hAn] at A0 ⊢;clear hAn;go_loopw [9,10] (fun v i wr=>∃ k:Nat,k≤p.length∧i=.int .i64 k∧(∀ j,j < k→xY m p vals j=0)∧bm wl.heap.size wr v ((sk m p vals).take k)∧Ext wl wr) (fun _ i _=>p.length - (intOf i).toNat)
 case atStart=>exact ⟨0,Nat.zero_le _,rfl,(fun j hj=>by omega),bm.nil _ _,Ext.refl _⟩
 case round=>
  obtain ⟨wk,hwk⟩:=gN (wr);subst hwk;obtain ⟨k,hk,rfl,hok,hown,hx⟩:=hrel;obtain ⟨XK,OW,OK⟩:=cC hx hown hok;replace HM:=HM.x hx;replace HP:=HP.x hx;replace HV:=HV.x hx;replace HST:=HST.x hx;replace A0:=A0.x hx;replace X:=X.x hx;have XS:=kI X.o.size;have XL:=kI XK.o.size;have Nz:=kI (fun q (hq:wk.heap.size≤q)=>bm.tS OW.o hq);clear hx hown hok;by_cases hlt:k < p.length
  ·have hks:k < m.states.length:=by have:=H2.o;omega
   obtain ⟨bp,op,rfl,s1,s2⟩:=iE HP.o hlt;obtain ⟨sb,so,ai,ci,rfl,t0,t1,t2⟩:=HST.o.at hks;have hact:m.act k (p.getD k 0).toNat=(m.states.getD k []).getD (p.getD k 0).toNat dA:=rfl;have hpe:fD m p k=if p.getD k 0 < 0∨((m.states.getD k []).length:Int)≤p.getD k 0 then 8 else 0:=rfl;have hun:xY m p vals k=if fD m p k≠0 then fD m p k else (aC m vals (m.act k (p.getD k 0).toNat)).2:=rfl;have hut:=YC.o k hlt;obtain ⟨ac,hac⟩:=gN (m.states.getD k []);have iY:=kI hac;obtain ⟨pk,hpk⟩:=gN (p.getD k 0);rw [← hac] at t1 t2 hact hpe;rw [← hpk] at s2 hact hpe hun hut;have hal:ac.length≤9223372036854775807:=by obtain ⟨_,_,_,h⟩:=t2.shape;exact h
   have RA:=kI t2;have q1:(0:Int)≤(k:Int):=by omega
   have q2:(k:Int) < (p.length:Int):=by omega
   have q3:(k:Int) < (m.states.length:Int):=by omega
   clear t2 hac hpk;by_cases d1:pk < 0
   ·have E:=kI (HE.o k hlt OK.o (c:=8) jTo ah);clear hun hpe hact hut;obtain ⟨aK,fA0,aJ⟩:=A0.o.q3;go_wp2_with fail;(refine aF ak ak ?_;(repeat (go_big_quiet_step ((fail))));refine wpQuiet_nil ?_;rintro w1 ⟨⟨_,hx1⟩,rfl⟩;(try dsimp only))
    replace X:=X.x hx1;go_wp2_with fail;go_ret2
    exact ⟨dN.mk (bm.nil _ _) E.o,X.o⟩
   by_cases d2:(ac.length:Int)≤pk
   ·have E:=kI (HE.o k hlt OK.o (c:=8) jWe ah);clear hun hpe hact hut;obtain ⟨aK,fA0,aJ⟩:=A0.o.q3;go_wp2_with fail;have d3:decide (pk < 0)=false:=decide_eq_false Z;have d4:decide ((ac.length:Int)≤pk)=true:=decide_eq_true d2;(refine aF ak ak ?_;(repeat (go_big_quiet_step ((fail))));refine wpQuiet_nil ?_;rintro w1 ⟨⟨_,hx1⟩,rfl⟩;(try dsimp only))
    replace X:=X.x hx1;go_wp2_with fail;go_ret2
    exact ⟨dN.mk (bm.nil _ _) E.o,X.o⟩
   rw [show fD m p k=0 from hpe.trans (if_neg Z)] at hun;replace hun:=hun.trans (if_neg (fun h=>h rfl));obtain ⟨ia,ha⟩:∃ n:Nat,pk=n:=⟨pk.toNat,by omega⟩;subst ha;rw [Int.toNat_natCast] at hun hact hut;have hal2:ia < ac.length:=by omega
   have hsc:=fun W mv vv (h:dd W mv m) (g:aT W vv vals)=>nL.o W mv vv k ia h g H1.o hks (by rw [← iY.o];exact hal2);obtain ⟨x,hxx⟩:=gN (m.act k ia);rw [← hxx] at hun hact hut hsc;obtain ⟨R,hR⟩:=gN (aC m vals x);rw [← hR] at hun hut hsc;obtain ⟨r,e⟩:=R;unfold bG at hsc;dsimp only at hun hut hsc;obtain ⟨yv,zP,KD⟩:=cC hsc hun hut;have q4:(0:Int)≤(ia:Int):=by omega
   have q5:(ia:Int) < (ac.length:Int):=by omega
   clear hpe hun hact hut hsc hxx hR hal2 iY nL;obtain ⟨aK,fA0,aJ⟩:=A0.o.q3;go_wp2_with fail;have d3:decide ((ia:Int) < 0)=false:=decide_eq_false Z;have d4:decide ((ac.length:Int)≤(ia:Int))=false:=decide_eq_false Z;(refine aF ak ak ?_;(repeat (go_big_quiet_step (fail)));refine wpQuiet_nil ?_;rintro w2 ⟨⟨_,hx1⟩,rfl⟩;(try dsimp only))
   go_wp2_with fail;have s3:=Nat.lt_of_lt_of_le s1 hx1.size;have s4:=(hx1.cell (p:=⟨bp,op+k,none⟩) s1).trans s2;replace OW:=OW.x hx1;replace XK:=XK.x hx1;replace XS:=kI (Nat.le_trans XS.o hx1.size);replace XL:=kI (Nat.le_trans XL.o hx1.size);replace Nz:=kI (fun q (hq:w2.heap.size≤q)=>bm.tS OW.o hq);replace HM:=HM.x hx1;replace HP:=HP.x hx1;replace HV:=HV.x hx1;replace HST:=HST.x hx1;replace A0:=A0.x hx1;replace X:=X.x hx1;clear hx1 s1 s2 t0 t1 d3 d4;clear aK fA0 aJ;refine bM 12 10 (Mw An (.agg #[.bool m.ag.neg,.slice m1 m.ag.num.length n1,.slice m2 m.ag.den.length n2,.slice (some ⟨sb,so,none⟩) m.states.length n3]) (.slice av vals.length cv) (.slice (some ⟨bp,op,none⟩) p.length cp) k ia bp op r e w2) rfl ak ak ak (fun _ _ _ _ h x=>Fu h x) (fun _ _ d _ _ h=>by cases d <;> exact h) ?_ ?_ ?_
   ·refine ⟨?_,?_,?_,?_,?_,?_,?_,?_,?_,?_,?_,?_,trivial⟩
    ·intro a W hW hB hD K hK;have b3:=hB 3 rfl;simp only [sB] at b3;have q9:=(A0.o.ext hW).cell;have l9:=(A0.o.ext hW).lt;go_simp;exact hK _ _ (Ext.refl _) rfl
    ·intro a W hW hB hD K hK;have b2:=hB 2 rfl;simp only [sB] at b2;go_simp;exact hK _ _ (Ext.refl _) rfl
    ·intro a W hW hB hD K hK;have b10:=hB 10 rfl;simp only [sB] at b10;go_simp;exact hK _ _ (Ext.refl _) rfl
    ·intro a W hW hB hD K hK;have b1:=hB 1 rfl;simp only [sB] at b1;go_simp;exact hK _ _ (Ext.refl _) rfl
    ·intro a W hW hB hD K hK;have b10:=hB 10 rfl;simp only [sB] at b10;go_simp;exact hK _ _ (Ext.refl _) rfl
    ·intro a W hW hB hD K hK;obtain ⟨v53,e53,Ra⟩:=aQ (hD 3 _ 53 rfl rfl ak);obtain rfl:=Ra;obtain ⟨v54,e54,LF⟩:=aQ (hD 4 _ 54 rfl rfl ak);obtain rfl:=LF;go_simp;exact hK _ _ (Ext.refl _) rfl
    ·intro a W hW hB hD K hK;obtain ⟨v55,e55,YD⟩:=aQ (hD 5 _ 55 rfl rfl ak);obtain rfl:=YD;have q9:=(hW.cell (p:=⟨bp,op+k,none⟩) s3).trans s4;have l9:=Nat.lt_of_lt_of_le s3 hW.size;go_simp;exact hK _ _ (Ext.refl _) rfl
    ·intro a W hW hB hD K hK;obtain ⟨v50,e50,h50⟩:=aQ (hD 0 _ 50 rfl rfl ak);obtain rfl:=h50;obtain ⟨v51,e51,Q8⟩:=aQ (hD 1 _ 51 rfl rfl ak);obtain rfl:=Q8;obtain ⟨v52,e52,Q9⟩:=aQ (hD 2 _ 52 rfl rfl ak);obtain rfl:=Q9;obtain ⟨v56,e56,YE⟩:=aQ (hD 6 _ 56 rfl rfl ak);obtain rfl:=YE;go_simp;refine (yv.o _ _ _ (HM.o.ext hW) (HV.o.ext hW)).mono ?_;rintro e9 w9 ⟨⟨v,rfl,nn⟩,hx⟩;obtain ⟨s1,s2,s3,s4,rfl⟩:=nn.shape;exact hK _ _ hx ⟨_,_,_,_,rfl,nn.from hW⟩
    ·intro a W hW hB hD K hK;obtain ⟨v57,e57,h57⟩:=aQ (hD 7 _ 57 rfl rfl ak);obtain ⟨s1,s2,s3,s4,rfl,hn⟩:=h57;go_simp;exact hK _ _ (Ext.refl _) ⟨_,_,_,_,rfl,hn⟩
    ·intro a W hW hB hD K hK;obtain ⟨v49,e49,Gt⟩:=aQ (hD 8 _ 49 rfl rfl ak);obtain ⟨s1,s2,s3,s4,rfl,hn⟩:=Gt;go_simp;exact hK _ _ (Ext.refl _) ⟨_,_,_,_,rfl,hn⟩
    ·intro a W hW hB hD K hK;obtain ⟨v49,e49,Gt⟩:=aQ (hD 8 _ 49 rfl rfl ak);obtain ⟨s1,s2,s3,s4,rfl,hn⟩:=Gt;go_simp;exact hK _ _ (Ext.refl _) rfl
    ·intro a W hW hB hD K hK;go_simp;exact hK _ _ ((Ext.refl _).alloc _) ⟨_,rfl,hW.size,af.new _ _ _⟩
   ·intro a W hW hB hD;have Gt:=hD 8 _ 49 rfl rfl ak;obtain ⟨v49,e49⟩:∃ x,a.tmps.getD 49 undef=x:=⟨_,rfl⟩;rw [e49] at Gt;obtain ⟨s1,s2,s3,s4,rfl,hn⟩:=Gt;exact ⟨.int .i64 e,fun w9=>cQ e49 rfl rfl w9,rfl⟩
   intro w9 hx;simp only [dR,List.take_succ_cons,List.take_zero,List.drop_succ_cons,List.drop_zero];rintro u0 - u1 - u2 - u3 - u4 - u5 - u6 - u7 - u8 - u12 h12 u13 h13 u14 zW;obtain ⟨x1,x2,x3,x4,rfl,hn⟩:=h12;obtain rfl:u13=.int .i64 e:=h13;obtain ⟨bn,rfl,hbn,hbz⟩:=zW;simp only [Act.put,List.setIfInBounds_toArray,List.set_cons_zero,List.set_cons_succ];obtain ⟨NN,zO,BZ⟩:=cC hn hbn hbz;replace OW:=OW.x hx;replace XK:=XK.x hx;replace HM:=HM.x hx;replace HP:=HP.x hx;replace HV:=HV.x hx;replace HST:=HST.x hx;replace A0:=A0.x hx;replace X:=X.x hx;clear hx hn hbn hbz s3 s4 RA;obtain ⟨Wj,Wk,Wl⟩:=BZ.o.q3;by_cases he:e=0
   rotate_left
   ·have E:=kI (HE.o k hlt OK.o zP.o he);have q6:(e != 0)=true:=by simpa using he
    have XW:Hid (w.heap.size≤bn):=kI (Nat.le_trans XS.o zO.o);clear he;go_wp2_with fail;go_ret2
    exact ⟨dN.mk (bm.nil _ _) E.o,cw (o:=0) X.o XW.o⟩
   subst he;have hp:=i9.of (q:=r.neg) (a1:=x1) (n1:=r.num.length) (c1:=x2) (a2:=x3) (n2:=r.den.length) (c2:=x4) (o:=0) BZ.o pV;have hb1:af (((w9.setCell ⟨bn,0,none⟩ (.bool r.neg)).setCell ⟨bn,1,none⟩ (.slice x1 r.num.length x2)).setCell ⟨bn,2,none⟩ (.slice x3 r.den.length x4)) bn #[.bool r.neg,.slice x1 r.num.length x2,.slice x3 r.den.length x4] 25:=BZ.o.ep _ _ _;have hn1:aO w2 (((w9.setCell ⟨bn,0,none⟩ (.bool r.neg)).setCell ⟨bn,1,none⟩ (.slice x1 r.num.length x2)).setCell ⟨bn,2,none⟩ (.slice x3 r.den.length x4)) (.agg #[.bool r.neg,.slice x1 r.num.length x2,.slice x3 r.den.length x4]) r:=NN.o.ib BZ.o ah _ _ _;have hxk:Ext wl (((w9.setCell ⟨bn,0,none⟩ (.bool r.neg)).setCell ⟨bn,1,none⟩ (.slice x1 r.num.length x2)).setCell ⟨bn,2,none⟩ (.slice x3 r.den.length x4)):=cw (o:=0) XK.o (Nat.le_trans XL.o zO.o);have how:=uQ (o:=0) (x:=.bool r.neg) (y:=.slice x1 r.num.length x2) (z:=.slice x3 r.den.length x4) OW.o BZ.o (Nz.o bn zO.o);have oO:∀ j,j < k+1→xY m p vals j=0:=fun j hj=>by
    by_cases e:j=k
    ·rw [e];exact zP.o
    ·exact OK.o j Z
   obtain ⟨oP,B2,N2,Gy,OY⟩:=iR oO hb1 hn1 hxk how;clear hp hb1 hn1 hxk how oO;have hlk:((sk m p vals).take k).length=k:=by rw [List.length_take,JN.o];omega
   have CQ:=kI hlk;have HP2:=kI (show p.length≤200 from Df.o);clear hlk;have HE2:=kI (fW.new N2.o XL.o);go_wp2_with (at_builtin;(refine aN (((w9.setCell ⟨bn,0,none⟩ (.bool r.neg)).setCell ⟨bn,1,none⟩ (.slice x1 r.num.length x2)).setCell ⟨bn,2,none⟩ (.slice x3 r.den.length x4)) rfl _ _ 29 rfl wl.heap.size 25 (.agg #[.bool false,.slice none 0 0,.slice none 0 0]) 3 56 Tryz.underlying29 Tryz.dH rfl ah (fW.keeps ah) _ _ OY.o rfl [.bool r.neg,.slice x1 r.num.length x2,.slice x3 r.den.length x4] rfl iW r HE2.o (by rw [World.size_setCell,World.size_setCell,World.size_setCell];rfl) (by have:=CQ.o;have:=HP2.o;omega) (by have:=CQ.o;have:=HP2.o;omega) Gy.o.size ?_))
   intro g9 Bh w10 hown hkp;have O3:=kI hown;have X3:=kI (Below.trans Gy.o (hkp.below Gy.o.size));clear hown hkp;clear Wj Wk Wl;go_wp2_with fail;go_roundw
   case rel=>exact ⟨k+1,by omega,by go_num,oP.o,by rw [KD.o];exact O3.o,X3.o⟩
   case measure=>simp [intOf];omega
  ·obtain rfl:k=p.length:=by omega
   have q1:¬ (p.length:Int) < (p.length:Int):=by omega
   have hE:=HI.o OK.o;have hte:(sk m p vals).take p.length=sk m p vals:=List.take_of_length_le (by rw [JN.o];exact Nat.le_refl _);rw [hte] at OW;have WC:=kI (OW.o.mono WL.o);have E:=kI hE;clear hE hte;go_wp2_with fail;go_ret2
   exact ⟨dN.mk WC.o E.o,X.o⟩
theorem au.SE {size:Nat} {El El':World→List Value→α→Prop} {l:List α} (h:au e size El B w v l) (hB:C≤B) (hE:∀ h y,El w h y→El' w h y):au e size El' C w v l:=by
 obtain ⟨hs,h1,h2,h3,h4⟩:=h;refine ⟨hs,fZ h1 hB,h2,h3,fun i x hi=>?_⟩;obtain ⟨h,e1,e2⟩:=h4 i x hi;exact ⟨h,e1,hE _ _ e2⟩
theorem bm.elt {c:Nat} {l:List RR} (h:bm B w (.slice (some ⟨b,off,none⟩) n c) l) {i:Nat} (hi:i < l.length) {a1 a2:Option Addr} {c1 c2:Nat}
  (k:mg w b (off+i*3) (l.getD i zR) a1 c1 a2 c2):fW B w [.bool (l.getD i zR).neg,.slice a1 (l.getD i zR).num.length c1,.slice a2 (l.getD i zR).den.length c2] (l.getD i zR):=by
 obtain ⟨a,cap,hv,_,_,hr⟩:=au.rh h;have hl:l[i]?=some (l.getD i zR):=by rw [List.getD_eq_getElem?_getD,List.getElem?_eq_getElem hi];rfl
 obtain ⟨b',h',e1,_,_,e3,e4,e5⟩:=hr i _ hl;subst e1;injection hv with hv _ _
 injection hv with hv
 injection hv with hb ho
 subst hb;subst ho;obtain ⟨_,k1,k2,k3,_⟩:=k;have q0:=e4 0 Z;have q1:=e4 1 Z;have q2:=e4 2 Z;rw [Nat.add_zero] at q0;rw [Nat.zero_add] at k1 k2 k3;obtain ⟨x1,y1,x2,y2,rfl,s1,s2⟩:=e5;rw [k2] at q1;rw [k3] at q2;simp only [List.getElem?_cons_succ,List.getElem?_cons_zero,Option.some.injEq] at q1 q2;rw [q1,q2];exact ⟨x1,y1,x2,y2,rfl,s1,s2⟩
theorem bA.elt {c:Nat} {g:List (List RR)} (h:bA B w (.slice (some ⟨b,off,none⟩) n c) g) {i:Nat} (hi:i < g.length) {a1:Option Addr} {c1:Nat}
  (k:w.cell? ⟨b,off+i,none⟩=some (.slice a1 (g.getD i []).length c1)):bm B w (.slice a1 (g.getD i []).length c1) (g.getD i []):=by
 obtain ⟨a,cap,hv,_,_,hr⟩:=au.rh h;have hl:g[i]?=some (g.getD i []):=by rw [List.getD_eq_getElem?_getD,List.getElem?_eq_getElem hi];rfl
 obtain ⟨b',h',e1,_,_,e3,e4,e5⟩:=hr i _ hl;subst e1;injection hv with hv _ _
 injection hv with hv
 injection hv with hb ho
 subst hb;subst ho;have q0:=e4 0 Z;rw [Nat.add_zero,Nat.mul_one] at q0;rw [Nat.zero_add] at k;obtain ⟨x1,y1,rfl,s1⟩:=e5;rw [k] at q0;simp only [List.getElem?_cons_zero,Option.some.injEq] at q0;rw [q0];exact s1
theorem Fv {m:MD} {v:List RR} (h:cJ m v=0) (h1:li m v≠0):az m v=([],[],li m v):=by
 unfold az;rw [if_neg iw,if_pos h1]
theorem Fw {m:MD} {v:List RR} (h:cJ m v=0) (h1:li m v=0):az m v=(kr m v,qT m v,0):=by
 unfold az;rw [if_neg iw,if_neg (fun h=>h h1)]
theorem IV {m:MD} {v:List RR} (h1:cJ m v=0) (h2:li m v=0) {k i:Nat} (hk:k < m.states.length) (hi:i < (m.states.getD k []).length):bj ((bK m v (m.states.getD k [])).getD i zR)∧aE ((bK m v (m.states.getD k [])).getD i zR)=0:=by
 have h5:gS m v (m.states.getD k [])=0:=bS h2 k hk;rw [mq hi];exact ⟨mN _ _ _,mQ (bS h5 _ hi)⟩
theorem uA (va vb:Value) (r s:RR) (w:World) (ha:bH w va r) (hb:bH w vb s) (hr:bj r∧aE r=0) (hs:bj s∧aE s=0) :
  Calls Tryz.prog 100 #[va,vb] w fun e w'=>e=.returned (.int .i64 (et (qv r) (qv s)))∧Ext w w':=by
 have e1:=zr hr.1 hr.2;have e2:=zr hs.1 hs.2;exact kD va vb (qv r) (qv s) w (by rw [e1];exact ha) (by rw [e2];exact hb) (uy (gG hr.1 hr.2)) (uy (gG hs.1 hs.2))
theorem nU (mv vv:Value) (m:MD) (vals:List RR) (w:World) (hm:dd w mv m) (hv:aT w vv vals) (hlm:eG m) (hlv:bQ vals) :
  Calls Tryz.prog 64 #[mv,vv] w fun e w'=>tm w w' e (az m vals)∧Ext w w':=by
 have gY:=kI (fun W mv vv (h:dd W mv m) (k:aT W vv vals)=>kE mv vv m vals W h k hlm);have nL:=kI (fun W mv vv (hE:cJ m vals=0) (h:dd W mv m) (k:aT W vv vals)=>iU mv vv m vals W h k hlm hlv hE);have HM:=kI hm;have HV:=kI hv;obtain ⟨m1,n1,m2,n2,m3,n3,rfl,-,-⟩:=hm;obtain ⟨av,cv,rfl,-,-,-⟩:=hv.get;clear hv hlm hlv;have bb0:=(af.new w #[.bool m.ag.neg,.slice m1 m.ag.num.length n1,.slice m2 m.ag.den.length n2,.slice m3 m.states.length n3] 28);have x0:Ext w (w.alloc (.cells #[.bool m.ag.neg,.slice m1 m.ag.num.length n1,.slice m2 m.ag.den.length n2,.slice m3 m.states.length n3] 28)):=((Ext.refl w).alloc _);have A0:=kI bb0;have X:=kI x0;clear x0 bb0;replace HM:=kI (HM.o.ext X.o);replace HV:=kI (HV.o.ext X.o);go_enter Tryz.func64,Tryz.ntmps64
 obtain ⟨aK,fA0,aJ⟩:=A0.o.q3;go_wp2_with fail;refine (gY.o _ _ _ HM.o HV.o).mono ?_;rintro e w1 ⟨rfl,hx⟩;clear aK fA0 aJ;revert A0 X HM HV;refine lf hx ?_;intro A0 X HM HV;clear hx gY;by_cases h1:cJ m vals=0
 rotate_left
 ·have E:=kI (wP h1);obtain ⟨c,hc⟩:=gN (cJ m vals);rw [← hc] at E h1 ⊢;have q1:(c != 0)=true:=by simpa using h1
  clear h1 hc;exact qRr
 rw [h1];have H1:=kI h1;clear h1;obtain ⟨aK,fA0,aJ⟩:=A0.o.q3;have Kk:=kI X.o.size;go_wp2_with fail;refine (nL.o _ _ _ H1.o HM.o HV.o).mono ?_;rintro e w2 ⟨⟨v,rfl,ow⟩,hx⟩;clear aK fA0 aJ;revert A0 X HM HV;refine lf hx ?_;intro A0 X HM HV;clear nL;have OV:=kI ow;clear ow hx;by_cases h2:li m vals=0
 rotate_left
 ·have E:=kI (Fv H1.o h2);rw [show (jM m vals).2=li m vals by unfold jM;rw [if_pos h2]];obtain ⟨c,hc⟩:=gN (li m vals);rw [← hc] at E h2 ⊢;have q1:(c != 0)=true:=by simpa using h2
  clear h2 hc OV;exact qRr
 have hsc:jM m vals=(m.states.map (bK m vals),0):=by unfold jM;rw [if_neg (fun h=>h h2)]
 rw [hsc];replace OV:=OV.o;rw [hsc] at OV;have H2:=kI h2;obtain ⟨g,hg⟩:=gN (m.states.map (bK m vals));dsimp only at OV ⊢;rw [← hg] at OV;have hgl:g.length=m.states.length:=by rw [hg,List.length_map]
 obtain ⟨va,vc,rfl⟩:=OV.shape;have RG:=kI OV.rd;have Zr:=kI (bA.mono OV Kk.o);rw [hgl];rw [hgl] at RG Zr;have HG:=kI hg;clear h2 hsc hg hgl OV;go_wp2_with fail;have HGL:Hid (g.length=m.states.length):=kI (by rw [HG.o,List.length_map]);obtain ⟨w3,hw3⟩:=gN (w2);rw [← hw3] at HM HV A0 RG Zr X ⊢;clear hw3;have XL:=kI X.o.size;go_loopw [9,10,11] (fun vo ao i wr=>∃ k:Nat,k≤m.states.length∧i=.int .i64 k∧au 25 3 (fW w.heap.size) w3.heap.size wr vo ((kr m vals).take k)∧eO w3.heap.size wr ao ((qT m vals).take k)∧Ext w3 wr) (fun _ _ i _=>m.states.length - (intOf i).toNat)
 case atStart=>exact ⟨0,Nat.zero_le _,rfl,au.nil _ _ _ _ _,eO.nil _ _,Ext.refl _⟩
 case round=>
  obtain ⟨wi,hwi⟩:=gN (wr);subst hwi;obtain ⟨k,hk,rfl,mU,hao,hxi⟩:=hrel;obtain ⟨oa,oc,rfl,-⟩:=au.rh mU;obtain ⟨pa,pc,rfl⟩:=hao.shape;obtain ⟨VO,AO,XI⟩:=cC mU hao hxi;have hlv:((kr m vals).take k).length=k:=by rw [List.length_take,fM];omega
  have hla:((qT m vals).take k).length=k:=by rw [List.length_take,j5];omega
  have yV:=kI hlv;have i5:=kI hla;rw [hlv,hla];clear mU hao hxi hlv hla;by_cases hlt:k < m.states.length
  ·obtain ⟨b,off,ga,gc,e0,g0,g1,g2⟩:=RG.o.at (i:=k) (by rw [HGL.o];exact hlt);subst e0;have hrk:g.getD k []=bK m vals (m.states.getD k []):=by
    rw [HG.o,List.getD_eq_getElem?_getD,List.getElem?_map,List.getD_eq_getElem?_getD,List.getElem?_eq_getElem hlt];rfl
   have go:=Zr.o.elt (i:=k) (by rw [HGL.o];exact hlt) g1;rw [hrk] at g1 g2 go;have hpos:=(dm ((bD (bU H1.o).1).2.2.2 k hlt));obtain ⟨row,hrow⟩:=gN (bK m vals (m.states.getD k []));have hrl:row.length=(m.states.getD k []).length:=by rw [hrow,cS]
   have hnum:∀ i,i < row.length→bj (row.getD i zR)∧aE (row.getD i zR)=0:=fun i hi=>by rw [hrow];exact IV H1.o H2.o hlt (by rw [← hrl];exact hi)
   have Kl:kr m vals=kr m vals∧(kr m vals).take (k+1)=(kr m vals).take k ++ [row.getD (d8 row row.length) zR]∧(qT m vals).take (k+1)=(qT m vals).take k ++ [(d8 row row.length:Int)]:=by
    refine ⟨rfl,?_,?_⟩
    ·rw [wN hlt,hrow];rfl
    ·rw [wO hlt,hrow];rfl
   rw [← hrow] at g1 g2 go;have hr0:0 < row.length:=by rw [hrl];have:=hpos.1;omega
   have hr6:row.length≤6:=by rw [hrl];exact hpos.2.1
   have GS:Hid (b < wi.heap.size∧wi.cell? ⟨b,off+k,none⟩=some (.slice ga row.length gc)):=kI ⟨Nat.lt_of_lt_of_le g0 XI.o.size,(XI.o.cell (p:=⟨b,off+k,none⟩) g0).trans g1⟩;replace g0:=GS.o.1;replace g1:=GS.o.2;have G3:=kI g2;have GO:=kI go;clear go;have GR:=kI (g2.ext XI.o);obtain ⟨SF,HB,HR0,HR6⟩:=dW hnum Kl hr0 hr6;have q1:(k:Int) < (m.states.length:Int):=Z
   have q2:(0:Int)≤(k:Int):=Z
   clear g0 g1 g2 hrk hpos hrl hrow hnum Kl hr0 hr6;go_wp2_with fail;go_loopw [12,13] (fun bo i wq=>∃ j:Nat,1≤j∧j≤row.length∧bo=.int .i64 (d8 row j:Nat)∧i=.int .i64 j∧Ext wi wq) (fun _ i _=>row.length - (intOf i).toNat)
   case atStart=>exact ⟨1,Nat.le_refl _,HR0.o,by (first|rfl|(simp [d8])),rfl,Ext.refl _⟩
   case round=>
    obtain ⟨wj,qZ⟩:=gN (wr);subst qZ;obtain ⟨j,hj1,hj,rfl,rfl,hxj⟩:=hrel;have XJ:=kI hxj;have hb1:d8 row j < row.length:=jF row j row.length hj HR0.o;have hbs:=qK (l:=row) (k:=j);have Mx:=kI hbs;obtain ⟨t,ht⟩:=gN (d8 row j);rw [← ht] at hb1 hbs ⊢;have HT:=kI ht;have g0:=Nat.lt_of_lt_of_le GS.o.1 hxj.size;have g1:=(hxj.cell (p:=⟨b,off+k,none⟩) GS.o.1).trans GS.o.2;clear hxj hbs ht Mx;by_cases hlj:j < row.length
    ·have q9:=HR6.o;have q3:(j:Int) < (row.length:Int):=Z
     have q4:(0:Int)≤(j:Int):=Z
     have q5:(t:Int) < (row.length:Int):=Z
     have q6:(0:Int)≤(t:Int):=Z
     obtain ⟨eb,eo,a1,c1,a2,c2,e0,na⟩:=(GR.o.ext XJ.o).at hlj;subst e0;obtain ⟨eb',eo',a3,c3,a4,c4,e0,nt⟩:=(GR.o.ext XJ.o).at hb1;obtain ⟨rfl,rfl⟩:eb=eb'∧eo=eo':=by injection e0 with e0;injection e0 with e1 e2;exact ⟨e1,e2⟩
     have Ic:=SF.o j hlj;have hnt:=SF.o t hb1;have hra:=na.2.2.2.2;have hrb:=nt.2.2.2.2;obtain ⟨rj,Zs⟩:=gN (row.getD j zR);obtain ⟨rt,hrt⟩:=gN (row.getD t zR);have Mx:=kI (qK (l:=row) (k:=j));rw [← HT.o,← Zs,← hrt] at Mx;rw [← Zs] at na Ic hra;rw [← hrt] at nt hnt hrb;have hord:=fun W (x:Ext wj W)=>uA _ _ rj rt W (hra.ext x) (hrb.ext x) Ic hnt;obtain ⟨c,hc⟩:=gN (et (qv rj) (qv rt));rw [← hc] at hord;have hcl:(c < 0)=(qv rj < qv rt):=by
      rw [hc];unfold et;by_cases h1:qv rj < qv rt
      ·rw [if_pos h1];simp [h1]
      ·rw [if_neg h1];split <;> simp [h1]
     replace Mx:=kI (show d8 row (j+1)=if c < 0 then j else t from Mx.o.trans (by
      by_cases h:c < 0
      ·rw [if_pos h,if_pos (by rw [← hcl];exact h)]
      ·rw [if_neg h,if_neg (by rw [← hcl];exact h)]))
     have oS:=kI hord;obtain ⟨n0,n1,n2,n3,-⟩:=na;obtain ⟨p0,p1,p2,p3,-⟩:=nt;clear hord hc hcl hra hrb Ic hnt Zs hrt e0;go_wp2_with fail;(refine aF ak ak ?_;(repeat (go_big_quiet_step ((go_at_call 100;exact iz (oS.o _ (Later.ext _))))));refine wpQuiet_nil ?_;rintro w1 ⟨⟨_,hx1⟩,rfl⟩;(try dsimp only))
     replace XJ:=XJ.x hx1;clear g0 g1 n0 n1 n2 n3 p0 p1 p2 p3 oS;by_cases hc0:c < 0
     ·have q7:decide (c < 0)=true:=decide_eq_true hc0;have hb2:=Mx.o;rw [if_pos hc0] at hb2;have HB2:=kI hb2;have hc9:c≤-1:=Z
      exact qXr
     ·have q7:decide (c < 0)=false:=decide_eq_false hc0;have hb2:=Mx.o;rw [if_neg hc0] at hb2;have HB2:=kI hb2;have hc9:0≤c:=Z
      exact qXr
    ·obtain rfl:j=row.length:=Z
     have q3:¬ ((row.length:Int) < (row.length:Int)):=Z
     obtain ⟨eb,eo,a3,c3,a4,c4,e0,nt⟩:=G3.o.at hb1;subst e0;have q5:(t:Int) < (row.length:Int):=Z
     have q6:(0:Int)≤(t:Int):=Z
     have C3:=kI (XI.o.trans XJ.o);obtain ⟨rt,hrt⟩:=gN (row.getD t zR);have Zt:=HB.o.2;rw [← HT.o,← hrt] at Zt;rw [← hrt] at nt;have hel:=(show fW w.heap.size w3 [.bool rt.neg,.slice a3 rt.num.length c3,.slice a4 rt.den.length c4] rt by have:=GO.o.elt hb1 (by rw [← hrt];exact nt);rw [← hrt] at this;exact this).ext C3.o;replace nt:=nt.ext C3.o;obtain ⟨n0,n1,n2,n3,-⟩:=nt;have SG:=kI Zt;have HEL:=kI hel;have VJ:=kI (au.ext VO.o XJ.o (fun _ _ e=>e.ext XJ.o));have AJ:=kI (eO.ext' AO.o XJ.o);have Fx:Hid (m.states.length≤200):=kI ((bD (bU H1.o).1).2.2.1);clear Zt hel hrt;go_wp2_with (at_builtin;(refine aN (El:=fW w.heap.size) (l:=(kr m vals).take k) wj rfl _ _ 29 rfl w3.heap.size 25 (.agg #[.bool false,.slice none 0 0,.slice none 0 0]) 3 56 Tryz.underlying29 Tryz.dH rfl ah (fW.keeps ah) _ VJ.o (by rw [yV.o];rfl) [.bool rt.neg,.slice a3 rt.num.length c3,.slice a4 rt.den.length c4] rfl iW rt HEL.o (by rfl) (by have:=yV.o;have:=Fx.o;omega) (by have:=yV.o;have:=Fx.o;omega) C3.o.size ?_))
     intro g5 cap5 w5 hown5 hk5;have V5:=kI hown5;have X5:=kI (Below.trans C3.o (hk5.below C3.o.size));have A5:=kI (eO.keeps AJ.o hk5 ah);clear hown5 hk5 g0 g1 n0 n1 n2 n3;go_wp2_with (at_builtin;(refine aN (El:=YN) (l:=(qT m vals).take k) w5 rfl _ _ 53 rfl w3.heap.size 3 (.int .i64 0) 1 8 Tryz.underlying53 Tryz.oy rfl ah (fun _ _ _ _ e _=>e) _ A5.o (by rw [i5.o];rfl) [.int .i64 (t:Nat)] rfl iW (t:Int) rfl (by rfl) (by have:=i5.o;have:=Fx.o;omega) (by have:=i5.o;have:=Fx.o;omega) X5.o.size ?_))
     intro g6 cap6 w6 hown6 hk6;have A6:=kI hown6;have X6:=kI (Below.trans X5.o (hk6.below X5.o.size));have V6:=kI (au.jH V5.o hk6 ah (fun _ _ e=>fW.keeps ah _ _ _ _ e hk6));have s9:=Fx.o;clear hown6 hk6;go_wp2_with fail;go_roundw
     case rel=>exact ⟨k+1,hlt,by go_num,by rw [SG.o.1];exact V6.o,by rw [SG.o.2];exact A6.o,X6.o⟩
     case measure=>simp [intOf];omega
  ·obtain rfl:k=m.states.length:=Z
   have q3:¬ ((m.states.length:Int) < (m.states.length:Int)):=Z
   have mU:=VO.o;have hao:=AO.o.mono XL.o;rw [List.take_of_length_le (by rw [fM];exact Nat.le_refl _),fM] at mU;rw [List.take_of_length_le (by rw [j5];exact Nat.le_refl _),j5] at hao;have Mv:=kI (show bm w.heap.size _ _ _ from au.SE mU XL.o (fun _ _ e=>e));have AO2:=kI hao;have E:=kI (Fw H1.o H2.o);clear mU hao;go_wp2_with fail;go_ret3
   exact ⟨tm.mk Mv.o AO2.o E.o,X.o.trans XI.o⟩
theorem gV (v:Value) (l:List RR) (w:World) (h:aT w v l) (hs:l.length≤1000000000) (hl:∀ i,i < l.length→(l.getD i zR).num.length≤1000000∧(l.getD i zR).den.length≤1000000) :
  Calls Tryz.prog 12 #[v] w fun e w'=>(∃ v',e=.returned v'∧bm w.heap.size w' v' l)∧Ext w w':=by
 obtain ⟨a,cap,rfl,hc,hm,f,hr⟩:=h.get;have HR:=kI hr;have HL:=kI hl;clear h hr hl;go_enter Tryz.func12,Tryz.ntmps12
 go_wp2_with fail;go_loopw [3,4] (fun v i wr=>∃ k:Nat,k≤l.length∧i=.int .i64 k∧bm w.heap.size wr v (l.take k)∧Ext w wr) (fun _ i _=>l.length - (intOf i).toNat)
 case atStart=>exact ⟨0,Nat.zero_le _,rfl,au.nil _ _ _ _ _,Ext.refl w⟩
 case round=>
  obtain ⟨k,hk,rfl,hown,hext⟩:=hrel;by_cases hlt:k < l.length
  ·obtain ⟨b,off,rfl,hb,x0,x1,x2,hrd⟩:=HR.o k hlt;have y0:=(hext.cell (p:=⟨b,off+k*3,none⟩) hb).trans x0;have y1:=(hext.cell (p:=⟨b,off+k*3+1,none⟩) hb).trans x1;have y2:=(hext.cell (p:=⟨b,off+k*3+2,none⟩) hb).trans x2;have hcp:=vW _ _ wr (hrd.ext hext) (HL.o k hlt);have hts:=bC l k zR hlt;have hlk:=List.length_take_of_le (Nat.le_of_lt hlt);obtain ⟨r,hrr⟩:=gN (l.getD k zR);rw [← hrr] at y0 y1 y2 hcp hts;obtain ⟨HC,HO,HX,HT,CQ⟩:=iR hcp hown hext hts hlk;have hz:=hext.size;have q1:(0:Int)≤(k:Int):=Z
   have q2:(k:Int) < (l.length:Int):=Z
   clear hcp hown hext hts hrd x0 x1 x2 hlk hrr;go_wp2_with fail;refine HC.o.mono ?_;rintro e w1 ⟨⟨v1,rfl,nn⟩,hx⟩;obtain ⟨n1,n2,n3,n4,rfl⟩:=nn.shape;have KF:=HO.x hx;have yq:=HX.x hx;have HE:=kI (fW.new (B:=w.heap.size) nn hz);have hz1:=yq.o.size;clear nn hx y0 y1 y2;go_wp2_with (at_builtin;(refine aN w1 rfl _ _ 29 rfl w.heap.size 25 (.agg #[.bool false,.slice none 0 0,.slice none 0 0]) 3 56 Tryz.underlying29 Tryz.dH rfl ah (fW.keeps ah) _ _ KF.o rfl [.bool r.neg,.slice n1 r.num.length n2,.slice n3 r.den.length n4] rfl iW r HE.o rfl CW CW hz1 ?_))
   intro g cap2 w2 hown2 hk2;have Ww:=kI hown2;have xX:=kI (Below.trans yq.o (hk2.below hz1));clear hown2 hk2;go_wp2
   go_roundw
   case rel=>
    refine ⟨k+1,by omega,by go_num,?_,xX.o⟩;rw [HT.o];exact Ww.o
   case measure=>simp [intOf];omega
  ·exact TM
abbrev Fy (An:Nat):Deferred:={ target:=.fn (.func 70) #[.pointer (some ⟨An+1+1+1,0,none⟩),.pointer (some ⟨An+1,0,none⟩),.pointer (some ⟨An+1+1,0,none⟩)],args:=#[] }
def My (tmps:Array Value) (An:Nat):Prop:=tmps.getD 6 undef=.pointer (some ⟨An+1,0,none⟩)∧tmps.getD 7 undef=.pointer (some ⟨An+1+1,0,none⟩)∧tmps.getD 8 undef=.pointer (some ⟨An+1+1+1,0,none⟩)
theorem no (h:My tmps An) {W:World} {xa ya:Option Addr} {xn xc yn yc:Nat} {c:Int} {t1 t2 t3:TypeId} (b1:af W (An+1) #[.slice xa xn xc] t1) (b2:af W (An+1+1) #[.slice ya yn yc] t2) (b3:af W (An+1+1+1) #[.int .i64 c] t3) :
  (results Tryz.f18 tmps).run Tryz.prog W=.ok (.tuple #[.slice xa xn xc,.slice ya yn yc,.int .i64 c]) W:=by
 obtain ⟨h6,h7,h8⟩:=h;have k1:=b1.cell 0;have k2:=b2.cell 0;have k3:=b3.cell 0;simp only [List.getElem?_toArray,List.getElem?_cons_zero] at k1 k2 k3;have l1:=b1.lt;have l2:=b2.lt;have l3:=b3.lt;simp only [Array.getD_eq_getD_getElem?] at h6 h7 h8;simp only [results,Tryz.results18];simp [h6,h7,h8,go_sem,k1,k2,k3]
theorem uB {d:Nat} (h6:d≠6) (h7:d≠7) (h8:d≠8):results Tryz.f18 (a.put (some d) v).tmps=results Tryz.f18 a.tmps:=by
 have e:∀ i,i≠d→(a.put (some d) v).tmps.getD i undef=a.tmps.getD i undef:=fun i hi=>by
  simp only [Act.put,Array.getD_eq_getD_getElem?,Array.getElem?_setIfInBounds_ne (Ne.symm hi)]
 simp only [Array.getD_eq_getD_getElem?] at e;simp [results,Tryz.results18,e 6 (Ne.symm h6),e 7 (Ne.symm h7),e 8 (Ne.symm h8)]
theorem gL {mm:MD} {vals:List RR} {k:Int} {e0:Int} (hc:c≠0) {tmps:Array Value} (ht:My tmps An) {x1 x2:Value} {t1 t2:TypeId} (b1:af W (An+1) #[x1] t1) (b2:af W (An+1+1) #[x2] t2) (b3:af W (An+1+1+1) #[.int .i64 e0] 37) (hx:Ext w W) (hA:w.heap.size≤An) (he:cg mm vals k=([],[],c)) :
  LeavesInM Fence.wide 8 Tryz.prog Tryz.f18 tmps (fun e w'=>kg w w' e (cg mm vals k)∧Ext w w') [Fy An] (.panicking [dC c]) W:=by
 refine iJ (f:=70) (args:=#[.pointer (some ⟨An+1+1+1,0,none⟩),.pointer (some ⟨An+1,0,none⟩),.pointer (some ⟨An+1+1,0,none⟩)]) dc Gm ?_;refine (qi (An+1+1+1) (An+1) (An+1+1) c e0 hc [] W _ _ _ _ b3 b1 Z b2 Z Z).mono ?_;rintro e u' w'' ⟨rfl,rfl,rfl⟩;obtain ⟨wf,hwf⟩:=gN (((W.setCell ⟨An+1+1+1,0,none⟩ (.int .i64 c)).setCell ⟨An+1,0,none⟩ (.slice none 0 0)).setCell ⟨An+1+1,0,none⟩ (.slice none 0 0));have f1:af wf (An+1) #[.slice none 0 0] t1:=by
  rw [hwf];exact ((b1.setOther (a:=⟨An+1+1+1,0,none⟩) aD _).set 0 _).setOther (a:=⟨An+1+1,0,none⟩) aD _
 have f2:af wf (An+1+1) #[.slice none 0 0] t2:=by
  rw [hwf];exact ((b2.setOther (a:=⟨An+1+1+1,0,none⟩) aD _).setOther (a:=⟨An+1,0,none⟩) aD _).set 0 _
 have f3:af wf (An+1+1+1) #[.int .i64 c] 37:=by
  rw [hwf];exact ((b3.set 0 (.int .i64 c)).setOther (a:=⟨An+1,0,none⟩) aD _).setOther (a:=⟨An+1+1,0,none⟩) aD _
 have rg:Ext w wf:=by
  rw [hwf];exact Below.setCell (Below.setCell (Below.setCell hx aD _) aD _) aD _
 rw [← hwf];clear hwf;have hr:=no ht f1.drew f2.drew f3.drew;simp only [LeavesInM,LeavesIn,settle,dC];exact ⟨_,hr,kg.mk (bA.nil _ _) (bX.nil _ _) he,rg.drew⟩
theorem rP {mm:MD} {vals:List RR} {k:Int} (ht:My tmps An) {xa ya:Option Addr} {xn xc yn yc:Nat} {g:List (List RR)} {p:List (List Int)} (b1:af W (An+1) #[.slice xa xn xc] 36) (b2:af W (An+1+1) #[.slice ya yn yc] 30) (b3:af W (An+1+1+1) #[.int .i64 0] 37) (hx:Ext w W) (hA:w.heap.size≤An)
  (ov:bA w.heap.size W (.slice xa xn xc) g) (op:bX w.heap.size W (.slice ya yn yc) p) (he:cg mm vals k=(g,p,0)) :
  LeavesInM Fence.wide 8 Tryz.prog Tryz.f18 tmps (fun e w'=>kg w w' e (cg mm vals k)∧Ext w w') [Fy An] .returning W:=by
 refine iJ (f:=70) (args:=#[.pointer (some ⟨An+1+1+1,0,none⟩),.pointer (some ⟨An+1,0,none⟩),.pointer (some ⟨An+1+1,0,none⟩)]) dc Gm ?_;refine (qh (An+1+1+1) (An+1) (An+1+1) W b3).mono ?_;rintro e u' w'' ⟨rfl,rfl,rfl⟩;obtain ⟨wf,hwf⟩:=gN (W.setCell ⟨An+1+1+1,0,none⟩ (.int .i64 0));have hk:Keeps 0 37 W wf:=by rw [hwf];exact aB b3 0 _
 have f1:=b1.keeps hk ah;have f2:=b2.keeps hk ah;have f3:af wf (An+1+1+1) #[.int .i64 0] 37:=by rw [hwf];exact b3.set 0 (.int .i64 0)
 have rg:Ext w wf:=by rw [hwf];exact Below.setCell hx aD _
 have SH:=bA.ext' (ov.keeps hk ah ah ah) (Ext.refl wf).drew;have op2:=bX.ext' (op.keeps hk ah ah) (Ext.refl wf).drew;rw [← hwf];clear hwf;have hr:=no ht f1.drew f2.drew f3.drew;simp only [LeavesInM,LeavesIn,settle];exact ⟨_,hr,kg.mk SH op2 he,rg.drew⟩
theorem xG {m:MD} {v:List RR} {k:Int} (h:c=cJ m v) (hc:c≠0):cg m v k=([],[],c):=by unfold cg;rw [← h,if_pos hc]
theorem xH {m:MD} {v:List RR} {k:Int} (h:cJ m v=0) (h2:k < 0∨24 < k):cg m v k=([],[],1):=by unfold cg;rw [if_neg iw,if_pos h2]
theorem xI {m:MD} {v:List RR} {k:Int} (h0:0≤k) (Gs:k≤24) (h:cJ m v=0) (hj:j < k.toNat) (hz:∀ i,i < j→(az m (bu m v i)).2.2=0) (hc:(az m (bu m v j)).2.2=c) (hn:c≠0):cg m v k=([],[],c):=by
 have e:Ib m v k.toNat=c:=(cz (f:=fun j=>(az m (bu m v j)).2.2) hz (by rw [hc];exact hn) hj).trans hc;unfold cg;rw [if_neg iw,if_neg Z,e,if_pos hn]
theorem xJ {m:MD} {v:List RR} {k:Int} (h0:0≤k) (Gs:k≤24) (h:cJ m v=0) (hz:∀ i,i < k.toNat→(az m (bu m v i)).2.2=0) :
  cg m v k=((List.range (k.toNat+1)).map (bu m v),(List.range k.toNat).map (fun j=>(az m (bu m v j)).2.1),0):=by
 have e:Ib m v k.toNat=0:=bg hz;unfold cg;rw [if_neg iw,if_neg Z,if_neg (by simpa using e)]
theorem Fz {p:Nat→Prop} (n:Nat):p n→∃ i,p i∧∀ j,j < i→¬ p j:=by
 induction n using Nat.strongRecOn with
 | _ n ih=>
  intro h;by_cases e:∃ j,j < n∧p j
  ·obtain ⟨j,hj,hp⟩:=e;exact ih j hj hp
  ·exact ⟨n,h,fun j hj hp=>e ⟨j,hj,hp⟩⟩
section
variable {P:Program} {l:List Oper} {n:Nat} {Q:Exit→Act→World→Prop} {J:Nat→Value→World→Prop}
def jN (l:List Oper) (n f c:Nat):Bool:=
 decide (n < l.length) && (decide (f+c≤n) && (Region.noSelect l.toArray && (ks .any l.toArray f c n && (Region.seqB .any l.toArray (l.length - n) n (dK n l.length) && (gH 0 (l.take n) [] &&
  ((List.range l.length).all fun i=>!(decide (f≤i) && decide (i < f+c)) || ((List.range l.length).all fun j=>(decide (j < n) && !(decide (f≤j) && decide (j < f+c))) || (decide (j=i) || match l[i]?,l[j]? with
   | some o,some oj=>o.guard.isNone && (o.apart l.toArray oj || oj.after.any fun e=>Region.binds .any e && e.on == i)
   | _,_=>false))))))))
theorem xK {f c:Nat} (hn:n≤l.length) (hfn:f+c≤n) (Lr:∀ i o,f≤i→i < f+c→l[i]?=some o→o.guard=none) (hsel:Region.noSelect l.toArray=true) (hQ:∀ c (a:Act) d v w,Q (.panic c) (a.put d v) w→Q (.panic c) a w)
  (hB:gH 0 (l.take n) []=true) (hR:∀ d ∈ fills (l.take n),d < a0.tmps.size) (hJ:∀ j v W W',J j v W→Ext W W'→J j v W') (hS:cE P l n Q J a0 w 0 (l.take n))
  (hap:∀ i o,f≤i→i < f+c→l[i]?=some o→∀ j oj,l[j]?=some oj→j≠i→(n≤j∨(f≤j∧j < f+c))→(∀ e ∈ oj.after,Region.binds .any e=true→e.on≠i)→o.apart l.toArray oj=true)
  (hF:∀ i o,f≤i→i < f+c→l[i]?=some o→fT P l n J a0 w i o)
  (zX:∀ listed,HeadInv .any l.toArray n listed→∀ i,i < n→¬ (f≤i∧i < f+c)→listed.getD i true=false→∀ j ∈ Region.ready .any l.toArray listed,j < n)
  (hfin:∀ listed a W,cP l n J a0 w listed a W→(∀ j,j < n→listed.getD j false=true)→wpAny P .any l.toArray Q g listed a W):∀ (k:Nat) (listed:Array Bool) (a:Act) (W:World),(still n listed).length=k→cP l n J a0 w listed a W→wpAny P .any l.toArray Q (k+g) listed a W:=by
 intro k;induction k with
 | zero=>
  exact Wq
 | succ k ih=>
  intro listed a W hf inv;rw [show k+1+g=(k+g)+1 by omega];by_cases hex:∃ i,i < n∧¬ (f≤i∧i < f+c)∧listed.getD i true=false
  ·exact zIz
  ·have hall:∀ i,i < n→¬ (f≤i∧i < f+c)→listed.getD i false=true:=fun i hi hif=>by
    exact qBn
   obtain ⟨i0,hi0⟩:∃ i,i < n∧listed.getD i true=false:=by
    exact Wy
   obtain ⟨i,⟨hi,hiu⟩,SI⟩:=Fz (p:=fun i=>i < n∧listed.getD i true=false) i0 hi0;have hmin:∀ j,j < i→listed.getD j false=true:=fun j hj=>Classical.byContradiction fun hc=>SI j hj ⟨by omega,getD_in TJ (by simpa using hc)⟩;obtain ⟨hf1,hf2⟩:f≤i∧i < f+c:=Classical.byContradiction fun hc=>by
    have:=hall i hi hc;rw [getD_both hiu] at this;cases this
   obtain ⟨o9,hof⟩:∃ o,l[i]?=some o:=⟨_,List.getElem?_eq_getElem (Nat.lt_of_lt_of_le hi hn)⟩;have hwf:∀ e ∈ o9.after,Region.binds .any e=true→e.on < i:=fun e he hb=>(gg (l.take n) 0 [] hB).1 i o9 (by rw [ig hi];exact hof) e.on (pR he hb) |> fun h=>by omega
   have pY:i ∈ Region.ready .any l.toArray listed:=mem_ready.2 ⟨hiu,o9,by simpa using hof,fun e he hb=>hmin e.on (hwf e he hb)⟩;obtain ⟨v,hy,hv⟩:=hF i o9 hf1 hf2 hof a W inv.ext inv.base (fun e oe d he hd hwt=>by
    simp only [Bool.and_eq_true,decide_eq_true_eq] at hwt;obtain ⟨eg,k1,k2,k3⟩:=oU (by simpa using hwt.1);have:=hwf eg k1 k2;exact inv.done e oe d Wm hd (by rw [← k3];exact hmin eg.on Z))
   refine wpAny_first (oi:=o9) (v:=v) (by simpa using hof) (Region.noSelect_spec hsel) (fun c a w'=>hQ c a _ _ w') (k+g) listed a W (fun j oj hj hji Yk hje=>?_) pY (.inl ⟨aX (Lr i o9 hf1 hf2 hof),hy⟩) (ih _ _ _ ?_ (inv.step hB hR hJ hi hof pY (Ext.refl _) hv))
   ·refine hap i o9 hf1 hf2 hof j oj Gl hji (Classical.byContradiction fun hnot=>?_) hje;have hjn:j < n:=Nat.lt_of_not_le fun h=>hnot (.inl h);have:=hall j hjn (fun h=>hnot (.inr h));rw [getD_both Yk] at this;cases this
   ·exact zL8
theorem ja (n f c:Nat) (J:Nat→Value→World→Prop) (hm:P.follows .mixedOrders=true) (hT:jN l n f c=true) (hR0:(fills (l.take n)).all (fun d=>decide (d < a0.tmps.size))=true) (hJ:∀ j v W W',J j v W→Ext W W'→J j v W')
  (hQ:∀ c (a:Act) d v w,Q (.panic c) (a.put d v) w→Q (.panic c) a w)
  (hS:cE P l n Q J a0 w 0 (l.take n)) (hF:∀ i o,f≤i→i < f+c→l[i]?=some o→fT P l n J a0 w i o) (hend:∀ W,Ext w W→dR J W (fun a=>wpList P l.toArray Q (l.drop n) a W) 0 (l.take n) a0):(Code.region id l.toArray true).wp P Q a0 w:=by
 have hR:∀ d ∈ fills (l.take n),d < a0.tmps.size:=fun d hd=>by simpa using List.all_eq_true.1 hR0 d hd
 simp only [jN,Bool.and_eq_true,decide_eq_true_eq] at hT;obtain ⟨hn,hfn,hsel,hh,hq,hB,hap⟩:=hT;have Eh:∀ i o,f≤i→i < f+c→l[i]?=some o→∀ j oj,l[j]?=some oj→j≠i→(n≤j∨(f≤j∧j < f+c))→o.guard=none∧((∀ e ∈ oj.after,Region.binds .any e=true→e.on≠i)→o.apart l.toArray oj=true):=fun i o hi1 hi2 ho j oj hj hji Ic=>by
  have hil:i < l.length:=(List.getElem?_eq_some_iff.1 ho).1;have hjl:j < l.length:=(List.getElem?_eq_some_iff.1 hj).1;have h1:=List.all_eq_true.1 hap i (List.mem_range.2 hil);simp only [Bool.or_eq_true,Bool.not_eq_true',Bool.and_eq_false_iff,decide_eq_false_iff_not] at h1;rcases h1 with h1|h1
  ·omega
  have h1:=List.all_eq_true.1 h1 j (List.mem_range.2 hjl);simp only [ho,hj,Bool.or_eq_true,decide_eq_true_eq,Bool.and_eq_true,Bool.not_eq_true',Bool.and_eq_false_iff,decide_eq_false_iff_not] at h1;rcases h1 with h1|h1|⟨h0,h1⟩
  ·omega
  ·omega
  ·exact jPa
 have Lr:∀ i o,f≤i→i < f+c→l[i]?=some o→o.guard=none:=fun i o h1 h2 h3=>(Eh i o h1 h2 h3 n l[n] (List.getElem?_eq_getElem hn) Z (.inl (Nat.le_refl _))).1;have h:=xK (P:=P) (l:=l) (n:=n) (Q:=Q) (J:=J) (a0:=a0) (w:=w) (g:=l.length - n) Z hfn Lr hsel hQ hB hR hJ hS (fun i o h1 h2 h3 j oj hj hji Ic hje=>(Eh i o h1 h2 h3 j oj hj hji Ic).2 hje) hF
  (fun listed hi i hin hif hun j hj=>Nat.lt_of_not_le fun hge=>jp hh hi (i:=i) (by simp [fE];omega) hin hun j hge hj)
  (fun listed a W inv hall=>by
   have he:=ju (l:=l) Z Pc hall (fun t h1 h2=>inv.head.tail t h1 Bk);subst he;have:=wpAny_of_seq (md:=.any) (Q':=Q) (l.drop n) n (dK n l.length) a W (fun j=>by simp [List.getElem?_drop]) Xm (inv.fin (G:=fun a=>wpList P l.toArray Q (l.drop n) a W) Z hall (hend W inv.ext));rwa [List.length_drop] at this) n _ _ _ (gI Z) (cP.start a0 w)
 exact WT
theorem jb (n f f2:Nat) (J:Nat→Value→World→Prop) {o8 o9:Oper} (ho8:l[f]?=some o8) (ho9:l[f2]?=some o9) (hff:f2=f+1) (hm:P.follows .mixedOrders=true) (hT:jN l n f 2=true) (hR0:(fills (l.take n)).all (fun d=>decide (d < a0.tmps.size))=true) (hJ:∀ j v W W',J j v W→Ext W W'→J j v W')
  (hQ:∀ c (a:Act) d v w,Q (.panic c) (a.put d v) w→Q (.panic c) a w)
  (hS:cE P l n Q J a0 w 0 (l.take n)) (hF8:fT P l n J a0 w f o8) (hF9:fT P l n J a0 w f2 o9) (hend:∀ W,Ext w W→dR J W (fun a=>wpList P l.toArray Q (l.drop n) a W) 0 (l.take n) a0):(Code.region id l.toArray true).wp P Q a0 w:=by
 subst hff;refine ja n f 2 J hm hT hR0 hJ hQ hS (fun i o h1 h2 h3=>?_) hend;rcases (by omega:i=f∨i=f+1) with rfl|rfl
 ·rw [ho8] at h3;injection h3 with h3;subst h3;exact hF8
 ·rw [ho9] at h3;injection h3 with h3;subst h3;exact hF9
end
end
end Go.Proofs.YtnnjbaijcaiohaaGreat
