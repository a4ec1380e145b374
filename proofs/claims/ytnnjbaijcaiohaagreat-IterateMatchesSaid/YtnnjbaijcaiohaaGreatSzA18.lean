/- Walks and lemmas. -/
import Derived.Test.YtnnjbaijcaiohaaGreatSzA17
import Derived.Test.YtnnjbaijcaiohaaGreatSzA14
import Derived.Test.YtnnjbaijcaiohaaGreatSzA16
import Derived.Laws.MakeOwn
import Derived.Test.YtnnjbaijcaiohaaGreatSzA8
import Derived.Test.YtnnjbaijcaiohaaGreatSzA9
import Derived.Test.YtnnjbaijcaiohaaGreatSzA10
import Derived.Test.YtnnjbaijcaiohaaGreatSzA3
import Derived.OwnWalkIn
set_option linter.unusedVariables false
set_option linter.unusedSimpArgs false
set_option maxRecDepth 100000
set_option maxHeartbeats 16000000
namespace Go.Proofs.YtnnjbaijcaiohaaGreat
open Go.RowKit
variable {a a0:Act} {listed:Array Bool} {T:Array Bool→World→Prop} {ops:Array Oper} {ps:Array Tmp} {args tmps:Array Value} {assign body:Code} {Q:Exit→Act→World→Prop} {F:Fence} {u:FrameMode} {f:FuncId} {c s:Int} {plan:List (List Int)} {ds:List Deferred} {l l1 l2 la lb lq:List Int} {rest:List Oper} {cs h vs xs:List Value} {An B C H L N b b0 bx c1 c2 cap d1 d2 fuel g i id j jn k m1 m2 n n1 n2 nf nn off xn y:Nat} {X:Nat→Prop} {oi om:Oper} {a1 a2 a3 xa:Option Addr} {P:Program} {R p p0 p1 p10 p11 p12 p13 p2 p3 p4 p5 p6 p7 p8 p9:Prop} {md:Region.Mode} {α:Type} {e t t1 t2 t3:TypeId} {lv v vb vr z:Value} {A W W' W0 w w' w0 w2 w3 w4 wB:World} {S S1 S2:World→Prop}
def Zu (m:MD) (m1:Option Addr) (n1:Nat) (m2:Option Addr) (n2:Nat) (m3:Option Addr) (n3:Nat) (va:Option Addr) (vn vc jn vb vo:Nat) (la:Option Addr) (ln lc B:Nat) (r:List RR × List Int × Int) (j:Nat) (v:Value) (W:World):Prop:=
 match j with
 | 0=>v=.agg #[.bool m.ag.neg,.slice m1 m.ag.num.length n1,.slice m2 m.ag.den.length n2,.slice m3 m.states.length n3]
 | 1=>v=.slice va vn vc
 | 2=>v=.int .i64 (jn:Nat)
 | 3=>v=.pointer (some ⟨vb,vo+jn,none⟩)
 | 4=>v=.slice la ln lc
 | 5=>∃ x xc pa pc,v=.tuple #[.slice x r.1.length xc,.slice pa r.2.1.length pc,.int .i64 r.2.2]∧bm B W (.slice x r.1.length xc) r.1∧eO B W (.slice pa r.2.1.length pc) r.2.1
 | 6=>∃ x xc pa pc,v=.tuple #[.slice x r.1.length xc,.slice pa r.2.1.length pc,.int .i64 r.2.2]∧bm B W (.slice x r.1.length xc) r.1∧eO B W (.slice pa r.2.1.length pc) r.2.1
 | 7=>∃ x xc,v=.slice x r.1.length xc∧bm B W (.slice x r.1.length xc) r.1
 | 8=>∃ x xc,v=.slice x r.2.1.length xc∧eO B W (.slice x r.2.1.length xc) r.2.1
 | 9=>v=.int .i64 r.2.2
 | _=>True
theorem IW {m:MD} {m1:Option Addr} {m2:Option Addr} {m3:Option Addr} {n3:Nat} {va:Option Addr} {vn vc vb vo:Nat} {la:Option Addr} {ln lc:Nat} {r:List RR × List Int × Int} (h:Zu m m1 n1 m2 n2 m3 n3 va vn vc jn vb vo la ln lc B r j v W) (x':Ext W W'):Zu m m1 n1 m2 n2 m3 n3 va vn vc jn vb vo la ln lc B r j v W':=by
 match j,h with
 | 0,h=>exact h
 | 1,h=>exact h
 | 2,h=>exact h
 | 3,h=>exact h
 | 4,h=>exact h
 | 5,⟨x,xc,pa,pc,h0,h1,h2⟩=>exact ⟨x,xc,pa,pc,h0,bm.ext' h1 x',eO.ext' h2 x'⟩
 | 6,⟨x,xc,pa,pc,h0,h1,h2⟩=>exact ⟨x,xc,pa,pc,h0,bm.ext' h1 x',eO.ext' h2 x'⟩
 | 7,⟨x,xc,h0,h1⟩=>exact ⟨x,xc,h0,bm.ext' h1 x'⟩
 | 8,⟨x,xc,h0,h1⟩=>exact ⟨x,xc,h0,eO.ext' h1 x'⟩
 | 9,h=>exact h
 | _+10,_=>trivial
theorem FA {a:Option Addr} {c:Nat} {l:List RR} (hb:af w b #[.slice a l.length c] 29) (hB:B≤b) (h:bm B w (.slice a l.length c) l):bA B w (.slice (some ⟨b,0,none⟩) 1 1) [l]:=by
 refine ⟨[[.slice a l.length c]],⟨rfl,.inr ⟨b,1,#[.slice a l.length c],rfl,hB,hb,by simp,by decide,rfl,rfl⟩⟩,rfl,?_,?_⟩
 ·intro h hh;rw [List.mem_singleton] at hh;subst hh;rfl
 ·intro i x hi;cases i with
  | zero=>simp at hi;subst hi;exact ⟨_,rfl,a,c,rfl,h⟩
  | succ i=>simp at hi
theorem mW (f:Nat→α) (n:Nat):(List.range n).map f ++ [f n]=(List.range (n+1)).map f:=by rw [List.range_succ,List.map_append];rfl
theorem nV (mv vv:Value) (m:MD) (vals:List RR) (k:Int) (w:World) (hm:dd w mv m) (hv:aT w vv vals) (hlm:eG m) (hlv:bQ vals) (hln:jE vals) (hl0:vals.length≤1000000000) :
  Calls Tryz.prog 14 #[mv,vv,.int .i64 k] w fun e w'=>kg w w' e (cg m vals k)∧Ext w w':=by
 have gY:=kI (fun W mv vv (h:dd W mv m) (k:aT W vv vals)=>gU mv vv m vals W h k hlm);have SJ:=kI (fun W vv (k:aT W vv vals)=>gV vv vals W k hl0 hln);have Sv:=kI (fun W mv vv (vs:List RR) (h:dd W mv m) (k:aT W vv vs) (hl:bQ vs)=>nU mv vv m vs W h k hlm hl);obtain ⟨HM,HV,yV⟩:=cC hm hv hlv;have SM:=HM;obtain ⟨m1,n1,m2,n2,m3,n3,rfl,-,-⟩:=hm;obtain ⟨av,cv,rfl,-,-,-⟩:=hv.get;clear hv hlm hlv hln hl0;have bb0:=(af.new w #[.bool m.ag.neg,.slice m1 m.ag.num.length n1,.slice m2 m.ag.den.length n2,.slice m3 m.states.length n3] 28);have x0:Ext w (w.alloc (.cells #[.bool m.ag.neg,.slice m1 m.ag.num.length n1,.slice m2 m.ag.den.length n2,.slice m3 m.states.length n3] 28)):=((Ext.refl w).alloc _);have A0:=kI bb0;have X:=kI x0;clear x0 bb0;replace HM:=kI (HM.o.ext X.o);replace HV:=kI (HV.o.ext X.o);go_enter Tryz.func14,Tryz.ntmps14
 obtain ⟨aK,fA0,aJ⟩:=A0.o.q3;go_wp2_with fail;refine (gY.o _ _ _ HM.o HV.o).mono ?_;rintro e w1 ⟨rfl,hx⟩;clear aK fA0 aJ;replace HM:=HM.x hx;replace HV:=HV.x hx;replace A0:=A0.x hx;replace X:=X.x hx;clear hx gY;by_cases h1:cJ m vals=0
 rotate_left
 ·obtain ⟨c,hc⟩:=gN (cJ m vals);have E:=kI (xG (k:=k) hc Uh);rw [← hc] at h1 ⊢;have q1:(c != 0)=true:=by simpa using h1
  clear h1 hc;go_wp2_with fail;go_ret3
  exact ⟨kg.mk (bA.nil _ _) (bX.nil _ _) E.o,X.o⟩
 rw [h1];have H1:=kI h1;clear h1;by_cases h2:k < 0∨24 < k
 ·have E:=kI (xH (k:=k) H1.o h2);by_cases h3:k < 0
  ·clear h2;obtain ⟨aK,fA0,aJ⟩:=A0.o.q3;go_wp2_with fail;go_ret3
   exact ⟨kg.mk (bA.nil _ _) (bX.nil _ _) E.o,X.o⟩
  ·have h4:24 < k:=by omega
   clear h2;obtain ⟨aK,fA0,aJ⟩:=A0.o.q3;go_wp2_with fail;go_ret3
   exact ⟨kg.mk (bA.nil _ _) (bX.nil _ _) E.o,X.o⟩
 obtain ⟨kn,rfl⟩:∃ n:Nat,k=(n:Int):=⟨k.toNat,by omega⟩;have Gs:kn≤24:=by omega
 have q0:¬ ((kn:Int) < 0):=by omega
 have q24:¬ (24 < (kn:Int)):=by omega
 clear h2;have IX:=kI Gs;obtain ⟨aK,fA0,aJ⟩:=A0.o.q3;have Kk:=kI X.o.size;go_wp2_with fail;refine (SJ.o _ _ HV.o).mono ?_;rintro e w2 ⟨⟨v,rfl,ow⟩,hx⟩;clear aK fA0 aJ;replace HM:=HM.x hx;replace HV:=HV.x hx;replace A0:=A0.x hx;replace X:=X.x hx;clear SJ q0 q24;obtain ⟨ca,cc,rfl⟩:=ow.shape;have OC:=kI (bm.mono ow Kk.o);clear ow hx Gs;have HE:=kI (nG.of OC.o);have hz1:=Nat.le_trans Kk.o (Nat.le_refl _);clear hz1;obtain ⟨w3,hw3⟩:=gN (w2);rw [← hw3] at HM HV A0 OC HE X ⊢;clear hw3;go_wp2_with fail;have bz:=af.new w3 #[.slice ca vals.length cc] 29;have hx:Ext w3 (w3.alloc (.cells #[.slice ca vals.length cc] 29)):=(Ext.refl w3).alloc _;obtain ⟨nb,hnb⟩:=gN (w3.heap.size);obtain ⟨wb,hwb⟩:=gN (w3.alloc (.cells #[.slice ca vals.length cc] 29));rw [← hwb,← hnb] at bz;rw [← hwb] at hx ⊢;have hnB:w.heap.size≤nb:=by rw [hnb];exact X.o.size
 rw [← hnb];have V0:Hid (bA w.heap.size wb (.slice (some ⟨nb,0,none⟩) 1 1) ((List.range 1).map (bu m vals))):=kI (FA bz hnB (bm.ext' OC.o hx));replace HM:=HM.x hx;replace HV:=HV.x hx;replace A0:=A0.x hx;replace X:=X.x hx;clear bz hx hwb hnb hnB OC HE;go_loopw [10,11,12] (fun vo po i wr=>∃ j:Nat,j≤kn∧i=.int .i64 j∧bA w.heap.size wr vo ((List.range (j+1)).map (bu m vals))∧bX w.heap.size wr po ((List.range j).map fun j=>(az m (bu m vals j)).2.1)∧(∀ i,i < j→(az m (bu m vals i)).2.2=0)∧Ext w wr∧af wr w.heap.size #[.bool m.ag.neg,.slice m1 m.ag.num.length n1,.slice m2 m.ag.den.length n2,.slice m3 m.states.length n3] 28) (fun _ _ i _=>kn - (intOf i).toNat)
 case atStart=>exact ⟨0,Nat.zero_le _,rfl,V0.o,bX.nil _ _,fun i hi=>by omega,X.o,A0.o⟩
 case round=>
  obtain ⟨wi,hwi⟩:=gN (wr);subst hwi;obtain ⟨j,hj,rfl,mU,hpo,hok,hxi,hai⟩:=hrel;obtain ⟨va,vc,rfl⟩:=mU.shape;obtain ⟨pa,pc,rfl⟩:=hpo.shape;obtain ⟨VO,PO,XI,OK,AI⟩:=iR mU hpo hxi hok hai;have hlv:((List.range (j+1)).map (bu m vals)).length=j+1:=by rw [List.length_map,List.length_range]
  have hlp:((List.range j).map fun j=>(az m (bu m vals j)).2.1).length=j:=by rw [List.length_map,List.length_range]
  have FC:=kI hlv;have IY:=kI hlp;rw [hlv,hlp];clear mU hpo hxi hok hlv hlp hai;by_cases hlt:j < kn
  ·obtain ⟨vb,vo,la,lc,e0,g0,g1,g2⟩:=VO.o.rd.at (i:=j) (by rw [FC.o];exact Nat.lt_succ_self _);subst e0;have hgj:((List.range (j+1)).map (bu m vals)).getD j []=bu m vals j:=by
    rw [List.getD_eq_getElem?_getD,List.getElem?_map,List.getElem?_range (Nat.lt_succ_self _)];rfl
   rw [hgj] at g1 g2;obtain ⟨vs,hvs⟩:=gN (bu m vals j);have hls:bQ vs:=by rw [hvs];exact wY yV.o j
   rw [← hvs] at g1 g2;have G9:Hid (vb < wi.heap.size∧wi.cell? ⟨vb,vo+j,none⟩=some (.slice la vs.length lc)∧aT wi (.slice la vs.length lc) vs):=kI ⟨g0,g1,g2⟩;have C0:=kI hvs;have Zv:=kI hls;obtain ⟨r,hr⟩:=gN (az m vs);have HR:=kI hr;have q1:(j:Int) < (kn:Int):=by omega
   have q2:(0:Int)≤(j:Int):=by omega
   have q3:(j:Int) < ((j+1:Nat):Int):=by omega
   have q4:(j:Int) < (j:Int)+1:=by omega
   clear g0 g1 g2 hgj hvs hls hr;go_wp2_with fail;have Mz:=X;have X:=kI (Ext.refl wi);refine jb 10 8 9 (Zu m m1 n1 m2 n2 m3 n3 (some ⟨vb,vo,none⟩) (j+1) vc j vb vo la vs.length lc wi.heap.size r) rfl rfl rfl ak ak ak (fun _ _ _ _ h x=>IW h x) (fun _ _ d _ _ h=>by cases d <;> exact h) ?_ ?_ ?_ ?_
   ·refine ⟨?_,?_,?_,?_,?_,?_,?_,?_,?_,?_,trivial⟩
    ·intro a W hW hB hD K hK;have b3:=hB 3 rfl;simp only [sB] at b3;have q9:=(AI.o.ext hW).cell;have l9:=(AI.o.ext hW).lt;go_simp;exact hK _ _ (Ext.refl _) rfl
    ·intro a W hW hB hD K hK;have b10:=hB 10 rfl;simp only [sB] at b10;go_simp;exact hK _ _ (Ext.refl _) rfl
    ·intro a W hW hB hD K hK;have b12:=hB 12 rfl;simp only [sB] at b12;go_simp;exact hK _ _ (Ext.refl _) rfl
    ·intro a W hW hB hD K hK;obtain ⟨v38,e38,h38⟩:=aQ (hD 1 _ 38 rfl rfl ak);obtain rfl:=h38;obtain ⟨v39,e39,h39⟩:=aQ (hD 2 _ 39 rfl rfl ak);obtain rfl:=h39;go_simp;exact hK _ _ (Ext.refl _) rfl
    ·intro a W hW hB hD K hK;obtain ⟨v40,e40,h40⟩:=aQ (hD 3 _ 40 rfl rfl ak);obtain rfl:=h40;have m0:=(hW.cell (p:=⟨vb,vo+j,none⟩) G9.o.1).trans G9.o.2.1;have ml:=Nat.lt_of_lt_of_le G9.o.1 hW.size;go_simp;exact hK _ _ (Ext.refl _) rfl
    ·intro a W hW hB hD K hK;obtain ⟨v37,e37,h37⟩:=aQ (hD 0 _ 37 rfl rfl ak);obtain rfl:=h37;obtain ⟨v41,e41,h41⟩:=aQ (hD 4 _ 41 rfl rfl ak);obtain rfl:=h41;go_simp;refine (Sv.o W _ _ vs ((SM.o.ext XI.o).ext hW) (G9.o.2.2.ext hW) Zv.o).mono ?_;rintro e w9 ⟨⟨v,p,rfl,ov,op⟩,hx⟩;rw [← HR.o] at ov op ⊢;obtain ⟨x1,x2,rfl⟩:=ov.shape;obtain ⟨x3,x4,rfl⟩:=op.shape;exact hK _ _ hx ⟨_,_,_,_,rfl,bm.mono ov hW.size,eO.mono op hW.size⟩
    ·intro a W hW hB hD K hK;obtain ⟨v42,e42,h42⟩:=aQ (hD 5 _ 42 rfl rfl ak);obtain ⟨x1,x2,x3,x4,rfl,xg,xq⟩:=h42;go_simp;exact hK _ _ (Ext.refl _) ⟨_,_,_,_,rfl,xg,xq⟩
    ·intro a W hW hB hD K hK;obtain ⟨v36,e36,FD⟩:=aQ (hD 6 _ 36 rfl rfl ak);obtain ⟨x1,x2,x3,x4,rfl,xg,xq⟩:=FD;go_simp;exact hK _ _ (Ext.refl _) ⟨_,_,rfl,xg⟩
    ·intro a W hW hB hD K hK;obtain ⟨v36,e36,FD⟩:=aQ (hD 6 _ 36 rfl rfl ak);obtain ⟨x1,x2,x3,x4,rfl,xg,xq⟩:=FD;go_simp;exact hK _ _ (Ext.refl _) ⟨_,_,rfl,xq⟩
    ·intro a W hW hB hD K hK;obtain ⟨v36,e36,FD⟩:=aQ (hD 6 _ 36 rfl rfl ak);obtain ⟨x1,x2,x3,x4,rfl,xg,xq⟩:=FD;go_simp;exact hK _ _ (Ext.refl _) rfl
   ·intro a W hW hB hD;have FD:=hD 6 _ 36 rfl rfl ak;obtain ⟨v36,e36⟩:∃ x,a.tmps.getD 36 undef=x:=⟨_,rfl⟩;rw [e36] at FD;obtain ⟨x1,x2,x3,x4,rfl,xg,xq⟩:=FD;exact ⟨_,fun w9=>cQ e36 rfl rfl w9,⟨_,_,rfl,xq⟩⟩
   ·intro a W hW hB hD;have FD:=hD 6 _ 36 rfl rfl ak;obtain ⟨v36,e36⟩:∃ x,a.tmps.getD 36 undef=x:=⟨_,rfl⟩;rw [e36] at FD;obtain ⟨x1,x2,x3,x4,rfl,xg,xq⟩:=FD;exact ⟨.int .i64 r.2.2,fun w9=>cQ e36 rfl rfl w9,rfl⟩
   intro w5 hx;simp only [dR,List.take_succ_cons,List.take_zero,List.drop_succ_cons,List.drop_zero];rintro u0 - u1 - u2 - u3 - u4 - u5 - u6 - u7 h7 u8 h8 u9 h9;obtain ⟨y1,y2,rfl,N2⟩:=h7;obtain ⟨y3,y4,rfl,Z2⟩:=h8;obtain rfl:u9=.int .i64 r.2.2:=h9;simp only [Act.put,List.setIfInBounds_toArray,List.set_cons_zero,List.set_cons_succ];obtain ⟨gv,gp,ge⟩:=r;dsimp only at N2 Z2 ⊢;have N2:=kI N2;have Z2:=kI Z2;have XW:=kI hx;clear hx;by_cases hc:ge=0
   rotate_left
   ·have E:=kI (xI (m:=m) (v:=vals) (k:=(kn:Int)) (j:=j) (c:=ge) Z Z H1.o Z OK.o (by rw [← C0.o,← HR.o]) hc);have q7:(ge != 0)=true:=bne_iff_ne.2 hc;clear hc;go_wp2_with fail;go_ret3
    exact ⟨kg.mk (bA.nil _ _) (bX.nil _ _) E.o,XI.o.trans XW.o⟩
   subst hc;have hgv:gv=bu m vals (j+1):=by
    have:(az m (bu m vals j)).1=gv:=by rw [← C0.o,← HR.o]
    exact this.symm
   have KN:gp=(az m (bu m vals j)).2.1:=by rw [← C0.o,← HR.o]
   have hge:(az m (bu m vals j)).2.2=0:=by rw [← C0.o,← HR.o]
   have oP:Hid (∀ i,i < j+1→(az m (bu m vals i)).2.2=0):=kI (fun i hi=>by
    by_cases e:i=j
    ·rw [e];exact hge
    ·exact OK.o i Z)
   have Zw:=kI hgv;have HGP:=kI KN;clear hgv KN hge;have Zq:=kI (bA.ext' VO.o XW.o);have POJ:=kI (bX.ext' PO.o XW.o);have C3:=kI (XI.o.trans XW.o);have hwz:w.heap.size≤wi.heap.size:=XI.o.size;have AJ:=kI (AI.o.ext XW.o);have HE:=kI (nG.of (N2.o.mono hwz));have HP:=kI (ix.of (eO.mono Z2.o hwz));have hz1:w.heap.size≤w5.heap.size:=Nat.le_trans hwz XW.o.size;clear hwz;go_wp2_with (at_builtin;(refine aN (El:=nG w.heap.size) (l:=(List.range (j+1)).map (bu m vals)) w5 rfl _ _ 36 rfl w.heap.size 29 (.slice none 0 0) 1 24 Tryz.underlying36 Tryz.ij rfl ah (nG.keeps ah ah) _ Zq.o (by rw [FC.o];rfl) [.slice y1 gv.length y2] rfl iW gv HE.o (by rfl) (by have:=FC.o;have:=IX.o;omega) (by have:=FC.o;have:=IX.o;omega) hz1 ?_))
   intro g cap2 w6 hown2 hk2;have Mv:=kI hown2;have K2:=kI hk2;have X6:=kI (Below.trans C3.o (hk2.below hz1));have PO2:=kI (bX.keeps POJ.o hk2 ah ah);have Z6:=kI (eO.keeps Z2.o hk2 ah);have A6:=kI (AJ.o.keeps hk2 ah);have hz6:w.heap.size≤w6.heap.size:=Nat.le_trans hz1 (hk2.below hz1).size;have HP6:=kI (HP.o.keeps ah _ _ _ _ hk2);clear hown2 hk2;go_wp2_with (at_builtin;(refine aN (El:=ix w.heap.size) (l:=(List.range j).map fun j=>(az m (bu m vals j)).2.1) w6 rfl _ _ 30 rfl w.heap.size 53 (.slice none 0 0) 1 24 Tryz.underlying30 Tryz.oQ rfl ah (ix.keeps ah) _ PO2.o (by rw [IY.o];rfl) [.slice y3 gp.length y4] rfl iW gp HP6.o (by rfl) (by have:=IY.o;have:=IX.o;omega) (by have:=IY.o;have:=IX.o;omega) hz6 ?_))
   intro g' cap3 w7 hown3 hk3;have PO3:=kI hown3;have X7:=kI (Below.trans X6.o (hk3.below hz6));have A7:=kI (A6.o.keeps hk3 ah);have VO3:=kI (bA.keeps Mv.o hk3 ah ah ah);clear hown3 hk3;go_wp2_with fail;go_roundw
   case rel=>exact ⟨j+1,hlt,by go_num,by rw [show (List.range (j+1+1)).map (bu m vals)=(List.range j).map (bu m vals) ++ [bu m vals j,gv] by rw [← mW (bu m vals) (j+1),← mW (bu m vals) j,Zw.o,List.append_assoc];rfl];exact VO3.o,by rw [← mW (fun j=>(az m (bu m vals j)).2.1) j,← HGP.o];exact PO3.o,oP.o,X7.o,A7.o⟩
   case measure=>simp [intOf];omega
  ·obtain rfl:j=kn:=by omega
   have q3:¬ ((j:Int) < (j:Int)):=by omega
   have E:=kI (xJ (m:=m) (v:=vals) (k:=(j:Int)) Z (by have:=IX.o;omega) H1.o (by rw [Int.toNat_natCast];exact OK.o));go_wp2_with fail;go_ret3
   have mU:=VO.o;have hpo:=PO.o;rw [FC.o] at mU;rw [IY.o] at hpo;exact ⟨kg.mk mU hpo (by rw [E.o,Int.toNat_natCast]),XI.o⟩
theorem bm.jd {l:List RR} {row:Option Nat} (h:bm B w v l) (hg:w.grownBy w' row) (hne:v.ownBlock=none∨v.ownBlock≠row) (hB:∀ q,row=some q→∃ cur,af w q cur 25∧B≤q):bm B w' v l:=by
 obtain ⟨hs,h1,h2,h3,h4⟩:=h;have hk:Keeps B 25 w w':=⟨⟨hg.os,hg.tape,hg.output,hg.size,fun i hi=>by omega⟩,fun i hi ho=>hg.block i hi (fun e=>by
  obtain ⟨cur,hb,hq⟩:=hB i e.symm;rcases ho with ho|⟨c2,u,h5,h6⟩
  ·omega
  ·unfold af at hb h5;rw [hb] at h5;injection h5 with h5
   injection h5 with _ h7
   exact h6 h7.symm)⟩
 exact ⟨hs,World.ownsRow.kept h1 hg hne,h2,h3,fun i y hi=>by obtain ⟨q,e1,e2⟩:=h4 i y hi;exact ⟨q,e1,fW.keeps ah _ _ _ _ e2 hk⟩⟩
structure bR (B:Nat) (W:World) (L:Nat) (vs:List Value) (f:Nat→List RR):Prop where
 blk:af W L vs.toArray 29
 base:B≤L
 row:∀ t,t < vs.length→bm B W (vs.getD t undef) (f t)
 apart:∀ t u,t < vs.length→u < vs.length→t≠u→∀ q,(vs.getD t undef).ownBlock=some q→(vs.getD u undef).ownBlock≠some q
theorem bR.ext {f:Nat→List RR} (h:bR B W L vs f) (x:Ext W W'):bR B W' L vs f:=⟨h.blk.ext x,h.base,fun t ht=>bm.ext' (h.row t ht) x,h.apart⟩
instance {f:Nat→List RR}:Lx (Ext W W') (bR B W L vs f) (bR B W' L vs f):=⟨fun k h=>bR.ext h k⟩
theorem bR.keeps {f:Nat→List RR} (h:bR B W L vs f) (k:Keeps C t W W') (h1:29≠t) (h2:25≠t) (h3:157≠t):bR B W' L vs f:=⟨h.blk.keeps k h1,h.base,fun t ht=>bm.keeps (h.row t ht) k h2 h3,h.apart⟩
theorem bR.congr {f g:Nat→List RR} (h:bR B W L vs f) (e:∀ t,t < vs.length→f t=g t):bR B W L vs g:=⟨h.blk,h.base,fun t ht=>by rw [← e t ht];exact h.row t ht,h.apart⟩
theorem bR.new (hb:af W L (List.replicate n (Value.slice none 0 0)).toArray 29) (hB:B≤L):bR B W L (List.replicate n (Value.slice none 0 0)) (fun _=>[]):=
 ⟨hb,hB,fun t ht=>by
  simp at ht;rw [List.getD_eq_getElem?_getD,List.getElem?_replicate,if_pos ht];exact bm.nil _ _,fun t u ht hu _ q hq=>by
  simp at ht;rw [List.getD_eq_getElem?_getD,List.getElem?_replicate,if_pos ht] at hq;cases hq⟩
theorem bR.cell {f:Nat→List RR} (h:bR B W L vs f) {t:Nat} (ht:t < vs.length):W.cell? ⟨L,t,none⟩=some (vs.getD t undef):=by
 rw [h.blk.cell t,List.getD_eq_getElem?_getD];simp [ht]
theorem bR.grow {f:Nat→List RR} (h:bR B W L vs f) {s:Nat} (hs:s < vs.length) {u:Value} {l:List RR} (hg:W.grownBy W' (vs.getD s undef).ownBlock) (hu:bm B W' u l) {g:Nat} (hub:u.ownBlock=some g) (hfr:(vs.getD s undef).ownBlock=some g∨W.heap.size≤g) :
  bR B (W'.setCell ⟨L,s,none⟩ u) L (vs.set s u) (fun t=>if t=s then l else f t):=by
 have hown:∀ q,(vs.getD s undef).ownBlock=some q→∃ cur,af W q cur 25∧B≤q:=fun q hq=>by
  obtain ⟨⟨cur,h1⟩,h2,_⟩:=au.fx (h.row s hs) hq;exact ⟨cur,h1,h2⟩
 have hkg:Keeps B 25 W W':=(h.row s hs).kJ hg;have hbl:af W' L vs.toArray 29:=h.blk.keeps hkg ah;have hks:Keeps 0 29 W' (W'.setCell ⟨L,s,none⟩ u):=aB hbl s u;refine ⟨?_,h.base,fun t ht=>?_,fun t v ht hv hn q hq=>?_⟩
 ·have:=hbl.set s u;exact ri
 ·rw [List.length_set] at ht;by_cases e:t=s
  ·subst e;rw [if_pos rfl,List.getD_eq_getElem?_getD,List.getElem?_set_self Z];exact bm.keeps hu hks ah ah
  ·rw [if_neg e,List.getD_eq_getElem?_getD,List.getElem?_set_ne (Ne.symm e),← List.getD_eq_getElem?_getD];refine bm.keeps (bm.jd (h.row t ht) hg ?_ hown) hks ah ah;cases e9:(vs.getD t undef).ownBlock with
   | none=>exact .inl rfl
   | some q=>exact .inr (fun e8=>h.apart t s ht hs e q e9 e8.symm)
 ·rw [List.length_set] at ht hv;have key:∀ r,r < vs.length→r≠s→(vs.getD r undef).ownBlock≠some g:=fun r hr hrs e9=>by
   rcases hfr with h1|h1
   ·exact h.apart r s hr hs hrs g e9 h1
   ·have:=(au.fx (h.row r hr) e9).2.2;omega
  by_cases e:t=s
  ·subst e;rw [List.getD_eq_getElem?_getD,List.getElem?_set_self Z] at hq;have hq':u.ownBlock=some q:=hq;rw [hub] at hq';injection hq' with hq'
   rw [List.getD_eq_getElem?_getD,List.getElem?_set_ne hn,← List.getD_eq_getElem?_getD,← hq'];exact key v hv (Ne.symm hn)
  ·rw [List.getD_eq_getElem?_getD,List.getElem?_set_ne (Ne.symm e),← List.getD_eq_getElem?_getD] at hq;by_cases e2:v=s
   ·subst e2;rw [List.getD_eq_getElem?_getD,List.getElem?_set_self Z];show u.ownBlock≠some q;rw [hub];intro e3;injection e3 with e3
    subst e3;exact key t ht e hq
   ·rw [List.getD_eq_getElem?_getD,List.getElem?_set_ne (Ne.symm e2),← List.getD_eq_getElem?_getD];exact h.apart t v ht hv hn q hq
theorem bR.fin {f:Nat→List RR} (h:bR B W L vs f) (hn:vs.length≤1000000):bA B W (.slice (some ⟨L,0,none⟩) vs.length vs.length) ((List.range vs.length).map f):=by
 have hf:(vs.map fun v=>[v]).flatten=vs:=by
  clear h hn;induction vs with
  | nil=>rfl
  | cons a r ih=>simp only [List.map_cons,List.flatten_cons,ih];rfl
 refine ⟨vs.map fun v=>[v],⟨?_,.inr ⟨L,vs.length,vs.toArray,by simp,h.base,h.blk,by simp,by unfold maxLen;omega,by simp,?_⟩⟩,by simp,fun q hq=>?_,fun i x hi=>?_⟩
 ·rw [hf];simp
 ·rw [hf];simp
 ·obtain ⟨v,_,rfl⟩:=List.mem_map.1 hq;rfl
 ·have hlt:i < vs.length:=by
   have:=(List.getElem?_eq_some_iff.1 hi).1;exact ri
  have e1:((List.range vs.length).map f)[i]?=some (f i):=by rw [List.getElem?_map,List.getElem?_range hlt];rfl
  rw [e1] at hi;injection hi with hi
  subst hi;refine ⟨[vs.getD i undef],by rw [List.getElem?_map,List.getD_eq_getElem?_getD,List.getElem?_eq_getElem hlt];rfl,nG.of (h.row i hlt)⟩
theorem cA (l:List Int) (n:Nat) (h:af w b (l.map (Value.int .i64)).toArray t) (hn:l.length=n) (hs:l.length≤1000):aY .i64 w (.slice (some ⟨b,0,none⟩) n n) l:=by
 subst hn;refine ⟨some ⟨b,0,none⟩,l.length,by simp,by simp,by omega,fun i hi=>?_⟩;simp only [List.length_map] at hi;exact ⟨b,0,rfl,h.lt,by rw [h.cell];simp [hi]⟩
theorem bm.atS {l:List RR} (h:bm B w v l) {i:Nat} (hi:i < l.length):∃ g n cap a1 c1 a2 c2,v=.slice (some ⟨g,0,none⟩) n cap∧g < w.heap.size∧w.cell? ⟨g,i*3,none⟩=some (.bool (l.getD i zR).neg)∧w.cell? ⟨g,i*3+1,none⟩=some (.slice a1 (l.getD i zR).num.length c1)∧w.cell? ⟨g,i*3+2,none⟩=some (.slice a2 (l.getD i zR).den.length c2)∧
  fW B w [.bool (l.getD i zR).neg,.slice a1 (l.getD i zR).num.length c1,.slice a2 (l.getD i zR).den.length c2] (l.getD i zR):=by
 obtain ⟨a,cap,hv,_,_,hr⟩:=au.rh h;have hl:l[i]?=some (l.getD i zR):=by rw [List.getD_eq_getElem?_getD,List.getElem?_eq_getElem hi];rfl
 obtain ⟨b,h',e1,hb,e2,e3,e4,hel⟩:=hr i _ hl;have LO:=hel;obtain ⟨a1,c1,a2,c2,rfl,s1,s2⟩:=LO;subst hv;subst e1;have x0:=e4 0 Z;have x1:=e4 1 Z;have x2:=e4 2 Z;exact ⟨b,_,_,a1,c1,a2,c2,rfl,e2,x0,x1,x2,hel⟩
theorem IZ (n:Nat):madeCells (Value.slice none 0 0).cells (n*1)=(List.replicate n (Value.slice none 0 0)).toArray:=by
 exact qCi
theorem FE (n:Nat):madeCells (Value.int .i64 0).cells (n*1)=((List.replicate n (0:Int)).map (Value.int .i64)).toArray:=by
 exact qCi
def iu (m:MD) (a:Nat):List Int:=m.states.map fun ac=>((min a (ac.length - 1):Nat):Int)
theorem iv (m:MD) (a:Nat):(iu m a).length=m.states.length:=by simp [iu]
theorem uC {m:MD} {a s:Nat} (h:s < m.states.length):(iu m a).getD s 0=((min a ((m.states.getD s []).length - 1):Nat):Int):=by
 unfold iu;exact TP
theorem FG {m:MD} {v:List RR} (h:cJ m v=0) {a s:Nat} (hs:s < m.states.length):xY m (iu m a) v s=(aC m v (m.act s (min a ((m.states.getD s []).length - 1)))).2:=by
 have hl:=(dm ((bD (bU h).1).2.2.2 s hs)).1;unfold xY fD;rw [uC hs,if_neg Z,Int.toNat_natCast]
theorem mA {m:MD} {v:List RR} (h:cJ m v=0) (a:Nat):(aU m (iu m a) v).2=bZ (fun s=>(aC m v (m.act s (min a ((m.states.getD s []).length - 1)))).2) m.states.length:=by
 have e:bZ (xY m (iu m a) v) (iu m a).length=bZ (fun s=>(aC m v (m.act s (min a ((m.states.getD s []).length - 1)))).2) m.states.length:=by
  rw [iv];exact nj (fun s hs=>FG h hs)
 unfold aU;rw [if_neg iw,if_neg (by simpa using iv m a),e];split
 ·rfl
 ·rename_i h1;simpa using (Classical.not_not.1 h1).symm
theorem zv {m:MD} {v:List RR} (h:cJ m v=0) {a:Nat} (hu:(aU m (iu m a) v).2≠0):li m v≠0:=fun e=>by
 rw [mA h] at hu;obtain ⟨s,hs,_,e1⟩:=sR hu;rw [e1] at hu;refine hu ?_;have hl:=(dm ((bD (bU h).1).2.2.2 s hs)).1;exact bS (f:=fun a=>(aC m v ((m.states.getD s []).getD a dA)).2) (bS e s hs) _ Z
theorem xL {m:MD} {v:List RR} (h:cJ m v=0) {a:Nat} (hu:(aU m (iu m a) v).2=0):∀ s,s < m.states.length→a < (m.states.getD s []).length→(aC m v (m.act s a)).2=0:=fun s hs ha=>by
 rw [mA h] at hu;have:=bS hu s hs;rwa [show min a ((m.states.getD s []).length - 1)=a by omega] at this
theorem zw {m:MD} {v:List RR} (h:cJ m v=0) {a:Nat} (hu:(aU m (iu m a) v).2=0):(aU m (iu m a) v).1.length=m.states.length∧∀ s,s < m.states.length→a < (m.states.getD s []).length→(aU m (iu m a) v).1.getD s zR=(aC m v (m.act s a)).1:=by
 obtain ⟨_,h2,_,h4⟩:=Mg hu;rw [h4];refine ⟨by rw [mo,h2],fun s hs ha=>?_⟩;rw [Mi (by rw [h2];exact hs),uC hs,Int.toNat_natCast,show min a ((m.states.getD s []).length - 1)=a by omega]
theorem xM {m:MD} {v:List RR} (h:c=cJ m v) (hc:c≠0):bT m v=([],c):=by unfold bT;rw [← h,if_pos hc]
theorem FH {m:MD} {v:List RR} (h:cJ m v=0) (h2:li m v=c) (hc:c≠0):bT m v=([],c):=by unfold bT;rw [if_neg iw,h2,if_pos hc]
theorem Cv {m:MD} {v:List RR} (h:∀ s,s < m.states.length→∀ a,a < (m.states.getD s []).length→(aC m v (m.act s a)).2=0):li m v=0:=bg (fun s hs=>bg (h s hs))
theorem FI {m:MD} {v:List RR} (h:cJ m v=0) (h1:∀ s,s < m.states.length→∀ a,a < (m.states.getD s []).length→(aC m v (m.act s a)).2=0):bT m v=((List.range m.states.length).map fun s=>bK m v (m.states.getD s []),0):=by
 have e:=Cv h1;unfold bT;rw [if_neg iw,e,if_neg (fun h=>h rfl)];refine congrArg (fun x=>(x,(0:Int))) (List.ext_getElem dc (fun i h5 h6=>?_));simp at h5;rw [List.getElem_map,List.getElem_map,List.getElem_range,List.getD_eq_getElem?_getD,List.getElem?_eq_getElem h5];rfl
theorem jO {m:MD} {v:List RR} {ac:List aL} {a:Nat} (h:ac.length≤a):(bK m v ac).take a=bK m v ac:=List.take_of_length_le (by rw [cS];exact h)
def Zx (m:MD) (m1:Option Addr) (n1:Nat) (m2:Option Addr) (n2:Nat) (m3:Option Addr) (n3:Nat) (pa:Option Addr) (pn pc jn pb po:Nat) (la:Option Addr) (ln lc:Nat) (va:Option Addr) (vn vc B:Nat) (r:List RR × Int) (j:Nat) (v:Value) (W:World):Prop:=
 match j with
 | 0=>v=.agg #[.bool m.ag.neg,.slice m1 m.ag.num.length n1,.slice m2 m.ag.den.length n2,.slice m3 m.states.length n3]
 | 1=>v=.slice pa pn pc
 | 2=>v=.int .i64 (jn:Nat)
 | 3=>v=.pointer (some ⟨pb,po+jn,none⟩)
 | 4=>v=.slice la ln lc
 | 5=>v=.slice va vn vc
 | 6=>∃ x xc,v=.tuple #[.slice x r.1.length xc,.int .i64 r.2]∧bm B W (.slice x r.1.length xc) r.1
 | 7=>∃ x xc,v=.tuple #[.slice x r.1.length xc,.int .i64 r.2]∧bm B W (.slice x r.1.length xc) r.1
 | 8=>∃ x xc,v=.slice x r.1.length xc∧bm B W (.slice x r.1.length xc) r.1
 | 9=>v=.int .i64 r.2
 | _=>True
theorem I1 {m:MD} {m1:Option Addr} {m2:Option Addr} {m3:Option Addr} {n3:Nat} {pa:Option Addr} {pn pc pb po:Nat} {la:Option Addr} {ln lc:Nat} {va:Option Addr} {vn vc:Nat} {r:List RR × Int} (h:Zx m m1 n1 m2 n2 m3 n3 pa pn pc jn pb po la ln lc va vn vc B r j v W) (x':Ext W W'):Zx m m1 n1 m2 n2 m3 n3 pa pn pc jn pb po la ln lc va vn vc B r j v W':=by
 match j,h with
 | 0,h=>exact h
 | 1,h=>exact h
 | 2,h=>exact h
 | 3,h=>exact h
 | 4,h=>exact h
 | 5,h=>exact h
 | 6,⟨x,xc,h0,h1⟩=>exact ⟨x,xc,h0,bm.ext' h1 x'⟩
 | 7,⟨x,xc,h0,h1⟩=>exact ⟨x,xc,h0,bm.ext' h1 x'⟩
 | 8,⟨x,xc,h0,h1⟩=>exact ⟨x,xc,h0,bm.ext' h1 x'⟩
 | 9,h=>exact h
 | _+10,_=>trivial
theorem I2 {m:MD} {v:List RR} {p:List (List Int)} (h:c=cJ m v) (hc:c≠0):dU m v p=([],c):=by unfold dU;rw [← h,if_pos hc]
theorem I3 {m:MD} {v:List RR} {p:List (List Int)} (h:cJ m v=0) (h2:24 < p.length):dU m v p=([],4):=by unfold dU;rw [if_neg iw,if_pos h2]
theorem I4 {m:MD} {v:List RR} {p:List (List Int)} (h:cJ m v=0) (h2:¬ 24 < p.length) (hj:j < p.length) (hz:∀ i,i < j→(aU m (p.getD i []) (cZ m v p i)).2=0) (h3:(aU m (p.getD j []) (cZ m v p j)).2=c) (hc:c≠0):dU m v p=([],c):=by
 have e:rB m v p p.length=c:=(cz (f:=fun j=>(aU m (p.getD j []) (cZ m v p j)).2) hz (by rw [h3];exact hc) hj).trans h3;unfold dU;rw [if_neg iw,if_neg h2,e,if_pos hc]
theorem I5 {m:MD} {v:List RR} {p:List (List Int)} (h:cJ m v=0) (h2:¬ 24 < p.length) (hz:∀ i,i < p.length→(aU m (p.getD i []) (cZ m v p i)).2=0):dU m v p=(cZ m v p p.length,0):=by
 have e:rB m v p p.length=0:=bg hz;unfold dU;rw [if_neg iw,if_neg h2,if_neg (by simpa using e)]
theorem rQ (mv vv pv:Value) (m:MD) (vals:List RR) (plan:List (List Int)) (w:World) (hm:dd w mv m) (hv:aT w vv vals) (hp:dL w pv plan) (hlm:eG m) (hlv:bQ vals) (hln:jE vals) (hl0:vals.length≤1000000000) :
  Calls Tryz.prog 15 #[mv,vv,pv] w fun e w'=>dN w w' e (dU m vals plan)∧Ext w w':=by
 have gY:=kI (fun W mv vv (h:dd W mv m) (k:aT W vv vals)=>gU mv vv m vals W h k hlm);have SJ:=kI (fun W vv (k:aT W vv vals)=>gV vv vals W k hl0 hln);have zP:=kI (fun W mv pv vv (p:List Int) (vs:List RR) (h:dd W mv m) (hp:aY .i64 W pv p) (k:aT W vv vs) (hl:bQ vs)=>qM mv pv vv m p vs W h hp k hlm hl);obtain ⟨HM,HV,HP,yV⟩:=dW hm hv hp hlv;obtain ⟨m1,n1,m2,n2,m3,n3,rfl,-,-⟩:=hm;obtain ⟨av,cv,rfl,-,-,-⟩:=hv.get;obtain ⟨pa,pc,rfl,SN⟩:=hp.shape;clear hv hp hlm hlv hln hl0;have bb0:=(af.new w #[.bool m.ag.neg,.slice m1 m.ag.num.length n1,.slice m2 m.ag.den.length n2,.slice m3 m.states.length n3] 28);have x0:Ext w (w.alloc (.cells #[.bool m.ag.neg,.slice m1 m.ag.num.length n1,.slice m2 m.ag.den.length n2,.slice m3 m.states.length n3] 28)):=((Ext.refl w).alloc _);have A0:=kI bb0;have X:=kI x0;clear x0 bb0;replace HM:=kI (HM.o.ext X.o);replace HV:=kI (HV.o.ext X.o);replace HP:=kI (HP.o.ext X.o);go_enter Tryz.func15,Tryz.ntmps15
 obtain ⟨aK,fA0,aJ⟩:=A0.o.q3;go_wp2_with fail;refine (gY.o _ _ _ HM.o HV.o).mono ?_;rintro e w1 ⟨rfl,hx⟩;clear aK fA0 aJ;revert A0 X HM HV HP;refine lf hx ?_;intro A0 X HM HV HP;clear hx gY;by_cases h1:cJ m vals=0
 rotate_left
 ·obtain ⟨c,hc⟩:=gN (cJ m vals);have E:=kI (I2 (p:=plan) hc Uh);rw [← hc] at h1 ⊢;exact WQ
 rw [h1];have H1:=kI h1;clear h1;by_cases h2:24 < plan.length
 ·have E:=kI (I3 H1.o h2);have h4:(24:Int) < (plan.length:Int):=Z
  exact TL
 have H2:=kI h2;have h4:¬ ((24:Int) < (plan.length:Int)):=Z
 clear h2;have Kk:=kI X.o.size;go_wp2_with fail;refine (SJ.o _ _ HV.o).mono ?_;rintro e w2 ⟨⟨v,rfl,ow⟩,hx⟩;revert A0 X HM HV HP;refine lf hx ?_;intro A0 X HM HV HP;clear SJ h4;obtain ⟨ca,cc,rfl⟩:=ow.shape;have OC:=kI (bm.mono ow Kk.o);clear ow hx;go_wp2_with fail;obtain ⟨w3,hw3⟩:=gN (w2);rw [← hw3] at HM HV HP A0 OC X ⊢;clear hw3;go_loopw [9,8,10] (fun vo eo i wr=>∃ j:Nat,j≤plan.length∧i=.int .i64 j∧bm w.heap.size wr vo (cZ m vals plan j)∧(∀ i,i < j→(aU m (plan.getD i []) (cZ m vals plan i)).2=0)∧Ext w3 wr) (fun _ _ i _=>plan.length - (intOf i).toNat)
 case atStart=>exact ⟨0,Nat.zero_le _,rfl,OC.o,fun i hi=>by omega,Ext.refl _⟩
 case round=>
  obtain ⟨wi,hwi⟩:=gN (wr);subst hwi;obtain ⟨j,hj,rfl,mU,hok,hxi⟩:=hrel;obtain ⟨va,vc,rfl⟩:=mU.shape;obtain ⟨VO,XI,OK⟩:=cC mU hxi hok;clear mU hxi hok;by_cases hlt:j < plan.length
  ·obtain ⟨pb,po,la,lc,e0,g0,g1,g2⟩:=(HP.o.ext XI.o).at hlt;subst e0;obtain ⟨pl,hpl⟩:=gN (plan.getD j []);obtain ⟨vs,hvs⟩:=gN (cZ m vals plan j);have hls:bQ vs:=by rw [hvs];exact wF yV.o j
   rw [← hpl] at g1 g2;rw [← hvs] at VO ⊢;have G9:Hid (pb < wi.heap.size∧wi.cell? ⟨pb,po+j,none⟩=some (.slice la pl.length lc)∧aY .i64 wi (.slice la pl.length lc) pl):=kI ⟨g0,g1,g2⟩;obtain ⟨mD,C0,Zv⟩:=cC hpl hvs hls;obtain ⟨r,hr⟩:=gN (aU m pl vs);have HR:=kI hr;have q1:(j:Int) < (plan.length:Int):=Z
   have q2:(0:Int)≤(j:Int):=Z
   clear g0 g1 g2 hvs hls hr hpl;go_wp2_with fail;have Mz:=X;have X:=kI (Ext.refl wi);refine bM 10 9 (Zx m m1 n1 m2 n2 m3 n3 (some ⟨pb,po,none⟩) plan.length pc j pb po la pl.length lc va vs.length vc wi.heap.size r) rfl ak ak ak (fun _ _ _ _ h x=>I1 h x) (fun _ _ d _ _ h=>by cases d <;> exact h) ?_ ?_ ?_
   ·refine ⟨?_,?_,?_,?_,?_,?_,?_,?_,?_,?_,trivial⟩
    ·intro a W hW hB hD K hK;have b3:=hB 3 rfl;simp only [sB] at b3;have q9:=(A0.o.ext (XI.o.trans hW)).cell;have l9:=(A0.o.ext (XI.o.trans hW)).lt;exact fu
    ·exact zG9
    ·exact qNf
    ·intro a W hW hB hD K hK;obtain ⟨v30,e30,h30⟩:=aQ (hD 1 _ 30 rfl rfl ak);obtain rfl:=h30;obtain ⟨v31,e31,h31⟩:=aQ (hD 2 _ 31 rfl rfl ak);obtain rfl:=h31;exact fu
    ·intro a W hW hB hD K hK;obtain ⟨v32,e32,h32⟩:=aQ (hD 3 _ 32 rfl rfl ak);obtain rfl:=h32;have m0:=(hW.cell (p:=⟨pb,po+j,none⟩) G9.o.1).trans G9.o.2.1;have ml:=Nat.lt_of_lt_of_le G9.o.1 hW.size;exact fu
    ·exact jFv
    ·intro a W hW hB hD K hK;obtain ⟨v29,e29,h29⟩:=aQ (hD 0 _ 29 rfl rfl ak);obtain rfl:=h29;obtain ⟨v33,e33,h33⟩:=aQ (hD 4 _ 33 rfl rfl ak);obtain rfl:=h33;obtain ⟨v34,e34,h34⟩:=aQ (hD 5 _ 34 rfl rfl ak);obtain rfl:=h34;go_simp;refine (zP.o W _ _ _ pl vs ((HM.o.ext XI.o).ext hW) (G9.o.2.2.ext hW) (bm.rd (bm.ext' VO.o hW)) Zv.o).mono ?_;rintro e w9 ⟨⟨v,rfl,ov⟩,hx⟩;rw [← HR.o] at ov ⊢;obtain ⟨x1,x2,rfl⟩:=ov.shape;exact hK _ _ hx ⟨_,_,rfl,bm.mono ov hW.size⟩
    ·intro a W hW hB hD K hK;obtain ⟨v35,e35,h35⟩:=aQ (hD 6 _ 35 rfl rfl ak);obtain ⟨x1,x2,rfl,xg⟩:=h35;exact jAd
    ·intro a W hW hB hD K hK;obtain ⟨v28,e28,h28⟩:=aQ (hD 7 _ 28 rfl rfl ak);obtain ⟨x1,x2,rfl,xg⟩:=h28;exact jAd
    ·intro a W hW hB hD K hK;obtain ⟨v28,e28,h28⟩:=aQ (hD 7 _ 28 rfl rfl ak);obtain ⟨x1,x2,rfl,xg⟩:=h28;exact fu
   ·intro a W hW hB hD;have h28:=hD 7 _ 28 rfl rfl ak;obtain ⟨v28,e28⟩:∃ x,a.tmps.getD 28 undef=x:=⟨_,rfl⟩;rw [e28] at h28;obtain ⟨x1,x2,rfl,xg⟩:=h28;exact ⟨.int .i64 r.2,fun w9=>cQ e28 rfl rfl w9,rfl⟩
   intro w5 hx;simp only [dR,List.take_succ_cons,List.take_zero,List.drop_succ_cons,List.drop_zero];rintro u0 - u1 - u2 - u3 - u4 - u5 - u6 - u7 - u8 h8 u9 h9;obtain ⟨y1,y2,rfl,N2⟩:=h8;obtain rfl:u9=.int .i64 r.2:=h9;simp only [Act.put,List.setIfInBounds_toArray,List.set_cons_zero,List.set_cons_succ];obtain ⟨gv,ge⟩:=r;dsimp only at N2 ⊢;have N2:=kI N2;have XW:=kI hx;clear hx;by_cases hc:ge=0
   rotate_left
   ·have E:=kI (I4 (m:=m) (v:=vals) (p:=plan) (j:=j) (c:=ge) H1.o H2.o hlt OK.o (by rw [← C0.o,← mD.o,← HR.o]) hc);have q7:(ge != 0)=true:=bne_iff_ne.2 hc;clear hc;go_wp2_with fail;go_ret2
    exact ⟨dN.mk (bm.nil _ _) E.o,Mz.o.trans (XI.o.trans XW.o)⟩
   subst hc;have hgv:gv=cZ m vals plan (j+1):=by
    have:(aU m (plan.getD j []) (cZ m vals plan j)).1=gv:=by rw [← C0.o,← mD.o,← HR.o]
    exact this.symm
   have hge:(aU m (plan.getD j []) (cZ m vals plan j)).2=0:=by rw [← C0.o,← mD.o,← HR.o]
   have oP:Hid (∀ i,i < j+1→(aU m (plan.getD i []) (cZ m vals plan i)).2=0):=kI (fun i hi=>by
    by_cases e:i=j
    ·rw [e];exact hge
    ·exact OK.o i Z)
   have Zw:=kI hgv;have hwz:w.heap.size≤wi.heap.size:=Nat.le_trans Mz.o.size XI.o.size;have N3:=kI (bm.mono N2.o hwz);have C3:=kI (XI.o.trans XW.o);clear hgv hge hwz;go_wp2_with fail;go_roundw
   case rel=>exact ⟨j+1,hlt,by go_num,by rw [← Zw.o];exact N3.o,oP.o,C3.o⟩
   case measure=>simp [intOf];omega
  ·obtain rfl:j=plan.length:=Z
   have q3:¬ ((plan.length:Int) < (plan.length:Int)):=Z
   have E:=kI (I5 (m:=m) (v:=vals) (p:=plan) H1.o H2.o OK.o);go_wp2_with fail;go_ret2
   exact ⟨dN.mk VO.o E.o,X.o.trans XI.o⟩
theorem I6 {m:MD} {v:List RR} (h:cJ m v=0):jM m v=bT m v:=by
 unfold jM bT;rw [if_neg (c:=cJ m v≠0) (fun k=>k h)]
theorem nW (mv vv:Value) (m:MD) (vals:List RR) (w:World) (hm:dd w mv m) (hv:aT w vv vals) (hlm:eG m) (hlv:bQ vals) :
  Calls Tryz.prog 16 #[mv,vv] w fun e w'=>kj w w' e (bT m vals)∧Ext w w':=by
 have gY:=kI (fun W mv vv (h:dd W mv m) (k:aT W vv vals)=>gU mv vv m vals W h k hlm);have nL:=kI (fun W mv vv (hE:cJ m vals=0) (h:dd W mv m) (k:aT W vv vals)=>iU mv vv m vals W h k hlm hlv hE);have HM:=kI hm;have HV:=kI hv;obtain ⟨m1,n1,m2,n2,m3,n3,rfl,-,-⟩:=hm;obtain ⟨av,cv,rfl,-,-,-⟩:=hv.get;clear hv hlm hlv;have bb0:=(af.new w #[.bool m.ag.neg,.slice m1 m.ag.num.length n1,.slice m2 m.ag.den.length n2,.slice m3 m.states.length n3] 28);have x0:Ext w (w.alloc (.cells #[.bool m.ag.neg,.slice m1 m.ag.num.length n1,.slice m2 m.ag.den.length n2,.slice m3 m.states.length n3] 28)):=((Ext.refl w).alloc _);have A0:=kI bb0;have X:=kI x0;clear x0 bb0;replace HM:=kI (HM.o.ext X.o);replace HV:=kI (HV.o.ext X.o);go_enter Tryz.func16,Tryz.ntmps16
 obtain ⟨aK,fA0,aJ⟩:=A0.o.q3;go_wp2_with fail;refine (gY.o _ _ _ HM.o HV.o).mono ?_;rintro e w1 ⟨rfl,hx⟩;clear aK fA0 aJ;revert A0 X HM HV;refine lf hx ?_;intro A0 X HM HV;clear hx gY;by_cases h1:cJ m vals=0
 rotate_left
 ·obtain ⟨c,hc⟩:=gN (cJ m vals);have E:=kI (xM hc Uh);rw [← hc] at h1 ⊢;have q1:(c != 0)=true:=by simpa using h1
  clear h1 hc;go_wp2_with fail;go_ret2
  exact ⟨kj.mk (bA.nil _ _) E.o,X.o⟩
 rw [h1];have H1:=kI h1;clear h1;obtain ⟨aK,fA0,aJ⟩:=A0.o.q3;have Kk:=kI X.o.size;go_wp2_with fail;refine (nL.o _ _ _ H1.o HM.o HV.o).mono ?_;rintro e w2 ⟨⟨v,rfl,ow⟩,hx⟩;clear aK fA0 aJ;revert A0 X HM HV;refine lf hx ?_;intro A0 X HM HV;clear nL;rw [I6 H1.o] at ow ⊢;obtain ⟨g,c,hgc⟩:∃ g c,bT m vals=(g,c):=⟨_,_,rfl⟩;rw [hgc] at ow;have E:=kI hgc;have OV:=kI (bA.mono ow Kk.o);clear ow hx hgc;dsimp only;rw [show (bT m vals).2=c by rw [E.o]];obtain ⟨va,vc,rfl⟩:=OV.o.shape;go_wp2_with fail;go_ret2
 exact ⟨kj.mk OV.o E.o,X.o⟩
abbrev FJ (An:Nat):Deferred:={ target:=.fn (.func 80) #[.pointer (some ⟨An+1+1,0,none⟩),.pointer (some ⟨An+1,0,none⟩)],args:=#[] }
def ME (tmps:Array Value) (An:Nat):Prop:=tmps.getD 6 undef=.pointer (some ⟨An+1,0,none⟩)∧tmps.getD 7 undef=.pointer (some ⟨An+1+1,0,none⟩)
theorem ns (h:ME tmps An) {W:World} {xa:Option Addr} {xn xc:Nat} {c:Int} {t1 t2:TypeId} (b1:af W (An+1) #[.slice xa xn xc] t1) (b2:af W (An+1+1) #[.int .i64 c] t2) :
  (results Tryz.f21 tmps).run Tryz.prog W=.ok (.tuple #[.slice xa xn xc,.int .i64 c]) W:=by
 obtain ⟨h6,h7⟩:=h;have k1:=b1.cell 0;have k2:=b2.cell 0;simp only [List.getElem?_toArray,List.getElem?_cons_zero] at k1 k2;have l1:=b1.lt;have l2:=b2.lt;simp only [Array.getD_eq_getD_getElem?] at h6 h7;simp only [results,Tryz.results21];simp [h6,h7,go_sem,k1,k2]
theorem s7 {fn:Func} {R:Ending→World→Prop} {cl:List Deferred} (hu:u≠.run):∀ (rs:List Nat) (W:World),rs.Nodup→(∀ r ∈ rs,W.heap[r]?=some (.deferred (some [])))→
  (∀ W',(∀ (i:Nat) (c:Array Value) (t:TypeId),af W i c t→af W' i c t)→(∀ (w0:World),Ext w0 W→(∀ r ∈ rs,w0.heap.size≤r)→Ext w0 W')→Below 0 W W'→LeavesInM Fence.wide 8 Tryz.prog fn tmps R cl u W')→
  LeavesInM Fence.wide 8 Tryz.prog fn tmps R (rs.map (fun r=>{ target:=.collected r,args:=#[] }) ++ cl) u W:=by
 intro rs;induction rs with
 | nil=>intro W _ _ h;exact h W (fun _ _ _ b=>b) (fun _ x _=>x) (Below.refl 0 W)
 | cons r rs ih=>
  intro W hn hm h;have hr:=hm r dc;have hne:∀ q ∈ rs,q≠r:=fun q hq e=>(List.nodup_cons.1 hn).1 (e ▸ hq);have hp:=kR (o2:=.deferred none) hr (fun _ _ h=>by cases h);refine iI hu hr (ih _ (List.nodup_cons.1 hn).2 (fun q hq=>(World.putObj_heap_other (hne q hq)).trans (hm q (by simp [hq]))) (fun W' hb hx h0=>h W' (fun i c t b=>hb i c t (hp i c t b)) (fun w0 x hw=>hx w0 (kT x (hw r dc)) (fun q hq=>hw q (by simp [hq]))) (Below.trans (show Below 0 W (W.putObj r (.deferred none)) from ⟨rfl,rfl,rfl,by simp,fun i hi=>by omega⟩) h0)))
theorem cX {m:MD} {e0:Int} (hc:c≠0) {tmps:Array Value} (ht:ME tmps An) {x1:Value} {t1:TypeId} (b1:af W (An+1) #[x1] t1) (b3:af W (An+1+1) #[.int .i64 e0] 37) (hx:Ext w W) (hA:w.heap.size≤An) (he:aM m plan s=([],c)) (rs:List Nat) (hrn:rs.Nodup) (hr:∀ r ∈ rs,An≤r∧W.heap[r]?=some (.deferred (some []))) :
  LeavesInM Fence.wide 8 Tryz.prog Tryz.f21 tmps (fun e w'=>dN w w' e (aM m plan s)∧Ext w w') (rs.map (fun r=>{ target:=.collected r,args:=#[] }) ++ [FJ An]) (.panicking [dC c]) W:=by
 refine s7 dc rs W hrn (fun r h=>(hr r h).2) (fun W1 hb1 hx1 h01=>?_);have hx:=hx1 w hx (fun r h=>Nat.le_trans hA (hr r h).1);have b1:=hb1 _ _ _ b1;have b3:=hb1 _ _ _ b3;refine iJ (f:=80) (args:=#[.pointer (some ⟨An+1+1,0,none⟩),.pointer (some ⟨An+1,0,none⟩)]) dc Gm ?_;refine (nO (An+1+1) (An+1) c e0 hc [] W1 _ _ b3 b1 Z).mono ?_;rintro e u' w'' ⟨rfl,rfl,rfl⟩;obtain ⟨wf,hwf⟩:=gN ((W1.setCell ⟨An+1+1,0,none⟩ (.int .i64 c)).setCell ⟨An+1,0,none⟩ (.slice none 0 0));have f1:af wf (An+1) #[.slice none 0 0] t1:=by
  exact qFp
 have f3:af wf (An+1+1) #[.int .i64 c] 37:=by
  exact kSr
 have rg:Ext w wf:=by
  exact kKl
 rw [← hwf];clear hwf;have hr:=ns ht f1.drew f3.drew;simp only [LeavesInM,LeavesIn,settle,dC];exact ⟨_,hr,dN.mk (bm.nil _ _) he,rg.drew⟩
theorem rR {m:MD} (ht:ME tmps An) {xa:Option Addr} {xn xc:Nat} {g:List RR} (b1:af W (An+1) #[.slice xa xn xc] 29) (b3:af W (An+1+1) #[.int .i64 0] 37) (hx:Ext w W) (hA:w.heap.size≤An)
  (ov:bm w.heap.size W (.slice xa xn xc) g) (he:aM m plan s=(g,0)) (rs:List Nat) (hrn:rs.Nodup) (hr:∀ r ∈ rs,An≤r∧W.heap[r]?=some (.deferred (some []))) :
  LeavesInM Fence.wide 8 Tryz.prog Tryz.f21 tmps (fun e w'=>dN w w' e (aM m plan s)∧Ext w w') (rs.map (fun r=>{ target:=.collected r,args:=#[] }) ++ [FJ An]) .returning W:=by
 refine s7 dc rs W hrn (fun r h=>(hr r h).2) (fun W1 hb1 hx1 h01=>?_);have hx:=hx1 w hx (fun r h=>Nat.le_trans hA (hr r h).1);have ov:=bm.keeps ov (it (A:=W) (B:=W1) 4 h01 hb1) ah ah;have b1:=hb1 _ _ _ b1;have b3:=hb1 _ _ _ b3;refine iJ (f:=80) (args:=#[.pointer (some ⟨An+1+1,0,none⟩),.pointer (some ⟨An+1,0,none⟩)]) dc Gm ?_;refine (nN (An+1+1) (An+1) W1 b3).mono ?_;rintro e u' w'' ⟨rfl,rfl,rfl⟩;obtain ⟨wf,hwf⟩:=gN (W1.setCell ⟨An+1+1,0,none⟩ (.int .i64 0));have hk:Keeps 0 37 W1 wf:=by rw [hwf];exact aB b3 0 _
 have f1:=b1.keeps hk ah;have f3:af wf (An+1+1) #[.int .i64 0] 37:=by rw [hwf];exact b3.set 0 (.int .i64 0)
 have rg:Ext w wf:=by rw [hwf];exact Below.setCell hx aD _
 have SH:=bm.ext' (bm.keeps ov hk ah ah) (Ext.refl wf).drew;rw [← hwf];clear hwf;have hr:=ns ht f1.drew f3.drew;simp only [LeavesInM,LeavesIn,settle];exact ⟨_,hr,dN.mk SH he,rg.drew⟩
section
section
variable {F:Fence} {n:Nat} {P:Program} {ops:Array Oper} {Q:Exit→Act→World→Prop} {md:Region.Mode} {T:Array Bool→World→Prop}
theorem YieldsIf.GI (hF:dV F) {i:Nat} {o:Oper} {v:Value} {a:Act} (hd:∀ c,o.op≠.defer c) (hi:ops[i]?=some o) (hy:YieldsIf P ops S o v a)
  {K:Act→World→Prop} {w:World} (hS:S w) (h:K (a.put o.dst v) w):wpOpIn F n P ops Q i K a w:=by
 unfold Go.wpOpIn;simp only [hi];rcases hy with ⟨hw,hv⟩|⟨hw,rfl⟩
 ·simp only [hw,if_true,Oper.wpIn,jf _ _ _ hd,hv w hS,Oper.uponIn];exact ⟨fun f _=>hF.fn f,h⟩
 ·exact zWd
theorem xN (hF:dV F) {ops:Array Oper} {Q:Exit→Act→World→Prop} {j:Nat} {oi oj:Oper} {v:Value} (hdj:∀ c,oj.op≠.defer c) (hj:ops[j]?=some oj) (hap:oi.apart ops oj=true)
  (hsi:∀ cs b,oi.op≠.select cs b) (hsj:∀ cs b,oj.op≠.select cs b)
  (hQ:∀ c a w,Q (.panic c) (a.put oi.dst v) w→Q (.panic c) a w) {K:Act→World→Prop} {a:Act} {w:World}
  (hy:YieldsIf P ops S oi v a) (h:wpOpIn F n P ops Q j K (a.put oi.dst v) w) :
  wpOpIn F n P ops Q j (fun a' w'=>YieldsIf P ops S oi v a'∧K (a'.put oi.dst v) w') a w:=by
 obtain ⟨h1,h2,h3⟩:=Oper.apart_spec hap;have keep:∀ (a:Act),YieldsIf P ops S oi v a→∀ u,YieldsIf P ops S oi v (a.put oj.dst u):=fun a hy u=>
  hy.of_same (execOp_put oi hsi a oj.dst u h3) (wanted_put oi a oj.dst u h3)
 have keepD:∀ d,YieldsIf P ops S oi v { a with defers:=d :: a.defers }:=fun d=>hy.of_same rfl rfl;exact jQa
def bN (F:Fence) (n:Nat) (P:Program) (md:Region.Mode) (ops:Array Oper) (Q:Exit→Act→World→Prop) (T:Array Bool→World→Prop):Nat→Array Bool→Act→World→Prop
 | 0,listed,a,w=>Region.ready md ops listed=[]∧Q .normal a w
 | fuel+1,listed,a,w=>
  (Region.ready md ops listed=[]→Q .normal a w)∧
  ∀ i ∈ Region.ready md ops listed,wpOpIn F n P ops Q i (fun a' w'=>T (listed.setIfInBounds i true) w'∧bN F n P md ops Q T fuel (listed.setIfInBounds i true) a' w') a w
theorem nu:∀ (fuel:Nat) (listed:Array Bool) (a:Act) (w:World),bN F n P md ops Q T fuel listed a w→wpAnyIn F n P md ops Q fuel listed a w
 | 0,_,_,_,h=>h
 | fuel+1,_,_,_,h=>⟨h.1,fun i hi=>wpOpIn_mono (fun a' w' h'=>nu fuel _ a' w' h'.2) (h.2 i hi)⟩
theorem gW (hF:dV F) (hd:∀ (j:Nat) (o:Oper),ops[j]?=some o→∀ c,o.op≠.defer c) {S:World→Prop} {C:Array Bool→Prop} {i:Nat} {oi:Oper} {v:Value} (hi:ops[i]?=some oi) (hsel:∀ (j:Nat) (o:Oper) cs b,ops[j]?=some o→o.op≠.select cs b)
  (hQ:∀ c a w,Q (.panic c) (a.put oi.dst v) w→Q (.panic c) a w)
  (hC:∀ l j oj,ops[j]?=some oj→(∀ e ∈ oj.after,Region.binds md e=true→e.on≠i)→C l→C (l.setIfInBounds j true)) (hS:∀ l w,C l→T l w→S w) (hT:∀ l w,T (l.setIfInBounds i true) w↔T l w) :
  ∀ (fuel:Nat) (listed:Array Bool) (a:Act) (w:World),
   (∀ j oj,ops[j]?=some oj→j≠i→listed.getD j true=false→(∀ e ∈ oj.after,Region.binds md e=true→e.on≠i)→oi.apart ops oj=true)→
   i ∈ Region.ready md ops listed→YieldsIf P ops S oi v a→C listed→T listed w→
   bN F n P md ops Q T fuel (listed.setIfInBounds i true) (a.put oi.dst v) w→bN F n P md ops Q T (fuel+1) listed a w:=by
 intro fuel;induction fuel with
 | zero=>
  intro listed a w _ hr hy hc ht H;refine ⟨fun h=>NO,fun j hj=>?_⟩;by_cases hji:j=i
  ·exact kCl
  ·exact Xe
 | succ fuel ih=>
  intro listed a w hfree hr hy hc ht H;refine ⟨fun h=>NO,fun j hj=>?_⟩;by_cases hji:j=i
  ·exact kCl
  ·have h1:=H.2 j (ready_mono hj hji);obtain ⟨hjun,oj,hoj,hall⟩:=mem_ready.1 hj;have hnot:∀ e ∈ oj.after,Region.binds md e=true→e.on≠i:=fun e he hb heq=>by
    exact qGr
   have h2:=xN hF (hd j oj hoj) hoj (hfree j oj hoj hji hjun hnot) (fun cs b=>hsel i oi cs b hi) (fun cs b=>hsel j oj cs b hoj) hQ hy h1;have hfree':∀ k ok,ops[k]?=some ok→k≠i→(listed.setIfInBounds j true).getD k true=false→
     (∀ e ∈ ok.after,Region.binds md e=true→e.on≠i)→oi.apart ops ok=true:=fun k ok hk hki hun hno=>by
    exact qGg
   refine wpOpIn_mono (fun a' w' h3=>?_) h2;exact kQq
theorem rS (hF:dV F) (hdf:vH ops.toList=true) {S1 S2:World→Prop} {m1 m2:Nat} {i:Nat} {oi om:Oper} {v:Value} {fuel:Nat} {listed:Array Bool} {a:Act} {w:World} (hi:ops[i]?=some oi) (hm:ops[m1]?=some om) (hw:om.after.any (fun e=>Region.binds md e && e.on == i)=true)
  (h1:i≠m1) (h2:i≠m2) (hs:Region.noSelect ops=true) (hf:Region.free md ops listed i=true) (hr:(Region.ready md ops listed).contains i=true)
  (hQ:∀ c a w,Q (.panic c) (a.put oi.dst v) w→Q (.panic c) a w) (hy:YieldsIf P ops S1 oi v a) (hc:listed.getD m1 false=false) (ht:T2 m1 m2 S1 S2 listed w)
  (h:bN F n P md ops Q (T2 m1 m2 S1 S2) fuel (listed.setIfInBounds i true) (a.put oi.dst v) w):bN F n P md ops Q (T2 m1 m2 S1 S2) (fuel+1) listed a w:=
 gW hF (fun j o ho=>jY hdf j o Uk) (S:=S1) (C:=fun l=>l.getD m1 false=false) hi (Region.noSelect_spec hs) hQ (fun l j oj hj hn hc=>(fU (uo hm hw hj hn)).trans hc) (fun l w hc ht=>ht.1 hc) (T2.set h1 h2) fuel listed a w (Region.free_spec hi hf) PJ hy hc ht h
theorem rT (hF:dV F) (hdf:vH ops.toList=true) {S1 S2:World→Prop} {m1 m2:Nat} {i:Nat} {oi om:Oper} {v:Value} {fuel:Nat} {listed:Array Bool} {a:Act} {w:World} (hi:ops[i]?=some oi) (hm:ops[m2]?=some om) (hw:om.after.any (fun e=>Region.binds md e && e.on == i)=true)
  (h1:i≠m1) (h2:i≠m2) (hs:Region.noSelect ops=true) (hf:Region.free md ops listed i=true) (hr:(Region.ready md ops listed).contains i=true)
  (hQ:∀ c a w,Q (.panic c) (a.put oi.dst v) w→Q (.panic c) a w) (hy:YieldsIf P ops S2 oi v a) (hc:listed.getD m2 false=false) (ht:T2 m1 m2 S1 S2 listed w)
  (h:bN F n P md ops Q (T2 m1 m2 S1 S2) fuel (listed.setIfInBounds i true) (a.put oi.dst v) w):bN F n P md ops Q (T2 m1 m2 S1 S2) (fuel+1) listed a w:=
 gW hF (fun j o ho=>jY hdf j o Uk) (S:=S2) (C:=fun l=>l.getD m2 false=false) hi (Region.noSelect_spec hs) hQ (fun l j oj hj hn hc=>(fU (uo hm hw hj hn)).trans hc) (fun l w hc ht=>ht.2 hc) (T2.set h1 h2) fuel listed a w (Region.free_spec hi hf) PJ hy hc ht h
theorem Zy (i:Nat) {P:Program} {md:Region.Mode} {ops:Array Oper} {Q:Exit→Act→World→Prop} {oi:Oper} {v:Value} {fuel:Nat} {l:Array Bool} {a:Act} {w:World} {R:Prop} {F:Fence} {n:Nat} {m1 m2:Nat} {S1 S2:World→Prop} {om:Oper} (r:R) (hF:dV F:=by exact Or.inr ⟨_,rfl⟩) (hdf:vH ops.toList=true:=by kernel_rfl) (hi:ops[i]?=some oi:=by rfl) (hm:ops[m2]?=some om:=by rfl) (hw:om.after.any (fun e=>Region.binds md e && e.on == i)=true:=by kernel_rfl) (h1:i≠m1:=by decide) (h2:i≠m2:=by decide) (hs:Region.noSelect ops=true:=by kernel_rfl) (hf:Region.free md ops l i=true:=by kernel_rfl) (hr:(Region.ready md ops l).contains i=true:=by kernel_rfl) (hy:YieldsIf P ops S2 oi v a:=by refine Or.inl ⟨by rfl,?_⟩;intro w hSw;(try dsimp only at hSw);go_simp;first|done|with_reducible rfl) (hc:l.getD m2 false=false:=by kernel_rfl) (hT:T2 m1 m2 S1 S2 l w:=by exact ht _) (k:R→bN F n P md ops (Qn Q) (T2 m1 m2 S1 S2) fuel (l.setIfInBounds i true) (a.put oi.dst v) w:=by intro k;(try simp only [sP]);exact k):bN F n P md ops (Qn Q) (T2 m1 m2 S1 S2) (fuel+1) l a w:=rT hF hdf hi hm hw h1 h2 hs hf hr Qn.Rm hy hc hT (k r)
theorem AX (i:Nat) {P:Program} {md:Region.Mode} {ops:Array Oper} {Q:Exit→Act→World→Prop} {oi:Oper} {v:Value} {fuel:Nat} {l:Array Bool} {a:Act} {w:World} {R:Prop} {F:Fence} {n:Nat} {m1 m2:Nat} {S1 S2:World→Prop} {om:Oper} (r:R) (hF:dV F:=by exact Or.inr ⟨_,rfl⟩) (hdf:vH ops.toList=true:=by kernel_rfl) (hi:ops[i]?=some oi:=by rfl) (hm:ops[m1]?=some om:=by rfl) (hw:om.after.any (fun e=>Region.binds md e && e.on == i)=true:=by kernel_rfl) (h1:i≠m1:=by decide) (h2:i≠m2:=by decide) (hs:Region.noSelect ops=true:=by kernel_rfl) (hf:Region.free md ops l i=true:=by kernel_rfl) (hr:(Region.ready md ops l).contains i=true:=by kernel_rfl) (hy:YieldsIf P ops S1 oi v a:=by refine Or.inl ⟨by rfl,?_⟩;intro w hSw;(try dsimp only at hSw);go_simp;first|done|with_reducible rfl) (hc:l.getD m1 false=false:=by kernel_rfl) (hT:T2 m1 m2 S1 S2 l w:=by exact ht _) (k:R→bN F n P md ops (Qn Q) (T2 m1 m2 S1 S2) fuel (l.setIfInBounds i true) (a.put oi.dst v) w:=by intro k;(try simp only [sP]);exact k):bN F n P md ops (Qn Q) (T2 m1 m2 S1 S2) (fuel+1) l a w:=rS hF hdf hi hm hw h1 h2 hs hf hr Qn.Rm hy hc hT (k r)
def bF (F:Fence) (n:Nat) (P:Program) (md:Region.Mode) (ops:Array Oper) (Q:Exit→Act→World→Prop) (T:Array Bool→World→Prop) (fuel:Nat) (listed:Array Bool) (a:Act) (w:World) (rs:List Nat):Prop:=
 ∀ i ∈ rs,wpOpIn F n P ops Q i (fun a' w'=>T (listed.setIfInBounds i true) w'∧bN F n P md ops Q T fuel (listed.setIfInBounds i true) a' w') a w
theorem bF.nil:bF F n P md ops Q T fuel listed a w []:=fun _ h=>by cases h
theorem bF.cons {o:Oper} {rs:List Nat} (ho:ops[i]?=some o)
  (h:∀ K':Act→World→Prop,Shut (∀ a w,T (listed.setIfInBounds i true) w→bN F n P md ops Q T fuel (listed.setIfInBounds i true) a w→K' a w)→if Region.wanted o (yielded ops a.tmps)=true then Oper.wpIn F n P o a w K' Q else (∀ f,o.about P w a.eval=some f→F.fn f)∧K' (a.put o.dst undef) w)
  (hs:bF F n P md ops Q T fuel listed a w rs):bF F n P md ops Q T fuel listed a w (i :: rs):=fun j hj=>by
 rcases List.mem_cons.1 hj with rfl|hj
 ·exact wpOpIn_step ho (fun K' hK=>h K' (fun a w hS hW=>hK a w ⟨hS,hW⟩))
 ·exact hs j hj
theorem yc {l:Array Bool} {o:Oper} (h:∀ K:Act→World→Prop,Shut (∀ a w,T (l.setIfInBounds i true) w→bN F n P md ops Q T fuel (l.setIfInBounds i true) a w→K a w)→if Region.wanted o (yielded ops a.tmps)=true then Oper.wpIn F n P o a w K Q else (∀ f,o.about P w a.eval=some f→F.fn f)∧K (a.put o.dst undef) w) (ho:ops[i]?=some o:=by rfl):bF F n P md ops Q T fuel l a w [i]:=bF.cons ho h bF.nil
theorem rU {rs:List Nat} (hr:Region.ready md ops listed=rs) (hne:rs≠[])
  (h:bF F n P md ops Q T fuel listed a w rs):bN F n P md ops Q T (fuel+1) listed a w:=⟨fun h0=>absurd (hr ▸ h0) hne,hr ▸ h⟩
theorem yr (rs:List Nat) {P:Program} {md:Region.Mode} {ops:Array Oper} {Q:Exit→Act→World→Prop} {T:Array Bool→World→Prop} {fuel:Nat} {l:Array Bool} {a:Act} {w:World} {F:Fence} {n:Nat} (h:bF F n P md ops Q T fuel l a w rs) (hr:Region.ready md ops l=rs:=by kernel_rfl) (hn:rs≠[]:=by simp):bN F n P md ops Q T (fuel+1) l a w:=rU hr hn h
theorem iP (hr:Region.ready md ops listed=[]) (h:Q .normal a w) :
  ∀ fuel,bN F n P md ops Q T fuel listed a w
 | 0=>⟨hr,h⟩
 | _+1=>⟨fun _=>h,by rw [hr];simp⟩
theorem rV (hm:P.follows .mixedOrders=true) (h:bN F n P .any ops Q T ops.size (Array.replicate ops.size false) a w.drew):(Code.region id ops true).wpIn F n P Q a w:=
 wpIn_region_any hm (nu _ _ _ _ h)
theorem gm (hm:P.follows .mixedOrders=true) (h:bN F n P .any ops (Qn Q) T ops.size (Array.replicate ops.size false) a w.drew):(Code.region id ops true).wpIn F n P Q a w:=
 wpIn_mono (rV hm h) (fun e a w h=>by obtain ⟨rfl,h⟩:=h;exact h)
end
end
theorem eW (W:World) {o:Oper} {a:Act} {K:Act→World→Prop} {Q:Exit→Act→World→Prop} (s x:Operand) (t:TypeId)
  (ho:o.op=.call { callee:=.builtin .append,args:=#[s,x],argTypes:=#[t,t] })
  (B:Nat) (e:TypeId) (z:Value) (size bytes:Nat) (ht:P.underlying t=some (.slice e)) (hinfo:(P.info? e).map (fun i=>(i.zero,i.size,i.bytes))=some (some z,size,bytes))
  (hzs:z.cells.size=size) (hsz:0 < size) {α:Type} {El:World→List Value→α→Prop} (hEl:∀ w w' h y,El w h y→Keeps B e w w'→El w' h y) (v:Value) (l:List α) (hown:au e size El B W v l) (hs:a.eval s=v)
  (cs:List Value) (hcs:cs.length=size) (h1c:∀ u ∈ cs,u.oneCell'=true) (y:α) (hy:El W cs y) (bn:Nat) (hbn:af W bn cs.toArray e) (hx:a.eval x=.slice (some ⟨bn,0,none⟩) 1 1)
  (h63:l.length+1≤9223372036854775807) (hbytes:(l.length+1)*bytes≤140737488355328) (hB:B≤W.heap.size)
  (h:∀ g cap w',au e size El B w' (.slice (some ⟨g,0,none⟩) (l.length+1) cap) (l ++ [y])→W.grownBy w' v.ownBlock→(v.ownBlock=some g∨W.heap.size≤g)→K (a.put o.dst (.slice (some ⟨g,0,none⟩) (l.length+1) cap)) w') :
  o.wpIn F nf P a W K Q:=by
 obtain ⟨i0,hi,hz0,hz1,hz2⟩:=info_parts hinfo;obtain ⟨hs0,h1,h2,h3,h4⟩:=hown;have hnews:∀ j u,cs[j]?=some u→W.cell? ((⟨bn,0,none⟩:Addr).add j)=some u:=by
  exact qQo
 obtain ⟨v',w',hr,hown',hgrow,hfr⟩:=ir (P:=P) W B t o.type e i0 z size bytes ht hi hz0 hz1 hz2 hzs hsz v l.length hs0.flatten h1 ⟨bn,0,none⟩ 1 cs PK hnews h1c PH hbytes hB;unfold Oper.wpIn;refine ⟨by simp [Oper.about,ho,resolve,Target.leads,Sem.run_pure],?_⟩;rw [Oper.semAt_plain F _ _ (by rw [ho];intro c hc';cases hc')];simp only [execOp,ho,resolve,invoke,builtin,Sem.run_bind,Sem.run_pure,Result.andThen_ok,List.map_toArray,List.map_cons,List.map_nil,hs,hx,hr];exact qJ3
end Go.Proofs.YtnnjbaijcaiohaaGreat
