/- Walks and lemmas. -/
import Derived.Test.YtnnjbaijcaiohaaGreatSzA8
import Derived.Test.YtnnjbaijcaiohaaGreatSzA5
import Derived.Test.YtnnjbaijcaiohaaGreatSzA0
import Derived.Recover
import Derived.Orders
import Derived.RangeFuncLeaves
import Derived.RangeFuncRecord
import Derived.Defers
set_option linter.unusedVariables false
set_option linter.unusedSimpArgs false
set_option maxRecDepth 100000
set_option maxHeartbeats 16000000
namespace Go.Proofs.YtnnjbaijcaiohaaGreat
open Go.RowKit
variable {a a0:Act} {listed:Array Bool} {T:Array Bool→World→Prop} {ops:Array Oper} {ps:Array Tmp} {args tmps:Array Value} {assign body:Code} {Q:Exit→Act→World→Prop} {F:Fence} {u:FrameMode} {f:FuncId} {c s:Int} {plan:List (List Int)} {ds:List Deferred} {l l1 l2 la lb lq:List Int} {rest:List Oper} {cs h vs xs:List Value} {An B C H L N b b0 bx c1 c2 cap d1 d2 fuel g i id j jn k m1 m2 n n1 n2 nf nn off xn y:Nat} {X:Nat→Prop} {oi om:Oper} {a1 a2 a3 xa:Option Addr} {P:Program} {R p p0 p1 p10 p11 p12 p13 p2 p3 p4 p5 p6 p7 p8 p9:Prop} {md:Region.Mode} {α:Type} {e t t1 t2 t3:TypeId} {lv v vb vr z:Value} {A W W' W0 w w' w0 w2 w3 w4 wB:World} {S S1 S2:World→Prop}
theorem fL (v:List RR) (l:List Out):(ic v l).length=l.length:=by simp [ic]
theorem yU {v:List RR} {l:List Out} (h:i < l.length):(ic v l).getD i zR=v.getD (l.getD i dO).1.toNat zR:=by
 unfold ic;exact kLv
theorem AC {l:List Out} (h:∀ i,bj (l.getD i dO).2):bQ (dY l):=fun i _=>by rw [qe];exact h i
theorem AD {v:List RR} {l:List Out} (h:bQ v):bQ (ic v l):=fun i hi=>by
 rw [fL] at hi;rw [yU hi];by_cases hj:(l.getD i dO).1.toNat < v.length
 ·exact h _ hj
 ·exact WV
theorem AE {d co:RR} {ss:List (List aL)} {v:List RR} {l:List Out} {r:RR} {e:Int} (h:i6 (dY l) (ic v l)=(r,e)) (he:e≠0):aC ⟨d,ss⟩ v ⟨co,l⟩=(zR,e):=by
 unfold aC;dsimp only;rw [h,if_pos he]
theorem AF {d co:RR} {ss:List (List aL)} {v:List RR} {l:List Out} {r s:RR} {e:Int} (h:i6 (dY l) (ic v l)=(r,0)) (h2:mulR d r=(s,e)) (he:e≠0):aC ⟨d,ss⟩ v ⟨co,l⟩=(zR,e):=by
 unfold aC;dsimp only;rw [h];dsimp only;rw [if_neg (fun h=>h rfl),h2,if_pos he]
theorem AG {d co:RR} {ss:List (List aL)} {v:List RR} {l:List Out} {r s:RR} (h:i6 (dY l) (ic v l)=(r,0)) (h2:mulR d r=(s,0)):aC ⟨d,ss⟩ v ⟨co,l⟩=bL co s:=by
 unfold aC;dsimp only;rw [h];dsimp only;rw [if_neg (fun h=>h rfl),h2,if_neg (fun h=>h rfl)]
theorem wx (a b:List RR):bj (i6 a b).1:=by
 have key:∀ (la lb:List RR) (s:RR),bj s→bj (kN s la lb).1:=by
  intro la;induction la with
  | nil=>intro lb s h;rw [oY];exact h
  | cons x r ih=>
   intro lb s h;cases lb with
   | nil=>unfold kN;exact h
   | cons y t=>
    unfold kN;split
    ·split
     ·exact ih t _ (oN _ _ bO)
     ·exact bO
    ·exact bO
 unfold i6;split
 ·exact key _ _ _ bO
 ·exact bO
theorem Ca (mv vv xv:Value) (m:MD) (vals:List RR) (x:aL) (w:World) (hm:dd w mv m) (hv:aT w vv vals) (hx:ee w xv x) (hlm:bj m.ag) (hlv:bQ vals) (hla:pW x)
  (hto:∀ i,i < x.next.length→0≤(x.next.getD i dO).1∧(x.next.getD i dO).1 < vals.length) (hlen:x.next.length≤64) :
  Calls Tryz.prog 136 #[mv,vv,xv] w fun e w'=>bG w w' e (aC m vals x)∧Ext w w':=by
 obtain ⟨d,ss⟩:=m;obtain ⟨co,l⟩:=x;obtain ⟨m1,n1,m2,n2,m3,n3,rfl,hmd,-⟩:=hm;obtain ⟨a1,c1,a2,c2,a3,c3,rfl,hco,hos⟩:=hx;obtain ⟨wA,rD⟩:=hla;dsimp only at hmd hco hos hlm wA rD hto hlen ⊢;obtain ⟨av,cv,rfl,rA,hvm,fv,hvf⟩:=hv.get;have hvl:vals.length≤9223372036854775807:=Z
 obtain ⟨HV,jA,kQ,rE,xZ,yV,jg,HL2,Yy,HLEN⟩:=Gv hv hmd hco hos hlm hlv wA rD hto hlen;have qg:=fun W va vb ha hb=>Ee va vb (dY l) (ic vals l) W ha hb (AC rD) (AD hlv);have hdl:=wx (dY l) (ic vals l);have hS1:=fun r e=>AE (d:=d) (co:=co) (ss:=ss) (v:=vals) (l:=l) (r:=r) (e:=e);have hS2:=fun r s e=>AF (d:=d) (co:=co) (ss:=ss) (v:=vals) (l:=l) (r:=r) (s:=s) (e:=e);have hS3:=fun r s=>AG (d:=d) (co:=co) (ss:=ss) (v:=vals) (l:=l) (r:=r) (s:=s);obtain ⟨DT,QW⟩:=gN (i6 (dY l) (ic vals l));rw [← QW] at qg hdl hS1 hS2 hS3;obtain ⟨dr,de⟩:=DT;dsimp only at hdl;unfold bG at qg;dsimp only at qg;obtain ⟨En,Yz,Eo,HS2,Ii⟩:=iR qg hdl hS1 hS2 hS3;clear hv hmd hco hos hlm hlv wA rD hto rA hvm fv hvf qg hdl hS1 hS2 hS3 QW;have bb0:=(((af.new w #[.bool d.neg,.slice m1 d.num.length n1,.slice m2 d.den.length n2,.slice m3 ss.length n3] 28).alloc (.cells #[.bool co.neg,.slice a1 co.num.length c1,.slice a2 co.den.length c2,.slice a3 l.length c3] 83)).alloc (.cells #[.bool false,.slice none 0 0,.slice none 0 0] 25));have bb1:=((af.new (w.alloc (.cells #[.bool d.neg,.slice m1 d.num.length n1,.slice m2 d.den.length n2,.slice m3 ss.length n3] 28)) #[.bool co.neg,.slice a1 co.num.length c1,.slice a2 co.den.length c2,.slice a3 l.length c3] 83).alloc (.cells #[.bool false,.slice none 0 0,.slice none 0 0] 25));have bb2:=(af.new ((w.alloc (.cells #[.bool d.neg,.slice m1 d.num.length n1,.slice m2 d.den.length n2,.slice m3 ss.length n3] 28)).alloc (.cells #[.bool co.neg,.slice a1 co.num.length c1,.slice a2 co.den.length c2,.slice a3 l.length c3] 83)) #[.bool false,.slice none 0 0,.slice none 0 0] 25);rw [World.size_alloc] at bb1;rw [World.size_alloc,World.size_alloc] at bb2;have x0:Ext w (((w.alloc (.cells #[.bool d.neg,.slice m1 d.num.length n1,.slice m2 d.den.length n2,.slice m3 ss.length n3] 28)).alloc (.cells #[.bool co.neg,.slice a1 co.num.length c1,.slice a2 co.den.length c2,.slice a3 l.length c3] 83)).alloc (.cells #[.bool false,.slice none 0 0,.slice none 0 0] 25)):=((((Ext.refl w).alloc _).alloc _).alloc _)
 obtain ⟨A0,A1,A2,X⟩:=dW bb0 bb1 bb2 x0;clear x0 bb0 bb1 bb2;replace HV:=kI (HV.o.ext X.o);replace jA:=kI (jA.o.ext X.o);replace kQ:=kI (kQ.o.ext X.o);replace rE:=kI (rE.o.ext X.o);go_enter Tryz.func136,Tryz.ntmps136
 obtain ⟨cT,cU,lA1⟩:=A1.o.q3;go_wp2_with fail;clear cT cU lA1;obtain ⟨wl,hwl⟩:=gN ((((w.alloc (.cells #[.bool d.neg,.slice m1 d.num.length n1,.slice m2 d.den.length n2,.slice m3 ss.length n3] 28)).alloc (.cells #[.bool co.neg,.slice a1 co.num.length c1,.slice a2 co.den.length c2,.slice a3 l.length c3] 83)).alloc (.cells #[.bool false,.slice none 0 0,.slice none 0 0] 25)));rw [← hwl] at HV jA kQ rE A0 A1 A2 X ⊢;clear hwl;obtain ⟨An,hAn⟩:=gN (w.heap.size);rw [← hAn] at A0 A1 A2 ⊢;have YA:=kI (Nat.le_of_eq hAn.symm);clear hAn;go_loopw [8,9,17] (fun va vb i wr=>∃ k:Nat,k≤l.length∧i=.int .i64 k∧bI wl.heap.size wr va ((dY l).take k)∧bI wl.heap.size wr vb ((ic vals l).take k)∧(∀ q,va.ownBlock=some q→vb.ownBlock≠some q)∧Ext wl wr) (fun _ _ i _=>l.length - (intOf i).toNat)
 case atStart=>exact ⟨0,Nat.zero_le _,rfl,au.nil _ _ _ _ _,au.nil _ _ _ _ _,(fun q h=>by cases h),Ext.refl _⟩
 case round=>
  obtain ⟨wq,hwq⟩:=gN (wr);subst hwq;obtain ⟨k,hk,rfl,hoa,hob,hdj,hx⟩:=hrel;obtain ⟨aa,ac,rfl⟩:=bI.ue hoa;obtain ⟨ba,bc,rfl⟩:=bI.ue hob;obtain ⟨XK,OA,OB,DJ⟩:=dW hx hoa hob hdj;clear hx hoa hob hdj;by_cases hlt:k < l.length
  ·obtain ⟨b,off,p1,d1,p2,d2,rfl,z0,z1,z2,z3,z4,z5⟩:=rE.o.at hlt;obtain ⟨t1,t2⟩:=Yy.o k hlt;have htA:=bC (dY l) k zR Ue;have yW:=bC (ic vals l) k zR (by rw [fL];exact hlt);rw [qe] at htA;rw [yU hlt] at yW;have hlA:((dY l).take k).length=k:=by rw [List.length_take,jT];omega
   have hlB:((ic vals l).take k).length=k:=by rw [List.length_take,fL];omega
   obtain ⟨y,eQ⟩:=gN (l.getD k dO);rw [← eQ] at z1 z2 z3 z4 z5 t1 t2 htA yW;obtain ⟨tw,ry⟩:=y;dsimp only at z1 z2 z3 z4 z5 t1 t2 htA yW;obtain ⟨yi,hyi⟩:∃ n:Nat,tw=n:=⟨tw.toNat,by omega⟩;rw [hyi,Int.toNat_natCast] at yW;rw [hyi] at z1 t1 t2;clear hyi;have Ep:yi < vals.length:=Z
   obtain ⟨bw,ow,s1,s2,s3,s4,rfl,u0,u1,u2,u3,u4⟩:=HV.o.at Ep;obtain ⟨rz,hrz⟩:=gN (vals.getD yi zR);rw [← hrz] at u1 u2 u3 u4 yW;have eA:=lg.old z5 (Nat.le_refl _);have eB:=lg.old u4 (Nat.le_refl _);have VC:Hid (wg wl bw (ow+yi*3) rz s1 s2 s3 s4):=kI ⟨u0,u1,u2,u3⟩;obtain ⟨EA,EB,TA,TB,LA,LB⟩:=od eA eB htA yW hlA hlB;have HKB:=kI (show k≤64 by have:=HLEN.o;omega);have w0:=Nat.lt_of_lt_of_le z0 XK.o.size;have w1:=(XK.o.cell (p:=⟨b,off+k*4,none⟩) z0).trans z1;have w2:=(XK.o.cell (p:=⟨b,off+k*4+1,none⟩) z0).trans z2;have w3:=(XK.o.cell (p:=⟨b,off+k*4+2,none⟩) z0).trans z3;have w4:=(XK.o.cell (p:=⟨b,off+k*4+3,none⟩) z0).trans z4;have q2:(0:Int)≤(k:Int):=Z
   have q3:(k:Int) < (l.length:Int):=Z
   have q4:(0:Int)≤(yi:Int):=Z
   have q5:(yi:Int) < (vals.length:Int):=Z
   rw [LA.o,LB.o];clear z0 z1 z2 z3 z4 z5 u0 u1 u2 u3 u4 eA eB htA yW hlA hlB hrz eQ t1 t2 Ep;go_wp2_with fail;obtain ⟨wb,hwb⟩:=gN (wq.alloc (.cells #[.int .i64 (yi:Nat),.bool ry.neg,.slice p1 ry.num.length d1,.slice p2 ry.den.length d2] 80));have xb:Ext wq wb:=by rw [hwb];exact (Ext.refl _).alloc _
   have rC:af wb wq.heap.size #[.int .i64 (yi:Nat),.bool ry.neg,.slice p1 ry.num.length d1,.slice p2 ry.den.length d2] 80:=by rw [hwb];exact af.new _ _ _
   rw [← hwb];obtain ⟨ny,hny⟩:=gN (wq.heap.size);rw [← hny] at rC ⊢;have BY:=kI rC;have XW:=XK.x xb;replace OA:=OA.x xb;replace OB:=OB.x xb;replace EA:=kI (EA.o.ext XW.o);replace EB:=kI (EB.o.ext XW.o);have KW:Hid (Keeps wl.heap.size 25 wb wb):=kI (Keeps.ext (Ext.refl _));clear xb rC hwb hny w0 w1 w2 w3 w4;refine wp_region_held_drew (S:=(fun W=>(W.cell? ⟨ny,0,none⟩=some (.int .i64 (yi:Nat))∧W.cell? ⟨ny,1,none⟩=some (.bool ry.neg)∧W.cell? ⟨ny,2,none⟩=some (.slice p1 ry.num.length d1)∧W.cell? ⟨ny,3,none⟩=some (.slice p2 ry.den.length d2))∧(W.cell? ⟨bw,ow+yi*3,none⟩=some (.bool rz.neg)∧W.cell? ⟨bw,ow+yi*3+1,none⟩=some (.slice s1 rz.num.length s2)∧W.cell? ⟨bw,ow+yi*3+2,none⟩=some (.slice s3 rz.den.length s4)))) ak ?_ (fun hHeld=>?_)
   ·exact ⟨Kx BY.o.drew,VC.o.c3 XW.o.drew⟩
   refine tk 0 ?_;refine tk 1 ?_;refine tk 2 ?_;refine tk 5 ?_;refine tk 6 ?_;refine tk 7 ?_;refine tk 8 ?_;refine tk 9 ?_;refine tk 10 ?_;obtain ⟨va,hva⟩:=gN (Value.slice aa k ac);obtain ⟨vb,hvb⟩:=gN (Value.slice ba k bc);rw [LA.o] at OA DJ;rw [LB.o] at OB DJ;rw [← hva] at OA DJ ⊢;rw [← hvb] at OB DJ ⊢;clear hva hvb;have ym:=kI (fun n (h:va.ownBlock=some n)=>(bI.cN OA.o h).2.2);have OQ:=kI (fun n (h:vb.ownBlock=some n)=>(bI.cN OB.o h).2.2);have XB:Hid (wb.heap.size≤wb.heap.size):=kI (Nat.le_refl _);apply Ih (F:=fun W x y=>bI wl.heap.size W x (((dY l).take k) ++ [ry])∧bI wl.heap.size W y (((ic vals l).take k) ++ [rz])∧(∀ q,x.ownBlock=some q→y.ownBlock≠some q)∧Ext wl W∧(fun W=>(W.cell? ⟨ny,0,none⟩=some (.int .i64 (yi:Nat))∧W.cell? ⟨ny,1,none⟩=some (.bool ry.neg)∧W.cell? ⟨ny,2,none⟩=some (.slice p1 ry.num.length d1)∧W.cell? ⟨ny,3,none⟩=some (.slice p2 ry.den.length d2))∧(W.cell? ⟨bw,ow+yi*3,none⟩=some (.bool rz.neg)∧W.cell? ⟨bw,ow+yi*3+1,none⟩=some (.slice s1 rz.num.length s2)∧W.cell? ⟨bw,ow+yi*3+2,none⟩=some (.slice s3 rz.den.length s4))) W)
   ·intro HV;refine dt [3,11] ?_;refine AllReadyH.cons rfl (fun K hK=>?_) (AllReadyH.cons rfl (fun K hK=>?_) AllReadyH.nil)
    ·go_simp;have hx:Ext wb ((wb.alloc (.cells #[.bool ry.neg,.slice p1 ry.num.length d1,.slice p2 ry.den.length d2] 25)).drew):=((Ext.refl _).alloc _).drew;have bz:af ((wb.alloc (.cells #[.bool ry.neg,.slice p1 ry.num.length d1,.slice p2 ry.den.length d2] 25)).drew) wb.heap.size [.bool ry.neg,.slice p1 ry.num.length d1,.slice p2 ry.den.length d2].toArray 25:=(af.new wb #[.bool ry.neg,.slice p1 ry.num.length d1,.slice p2 ry.den.length d2] 25).drew;obtain ⟨e1,jB⟩:=gN ((wb.alloc (.cells #[.bool ry.neg,.slice p1 ry.num.length d1,.slice p2 ry.den.length d2] 25)).drew);rw [← jB] at hx bz ⊢;obtain ⟨nF,fc⟩:=gN (wb.heap.size);rw [← fc] at bz ⊢;have hnb:wb.heap.size≤nF:=by rw [fc];exact XB.o
     have OA:=OA.x hx;have OB:=OB.x hx;have EA:=EA.x hx;have EB:=EB.x hx;have KW:=kI (KW.o.trans (Keeps.ext hx));have XW:=XW.x hx;have YB:=kI hnb;have XB:Hid (wb.heap.size≤e1.heap.size):=kI (Nat.le_trans hnb (Nat.le_of_lt bz.lt));have N1:=kI bz;clear hx bz jB fc hnb;(try go_wp2_with fail);refine hK.out _ _ ?_ (fun hHeld=>?_)
     ·exact Pf
     clear hK K;(try simp only [sP]);refine dt [4,11] ?_;refine AllReadyH.cons rfl (fun K hK=>?_) (AllReadyH.cons rfl (fun K hK=>?_) AllReadyH.nil)
     ·rw [if_pos (aX rfl)];refine aZ e1 _ _ _ rfl wl.heap.size 25 (.agg #[.bool false,.slice none 0 0,.slice none 0 0]) 3 56 Tryz.underlying29 Tryz.dH rfl ah (lg.keeps ah) _ _ OA.o rfl [.bool ry.neg,.slice p1 ry.num.length d1,.slice p2 ry.den.length d2] rfl iW ry EA.o nF N1.o rfl JL JL XW.o.size ?_;intro g2 cap2 e2 hrow hgr hfr;have hk:=bI.gA OA.o hgr;have hown:(Value.slice (some ⟨g2,0,none⟩) (((dY l).take k).length+1) cap2).ownBlock=some g2:=rfl;obtain ⟨ua,hu⟩:=gN (Value.slice (some ⟨g2,0,none⟩) (((dY l).take k).length+1) cap2);rw [← hu] at hrow hown ⊢;clear hu;have hd:=fh DJ.o OQ.o hown (hfr.imp id (Nat.le_trans XB.o));have OB:=kI (bI.jd OB.o hgr (je DJ.o) (fun n hn=>by obtain ⟨h1,h2,_⟩:=bI.cN OA.o hn;exact ⟨h1.choose,h1.choose_spec,h2⟩));have EB:=kI (lg.keeps ah _ _ _ _ EB.o hk);have DJ:=kI hd;have OA:=kI hrow;have ym:Hid (∀ n,ua.ownBlock=some n→n < e2.heap.size):=kI (fun n (h:ua.ownBlock=some n)=>(bI.cN hrow h).2.2);have KW:=KW.x hk;have XW:Hid (Ext wl e2):=kI (Below.trans XW.o (hk.below XW.o.size));have XB:Hid (wb.heap.size≤e2.heap.size):=kI (Nat.le_trans XB.o hgr.size);clear hrow hgr hfr hk hown hd;(try go_wp2_with fail);refine hK.out _ _ ?_ (fun hHeld=>?_)
      ·exact Pf
      clear hK K;(try simp only [sP]);refine dt [11] ?_;refine rc (fun K hK=>?_);go_simp;have hx:Ext e2 ((e2.alloc (.cells #[.bool rz.neg,.slice s1 rz.num.length s2,.slice s3 rz.den.length s4] 25))):=(Ext.refl _).alloc _;have bz:af ((e2.alloc (.cells #[.bool rz.neg,.slice s1 rz.num.length s2,.slice s3 rz.den.length s4] 25))) e2.heap.size [.bool rz.neg,.slice s1 rz.num.length s2,.slice s3 rz.den.length s4].toArray 25:=af.new e2 #[.bool rz.neg,.slice s1 rz.num.length s2,.slice s3 rz.den.length s4] 25;obtain ⟨e3,mi⟩:=gN ((e2.alloc (.cells #[.bool rz.neg,.slice s1 rz.num.length s2,.slice s3 rz.den.length s4] 25)));rw [← mi] at hx bz ⊢;obtain ⟨kG,dk⟩:=gN (e2.heap.size);rw [← dk] at bz ⊢;have hnb:wb.heap.size≤kG:=by rw [dk];exact XB.o
      have OA:=OA.x hx;have OB:=OB.x hx;have EB:=EB.x hx;have KW:=kI (KW.o.trans (Keeps.ext hx));have XW:=XW.x hx;have ym:Hid (∀ n,ua.ownBlock=some n→n < e3.heap.size):=kI (fun n h=>Nat.lt_of_lt_of_le (ym.o n h) hx.size);have Kw:=kI hnb;have XB:Hid (wb.heap.size≤e3.heap.size):=kI (Nat.le_trans hnb (Nat.le_of_lt bz.lt));have N2:=kI bz;clear hx bz mi dk hnb;(try go_wp2_with fail);refine hK.out _ _ ?_ (fun hHeld=>?_)
      ·exact Pf
      clear hK K;(try simp only [sP]);refine dt [12] ?_;refine rc (fun K hK=>?_);rw [if_pos (aX rfl)];refine aZ e3 _ _ _ rfl wl.heap.size 25 (.agg #[.bool false,.slice none 0 0,.slice none 0 0]) 3 56 Tryz.underlying29 Tryz.dH rfl ah (lg.keeps ah) _ _ OB.o rfl [.bool rz.neg,.slice s1 rz.num.length s2,.slice s3 rz.den.length s4] rfl iW rz EB.o kG N2.o rfl JM JM XW.o.size ?_;intro g4 cap4 e4 hrow hgr hfr;have hk:=bI.gA OB.o hgr;have hown:(Value.slice (some ⟨g4,0,none⟩) (((ic vals l).take k).length+1) cap4).ownBlock=some g4:=rfl;obtain ⟨ub,hu⟩:=gN (Value.slice (some ⟨g4,0,none⟩) (((ic vals l).take k).length+1) cap4);rw [← hu] at hrow hown ⊢;clear hu;have hd:=dx (fh (dx DJ.o) ym.o hown hfr);have OA:=kI (bI.jd OA.o hgr (je (dx DJ.o)) (fun n hn=>by obtain ⟨h1,h2,_⟩:=bI.cN OB.o hn;exact ⟨h1.choose,h1.choose_spec,h2⟩));have DJ:=kI hd;have OB:=kI hrow;have KW:=KW.x hk;have XW:Hid (Ext wl e4):=kI (Below.trans XW.o (hk.below XW.o.size));have XB:Hid (wb.heap.size≤e4.heap.size):=kI (Nat.le_trans XB.o hgr.size);clear hrow hgr hfr hk hown hd;(try go_wp2_with fail);refine hK.out _ _ ?_ (fun hHeld=>?_)
      ·exact Pf
      clear hK K;(try simp only [sP]);exact HV e4 ua ub nF kG ⟨OA.o,OB.o,DJ.o,XW.o,⟨Kx (BY.o.keeps KW.o ah),VC.o.c3 XW.o⟩⟩
     ·go_simp;have hx:Ext e1 ((e1.alloc (.cells #[.bool rz.neg,.slice s1 rz.num.length s2,.slice s3 rz.den.length s4] 25))):=(Ext.refl _).alloc _;have bz:af ((e1.alloc (.cells #[.bool rz.neg,.slice s1 rz.num.length s2,.slice s3 rz.den.length s4] 25))) e1.heap.size [.bool rz.neg,.slice s1 rz.num.length s2,.slice s3 rz.den.length s4].toArray 25:=af.new e1 #[.bool rz.neg,.slice s1 rz.num.length s2,.slice s3 rz.den.length s4] 25;obtain ⟨e2,gi⟩:=gN ((e1.alloc (.cells #[.bool rz.neg,.slice s1 rz.num.length s2,.slice s3 rz.den.length s4] 25)));rw [← gi] at hx bz ⊢;obtain ⟨kG,dk⟩:=gN (e1.heap.size);rw [← dk] at bz ⊢;have hnb:wb.heap.size≤kG:=by rw [dk];exact XB.o
      have OA:=OA.x hx;have OB:=OB.x hx;have EA:=EA.x hx;have EB:=EB.x hx;have KW:=kI (KW.o.trans (Keeps.ext hx));have XW:=XW.x hx;have N1:=N1.x hx;have Kw:=kI hnb;have XB:Hid (wb.heap.size≤e2.heap.size):=kI (Nat.le_trans hnb (Nat.le_of_lt bz.lt));have N2:=kI bz;clear hx bz gi dk hnb;exact jK5
    ·go_simp;have hx:Ext wb ((wb.alloc (.cells #[.bool rz.neg,.slice s1 rz.num.length s2,.slice s3 rz.den.length s4] 25)).drew):=((Ext.refl _).alloc _).drew;have bz:af ((wb.alloc (.cells #[.bool rz.neg,.slice s1 rz.num.length s2,.slice s3 rz.den.length s4] 25)).drew) wb.heap.size [.bool rz.neg,.slice s1 rz.num.length s2,.slice s3 rz.den.length s4].toArray 25:=(af.new wb #[.bool rz.neg,.slice s1 rz.num.length s2,.slice s3 rz.den.length s4] 25).drew;obtain ⟨e1,jB⟩:=gN ((wb.alloc (.cells #[.bool rz.neg,.slice s1 rz.num.length s2,.slice s3 rz.den.length s4] 25)).drew);rw [← jB] at hx bz ⊢;obtain ⟨kG,dk⟩:=gN (wb.heap.size);rw [← dk] at bz ⊢;have hnb:wb.heap.size≤kG:=by rw [dk];exact XB.o
     have OA:=OA.x hx;have OB:=OB.x hx;have EA:=EA.x hx;have EB:=EB.x hx;have KW:=kI (KW.o.trans (Keeps.ext hx));have XW:=XW.x hx;have Kw:=kI hnb;have XB:Hid (wb.heap.size≤e1.heap.size):=kI (Nat.le_trans hnb (Nat.le_of_lt bz.lt));have N2:=kI bz;clear hx bz jB dk hnb;(try go_wp2_with fail);refine hK.out _ _ ?_ (fun hHeld=>?_)
     ·exact Pf
     clear hK K;(try simp only [sP]);refine dt [3] ?_;refine rc (fun K hK=>?_);go_simp;have hx:Ext e1 ((e1.alloc (.cells #[.bool ry.neg,.slice p1 ry.num.length d1,.slice p2 ry.den.length d2] 25))):=(Ext.refl _).alloc _;have bz:af ((e1.alloc (.cells #[.bool ry.neg,.slice p1 ry.num.length d1,.slice p2 ry.den.length d2] 25))) e1.heap.size [.bool ry.neg,.slice p1 ry.num.length d1,.slice p2 ry.den.length d2].toArray 25:=af.new e1 #[.bool ry.neg,.slice p1 ry.num.length d1,.slice p2 ry.den.length d2] 25;obtain ⟨e2,gi⟩:=gN ((e1.alloc (.cells #[.bool ry.neg,.slice p1 ry.num.length d1,.slice p2 ry.den.length d2] 25)));rw [← gi] at hx bz ⊢;obtain ⟨nF,fc⟩:=gN (e1.heap.size);rw [← fc] at bz ⊢;have hnb:wb.heap.size≤nF:=by rw [fc];exact XB.o
     have OA:=OA.x hx;have OB:=OB.x hx;have EA:=EA.x hx;have EB:=EB.x hx;have KW:=kI (KW.o.trans (Keeps.ext hx));have XW:=XW.x hx;have N2:=N2.x hx;have YB:=kI hnb;have XB:Hid (wb.heap.size≤e2.heap.size):=kI (Nat.le_trans hnb (Nat.le_of_lt bz.lt));have N1:=kI bz;clear hx bz gi fc hnb;exact jK5
   ·intro W xa yb n1 n2 hW;obtain ⟨oa,ob,dj,xx,hSW⟩:=hW;obtain ⟨O1,O2,D9,X9⟩:=dW oa ob dj xx;clear oa ob dj xx;refine tk 13 ?_;refine tk 14 ?_;exact kGr
  ·obtain rfl:k=l.length:=Z
   have tA:(dY l).take l.length=dY l:=List.take_of_length_le T8;have tB:(ic vals l).take l.length=ic vals l:=List.take_of_length_le (by rw [fL];exact Nat.le_refl _);rw [tA] at OA ⊢;rw [tB] at OB ⊢;have r1:=OA.o.rd;have r2:=OB.o.rd;rw [jT] at r1 ⊢;rw [fL] at r2 ⊢;have R1:=kI r1;have R2:=kI r2;replace A0:=kI (A0.o.ext XK.o);replace A1:=kI (A1.o.ext XK.o);replace A2:=kI (A2.o.ext XK.o);replace jA:=kI (jA.o.ext XK.o);replace kQ:=kI (kQ.o.ext XK.o);replace X:=kI (X.o.trans XK.o);clear DJ tA tB r1 r2 OA OB HV rE;go_wp2_with fail;refine (En.o _ _ _ R1.o R2.o).mono ?_;rintro e w1 ⟨⟨v,rfl,nn⟩,hx⟩;replace A0:=A0.x hx;replace A1:=A1.x hx;replace A2:=A2.x hx;replace jA:=jA.x hx;replace kQ:=kQ.x hx;replace X:=X.x hx;obtain ⟨s1,s2,s3,s4,rfl⟩:=nn.shape;have NS:=kI nn.rd;clear nn hx R1 R2 En;have HW:=kI (Nat.le_trans YA.o (show An≤An+1+1 by omega));by_cases h1:de=0
   rotate_left
   ·have E:=kI (Eo.o dr de rfl h1);have q1:(de != 0)=true:=by simpa using h1
    clear h1;obtain ⟨ji,jk,lA2⟩:=A2.o.q3;go_wp2_with fail;clear ji jk lA2;have hb6:=((A2.o).ep (.bool false) (.slice none 0 0) (.slice none 0 0)).alloc (.cells #[.bool dr.neg,.slice s1 dr.num.length s2,.slice s3 dr.den.length s4] 25);have hx6:Ext w ((((w1.setCell ⟨An+1+1,0,none⟩ (.bool false)).setCell ⟨An+1+1,1,none⟩ (.slice none 0 0)).setCell ⟨An+1+1,2,none⟩ (.slice none 0 0)).alloc (.cells #[.bool dr.neg,.slice s1 dr.num.length s2,.slice s3 dr.den.length s4] 25)):=((((X.o).set (p:=⟨An+1+1,0,none⟩) HW.o (.bool false)).set (p:=⟨An+1+1,1,none⟩) HW.o (.slice none 0 0)).set (p:=⟨An+1+1,2,none⟩) HW.o (.slice none 0 0)).trans ((Ext.refl _).alloc (.cells #[.bool dr.neg,.slice s1 dr.num.length s2,.slice s3 dr.den.length s4] 25));obtain ⟨W6,iS⟩:=gN (((((w1.setCell ⟨An+1+1,0,none⟩ (.bool false)).setCell ⟨An+1+1,1,none⟩ (.slice none 0 0)).setCell ⟨An+1+1,2,none⟩ (.slice none 0 0)).alloc (.cells #[.bool dr.neg,.slice s1 dr.num.length s2,.slice s3 dr.den.length s4] 25)));rw [← iS] at hb6 hx6 ⊢;clear iS;have nD:=kI hx6;clear hx6;refine bodyPost_ret (v:=.tuple #[.agg #[.bool false,.slice none 0 0,.slice none 0 0],.int .i64 de]) jDf rfl ⟨bG.mk (l:=zR) (aO.zero _ _) E.o,nD.o⟩
   subst h1;have hmu:=fun W va vb ha hb=>mb va vb d dr W ha hb xZ.o Yz.o;have hml:=fg d dr;have hs2:=HS2.o dr;have hs3:=Ii.o dr;obtain ⟨T,hT⟩:=gN (mulR d dr);rw [← hT] at hmu hml hs2 hs3;obtain ⟨mr,me⟩:=T;unfold bG at hmu;dsimp only at hmu hml;have Ke:=kI hmu;have Lv:=kI hml;have Er:=kI hs2;have Es:=kI hs3;clear hmu hml hs2 hs3 hT Eo HS2 Ii;obtain ⟨aK,fA0,aJ⟩:=A0.o.q3;go_wp2_with fail;clear aK fA0 aJ;obtain ⟨wd,hwd⟩:=gN (w1.alloc (.cells #[.bool dr.neg,.slice s1 dr.num.length s2,.slice s3 dr.den.length s4] 25));have hx:Ext w1 wd:=by rw [hwd];exact (Ext.refl _).alloc _
   have Lw:af wd w1.heap.size #[.bool dr.neg,.slice s1 dr.num.length s2,.slice s3 dr.den.length s4] 25:=by rw [hwd];exact af.new _ _ _
   rw [← hwd];obtain ⟨Dn,hDn⟩:=gN (w1.heap.size);rw [← hDn] at Lw ⊢;have DL:Hid (An+1+1 < Dn):=kI (by rw [hDn];exact A2.o.lt);replace A0:=A0.x hx;replace A1:=A1.x hx;replace A2:=A2.x hx;replace jA:=jA.x hx;replace kQ:=kQ.x hx;replace NS:=NS.x hx;replace X:=X.x hx;have BD:=kI Lw;clear hx Lw hwd hDn;refine (Ke.o _ _ _ jA.o NS.o).mono ?_;rintro e w2 ⟨⟨v,rfl,nn⟩,hx⟩;replace A0:=A0.x hx;replace A1:=A1.x hx;replace A2:=A2.x hx;replace jA:=jA.x hx;replace kQ:=kQ.x hx;replace NS:=NS.x hx;replace BD:=BD.x hx;replace X:=X.x hx;obtain ⟨t1,t2,t3,t4,rfl⟩:=nn.shape;have NT:=kI nn.rd;clear nn hx Ke;have hp:=i9.of (q:=mr.neg) (a1:=t1) (n1:=mr.num.length) (c1:=t2) (a2:=t3) (n2:=mr.den.length) (c2:=t4) (o:=0) BD.o pV;have hb1:af (((w2.setCell ⟨Dn,0,none⟩ (.bool mr.neg)).setCell ⟨Dn,1,none⟩ (.slice t1 mr.num.length t2)).setCell ⟨Dn,2,none⟩ (.slice t3 mr.den.length t4)) Dn #[.bool mr.neg,.slice t1 mr.num.length t2,.slice t3 mr.den.length t4] 25:=BD.o.ep _ _ _;have hb2:af (((w2.setCell ⟨Dn,0,none⟩ (.bool mr.neg)).setCell ⟨Dn,1,none⟩ (.slice t1 mr.num.length t2)).setCell ⟨Dn,2,none⟩ (.slice t3 mr.den.length t4)) (An+1) #[.bool co.neg,.slice a1 co.num.length c1,.slice a2 co.den.length c2,.slice a3 l.length c3] 83:=i9.blk (o:=0) A1.o NV;have hb3:af (((w2.setCell ⟨Dn,0,none⟩ (.bool mr.neg)).setCell ⟨Dn,1,none⟩ (.slice t1 mr.num.length t2)).setCell ⟨Dn,2,none⟩ (.slice t3 mr.den.length t4)) (An+1+1) #[.bool false,.slice none 0 0,.slice none 0 0] 25:=i9.blk (o:=0) A2.o NV;have hn1:bH (((w2.setCell ⟨Dn,0,none⟩ (.bool mr.neg)).setCell ⟨Dn,1,none⟩ (.slice t1 mr.num.length t2)).setCell ⟨Dn,2,none⟩ (.slice t3 mr.den.length t4)) (.agg #[.bool mr.neg,.slice t1 mr.num.length t2,.slice t3 mr.den.length t4]) mr:=hp.Lp NT.o;have hn2:bH (((w2.setCell ⟨Dn,0,none⟩ (.bool mr.neg)).setCell ⟨Dn,1,none⟩ (.slice t1 mr.num.length t2)).setCell ⟨Dn,2,none⟩ (.slice t3 mr.den.length t4)) (.agg #[.bool co.neg,.slice a1 co.num.length c1,.slice a2 co.den.length c2]) co:=hp.Lp kQ.o
   have eF:Ext w (((w2.setCell ⟨Dn,0,none⟩ (.bool mr.neg)).setCell ⟨Dn,1,none⟩ (.slice t1 mr.num.length t2)).setCell ⟨Dn,2,none⟩ (.slice t3 mr.den.length t4)):=cw (o:=0) X.o (Nat.le_trans HW.o NV);obtain ⟨C1,D1,D2,N1,N2,X9⟩:=od hb1 hb2 hb3 hn1 hn2 eF;have hne1:An+1≠Dn:=by have:=DL.o;omega
   have hne2:An+1+1≠Dn:=by have:=DL.o;omega
   clear hp hb1 hb2 hb3 hn1 hn2 eF NS jA A0;by_cases h1:me=0
   rotate_left
   ·have E:=kI (Er.out mr me uY uY h1);have q1:(me != 0)=true:=by simpa using h1
    clear h1;obtain ⟨Ly,Lz,LC⟩:=BD.o.q3;obtain ⟨ji,jk,lA2⟩:=A2.o.q3;go_wp2_with fail;clear Ly Lz LC ji jk lA2;have hb6:=(D2.o).ep (.bool false) (.slice none 0 0) (.slice none 0 0);have hx6:Ext w ((((((w2.setCell ⟨Dn,0,none⟩ (.bool mr.neg)).setCell ⟨Dn,1,none⟩ (.slice t1 mr.num.length t2)).setCell ⟨Dn,2,none⟩ (.slice t3 mr.den.length t4)).setCell ⟨An+1+1,0,none⟩ (.bool false)).setCell ⟨An+1+1,1,none⟩ (.slice none 0 0)).setCell ⟨An+1+1,2,none⟩ (.slice none 0 0)):=(((X9.o).set (p:=⟨An+1+1,0,none⟩) HW.o (.bool false)).set (p:=⟨An+1+1,1,none⟩) HW.o (.slice none 0 0)).set (p:=⟨An+1+1,2,none⟩) HW.o (.slice none 0 0);obtain ⟨W6,iS⟩:=gN (((((((w2.setCell ⟨Dn,0,none⟩ (.bool mr.neg)).setCell ⟨Dn,1,none⟩ (.slice t1 mr.num.length t2)).setCell ⟨Dn,2,none⟩ (.slice t3 mr.den.length t4)).setCell ⟨An+1+1,0,none⟩ (.bool false)).setCell ⟨An+1+1,1,none⟩ (.slice none 0 0)).setCell ⟨An+1+1,2,none⟩ (.slice none 0 0)));rw [← iS] at hb6 hx6 ⊢;clear iS;have nD:=kI hx6;clear hx6;refine bodyPost_ret (v:=.tuple #[.agg #[.bool false,.slice none 0 0,.slice none 0 0],.int .i64 me]) jDf rfl ⟨bG.mk (l:=zR) (aO.zero _ _) E.o,nD.o⟩
   subst h1;have had:=fun W va vb ha hb=>ma va vb co mr W ha hb jg.o Lv.o;have hE:=Es.out mr uY uY;obtain ⟨T,hT⟩:=gN (bL co mr);rw [← hT] at had hE;obtain ⟨t,te⟩:=T;unfold bG at had;dsimp only at had;have HAD:=kI had;have E:=kI hE;clear had hE hT Er Es;obtain ⟨cT,cU,lA1⟩:=A1.o.q3;obtain ⟨Ly,Lz,LC⟩:=BD.o.q3;go_wp2_with fail;clear cT cU lA1 Ly Lz LC;obtain ⟨we,hwe⟩:=gN ((((w2.setCell ⟨Dn,0,none⟩ (.bool mr.neg)).setCell ⟨Dn,1,none⟩ (.slice t1 mr.num.length t2)).setCell ⟨Dn,2,none⟩ (.slice t3 mr.den.length t4)));rw [← hwe] at C1 D1 D2 N1 N2 X9 ⊢;clear hwe hne1 hne2;replace A2:=D2;replace X:=X9;clear D2 X9 A1 BD NT kQ D1 C1;have X0:=kI X.o;refine (HAD.o _ _ _ N2.o N1.o).mono ?_;rintro e w3 ⟨⟨v,rfl,nn⟩,hx⟩;replace A2:=A2.x hx;replace N1:=N1.x hx;replace N2:=N2.x hx;replace X:=X.x hx;obtain ⟨x1,x2,x3,x4,rfl⟩:=nn.shape;have NN:=kI (aO.from nn X0.o);clear nn hx HAD X0;obtain ⟨ji,jk,lA2⟩:=A2.o.q3;go_wp2_with fail;clear ji jk lA2;have hb2:=A2.o.ep (.bool t.neg) (.slice x1 t.num.length x2) (.slice x3 t.den.length x4);have hn2:=NN.o.ib A2.o ah (.bool t.neg) (.slice x1 t.num.length x2) (.slice x3 t.den.length x4);have hx2:Ext w _:=((X.o.set (p:=⟨An+1+1,0,none⟩) HW.o (.bool t.neg)).set (p:=⟨An+1+1,1,none⟩) HW.o (.slice x1 t.num.length x2)).set (p:=⟨An+1+1,2,none⟩) HW.o (.slice x3 t.den.length x4);have CN:=kI hn2;have xX:=kI hx2;clear hn2 hx2;refine bodyPost_ret (v:=.tuple #[.agg #[.bool t.neg,.slice x1 t.num.length x2,.slice x3 t.den.length x4],.int .i64 te]) (by have k1:=hb2.cell;have k2:=hb2.free;have k3:=hb2.lt;clear hb2;simp only [results,Tryz.results136];go_simp) rfl ⟨bG.mk (l:=t) CN.o E.o,xX.o⟩
section
theorem bD {m:MD} (h:fS m=0):aE m.ag=0∧m.states.length≠0∧m.states.length≤200∧∀ s,s < m.states.length→qV m.states.length (m.states.getD s [])=0:=by
 unfold fS at h;by_cases h1:aE m.ag=0
 ·rw [if_neg JY] at h;by_cases h2:m.ag.neg=true∨1 < qv m.ag
  ·exact JT
  ·rw [if_neg h2] at h;by_cases h3:m.states.length=0
   ·rw [if_pos h3] at h;cases h
   ·rw [if_neg h3] at h;by_cases h4:200 < m.states.length
    ·rw [if_pos h4] at h;cases h
    ·rw [if_neg h4] at h;exact ⟨h1,h3,by omega,bS h⟩
 ·exact Pu
theorem dm {ac:List aL} (h:qV n ac=0):ac.length≠0∧ac.length≤6∧∀ a,a < ac.length→dZ n (ac.getD a dA)=0:=by
 unfold qV at h;by_cases h1:ac.length=0
 ·rw [if_pos h1] at h;cases h
 ·rw [if_neg h1] at h;by_cases h2:6 < ac.length
  ·exact JT
  ·rw [if_neg h2] at h;exact ⟨h1,by omega,bS h⟩
theorem fd {x:aL} (h:dZ n x=0):aE x.cost=0∧x.next.length≠0∧x.next.length≤64∧(∀ i,i < x.next.length→cL n x.next i=0)∧du zR (dY x.next)=(rep 1,0):=by
 unfold dZ at h;by_cases h1:aE x.cost=0
 ·rw [if_neg JY] at h;by_cases h2:x.next.length=0
  ·exact JT
  ·rw [if_neg h2] at h;by_cases h3:64 < x.next.length
   ·rw [if_pos h3] at h;cases h
   ·rw [if_neg h3] at h;by_cases h4:bZ (cL n x.next) x.next.length=0
    ·rw [if_neg (by simpa using h4)] at h;by_cases h5:(du zR (dY x.next)).2=0
     ·rw [if_neg (by simpa using h5)] at h;by_cases h6:(du zR (dY x.next)).1=rep 1
      ·exact ⟨h1,h2,by omega,bS h4,Prod.ext h6 h5⟩
      ·rw [if_neg h6] at h;cases h
     ·rw [if_pos h5] at h;exact absurd h h5
    ·rw [if_pos h4] at h;exact absurd h h4
 ·exact Pu
theorem j0 {l:List Out} (h:cL n l i=0):0≤(l.getD i dO).1∧(l.getD i dO).1 < n∧aE (l.getD i dO).2=0∧(l.getD i dO).2.neg=false:=by
 unfold cL at h;by_cases h1:(l.getD i dO).1 < 0∨(n:Int)≤(l.getD i dO).1
 ·rw [if_pos h1] at h;cases h
 ·rw [if_neg h1] at h;by_cases h2:0 < i∧(l.getD i dO).1≤(l.getD (i - 1) dO).1
  ·exact JT
  ·rw [if_neg h2] at h;by_cases h3:aE (l.getD i dO).2=0
   ·rw [if_neg (by simpa using h3)] at h;by_cases h4:(l.getD i dO).2.neg=true∨(l.getD i dO).2.num=[]
    ·rw [if_pos h4] at h;cases h
    ·refine ⟨by omega,by omega,h3,?_⟩;cases hh:(l.getD i dO).2.neg
     ·rfl
     ·exact absurd (.inl hh) h4
   ·rw [if_pos h3] at h;exact absurd h h3
theorem bU {m:MD} {v:List RR} (h:cJ m v=0):fS m=0∧v.length=m.states.length:=by
 unfold cJ at h;by_cases h1:fS m=0
 ·rw [if_neg JY] at h;by_cases h2:v.length=m.states.length
  ·exact ⟨h1,h2⟩
  ·exact JT
 ·exact Pu
theorem jC (mv vv xv:Value) (m:MD) (vals:List RR) (s a:Nat) (w:World) (hm:dd w mv m) (hv:aT w vv vals) (hx:ee w xv (m.act s a)) (hlm:eG m) (hlv:bQ vals) (h:cJ m vals=0) (hs:s < m.states.length) (ha:a < (m.states.getD s []).length) :
  Calls Tryz.prog 136 #[mv,vv,xv] w fun e w'=>bG w w' e (aC m vals (m.act s a))∧Ext w w':=by
 obtain ⟨h1,h2⟩:=bU h;obtain ⟨_,_,_,h3⟩:=bD h1;obtain ⟨_,_,h4⟩:=dm (h3 s hs);obtain ⟨_,_,h5,h6,_⟩:=fd (h4 a ha);exact Ca mv vv xv m vals _ w hm hv hx hlm.1 hlv (hlm.2 s a) (fun i hi=>by
  obtain ⟨g1,g2,_⟩:=j0 (h6 i hi);unfold MD.act;exact ⟨g1,by rw [h2];exact g2⟩) h5
theorem mN (m:MD) (v:List RR) (x:aL):bj (aC m v x).1:=by
 unfold aC;split
 ·exact bO
 ·split
  ·exact bO
  ·exact dX _ _
theorem mo (m:MD) (p:List Int) (v:List RR):(sk m p v).length=p.length:=by simp [sk]
theorem wC {m:MD} {p:List Int} {v:List RR} (h:k < p.length):(sk m p v).take (k+1)=(sk m p v).take k ++ [(aC m v (m.act k (p.getD k 0).toNat)).1]:=by
 rw [bC _ k zR (by rw [mo];exact h)];congr 2
 exact kL6
theorem AH {m:MD} {p:List Int} {v:List RR} (h:cJ m v≠0):aU m p v=([],cJ m v):=if_pos h
theorem AL {m:MD} {p:List Int} {v:List RR} (h:cJ m v=0) (h2:p.length≠m.states.length):aU m p v=([],16):=by unfold aU;rw [if_neg iw,if_pos h2]
theorem AM {m:MD} {p:List Int} {v:List RR} (h:cJ m v=0) (h2:p.length=m.states.length) {k:Nat} (hk:k < p.length) (h4:∀ j,j < k→xY m p v j=0) {c:Int} (h5:xY m p v k=c) (h6:c≠0):aU m p v=([],c):=by
 have e:=cz h4 (by rw [h5];exact h6) hk;unfold aU;rw [if_neg iw,if_neg Bk,e,h5,if_pos h6]
theorem AQ {m:MD} {p:List Int} {v:List RR} (h:cJ m v=0) (h2:p.length=m.states.length) (h4:∀ j,j < p.length→xY m p v j=0):aU m p v=(sk m p v,0):=by
 have e:=bg h4;unfold aU;rw [if_neg iw,if_neg Bk,e,if_neg (fun h=>h rfl)]
def LE (A:Nat) (mv lv sv av xv:Value) (k:Nat) (a:Nat) (sb so ab ao:Nat) (r:RR) (e:Int) (wB:World) (j:Nat) (v:Value) (W:World):Prop:=
 match j with
 | 0=>v=mv
 | 1=>v=lv
 | 2=>v=.pointer (some ⟨A,3,none⟩)
 | 3=>v=sv
 | 4=>v=.int .i64 (k:Nat)
 | 5=>v=.pointer (some ⟨sb,so+k,none⟩)
 | 6=>v=av
 | 7=>v=.int .i64 (a:Nat)
 | 8=>v=.pointer (some ⟨ab,ao+a*4,none⟩)
 | 9=>v=xv
 | 10=>∃ s1 s2 s3 s4,v=.tuple #[.agg #[.bool r.neg,.slice s1 r.num.length s2,.slice s3 r.den.length s4],.int .i64 e]∧aO wB W (.agg #[.bool r.neg,.slice s1 r.num.length s2,.slice s3 r.den.length s4]) r
 | 11=>∃ s1 s2 s3 s4,v=.tuple #[.agg #[.bool r.neg,.slice s1 r.num.length s2,.slice s3 r.den.length s4],.int .i64 e]∧aO wB W (.agg #[.bool r.neg,.slice s1 r.num.length s2,.slice s3 r.den.length s4]) r
 | 12=>∃ s1 s2 s3 s4,v=.agg #[.bool r.neg,.slice s1 r.num.length s2,.slice s3 r.den.length s4]∧aO wB W (.agg #[.bool r.neg,.slice s1 r.num.length s2,.slice s3 r.den.length s4]) r
 | 13=>v=.int .i64 e
 | 14=>∃ b,v=.pointer (some ⟨b,0,none⟩)∧wB.heap.size≤b∧af W b #[.bool false,.slice none 0 0,.slice none 0 0] 25
 | _=>True
theorem Et {A:Nat} {mv sv av xv:Value} {a:Nat} {sb so ab ao:Nat} {r:RR} {e:Int} (h:LE A mv lv sv av xv k a sb so ab ao r e wB j v W) (x:Ext W W'):LE A mv lv sv av xv k a sb so ab ao r e wB j v W':=by
 match j,h with
 | 0,h=>exact h
 | 1,h=>exact h
 | 2,h=>exact h
 | 3,h=>exact h
 | 4,h=>exact h
 | 5,h=>exact h
 | 6,h=>exact h
 | 7,h=>exact h
 | 8,h=>exact h
 | 9,h=>exact h
 | 10,⟨s1,s2,s3,s4,h1,h2⟩=>exact ⟨s1,s2,s3,s4,h1,h2.ext x⟩
 | 11,⟨s1,s2,s3,s4,h1,h2⟩=>exact ⟨s1,s2,s3,s4,h1,h2.ext x⟩
 | 12,⟨s1,s2,s3,s4,h1,h2⟩=>exact ⟨s1,s2,s3,s4,h1,h2.ext x⟩
 | 13,h=>exact h
 | 14,⟨b,h0,h1,h2⟩=>exact ⟨b,h0,h1,h2.ext x⟩
 | _+15,_=>trivial
theorem sI (mv pv vv:Value) (m:MD) (p:List Int) (vals:List RR) (w:World) (hm:dd w mv m) (hp:aY .i64 w pv p) (hv:aT w vv vals) (hlm:eG m) (hlv:bQ vals) :
  Calls Tryz.prog 78 #[mv,pv,vv] w fun e w'=>dN w w' e (aU m p vals)∧Ext w w':=by
 have hck:=fun W mv vv (h:dd W mv m) (k:aT W vv vals)=>iF mv vv m vals W h k hlm;have hsc:=fun W mv vv xv s a (h:dd W mv m) (k:aT W vv vals) (hx:ee W xv (m.act s a))=>jC mv vv xv m vals s a W h k hx hlm hlv;have QY:=AH (m:=m) (p:=p) (v:=vals);have QZ:=AL (m:=m) (p:=p) (v:=vals);have Q0:=fun k=>AM (m:=m) (p:=p) (v:=vals) (k:=k);have Q5:=AQ (m:=m) (p:=p) (v:=vals);have kA:=mo m p vals;have hut:=fun k=>wC (m:=m) (p:=p) (v:=vals) (k:=k);have HM:=kI hm;obtain ⟨m1,n1,m2,n2,m3,n3,rfl,hmd,hst⟩:=hm;have hsl:m.states.length≤9223372036854775807:=by obtain ⟨_,_,_,h⟩:=hst.shape;exact h
 obtain ⟨ap,cp,rfl,hpc,hpm,_⟩:=hp.get;have hpl:p.length≤9223372036854775807:=Z
 obtain ⟨av,cv,rfl,rA,hvm,fv,hvf⟩:=hv.get;have hvl:vals.length≤9223372036854775807:=Z
 obtain ⟨HP,HV,HST,gY,nL,Pz,Py,Q6,Q7,JN,YC⟩:=C5 hp hv hst hck hsc QY QZ Q0 Q5 kA hut;clear hp hv hmd hst hck hsc hpc hpm rA hvm fv hvf QY QZ Q0 Q5 kA hut hlm hlv;have bb0:=(af.new w #[.bool m.ag.neg,.slice m1 m.ag.num.length n1,.slice m2 m.ag.den.length n2,.slice m3 m.states.length n3] 28);have x0:Ext w (w.alloc (.cells #[.bool m.ag.neg,.slice m1 m.ag.num.length n1,.slice m2 m.ag.den.length n2,.slice m3 m.states.length n3] 28)):=((Ext.refl w).alloc _);have A0:=kI bb0;have X:=kI x0;clear x0 bb0;replace HM:=kI (HM.o.ext X.o);replace HP:=kI (HP.o.ext X.o);replace HV:=kI (HV.o.ext X.o);replace HST:=kI (HST.o.ext X.o);go_enter Tryz.func78,Tryz.ntmps78
 obtain ⟨aK,fA0,aJ⟩:=A0.o.q3;go_wp2_with fail;refine (gY.o _ _ _ HM.o HV.o).mono ?_;rintro e w1 ⟨rfl,hx⟩;clear aK fA0 aJ;revert X;revert A0;revert HST;revert HV;revert HP;revert HM;refine lf hx ?_;intro HM HP HV HST A0 X;clear hx gY;by_cases h1:cJ m vals=0
 rotate_left
 ·exact kF2
 rw [h1];by_cases h2:p.length=m.states.length
 rotate_left
 ·exact zMw
 have q2:((p.length:Int) != (m.states.length:Int))=false:=by rw [h2];simp
 have H2:=kI h2;have H1:=kI h1;have Df:Hid (p.length≤200):=kI kZz;have HE:=kI (fun k=>Q6.o k h1 h2);have HI:=kI (Q7.o h1 h2);clear h1 h2 Pz Py Q6 Q7;obtain ⟨aK,fA0,aJ⟩:=A0.o.q3;go_wp2_with fail;clear aK fA0 aJ;clear q2;obtain ⟨wl,hwl⟩:=gN (w1);rw [← hwl] at HM HP HV HST A0 X ⊢;clear hwl;have WL:=kI X.o.size;obtain ⟨An,hAn⟩:=gN (w.heap.size);rw [← hAn] at A0 ⊢;clear hAn;go_loopw [6,29] (fun v i wr=>∃ k:Nat,k≤p.length∧i=.int .i64 k∧(∀ j,j < k→xY m p vals j=0)∧bm wl.heap.size wr v ((sk m p vals).take k)∧Ext wl wr) (fun _ i _=>p.length - (intOf i).toNat)
 case atStart=>exact ⟨0,Nat.zero_le _,rfl,(fun j hj=>by omega),bm.nil _ _,Ext.refl _⟩
 case round=>
  obtain ⟨wk,hwk⟩:=gN (wr);subst hwk;obtain ⟨k,hk,rfl,hok,hown,hx⟩:=hrel;obtain ⟨XK,OW,OK⟩:=cC hx hown hok;revert X;revert A0;revert HST;revert HV;revert HP;revert HM;refine lf hx ?_;intro HM HP HV HST A0 X;have XS:=kI X.o.size;have XL:=kI XK.o.size;have Nz:=kI (fun q (hq:wk.heap.size≤q)=>bm.tS OW.o hq);clear hx hown hok;by_cases hlt:k < p.length
  ·have hks:k < m.states.length:=by have:=H2.o;omega
   obtain ⟨bp,op,rfl,s1,s2⟩:=iE HP.o hlt;obtain ⟨sb,so,ai,ci,rfl,t0,t1,t2⟩:=HST.o.at hks;have hact:m.act k (p.getD k 0).toNat=(m.states.getD k []).getD (p.getD k 0).toNat dA:=rfl;have hpe:fD m p k=if p.getD k 0 < 0∨((m.states.getD k []).length:Int)≤p.getD k 0 then 8 else 0:=rfl;have hun:xY m p vals k=if fD m p k≠0 then fD m p k else (aC m vals (m.act k (p.getD k 0).toNat)).2:=rfl;have hut:=YC.o k hlt;obtain ⟨ac,hac⟩:=gN (m.states.getD k []);have iY:=kI hac;obtain ⟨pk,hpk⟩:=gN (p.getD k 0);rw [← hac] at t1 t2 hact hpe;rw [← hpk] at s2 hact hpe hun hut;have hal:ac.length≤9223372036854775807:=by obtain ⟨_,_,_,h⟩:=t2.shape;exact h
   have RA:=kI t2;have q1:(0:Int)≤(k:Int):=Z
   have q2:(k:Int) < (p.length:Int):=Z
   have q3:(k:Int) < (m.states.length:Int):=Z
   clear t2 hac hpk;by_cases d1:pk < 0
   ·have E:=kI (HE.o k hlt OK.o (c:=8) jTo ah);clear hun hpe hact hut;exact NJ
   by_cases d2:(ac.length:Int)≤pk
   ·have E:=kI (HE.o k hlt OK.o (c:=8) jWe ah);clear hun hpe hact hut;exact NJ
   rw [show fD m p k=0 from hpe.trans (if_neg Z)] at hun;replace hun:=hun.trans (if_neg (fun h=>h rfl));obtain ⟨ia,ha⟩:∃ n:Nat,pk=n:=⟨pk.toNat,by omega⟩;subst ha;rw [Int.toNat_natCast] at hun hact hut;have hal2:ia < ac.length:=Z
   obtain ⟨ab,ao,p1,e1,p2,e2,p3,e3,rfl,zz⟩:=RA.o.at hal2;have hrd:=zz.rd;obtain ⟨⟨y0,y1,y2,y3,-⟩,y4,-⟩:=zz;have hsc:=fun W mv vv xv (h:dd W mv m) (g:aT W vv vals) (hx:ee W xv (m.act k ia))=>nL.o W mv vv xv k ia h g hx H1.o hks (by rw [← iY.o];exact hal2);obtain ⟨x,hxx⟩:=gN (m.act k ia);rw [← hxx] at hun hact hut hsc;rw [← hact] at y1 y2 y3 y4 hrd;obtain ⟨R,hR⟩:=gN (aC m vals x);rw [← hR] at hun hut hsc;obtain ⟨r,e⟩:=R;unfold bG at hsc;dsimp only at hun hut hsc;obtain ⟨yv,zP,KD,RX⟩:=dW hsc hun hut hrd;have q4:(0:Int)≤(ia:Int):=Z
   have q5:(ia:Int) < (ac.length:Int):=Z
   clear hpe hun hact hut hsc hrd hxx hR hal2 iY nL;obtain ⟨aK,fA0,aJ⟩:=A0.o.q3;go_wp2_with fail;clear aK fA0 aJ;refine bM 15 13 (LE An (.agg #[.bool m.ag.neg,.slice m1 m.ag.num.length n1,.slice m2 m.ag.den.length n2,.slice (some ⟨sb,so,none⟩) m.states.length n3]) (.slice av vals.length cv) (.slice (some ⟨sb,so,none⟩) m.states.length n3) (.slice (some ⟨ab,ao,none⟩) ac.length ci) (.agg #[.bool x.cost.neg,.slice p1 x.cost.num.length e1,.slice p2 x.cost.den.length e2,.slice p3 x.next.length e3]) k ia sb so ab ao r e wk) rfl ak ak ak (fun _ _ _ _ h x=>Et h x) (fun _ _ d _ _ h=>by cases d <;> exact h) ?_ ?_ ?_
   ·refine ⟨?_,?_,?_,?_,?_,?_,?_,?_,?_,?_,?_,?_,?_,?_,?_,trivial⟩
    ·exact kHa
    ·exact zG9
    ·exact kOp
    ·intro a W hW hB hD K hK;obtain ⟨v49,e49,Gt⟩:=aQ (hD 2 _ 49 rfl rfl ak);obtain rfl:=Gt;exact Po
    ·exact jFv
    ·intro a W hW hB hD K hK;obtain ⟨v50,e50,h50⟩:=aQ (hD 3 _ 50 rfl rfl ak);obtain rfl:=h50;obtain ⟨v51,e51,Q8⟩:=aQ (hD 4 _ 51 rfl rfl ak);obtain rfl:=Q8;exact fu
    ·intro a W hW hB hD K hK;obtain ⟨v52,e52,Q9⟩:=aQ (hD 5 _ 52 rfl rfl ak);obtain rfl:=Q9;have q9:=(hW.cell (p:=⟨sb,so+k,none⟩) t0).trans t1;have l9:=Nat.lt_of_lt_of_le t0 hW.size;exact fu
    ·exact qNf
    ·intro a W hW hB hD K hK;obtain ⟨v53,e53,Ra⟩:=aQ (hD 6 _ 53 rfl rfl ak);obtain rfl:=Ra;obtain ⟨v54,e54,LF⟩:=aQ (hD 7 _ 54 rfl rfl ak);obtain rfl:=LF;exact fu
    ·intro a W hW hB hD K hK;obtain ⟨v55,e55,YD⟩:=aQ (hD 8 _ 55 rfl rfl ak);obtain rfl:=YD;have k1:=(hW.cell (p:=⟨ab,ao+ia*4,none⟩) y0).trans y1;have k2:=(hW.cell (p:=⟨ab,ao+ia*4+1,none⟩) y0).trans y2;have k3:=(hW.cell (p:=⟨ab,ao+ia*4+2,none⟩) y0).trans y3;have k4:=(hW.cell (p:=⟨ab,ao+ia*4+3,none⟩) y0).trans y4;have l9:=Nat.lt_of_lt_of_le y0 hW.size;exact fu
    ·intro a W hW hB hD K hK;obtain ⟨v47,e47,h47⟩:=aQ (hD 0 _ 47 rfl rfl ak);obtain rfl:=h47;obtain ⟨v48,e48,h48⟩:=aQ (hD 1 _ 48 rfl rfl ak);obtain rfl:=h48;obtain ⟨v56,e56,YE⟩:=aQ (hD 9 _ 56 rfl rfl ak);obtain rfl:=YE;exact kNb
    ·intro a W hW hB hD K hK;obtain ⟨v57,e57,h57⟩:=aQ (hD 10 _ 57 rfl rfl ak);obtain ⟨s1,s2,s3,s4,rfl,hn⟩:=h57;exact qO6
    ·intro a W hW hB hD K hK;obtain ⟨v46,e46,h46⟩:=aQ (hD 11 _ 46 rfl rfl ak);obtain ⟨s1,s2,s3,s4,rfl,hn⟩:=h46;exact qO6
    ·intro a W hW hB hD K hK;obtain ⟨v46,e46,h46⟩:=aQ (hD 11 _ 46 rfl rfl ak);obtain ⟨s1,s2,s3,s4,rfl,hn⟩:=h46;exact fu
    ·exact qHj
   ·intro a W hW hB hD;have h46:=hD 11 _ 46 rfl rfl ak;obtain ⟨v46,e46⟩:∃ x,a.tmps.getD 46 undef=x:=⟨_,rfl⟩;rw [e46] at h46;obtain ⟨s1,s2,s3,s4,rfl,hn⟩:=h46;exact ⟨.int .i64 e,fun w9=>cQ e46 rfl rfl w9,rfl⟩
   intro w9 hx;simp only [dR,List.take_succ_cons,List.take_zero,List.drop_succ_cons,List.drop_zero];rintro u0 - u1 - u2 - u3 - u4 - u5 - u6 - u7 - u8 - u9 - u10 - u11 - u12 h12 u13 h13 u14 zW;obtain ⟨x1,x2,x3,x4,rfl,hn⟩:=h12;obtain rfl:u13=.int .i64 e:=h13;obtain ⟨bn,rfl,hbn,hbz⟩:=zW;simp only [Act.put,List.setIfInBounds_toArray,List.set_cons_zero,List.set_cons_succ];obtain ⟨NN,zO,BZ⟩:=cC hn hbn hbz;revert X;revert A0;revert HST;revert HV;revert HP;revert HM;revert XK;revert OW;refine lf hx ?_;intro OW XK HM HP HV HST A0 X;clear hx hn hbn hbz t0 t1 s1 s2 y0 y1 y2 y3 y4 RX RA;obtain ⟨Wj,Wk,Wl⟩:=BZ.o.q3;by_cases he:e=0
   rotate_left
   ·exact zZa
   subst he;have hp:=i9.of (q:=r.neg) (a1:=x1) (n1:=r.num.length) (c1:=x2) (a2:=x3) (n2:=r.den.length) (c2:=x4) (o:=0) BZ.o pV;have hb1:af (((w9.setCell ⟨bn,0,none⟩ (.bool r.neg)).setCell ⟨bn,1,none⟩ (.slice x1 r.num.length x2)).setCell ⟨bn,2,none⟩ (.slice x3 r.den.length x4)) bn #[.bool r.neg,.slice x1 r.num.length x2,.slice x3 r.den.length x4] 25:=BZ.o.ep _ _ _;have hn1:aO wk (((w9.setCell ⟨bn,0,none⟩ (.bool r.neg)).setCell ⟨bn,1,none⟩ (.slice x1 r.num.length x2)).setCell ⟨bn,2,none⟩ (.slice x3 r.den.length x4)) (.agg #[.bool r.neg,.slice x1 r.num.length x2,.slice x3 r.den.length x4]) r:=NN.o.ib BZ.o ah _ _ _;exact jNx
  ·exact zD4
section
variable {P:Program} {ops:Array Oper} {Q:Exit→Act→List Frame→World→Prop} {a:Act} {cs:List Frame} {w:World}
theorem nM (h:∀ t,wpOpsS P ops Q (Region.schedule (P.follows .mixedOrders) ops t) a cs { w with drawn:=w.drawn+1 }):(Code.region id ops true).wpS P Q a cs w:=
 fun b k hb hr=>let ⟨e,a',cs',w',q,r⟩:=wp_opsS _ a cs _ (h _) b k hb hr;⟨e,a',cs',w',q,.of_steps (.one step_region_draw) r⟩
theorem fo {t:Nat} {acc r:List Nat} (hr:Region.ready .any ops listed=r) (hi:r[t % r.length]?=some i) :
  Region.linearise.go .any ops (fuel+1) t listed acc=Region.linearise.go .any ops fuel (t / r.length) (listed.setIfInBounds i true) (i :: acc):=by
 subst hr;simp only [Region.linearise.go];change (match (Region.ready .any ops listed)[t % (Region.ready .any ops listed).length]? with
  | some i=>Region.linearise.go .any ops fuel (t / (Region.ready .any ops listed).length) (listed.setIfInBounds i true) (i :: acc)
  | none=>acc.reverse)=_
 rw [hi]
theorem LG (h0:Region.ready .any ops #[false,false,false,false]=[0,1]) (h1:Region.ready .any ops #[true,false,false,false]=[1]) (h2:Region.ready .any ops #[false,true,false,false]=[0])
  (h3:Region.ready .any ops #[true,true,false,false]=[2]) (h4:Region.ready .any ops #[true,true,true,false]=[3]) (hs:ops.size=4) (t:Nat) :
  Region.linearise.go .any ops ops.size t (Array.replicate ops.size false) []=[0,1,2,3]∨Region.linearise.go .any ops ops.size t (Array.replicate ops.size false) []=[1,0,2,3]:=by
 rw [hs];have e0:(Array.replicate 4 false)=#[false,false,false,false]:=rfl;rw [e0];have hm:t % 2=0∨t % 2=1:=Z
 have s1:∀ n,n % 1=0:=fun n=>Nat.mod_one n;rcases hm with hm|hm
 ·left;rw [fo h0 (i:=0) (by simp [hm]),show (#[false,false,false,false]:Array Bool).setIfInBounds 0 true=#[true,false,false,false] from rfl,
   fo h1 (i:=1) NZ,show (#[true,false,false,false]:Array Bool).setIfInBounds 1 true=#[true,true,false,false] from rfl,
   fo h3 (i:=2) NZ,show (#[true,true,false,false]:Array Bool).setIfInBounds 2 true=#[true,true,true,false] from rfl,
   fo h4 (i:=3) NZ]
  rfl
 ·right;rw [fo h0 (i:=1) (by simp [hm]),show (#[false,false,false,false]:Array Bool).setIfInBounds 1 true=#[false,true,false,false] from rfl,
   fo h2 (i:=0) NZ,show (#[false,true,false,false]:Array Bool).setIfInBounds 0 true=#[true,true,false,false] from rfl,
   fo h3 (i:=2) NZ,show (#[true,true,false,false]:Array Bool).setIfInBounds 2 true=#[true,true,true,false] from rfl,
   fo h4 (i:=3) NZ]
  rfl
theorem bV (hm:P.follows .mixedOrders=true) (h0:Region.ready .any ops #[false,false,false,false]=[0,1]) (h1:Region.ready .any ops #[true,false,false,false]=[1]) (h2:Region.ready .any ops #[false,true,false,false]=[0])
  (h3:Region.ready .any ops #[true,true,false,false]=[2]) (h4:Region.ready .any ops #[true,true,true,false]=[3]) (hs:ops.size=4)
  (g1:wpOpsS P ops Q [0,1,2,3] a cs w.drew) (g2:wpOpsS P ops Q [1,0,2,3] a cs w.drew):(Code.region id ops true).wpS P Q a cs w:=by
 refine nM fun t=>?_;simp only [Region.schedule,hm,Bool.true_or,if_true];have hd:{ w with drawn:=w.drawn+1 }=w.drew:=rfl;rw [hd];rcases LG h0 h1 h2 h3 h4 hs t with h|h
 ·rw [show Region.linearise .any ops t=Region.linearise.go .any ops ops.size t (Array.replicate ops.size false) [] from rfl,h];exact g1
 ·rw [show Region.linearise .any ops t=Region.linearise.go .any ops ops.size t (Array.replicate ops.size false) [] from rfl,h];exact g2
end
def dC (c:Int):PanicEntry:={ v:=.iface 37 (.int .i64 c),recovered:=false }
theorem cH {fn:Func} {R:Ending→World→Prop} {ch:List PanicEntry} (hd:a.defers=[]) (h:R (.panicked ch) w):bodyPost P fn R (.panic ch) a w:=⟨hd,h⟩
theorem wD (c:Int) (w:World):Calls Tryz.prog 73 #[.int .i64 c] w fun e w'=>e=(if c=0 then .returned (.tuple #[]) else .panicked [dC c])∧w'=w:=by
 by_cases h:c=0
 ·subst h;go_enter Tryz.func73,Tryz.ntmps73
  go_wp2
  go_end0
  exact ⟨rfl,rfl⟩
 ·have q1:(c != 0)=true:=by simpa using h
  rw [if_neg h];go_enter Tryz.func73,Tryz.ntmps73
  go_wp2
  exact cH rfl ⟨rfl,rfl⟩
theorem iG (e:Int) (w:World):Calls Tryz.prog 71 #[.nilIface,.int .i64 e] w fun en w'=>en=.returned (.int .i64 e)∧w'=w:=by
 go_enter Tryz.func71,Tryz.ntmps71
 exact KI
theorem iH (c e:Int) (w:World):Calls Tryz.prog 71 #[.iface 37 (.int .i64 c),.int .i64 e] w fun en w'=>en=.returned (.int .i64 c)∧w'=w:=by
 have hta:∀ w,(Instr.typeAssert (.iface 37 (.int .i64 c)) 20 37 true).run Tryz.prog w=.ok (.tuple #[.int .i64 c,.bool true]) w:=fun _=>by first|rfl|kernel_rfl
 go_enter Tryz.func71,Tryz.ntmps71
 exact KI
end
section
theorem bW {fn:Func} {c:Code} {R:Ending→FrameMode→World→Prop} 
  (hf:P.funcs[f]?=some fn) (hb:fn.body=some c)
  (h:∀ (c₀:Frame) (cs:List Frame),c₀.mode=u→
   c.wpS P (bodyPostS P fn c₀ cs R) { tmps:=args ++ Array.replicate (fn.ntmps - args.size) undef,defers:=[] } (c₀ :: cs) w) :
  CallsDIn Fence.wide n P f args u w R:=by
 refine ⟨trivial,fun c₀ cs hu _=>?_⟩;let b:Frame:={ (default:Frame) with fn:=f,kind:=.deferred }
 have henter:Frame.enter P f args .deferred =
   b.at { tmps:=args ++ Array.replicate (fn.ntmps - args.size) undef,defers:=[] } [.code c]:=by
  simp [Frame.enter,Frame.at,hf,hb,b]
 obtain ⟨e,a',cs',w',hq,harr⟩:=h c₀ cs hu b [] rfl rfl;rw [← henter] at harr;cases e with
 | normal=>
  obtain ⟨hd,u',rfl,v,hr,hR⟩:=hq;exact ⟨.returned v,u',w',_,hR,comesIn_wide.2 (Steps.trans harr (.one step_end)),rfl,rfl,rfl,hd,fn,hf,hr⟩
 | ret=>
  obtain ⟨hd,u',rfl,v,hr,hR⟩:=hq;obtain ⟨todo,hs⟩:=harr;exact ⟨.returned v,u',w',_,hR,comesIn_wide.2 hs,rfl,rfl,rfl,hd,fn,hf,hr⟩
 | panic chain=>
  obtain ⟨hd,u',rfl,hR⟩:=hq;obtain ⟨todo,hs⟩:=harr;exact ⟨.panicked chain,u',w',_,hR,comesIn_wide.2 hs,rfl,rfl,rfl,hd,fn,hf⟩
 | exit id=>exact hq.elim
 | goto l=>exact hq.elim
 | outgrown=>
  obtain ⟨u',hR⟩:=hq;exact ⟨.outgrown,u',w',b,hR,comesIn_wide.2 (harr.resolve_left (by simp [b])),rfl,rfl,trivial⟩
theorem gJ {R:Ending→FrameMode→World→Prop} (h:CallsDIn Fence.wide n P f args u w R):CallsD P f args u w R:=
 fun c cs hu=>let ⟨e,u',w',fr,r,s,k,_,g⟩:=h.2 c cs hu (room_wide _);⟨e,u',w',fr,r,comesIn_wide.1 s,k,g⟩
section
variable {P:Program} {fn:Func} {R:Ending→World→Prop} {n:Nat}
theorem dS {Kf:Array Value} (h:results fn tmps=results fn Kf):∀ (ds:List Deferred) (u:FrameMode) (w:World),LeavesInM Fence.wide n P fn tmps R ds u w→LeavesInM Fence.wide n P fn Kf R ds u w
 | [],u,w,hl=>by
  cases u with
  | run=>exact hl
  | returning=>obtain ⟨v,h1,h2⟩:=hl;exact ⟨v,h ▸ h1,h2⟩
  | panicking ch=>exact hl
 | d :: ds,u,w,hl=>by
  obtain ⟨hu,hl⟩:=hl;refine ⟨hu,?_⟩;rcases hl with ⟨r,w',h1,h2,h3⟩|⟨hn,fv,cap,f,args,h1,h2,h3,h4⟩
  ·exact .inl ⟨r,w',h1,h2,dS h ds u w' h3⟩
  ·refine .inr ⟨hn,fv,cap,f,args,h1,h2,h3,h4.mono ?_⟩;intro e u' w' he;cases e with
   | returned v=>exact dS h ds _ _ he
   | panicked ch=>exact dS h ds _ _ he
   | outgrown=>exact he
theorem iI {r:Nat} (hu:u≠.run) (hk:w.heap[r]?=some (.deferred (some []))) (h:LeavesInM Fence.wide n P fn tmps R ds u (w.putObj r (.deferred none))) :
  LeavesInM Fence.wide n P fn tmps R ({ target:=.collected r,args:=#[] } :: ds) u w:=⟨hu,.inl ⟨r,_,rfl,run_takeDeferred hk,h⟩⟩
theorem iJ {fv:Fn} {cap dargs:Array Value} (hu:u≠.run) (hinv:(invoke (.fn fv cap) dargs).run P w=.ok (.enter f args) w)
  (h:CallsDIn Fence.wide (n - 1) P f args u w fun e u' w'=>match e with
   | .returned _=>LeavesInM Fence.wide n P fn tmps R ds (settle u') w'
   | .panicked chain=>LeavesInM Fence.wide n P fn tmps R ds (raised u' chain) w'
   | .outgrown=>R .outgrown w'):LeavesInM Fence.wide n P fn tmps R ({ target:=.fn fv cap,args:=dargs } :: ds) u w:=
 ⟨hu,.inr ⟨(fun h=>(by cases h)),fv,cap,f,args,rfl,hinv,fun _ _=>trivial,h.mono (fun e u' w' he=>by cases e <;> exact he)⟩⟩
theorem kR {r:Nat} {o o2:Obj} (hk:w.heap[r]?=some o) (ho:∀ c t,o≠.cells c t):∀ (i:Nat) (c:Array Value) (t:TypeId),af w i c t→af (w.putObj r o2) i c t:=fun i c t b=>by
 have e:i≠r:=fun e=>by subst e;unfold af at b;rw [b] at hk;injection hk with hk;exact ho c t hk.symm
 exact (World.putObj_heap_other e).trans b
theorem kT {r:Nat} {o:Obj} (h:Ext w0 w) (hr:w0.heap.size≤r):Ext w0 (w.putObj r o):=
 ⟨h.os,h.tape,h.output,by have:=h.size;simpa using this,fun i hi=>(World.putObj_heap_other Z).trans (h.block i hi)⟩
end
end
theorem uf (be b1:Nat) (w:World) (hbe:af w be #[.int .i64 0] 37) :
  CallsDIn Fence.wide nn Tryz.prog 75 #[.pointer (some ⟨be,0,none⟩),.pointer (some ⟨b1,0,none⟩)] .returning w fun e u' w'=>e=.returned (.tuple #[])∧u'=.returning∧w'=(w.setCell ⟨be,0,none⟩ (.int .i64 0)).drew:=by
 have he:=(hbe.cell 0);have hz:=hbe.free 0;simp only [List.getElem?_toArray,List.getElem?_cons_zero] at he;refine bW Tryz.func75 rfl fun c₀ cs hu=>?_;apply wpS_seq;refine bV ak ak ak ak ak ak rfl ?_ ?_;all_goals
  simp [wpOpsS,go_sem,recoverD,hu,Tryz.ntmps75,Exit.thenS,he,hz];refine (iG 0 _).mono ?_;exact qUa
theorem ug (be b1:Nat) (c e0:Int) (hc:c≠0) (older:List PanicEntry) (w:World) (Cb:Value) (Cc:TypeId) (hbe:af w be #[.int .i64 e0] 37) (hb1:af w b1 #[Cb] Cc) (LH:b1≠be) :
  CallsDIn Fence.wide nn Tryz.prog 75 #[.pointer (some ⟨be,0,none⟩),.pointer (some ⟨b1,0,none⟩)] (.panicking (dC c :: older)) w fun e u' w'=>e=.returned (.tuple #[])∧u'=.panicking ({ dC c with recovered:=true } :: older)∧w'=((w.setCell ⟨be,0,none⟩ (.int .i64 c)).setCell ⟨b1,0,none⟩ (.slice none 0 0)).drew:=by
 have q1:(c != 0)=true:=by simpa using hc
 unfold dC;have he:=(hbe.cell 0);have hz:=hbe.free 0;simp only [List.getElem?_toArray,List.getElem?_cons_zero] at he;have Cd:=hb1.cell 0;have YF:=hb1.free 0;simp only [List.getElem?_toArray,List.getElem?_cons_zero] at Cd;refine bW Tryz.func75 rfl fun c₀ cs hu=>?_;apply wpS_seq;refine bV ak ak ak ak ak ak rfl ?_ ?_;all_goals
  simp [wpOpsS,go_sem,recoverD,hu,Tryz.ntmps75,Exit.thenS,he,hz];refine (iH c e0 _).mono ?_;exact qUa
theorem wE (be b1:Nat) (w:World) (hbe:af w be #[.int .i64 0] 37) :
  CallsD Tryz.prog 75 #[.pointer (some ⟨be,0,none⟩),.pointer (some ⟨b1,0,none⟩)] .returning w fun e u' w'=>e=.returned (.tuple #[])∧u'=.returning∧w'=(w.setCell ⟨be,0,none⟩ (.int .i64 0)).drew:=gJ (uf (nn:=0) be b1 w hbe)
theorem jD (be b1:Nat) (c e0:Int) (hc:c≠0) (older:List PanicEntry) (w:World) (Cb:Value) (Cc:TypeId) (hbe:af w be #[.int .i64 e0] 37) (hb1:af w b1 #[Cb] Cc) (LH:b1≠be) :
  CallsD Tryz.prog 75 #[.pointer (some ⟨be,0,none⟩),.pointer (some ⟨b1,0,none⟩)] (.panicking (dC c :: older)) w fun e u' w'=>e=.returned (.tuple #[])∧u'=.panicking ({ dC c with recovered:=true } :: older)∧w'=((w.setCell ⟨be,0,none⟩ (.int .i64 c)).setCell ⟨b1,0,none⟩ (.slice none 0 0)).drew:=gJ (ug (nn:=0) be b1 c e0 hc older w Cb Cc hbe hb1 LH)
theorem qh (be b1 b2:Nat) (w:World) (hbe:af w be #[.int .i64 0] 37) :
  CallsDIn Fence.wide nn Tryz.prog 70 #[.pointer (some ⟨be,0,none⟩),.pointer (some ⟨b1,0,none⟩),.pointer (some ⟨b2,0,none⟩)] .returning w fun e u' w'=>e=.returned (.tuple #[])∧u'=.returning∧w'=(w.setCell ⟨be,0,none⟩ (.int .i64 0)).drew:=by
 have he:=(hbe.cell 0);have hz:=hbe.free 0;simp only [List.getElem?_toArray,List.getElem?_cons_zero] at he;refine bW Tryz.func70 rfl fun c₀ cs hu=>?_;apply wpS_seq;refine bV ak ak ak ak ak ak rfl ?_ ?_;all_goals
  simp [wpOpsS,go_sem,recoverD,hu,Tryz.ntmps70,Exit.thenS,he,hz];refine (iG 0 _).mono ?_;exact jFr
theorem qi (be b1 b2:Nat) (c e0:Int) (hc:c≠0) (older:List PanicEntry) (w:World) (Cb xb2:Value) (Cc tb2:TypeId) (hbe:af w be #[.int .i64 e0] 37) (hb1:af w b1 #[Cb] Cc) (LH:b1≠be) (hb2:af w b2 #[xb2] tb2) (nb2:b2≠be) (n12:b2≠b1) :
  CallsDIn Fence.wide nn Tryz.prog 70 #[.pointer (some ⟨be,0,none⟩),.pointer (some ⟨b1,0,none⟩),.pointer (some ⟨b2,0,none⟩)] (.panicking (dC c :: older)) w fun e u' w'=>e=.returned (.tuple #[])∧u'=.panicking ({ dC c with recovered:=true } :: older)∧w'=(((w.setCell ⟨be,0,none⟩ (.int .i64 c)).setCell ⟨b1,0,none⟩ (.slice none 0 0)).setCell ⟨b2,0,none⟩ (.slice none 0 0)).drew:=by
 have q1:(c != 0)=true:=by simpa using hc
 unfold dC;have he:=(hbe.cell 0);have hz:=hbe.free 0;simp only [List.getElem?_toArray,List.getElem?_cons_zero] at he;have Cd:=hb1.cell 0;have YF:=hb1.free 0;have kb2:=hb2.cell 0;have zb2:=hb2.free 0;simp only [List.getElem?_toArray,List.getElem?_cons_zero] at Cd kb2;refine bW Tryz.func70 rfl fun c₀ cs hu=>?_;apply wpS_seq;refine bV ak ak ak ak ak ak rfl ?_ ?_;all_goals
  simp [wpOpsS,go_sem,recoverD,hu,Tryz.ntmps70,Exit.thenS,he,hz];refine (iH c e0 _).mono ?_;exact jFr
theorem qj (be b1:Nat) (w:World) (hbe:af w be #[.int .i64 0] 37) :
  CallsDIn Fence.wide nn Tryz.prog 77 #[.pointer (some ⟨be,0,none⟩),.pointer (some ⟨b1,0,none⟩)] .returning w fun e u' w'=>e=.returned (.tuple #[])∧u'=.returning∧w'=(w.setCell ⟨be,0,none⟩ (.int .i64 0)).drew:=by
 have he:=(hbe.cell 0);have hz:=hbe.free 0;simp only [List.getElem?_toArray,List.getElem?_cons_zero] at he;refine bW Tryz.func77 rfl fun c₀ cs hu=>?_;apply wpS_seq;refine bV ak ak ak ak ak ak rfl ?_ ?_;all_goals
  simp [wpOpsS,go_sem,recoverD,hu,Tryz.ntmps77,Exit.thenS,he,hz];refine (iG 0 _).mono ?_;exact zG5
theorem ql (be b1:Nat) (c e0:Int) (hc:c≠0) (older:List PanicEntry) (w:World) (Cb:Value) (Cc:TypeId) (hbe:af w be #[.int .i64 e0] 37) (hb1:af w b1 #[Cb] Cc) (LH:b1≠be) :
  CallsDIn Fence.wide nn Tryz.prog 77 #[.pointer (some ⟨be,0,none⟩),.pointer (some ⟨b1,0,none⟩)] (.panicking (dC c :: older)) w fun e u' w'=>e=.returned (.tuple #[])∧u'=.panicking ({ dC c with recovered:=true } :: older)∧w'=((w.setCell ⟨be,0,none⟩ (.int .i64 c)).setCell ⟨b1,0,none⟩ (.slice none 0 0)).drew:=by
 have q1:(c != 0)=true:=by simpa using hc
 unfold dC;have he:=(hbe.cell 0);have hz:=hbe.free 0;simp only [List.getElem?_toArray,List.getElem?_cons_zero] at he;have Cd:=hb1.cell 0;have YF:=hb1.free 0;simp only [List.getElem?_toArray,List.getElem?_cons_zero] at Cd;refine bW Tryz.func77 rfl fun c₀ cs hu=>?_;apply wpS_seq;refine bV ak ak ak ak ak ak rfl ?_ ?_;all_goals
  simp [wpOpsS,go_sem,recoverD,hu,Tryz.ntmps77,Exit.thenS,he,hz];refine (iH c e0 _).mono ?_;exact zG5
theorem rF (be b1:Nat) (w:World) (hbe:af w be #[.int .i64 0] 37) :
  CallsD Tryz.prog 77 #[.pointer (some ⟨be,0,none⟩),.pointer (some ⟨b1,0,none⟩)] .returning w fun e u' w'=>e=.returned (.tuple #[])∧u'=.returning∧w'=(w.setCell ⟨be,0,none⟩ (.int .i64 0)).drew:=gJ (qj (nn:=0) be b1 w hbe)
theorem rG (be b1:Nat) (c e0:Int) (hc:c≠0) (older:List PanicEntry) (w:World) (Cb:Value) (Cc:TypeId) (hbe:af w be #[.int .i64 e0] 37) (hb1:af w b1 #[Cb] Cc) (LH:b1≠be) :
  CallsD Tryz.prog 77 #[.pointer (some ⟨be,0,none⟩),.pointer (some ⟨b1,0,none⟩)] (.panicking (dC c :: older)) w fun e u' w'=>e=.returned (.tuple #[])∧u'=.panicking ({ dC c with recovered:=true } :: older)∧w'=((w.setCell ⟨be,0,none⟩ (.int .i64 c)).setCell ⟨b1,0,none⟩ (.slice none 0 0)).drew:=gJ (ql (nn:=0) be b1 c e0 hc older w Cb Cc hbe hb1 LH)
theorem nN (be b1:Nat) (w:World) (hbe:af w be #[.int .i64 0] 37) :
  CallsDIn Fence.wide nn Tryz.prog 80 #[.pointer (some ⟨be,0,none⟩),.pointer (some ⟨b1,0,none⟩)] .returning w fun e u' w'=>e=.returned (.tuple #[])∧u'=.returning∧w'=(w.setCell ⟨be,0,none⟩ (.int .i64 0)).drew:=by
 have he:=(hbe.cell 0);have hz:=hbe.free 0;simp only [List.getElem?_toArray,List.getElem?_cons_zero] at he;refine bW Tryz.func80 rfl fun c₀ cs hu=>?_;apply wpS_seq;refine bV ak ak ak ak ak ak rfl ?_ ?_;all_goals
  simp [wpOpsS,go_sem,recoverD,hu,Tryz.ntmps80,Exit.thenS,he,hz];refine (iG 0 _).mono ?_;exact jRa
theorem nO (be b1:Nat) (c e0:Int) (hc:c≠0) (older:List PanicEntry) (w:World) (Cb:Value) (Cc:TypeId) (hbe:af w be #[.int .i64 e0] 37) (hb1:af w b1 #[Cb] Cc) (LH:b1≠be) :
  CallsDIn Fence.wide nn Tryz.prog 80 #[.pointer (some ⟨be,0,none⟩),.pointer (some ⟨b1,0,none⟩)] (.panicking (dC c :: older)) w fun e u' w'=>e=.returned (.tuple #[])∧u'=.panicking ({ dC c with recovered:=true } :: older)∧w'=((w.setCell ⟨be,0,none⟩ (.int .i64 c)).setCell ⟨b1,0,none⟩ (.slice none 0 0)).drew:=by
 have q1:(c != 0)=true:=by simpa using hc
 unfold dC;have he:=(hbe.cell 0);have hz:=hbe.free 0;simp only [List.getElem?_toArray,List.getElem?_cons_zero] at he;have Cd:=hb1.cell 0;have YF:=hb1.free 0;simp only [List.getElem?_toArray,List.getElem?_cons_zero] at Cd;refine bW Tryz.func80 rfl fun c₀ cs hu=>?_;apply wpS_seq;refine bV ak ak ak ak ak ak rfl ?_ ?_;all_goals
  simp [wpOpsS,go_sem,recoverD,hu,Tryz.ntmps80,Exit.thenS,he,hz];refine (iH c e0 _).mono ?_;exact jRa
end Go.Proofs.YtnnjbaijcaiohaaGreat
