/- Walks and lemmas. -/
import Derived.Test.YtnnjbaijcaiohaaGreatSzA9
import Derived.Test.YtnnjbaijcaiohaaGreatSzA15
import Derived.Test.YtnnjbaijcaiohaaGreatSzA5
import Derived.WalkMore
import Derived.Test.YtnnjbaijcaiohaaGreatSzA0
import Derived.Test.YtnnjbaijcaiohaaGreatSzA10
import Derived.Test.YtnnjbaijcaiohaaGreatSzA14
import Derived.Test.YtnnjbaijcaiohaaGreatSzA8
set_option linter.unusedVariables false
set_option linter.unusedSimpArgs false
set_option maxRecDepth 100000
set_option maxHeartbeats 16000000
namespace Go.Proofs.YtnnjbaijcaiohaaGreat
open Go.RowKit
variable {a a0:Act} {listed:Array Bool} {T:Array Bool→World→Prop} {ops:Array Oper} {ps:Array Tmp} {args tmps:Array Value} {assign body:Code} {Q:Exit→Act→World→Prop} {F:Fence} {u:FrameMode} {f:FuncId} {c s:Int} {plan:List (List Int)} {ds:List Deferred} {l l1 l2 la lb lq:List Int} {rest:List Oper} {cs h vs xs:List Value} {An B C H L N b b0 bx c1 c2 cap d1 d2 fuel g i id j jn k m1 m2 n n1 n2 nf nn off xn y:Nat} {X:Nat→Prop} {oi om:Oper} {a1 a2 a3 xa:Option Addr} {P:Program} {R p p0 p1 p10 p11 p12 p13 p2 p3 p4 p5 p6 p7 p8 p9:Prop} {md:Region.Mode} {α:Type} {e t t1 t2 t3:TypeId} {lv v vb vr z:Value} {A W W' W0 w w' w0 w2 w3 w4 wB:World} {S S1 S2:World→Prop}
theorem jL (mv vv:Value) (m:MD) (vals:List RR) (s a:Nat) (w:World) (hm:dd w mv m) (hv:aT w vv vals) (Mo:eG m) (hlv:bQ vals) (hs:s < m.states.length) (hss:m.states.length≤1000) (ha:a < (m.states.getD s []).length) (UF:(m.states.getD s []).length≤1000)
  (hto:∀ i,i < (m.act s a).next.length→0≤((m.act s a).next.getD i dO).1∧((m.act s a).next.getD i dO).1 < vals.length) (hlen:(m.act s a).next.length≤64) :
  Calls Tryz.prog 127 #[mv,vv,.int .i64 (s:Nat),.int .i64 (a:Nat)] w fun e w'=>bG w w' e (aC m vals (m.act s a))∧Ext w w':=by
 obtain ⟨m1,n1,m2,n2,m3,n3,rfl,hmd,hms⟩:=hm;obtain ⟨gb,go',ga,gc,rfl,hgb⟩:=hms.at hs;obtain ⟨al,hal⟩:=gN ((m.states.getD s []).length);obtain ⟨g0,g1,g2⟩:=hgb;obtain ⟨Ss,xo,a1,c1,a2,c2,a3,c3,rfl,hxa⟩:=g2.at ha;rw [← hal] at g1 ha UF;obtain ⟨wA,rD⟩:=Mo.2 s a;have hlm:=Mo.1;obtain ⟨x,hxx⟩:=gN (m.act s a);have Zh:iT w Ss (xo+a*4) x a1 c1 a2 c2 a3 c3:=by rw [hxx];exact hxa
 rw [← hxx] at wA rD hto hlen ⊢;obtain ⟨⟨y0,y1,y2,y3,hco⟩,y4,hos⟩:=Zh;clear hxa hxx hal Mo g2 hms;have q1:(0:Int)≤(s:Int):=Z
 have q2:(s:Int) < (m.states.length:Int):=Z
 have q3:(0:Int)≤(a:Int):=Z
 have q4:(a:Int) < (al:Int):=Z
 obtain ⟨d,ss⟩:=m;obtain ⟨co,l⟩:=x;dsimp only at hmd hco hos hlm wA rD hto hlen g1 y1 y2 y3 y4 hs hss q2 ⊢;obtain ⟨av,cv,rfl,rA,hvm,fv,hvf⟩:=hv.get;have hvl:vals.length≤9223372036854775807:=Z
 obtain ⟨HV,jA,kQ,rE,xZ,yV,jg,HL2,Yy,HLEN⟩:=Gv hv hmd hco hos hlm hlv wA rD hto hlen;have qg:=fun W va vb ha hb=>xE va vb (dY l) (ic vals l) W ha hb (AC rD) (AD hlv);have hdl:=wx (dY l) (ic vals l);have hS1:=fun r e=>AE (d:=d) (co:=co) (ss:=ss) (v:=vals) (l:=l) (r:=r) (e:=e);have hS2:=fun r s e=>AF (d:=d) (co:=co) (ss:=ss) (v:=vals) (l:=l) (r:=r) (s:=s) (e:=e);have hS3:=fun r s=>AG (d:=d) (co:=co) (ss:=ss) (v:=vals) (l:=l) (r:=r) (s:=s);obtain ⟨DT,QW⟩:=gN (i6 (dY l) (ic vals l));rw [← QW] at qg hdl hS1 hS2 hS3;obtain ⟨dr,de⟩:=DT;dsimp only at hdl;unfold bG at qg;dsimp only at qg;obtain ⟨En,Yz,Eo,HS2,Ii⟩:=iR qg hdl hS1 hS2 hS3;clear hv hmd hco hos hlm hlv wA rD hto rA hvm fv hvf qg hdl hS1 hS2 hS3 QW ha hs;have bb0:=((af.new w #[.bool d.neg,.slice m1 d.num.length n1,.slice m2 d.den.length n2,.slice (some ⟨gb,go',none⟩) ss.length n3] 28).alloc (.cells #[.bool false,.slice none 0 0,.slice none 0 0] 25));have bb1:=(af.new (w.alloc (.cells #[.bool d.neg,.slice m1 d.num.length n1,.slice m2 d.den.length n2,.slice (some ⟨gb,go',none⟩) ss.length n3] 28)) #[.bool false,.slice none 0 0,.slice none 0 0] 25);rw [World.size_alloc] at bb1;have x0:Ext w ((w.alloc (.cells #[.bool d.neg,.slice m1 d.num.length n1,.slice m2 d.den.length n2,.slice (some ⟨gb,go',none⟩) ss.length n3] 28)).alloc (.cells #[.bool false,.slice none 0 0,.slice none 0 0] 25)):=(((Ext.refl w).alloc _).alloc _);obtain ⟨A0,A1,X⟩:=cC bb0 bb1 x0;clear x0 bb0 bb1;replace HV:=kI (HV.o.ext X.o);replace jA:=kI (jA.o.ext X.o);replace kQ:=kI (kQ.o.ext X.o);replace rE:=kI (rE.o.ext X.o);have z0:=Nat.lt_of_lt_of_le g0 X.o.size;have z1:=(X.o.cell (p:=⟨gb,go'+s,none⟩) g0).trans g1;have u0:=Nat.lt_of_lt_of_le y0 X.o.size;have u1:=(X.o.cell (p:=⟨Ss,xo+a*4,none⟩) y0).trans y1;have u2:=(X.o.cell (p:=⟨Ss,xo+a*4+1,none⟩) y0).trans y2;have u3:=(X.o.cell (p:=⟨Ss,xo+a*4+2,none⟩) y0).trans y3;have u4:=(X.o.cell (p:=⟨Ss,xo+a*4+3,none⟩) y0).trans y4
 clear g0 g1 y0 y1 y2 y3 y4;go_enter Tryz.func127,Tryz.ntmps127
 obtain ⟨aK,fA0,aJ⟩:=A0.o.q3;go_wp2_with fail;clear aK fA0 aJ;clear z0 z1 u0 u1 u2 u3 u4 q1 q2 q3 q4;obtain ⟨wh,hwh⟩:=gN (((w.alloc (.cells #[.bool d.neg,.slice m1 d.num.length n1,.slice m2 d.den.length n2,.slice (some ⟨gb,go',none⟩) ss.length n3] 28)).alloc (.cells #[.bool false,.slice none 0 0,.slice none 0 0] 25)));rw [← hwh] at HV jA kQ rE A0 A1 X ⊢;obtain ⟨An,hAn⟩:=gN (w.heap.size);rw [← hAn] at A0 A1 ⊢;have hsz:wh.heap.size=An+1+1:=by rw [hwh,World.size_alloc,World.size_alloc,hAn]
 have b2:=af.new wh #[.bool co.neg,.slice a1 co.num.length c1,.slice a2 co.den.length c2,.slice a3 l.length c3] 83;have hx:Ext wh (wh.alloc (.cells #[.bool co.neg,.slice a1 co.num.length c1,.slice a2 co.den.length c2,.slice a3 l.length c3] 83)):=(Ext.refl wh).alloc _;obtain ⟨wl,hwl⟩:=gN (wh.alloc (.cells #[.bool co.neg,.slice a1 co.num.length c1,.slice a2 co.den.length c2,.slice a3 l.length c3] 83));rw [← hwl] at b2 hx ⊢;rw [hsz] at b2;have A2:=kI b2;replace A0:=A0.x hx;replace A1:=A1.x hx;replace HV:=HV.x hx;replace jA:=jA.x hx;replace kQ:=kQ.x hx;replace rE:=rE.x hx;replace X:=X.x hx;have YA:=kI (Nat.le_of_eq hAn.symm);clear hAn hsz b2 hx hwl hwh;go_loopw [11,12,13] (fun va vb i wr=>∃ k:Nat,k≤l.length∧i=.int .i64 k∧bI wl.heap.size wr va ((dY l).take k)∧bI wl.heap.size wr vb ((ic vals l).take k)∧(∀ q,va.ownBlock=some q→vb.ownBlock≠some q)∧Ext wl wr) (fun _ _ i _=>l.length - (intOf i).toNat)
 case atStart=>exact ⟨0,Nat.zero_le _,rfl,au.nil _ _ _ _ _,au.nil _ _ _ _ _,(fun q h=>by cases h),Ext.refl _⟩
 case round=>
  obtain ⟨wq,hwq⟩:=gN (wr);subst hwq;obtain ⟨k,hk,rfl,hoa,hob,hdj,hx⟩:=hrel;obtain ⟨aa,ac,rfl⟩:=bI.ue hoa;obtain ⟨ba,bc,rfl⟩:=bI.ue hob;obtain ⟨XK,OA,OB,DJ⟩:=dW hx hoa hob hdj;clear hx hoa hob hdj;have AK:=kI (A2.o.ext XK.o);by_cases hlt:k < l.length
  ·obtain ⟨b,off,p1,d1,p2,d2,rfl,z0,z1,z2,z3,z4,z5⟩:=rE.o.at hlt;obtain ⟨t1,t2⟩:=Yy.o k hlt;have htA:=bC (dY l) k zR Ue;have yW:=bC (ic vals l) k zR (by rw [fL];exact hlt);rw [qe] at htA;rw [yU hlt] at yW;have hlA:((dY l).take k).length=k:=by rw [List.length_take,jT];omega
   have hlB:((ic vals l).take k).length=k:=by rw [List.length_take,fL];omega
   obtain ⟨y,eQ⟩:=gN (l.getD k dO);rw [← eQ] at z1 z2 z3 z4 z5 t1 t2 htA yW;obtain ⟨tw,ry⟩:=y;dsimp only at z1 z2 z3 z4 z5 t1 t2 htA yW;obtain ⟨yi,hyi⟩:∃ n:Nat,tw=n:=⟨tw.toNat,by omega⟩;rw [hyi,Int.toNat_natCast] at yW;rw [hyi] at z1 t1 t2;clear hyi;have Ep:yi < vals.length:=Z
   obtain ⟨bw,ow,s1,s2,s3,s4,rfl,u0,u1,u2,u3,u4⟩:=HV.o.at Ep;obtain ⟨rz,hrz⟩:=gN (vals.getD yi zR);rw [← hrz] at u1 u2 u3 u4 yW;have eA:=lg.old z5 (Nat.le_refl _);have eB:=lg.old u4 (Nat.le_refl _);have VC:Hid (wg wl bw (ow+yi*3) rz s1 s2 s3 s4):=kI ⟨u0,u1,u2,u3⟩;obtain ⟨EA,EB,TA,TB,LA,LB⟩:=od eA eB htA yW hlA hlB;have HKB:=kI (show k≤64 by have:=HLEN.o;omega);have Kv:=kI (fun (W:World) (x:Ext wl W)=>(show W.cell? ⟨b,off+k*4,none⟩=some (.int .i64 (yi:Nat))∧W.cell? ⟨b,off+k*4+1,none⟩=some (.bool ry.neg)∧W.cell? ⟨b,off+k*4+2,none⟩=some (.slice p1 ry.num.length d1)∧W.cell? ⟨b,off+k*4+3,none⟩=some (.slice p2 ry.den.length d2) from ⟨(x.cell (p:=⟨b,off+k*4,none⟩) z0).trans z1,(x.cell (p:=⟨b,off+k*4+1,none⟩) z0).trans z2,(x.cell (p:=⟨b,off+k*4+2,none⟩) z0).trans z3,(x.cell (p:=⟨b,off+k*4+3,none⟩) z0).trans z4⟩));have k0:=AK.o.cell;have k1:=AK.o.free;have k2:=AK.o.lt;have q2:(0:Int)≤(k:Int):=Z
   have q3:(k:Int) < (l.length:Int):=Z
   have q4:(0:Int)≤(yi:Int):=Z
   have q5:(yi:Int) < (vals.length:Int):=Z
   rw [LA.o,LB.o];clear z0 z1 z2 z3 z4 z5 u0 u1 u2 u3 u4 eA eB htA yW hlA hlB hrz eQ t1 t2 Ep;go_wp2_with fail;clear k0 k1 k2;obtain ⟨wb,hwb⟩:=gN (wq);rw [← hwb] at OA OB XK AK ⊢;clear hwb;have XW:=XK;replace EA:=kI (EA.o.ext XW.o);replace EB:=kI (EB.o.ext XW.o);have KW:Hid (Keeps wl.heap.size 25 wb wb):=kI (Keeps.ext (Ext.refl _));refine wp_region_held_drew (S:=(fun W=>W.cell? ⟨An+1+1,3,none⟩=some (.slice (some ⟨b,off,none⟩) l.length c3)∧(W.cell? ⟨b,off+k*4,none⟩=some (.int .i64 (yi:Nat))∧W.cell? ⟨b,off+k*4+1,none⟩=some (.bool ry.neg)∧W.cell? ⟨b,off+k*4+2,none⟩=some (.slice p1 ry.num.length d1)∧W.cell? ⟨b,off+k*4+3,none⟩=some (.slice p2 ry.den.length d2))∧(W.cell? ⟨bw,ow+yi*3,none⟩=some (.bool rz.neg)∧W.cell? ⟨bw,ow+yi*3+1,none⟩=some (.slice s1 rz.num.length s2)∧W.cell? ⟨bw,ow+yi*3+2,none⟩=some (.slice s3 rz.den.length s4)))) ak ?_ (fun hHeld=>?_)
   ·exact ⟨AK.o.drew.cell 3,Kv.o _ XW.o.drew,VC.o.c3 XW.o.drew⟩
   refine tk 0 ?_;refine tk 1 ?_;refine tk 2 ?_;refine tk 3 ?_;refine tk 4 ?_;refine tk 5 ?_;refine tk 6 ?_;refine tk 9 ?_;refine tk 10 ?_;refine tk 11 ?_;refine tk 12 ?_;refine tk 13 ?_;refine tk 14 ?_;refine tk 15 ?_;refine tk 16 ?_;refine tk 17 ?_;refine tk 18 ?_;obtain ⟨va,hva⟩:=gN (Value.slice aa k ac);obtain ⟨vb,hvb⟩:=gN (Value.slice ba k bc);rw [LA.o] at OA DJ;rw [LB.o] at OB DJ;rw [← hva] at OA DJ ⊢;rw [← hvb] at OB DJ ⊢;clear hva hvb;have ym:=kI (fun n (h:va.ownBlock=some n)=>(bI.cN OA.o h).2.2);have OQ:=kI (fun n (h:vb.ownBlock=some n)=>(bI.cN OB.o h).2.2);have XB:Hid (wb.heap.size≤wb.heap.size):=kI (Nat.le_refl _);apply Ih (F:=fun W x y=>bI wl.heap.size W x (((dY l).take k) ++ [ry])∧bI wl.heap.size W y (((ic vals l).take k) ++ [rz])∧(∀ q,x.ownBlock=some q→y.ownBlock≠some q)∧Ext wl W∧(fun W=>W.cell? ⟨An+1+1,3,none⟩=some (.slice (some ⟨b,off,none⟩) l.length c3)∧(W.cell? ⟨b,off+k*4,none⟩=some (.int .i64 (yi:Nat))∧W.cell? ⟨b,off+k*4+1,none⟩=some (.bool ry.neg)∧W.cell? ⟨b,off+k*4+2,none⟩=some (.slice p1 ry.num.length d1)∧W.cell? ⟨b,off+k*4+3,none⟩=some (.slice p2 ry.den.length d2))∧(W.cell? ⟨bw,ow+yi*3,none⟩=some (.bool rz.neg)∧W.cell? ⟨bw,ow+yi*3+1,none⟩=some (.slice s1 rz.num.length s2)∧W.cell? ⟨bw,ow+yi*3+2,none⟩=some (.slice s3 rz.den.length s4))) W)
   ·intro HV;refine dt [7,19] ?_;refine AllReadyH.cons rfl (fun K hK=>?_) (AllReadyH.cons rfl (fun K hK=>?_) AllReadyH.nil)
    ·go_simp;have hx:Ext wb ((wb.alloc (.cells #[.bool ry.neg,.slice p1 ry.num.length d1,.slice p2 ry.den.length d2] 25)).drew):=((Ext.refl _).alloc _).drew;have bz:af ((wb.alloc (.cells #[.bool ry.neg,.slice p1 ry.num.length d1,.slice p2 ry.den.length d2] 25)).drew) wb.heap.size [.bool ry.neg,.slice p1 ry.num.length d1,.slice p2 ry.den.length d2].toArray 25:=(af.new wb #[.bool ry.neg,.slice p1 ry.num.length d1,.slice p2 ry.den.length d2] 25).drew;obtain ⟨e1,jB⟩:=gN ((wb.alloc (.cells #[.bool ry.neg,.slice p1 ry.num.length d1,.slice p2 ry.den.length d2] 25)).drew);rw [← jB] at hx bz ⊢;obtain ⟨nF,fc⟩:=gN (wb.heap.size);rw [← fc] at bz ⊢;have hnb:wb.heap.size≤nF:=by rw [fc];exact XB.o
     have OA:=OA.x hx;have OB:=OB.x hx;have EA:=EA.x hx;have EB:=EB.x hx;have KW:=kI (KW.o.trans (Keeps.ext hx));have XW:=XW.x hx;have YB:=kI hnb;have XB:Hid (wb.heap.size≤e1.heap.size):=kI (Nat.le_trans hnb (Nat.le_of_lt bz.lt));have N1:=kI bz;clear hx bz jB fc hnb;(try go_wp2_with fail);refine hK.out _ _ ?_ (fun hHeld=>?_)
     ·exact Pa
     clear hK K;(try simp only [sP]);refine dt [8,19] ?_;refine AllReadyH.cons rfl (fun K hK=>?_) (AllReadyH.cons rfl (fun K hK=>?_) AllReadyH.nil)
     ·rw [if_pos (aX rfl)];refine aZ e1 _ _ _ rfl wl.heap.size 25 (.agg #[.bool false,.slice none 0 0,.slice none 0 0]) 3 56 Tryz.underlying29 Tryz.dH rfl ah (lg.keeps ah) _ _ OA.o rfl [.bool ry.neg,.slice p1 ry.num.length d1,.slice p2 ry.den.length d2] rfl iW ry EA.o nF N1.o rfl JL JL XW.o.size ?_;intro g2 cap2 e2 hrow hgr hfr;have hk:=bI.gA OA.o hgr;have hown:(Value.slice (some ⟨g2,0,none⟩) (((dY l).take k).length+1) cap2).ownBlock=some g2:=rfl;obtain ⟨ua,hu⟩:=gN (Value.slice (some ⟨g2,0,none⟩) (((dY l).take k).length+1) cap2);rw [← hu] at hrow hown ⊢;clear hu;have hd:=fh DJ.o OQ.o hown (hfr.imp id (Nat.le_trans XB.o));have OB:=kI (bI.jd OB.o hgr (je DJ.o) (fun n hn=>by obtain ⟨h1,h2,_⟩:=bI.cN OA.o hn;exact ⟨h1.choose,h1.choose_spec,h2⟩));have EB:=kI (lg.keeps ah _ _ _ _ EB.o hk);have DJ:=kI hd;have OA:=kI hrow;have ym:Hid (∀ n,ua.ownBlock=some n→n < e2.heap.size):=kI (fun n (h:ua.ownBlock=some n)=>(bI.cN hrow h).2.2);have KW:=KW.x hk;have XW:Hid (Ext wl e2):=kI (Below.trans XW.o (hk.below XW.o.size));have XB:Hid (wb.heap.size≤e2.heap.size):=kI (Nat.le_trans XB.o hgr.size);clear hrow hgr hfr hk hown hd;(try go_wp2_with fail);refine hK.out _ _ ?_ (fun hHeld=>?_)
      ·exact Pa
      clear hK K;(try simp only [sP]);refine dt [19] ?_;refine rc (fun K hK=>?_);go_simp;have hx:Ext e2 ((e2.alloc (.cells #[.bool rz.neg,.slice s1 rz.num.length s2,.slice s3 rz.den.length s4] 25))):=(Ext.refl _).alloc _;have bz:af ((e2.alloc (.cells #[.bool rz.neg,.slice s1 rz.num.length s2,.slice s3 rz.den.length s4] 25))) e2.heap.size [.bool rz.neg,.slice s1 rz.num.length s2,.slice s3 rz.den.length s4].toArray 25:=af.new e2 #[.bool rz.neg,.slice s1 rz.num.length s2,.slice s3 rz.den.length s4] 25;obtain ⟨e3,mi⟩:=gN ((e2.alloc (.cells #[.bool rz.neg,.slice s1 rz.num.length s2,.slice s3 rz.den.length s4] 25)));rw [← mi] at hx bz ⊢;obtain ⟨kG,dk⟩:=gN (e2.heap.size);rw [← dk] at bz ⊢;have hnb:wb.heap.size≤kG:=by rw [dk];exact XB.o
      have OA:=OA.x hx;have OB:=OB.x hx;have EB:=EB.x hx;have KW:=kI (KW.o.trans (Keeps.ext hx));have XW:=XW.x hx;have ym:Hid (∀ n,ua.ownBlock=some n→n < e3.heap.size):=kI (fun n h=>Nat.lt_of_lt_of_le (ym.o n h) hx.size);have Kw:=kI hnb;have XB:Hid (wb.heap.size≤e3.heap.size):=kI (Nat.le_trans hnb (Nat.le_of_lt bz.lt));have N2:=kI bz;clear hx bz mi dk hnb;(try go_wp2_with fail);refine hK.out _ _ ?_ (fun hHeld=>?_)
      ·exact Pa
      clear hK K;(try simp only [sP]);refine dt [20] ?_;refine rc (fun K hK=>?_);rw [if_pos (aX rfl)];refine aZ e3 _ _ _ rfl wl.heap.size 25 (.agg #[.bool false,.slice none 0 0,.slice none 0 0]) 3 56 Tryz.underlying29 Tryz.dH rfl ah (lg.keeps ah) _ _ OB.o rfl [.bool rz.neg,.slice s1 rz.num.length s2,.slice s3 rz.den.length s4] rfl iW rz EB.o kG N2.o rfl JM JM XW.o.size ?_;intro g4 cap4 e4 hrow hgr hfr;have hk:=bI.gA OB.o hgr;have hown:(Value.slice (some ⟨g4,0,none⟩) (((ic vals l).take k).length+1) cap4).ownBlock=some g4:=rfl;obtain ⟨ub,hu⟩:=gN (Value.slice (some ⟨g4,0,none⟩) (((ic vals l).take k).length+1) cap4);rw [← hu] at hrow hown ⊢;clear hu;have hd:=dx (fh (dx DJ.o) ym.o hown hfr);have OA:=kI (bI.jd OA.o hgr (je (dx DJ.o)) (fun n hn=>by obtain ⟨h1,h2,_⟩:=bI.cN OB.o hn;exact ⟨h1.choose,h1.choose_spec,h2⟩));have DJ:=kI hd;have OB:=kI hrow;have KW:=KW.x hk;have XW:Hid (Ext wl e4):=kI (Below.trans XW.o (hk.below XW.o.size));have XB:Hid (wb.heap.size≤e4.heap.size):=kI (Nat.le_trans XB.o hgr.size);clear hrow hgr hfr hk hown hd;(try go_wp2_with fail);refine hK.out _ _ ?_ (fun hHeld=>?_)
      ·exact Pa
      clear hK K;(try simp only [sP]);exact HV e4 ua ub nF kG ⟨OA.o,OB.o,DJ.o,XW.o,⟨(AK.o.keeps KW.o ah).cell 3,Kv.o _ XW.o,VC.o.c3 XW.o⟩⟩
     ·go_simp;have hx:Ext e1 ((e1.alloc (.cells #[.bool rz.neg,.slice s1 rz.num.length s2,.slice s3 rz.den.length s4] 25))):=(Ext.refl _).alloc _;have bz:af ((e1.alloc (.cells #[.bool rz.neg,.slice s1 rz.num.length s2,.slice s3 rz.den.length s4] 25))) e1.heap.size [.bool rz.neg,.slice s1 rz.num.length s2,.slice s3 rz.den.length s4].toArray 25:=af.new e1 #[.bool rz.neg,.slice s1 rz.num.length s2,.slice s3 rz.den.length s4] 25;obtain ⟨e2,gi⟩:=gN ((e1.alloc (.cells #[.bool rz.neg,.slice s1 rz.num.length s2,.slice s3 rz.den.length s4] 25)));rw [← gi] at hx bz ⊢;obtain ⟨kG,dk⟩:=gN (e1.heap.size);rw [← dk] at bz ⊢;have hnb:wb.heap.size≤kG:=by rw [dk];exact XB.o
      have OA:=OA.x hx;have OB:=OB.x hx;have EA:=EA.x hx;have EB:=EB.x hx;have KW:=kI (KW.o.trans (Keeps.ext hx));have XW:=XW.x hx;have N1:=N1.x hx;have Kw:=kI hnb;have XB:Hid (wb.heap.size≤e2.heap.size):=kI (Nat.le_trans hnb (Nat.le_of_lt bz.lt));have N2:=kI bz;clear hx bz gi dk hnb;exact zJ6
    ·go_simp;have hx:Ext wb ((wb.alloc (.cells #[.bool rz.neg,.slice s1 rz.num.length s2,.slice s3 rz.den.length s4] 25)).drew):=((Ext.refl _).alloc _).drew;have bz:af ((wb.alloc (.cells #[.bool rz.neg,.slice s1 rz.num.length s2,.slice s3 rz.den.length s4] 25)).drew) wb.heap.size [.bool rz.neg,.slice s1 rz.num.length s2,.slice s3 rz.den.length s4].toArray 25:=(af.new wb #[.bool rz.neg,.slice s1 rz.num.length s2,.slice s3 rz.den.length s4] 25).drew;obtain ⟨e1,jB⟩:=gN ((wb.alloc (.cells #[.bool rz.neg,.slice s1 rz.num.length s2,.slice s3 rz.den.length s4] 25)).drew);rw [← jB] at hx bz ⊢;obtain ⟨kG,dk⟩:=gN (wb.heap.size);rw [← dk] at bz ⊢;have hnb:wb.heap.size≤kG:=by rw [dk];exact XB.o
     have OA:=OA.x hx;have OB:=OB.x hx;have EA:=EA.x hx;have EB:=EB.x hx;have KW:=kI (KW.o.trans (Keeps.ext hx));have XW:=XW.x hx;have Kw:=kI hnb;have XB:Hid (wb.heap.size≤e1.heap.size):=kI (Nat.le_trans hnb (Nat.le_of_lt bz.lt));have N2:=kI bz;clear hx bz jB dk hnb;(try go_wp2_with fail);refine hK.out _ _ ?_ (fun hHeld=>?_)
     ·exact Pa
     clear hK K;(try simp only [sP]);refine dt [7] ?_;refine rc (fun K hK=>?_);go_simp;have hx:Ext e1 ((e1.alloc (.cells #[.bool ry.neg,.slice p1 ry.num.length d1,.slice p2 ry.den.length d2] 25))):=(Ext.refl _).alloc _;have bz:af ((e1.alloc (.cells #[.bool ry.neg,.slice p1 ry.num.length d1,.slice p2 ry.den.length d2] 25))) e1.heap.size [.bool ry.neg,.slice p1 ry.num.length d1,.slice p2 ry.den.length d2].toArray 25:=af.new e1 #[.bool ry.neg,.slice p1 ry.num.length d1,.slice p2 ry.den.length d2] 25;obtain ⟨e2,gi⟩:=gN ((e1.alloc (.cells #[.bool ry.neg,.slice p1 ry.num.length d1,.slice p2 ry.den.length d2] 25)));rw [← gi] at hx bz ⊢;obtain ⟨nF,fc⟩:=gN (e1.heap.size);rw [← fc] at bz ⊢;have hnb:wb.heap.size≤nF:=by rw [fc];exact XB.o
     have OA:=OA.x hx;have OB:=OB.x hx;have EA:=EA.x hx;have EB:=EB.x hx;have KW:=kI (KW.o.trans (Keeps.ext hx));have XW:=XW.x hx;have N2:=N2.x hx;have YB:=kI hnb;have XB:Hid (wb.heap.size≤e2.heap.size):=kI (Nat.le_trans hnb (Nat.le_of_lt bz.lt));have N1:=kI bz;clear hx bz gi fc hnb;exact zJ6
   ·intro W xa yb n1 n2 hW;obtain ⟨oa,ob,dj,xx,hSW⟩:=hW;obtain ⟨O1,O2,D9,X9⟩:=dW oa ob dj xx;clear oa ob dj xx;refine tk 21 ?_;refine tk 22 ?_;exact kGr
  ·obtain rfl:k=l.length:=Z
   have tA:(dY l).take l.length=dY l:=List.take_of_length_le T8;have tB:(ic vals l).take l.length=ic vals l:=List.take_of_length_le (by rw [fL];exact Nat.le_refl _);rw [tA] at OA ⊢;rw [tB] at OB ⊢;have r1:=OA.o.rd;have r2:=OB.o.rd;rw [jT] at r1 ⊢;rw [fL] at r2 ⊢;have R1:=kI r1;have R2:=kI r2;replace A0:=kI (A0.o.ext XK.o);replace A2:=kI (A2.o.ext XK.o);replace A1:=kI (A1.o.ext XK.o);replace jA:=kI (jA.o.ext XK.o);replace kQ:=kI (kQ.o.ext XK.o);replace X:=kI (X.o.trans XK.o);clear DJ tA tB r1 r2 OA OB HV rE;obtain ⟨ji,jk,lA2⟩:=A2.o.q3;have q1:¬ ((l.length:Int) < (l.length:Int)):=Z
   go_wp2_with fail;refine (En.o _ _ _ R1.o R2.o).mono ?_;rintro e w1 ⟨⟨v,rfl,nn⟩,hx⟩;clear ji jk lA2;replace A0:=A0.x hx;replace A2:=A2.x hx;replace A1:=A1.x hx;replace jA:=jA.x hx;replace kQ:=kQ.x hx;replace X:=X.x hx;obtain ⟨s1,s2,s3,s4,rfl⟩:=nn.shape;have NS:=kI nn.rd;clear nn hx R1 R2 En;have HW:=kI (Nat.le_trans YA.o (show An≤An+1 by omega));by_cases h1:de=0
   rotate_left
   ·have E:=kI (Eo.o dr de rfl h1);have q1:(de == 0)=false:=by simpa using h1
    have q11:(de != 0)=true:=by simpa using h1
    clear h1;obtain ⟨cT,cU,lA1⟩:=A1.o.q3;go_wp2_with fail;clear cT cU lA1;have hb6:=((A1.o).ep (.bool false) (.slice none 0 0) (.slice none 0 0)).alloc (.cells #[.bool dr.neg,.slice s1 dr.num.length s2,.slice s3 dr.den.length s4] 25);have hx6:Ext w ((((w1.setCell ⟨An+1,0,none⟩ (.bool false)).setCell ⟨An+1,1,none⟩ (.slice none 0 0)).setCell ⟨An+1,2,none⟩ (.slice none 0 0)).alloc (.cells #[.bool dr.neg,.slice s1 dr.num.length s2,.slice s3 dr.den.length s4] 25)):=((((X.o).set (p:=⟨An+1,0,none⟩) HW.o (.bool false)).set (p:=⟨An+1,1,none⟩) HW.o (.slice none 0 0)).set (p:=⟨An+1,2,none⟩) HW.o (.slice none 0 0)).trans ((Ext.refl _).alloc (.cells #[.bool dr.neg,.slice s1 dr.num.length s2,.slice s3 dr.den.length s4] 25));obtain ⟨W6,iS⟩:=gN (((((w1.setCell ⟨An+1,0,none⟩ (.bool false)).setCell ⟨An+1,1,none⟩ (.slice none 0 0)).setCell ⟨An+1,2,none⟩ (.slice none 0 0)).alloc (.cells #[.bool dr.neg,.slice s1 dr.num.length s2,.slice s3 dr.den.length s4] 25)));rw [← iS] at hb6 hx6 ⊢;clear iS;have nD:=kI hx6;clear hx6;refine bodyPost_ret (v:=.tuple #[.agg #[.bool false,.slice none 0 0,.slice none 0 0],.int .i64 de]) zQj rfl ⟨bG.mk (l:=zR) (aO.zero _ _) E.o,nD.o⟩
   subst h1;have hmu:=fun W va vb ha hb=>gK va vb d dr W ha hb xZ.o Yz.o;have hml:=fg d dr;have hs2:=HS2.o dr;have hs3:=Ii.o dr;obtain ⟨T,hT⟩:=gN (mulR d dr);rw [← hT] at hmu hml hs2 hs3;obtain ⟨mr,me⟩:=T;unfold bG at hmu;dsimp only at hmu hml;have Ke:=kI hmu;have Lv:=kI hml;have Er:=kI hs2;have Es:=kI hs3;clear hmu hml hs2 hs3 hT Eo HS2 Ii;obtain ⟨aK,fA0,aJ⟩:=A0.o.q3;go_wp2_with fail;clear aK fA0 aJ;obtain ⟨wd,hwd⟩:=gN (w1.alloc (.cells #[.bool dr.neg,.slice s1 dr.num.length s2,.slice s3 dr.den.length s4] 25));have hx:Ext w1 wd:=by rw [hwd];exact (Ext.refl _).alloc _
   have Lw:af wd w1.heap.size #[.bool dr.neg,.slice s1 dr.num.length s2,.slice s3 dr.den.length s4] 25:=by rw [hwd];exact af.new _ _ _
   rw [← hwd];obtain ⟨Dn,hDn⟩:=gN (w1.heap.size);rw [← hDn] at Lw ⊢;have DL:Hid (An+1+1 < Dn):=kI (by rw [hDn];exact A2.o.lt);replace A0:=A0.x hx;replace A2:=A2.x hx;replace A1:=A1.x hx;replace jA:=jA.x hx;replace kQ:=kQ.x hx;replace NS:=NS.x hx;replace X:=X.x hx;have BD:=kI Lw;clear hx Lw hwd hDn;refine (Ke.o _ _ _ jA.o NS.o).mono ?_;rintro e w2 ⟨⟨v,rfl,nn⟩,hx⟩;replace A0:=A0.x hx;replace A2:=A2.x hx;replace A1:=A1.x hx;replace jA:=jA.x hx;replace kQ:=kQ.x hx;replace NS:=NS.x hx;replace BD:=BD.x hx;replace X:=X.x hx;obtain ⟨t1,t2,t3,t4,rfl⟩:=nn.shape;have NT:=kI nn.rd;clear nn hx Ke;have hp:=i9.of (q:=mr.neg) (a1:=t1) (n1:=mr.num.length) (c1:=t2) (a2:=t3) (n2:=mr.den.length) (c2:=t4) (o:=0) BD.o pV;have hb1:af (((w2.setCell ⟨Dn,0,none⟩ (.bool mr.neg)).setCell ⟨Dn,1,none⟩ (.slice t1 mr.num.length t2)).setCell ⟨Dn,2,none⟩ (.slice t3 mr.den.length t4)) Dn #[.bool mr.neg,.slice t1 mr.num.length t2,.slice t3 mr.den.length t4] 25:=BD.o.ep _ _ _;have hb2:af (((w2.setCell ⟨Dn,0,none⟩ (.bool mr.neg)).setCell ⟨Dn,1,none⟩ (.slice t1 mr.num.length t2)).setCell ⟨Dn,2,none⟩ (.slice t3 mr.den.length t4)) (An+1+1) #[.bool co.neg,.slice a1 co.num.length c1,.slice a2 co.den.length c2,.slice a3 l.length c3] 83:=i9.blk (o:=0) A2.o NV;have hb3:af (((w2.setCell ⟨Dn,0,none⟩ (.bool mr.neg)).setCell ⟨Dn,1,none⟩ (.slice t1 mr.num.length t2)).setCell ⟨Dn,2,none⟩ (.slice t3 mr.den.length t4)) (An+1) #[.bool false,.slice none 0 0,.slice none 0 0] 25:=i9.blk (o:=0) A1.o NV;have hn1:bH (((w2.setCell ⟨Dn,0,none⟩ (.bool mr.neg)).setCell ⟨Dn,1,none⟩ (.slice t1 mr.num.length t2)).setCell ⟨Dn,2,none⟩ (.slice t3 mr.den.length t4)) (.agg #[.bool mr.neg,.slice t1 mr.num.length t2,.slice t3 mr.den.length t4]) mr:=hp.Lp NT.o;have hn2:bH (((w2.setCell ⟨Dn,0,none⟩ (.bool mr.neg)).setCell ⟨Dn,1,none⟩ (.slice t1 mr.num.length t2)).setCell ⟨Dn,2,none⟩ (.slice t3 mr.den.length t4)) (.agg #[.bool co.neg,.slice a1 co.num.length c1,.slice a2 co.den.length c2]) co:=hp.Lp kQ.o
   have eF:Ext w (((w2.setCell ⟨Dn,0,none⟩ (.bool mr.neg)).setCell ⟨Dn,1,none⟩ (.slice t1 mr.num.length t2)).setCell ⟨Dn,2,none⟩ (.slice t3 mr.den.length t4)):=cw (o:=0) X.o (Nat.le_trans HW.o NV);obtain ⟨C1,D2,D1,N1,N2,X9⟩:=od hb1 hb2 hb3 hn1 hn2 eF;have hne1:An+1+1≠Dn:=by have:=DL.o;omega
   have hne2:An+1≠Dn:=by have:=DL.o;omega
   clear hp hb1 hb2 hb3 hn1 hn2 eF NS jA A0;by_cases h1:me=0
   rotate_left
   ·have E:=kI (Er.out mr me uY uY h1);have q1:(me != 0)=true:=by simpa using h1
    clear h1;obtain ⟨Ly,Lz,LC⟩:=BD.o.q3;obtain ⟨cT,cU,lA1⟩:=A1.o.q3;go_wp2_with fail;clear Ly Lz LC cT cU lA1;have hb6:=(D1.o).ep (.bool false) (.slice none 0 0) (.slice none 0 0);have hx6:Ext w ((((((w2.setCell ⟨Dn,0,none⟩ (.bool mr.neg)).setCell ⟨Dn,1,none⟩ (.slice t1 mr.num.length t2)).setCell ⟨Dn,2,none⟩ (.slice t3 mr.den.length t4)).setCell ⟨An+1,0,none⟩ (.bool false)).setCell ⟨An+1,1,none⟩ (.slice none 0 0)).setCell ⟨An+1,2,none⟩ (.slice none 0 0)):=(((X9.o).set (p:=⟨An+1,0,none⟩) HW.o (.bool false)).set (p:=⟨An+1,1,none⟩) HW.o (.slice none 0 0)).set (p:=⟨An+1,2,none⟩) HW.o (.slice none 0 0);obtain ⟨W6,iS⟩:=gN (((((((w2.setCell ⟨Dn,0,none⟩ (.bool mr.neg)).setCell ⟨Dn,1,none⟩ (.slice t1 mr.num.length t2)).setCell ⟨Dn,2,none⟩ (.slice t3 mr.den.length t4)).setCell ⟨An+1,0,none⟩ (.bool false)).setCell ⟨An+1,1,none⟩ (.slice none 0 0)).setCell ⟨An+1,2,none⟩ (.slice none 0 0)));rw [← iS] at hb6 hx6 ⊢;clear iS;have nD:=kI hx6;clear hx6;refine bodyPost_ret (v:=.tuple #[.agg #[.bool false,.slice none 0 0,.slice none 0 0],.int .i64 me]) zQj rfl ⟨bG.mk (l:=zR) (aO.zero _ _) E.o,nD.o⟩
   subst h1;have had:=fun W va vb ha hb=>eu va vb co mr W ha hb jg.o Lv.o;have hE:=Es.out mr uY uY;obtain ⟨T,hT⟩:=gN (bL co mr);rw [← hT] at had hE;obtain ⟨t,te⟩:=T;unfold bG at had;dsimp only at had;have HAD:=kI had;have E:=kI hE;clear had hE hT Er Es;obtain ⟨ji,jk,lA2⟩:=A2.o.q3;obtain ⟨Ly,Lz,LC⟩:=BD.o.q3;go_wp2_with fail;clear ji jk lA2 Ly Lz LC;obtain ⟨we,hwe⟩:=gN ((((w2.setCell ⟨Dn,0,none⟩ (.bool mr.neg)).setCell ⟨Dn,1,none⟩ (.slice t1 mr.num.length t2)).setCell ⟨Dn,2,none⟩ (.slice t3 mr.den.length t4)));rw [← hwe] at C1 D2 D1 N1 N2 X9 ⊢;clear hwe hne1 hne2;replace A1:=D1;replace X:=X9;clear D1 X9 A2 BD NT kQ D2 C1;have X0:=kI X.o;refine (HAD.o _ _ _ N2.o N1.o).mono ?_;rintro e w3 ⟨⟨v,rfl,nn⟩,hx⟩;replace A1:=A1.x hx;replace N1:=N1.x hx;replace N2:=N2.x hx;replace X:=X.x hx;obtain ⟨x1,x2,x3,x4,rfl⟩:=nn.shape;have NN:=kI (aO.from nn X0.o);clear nn hx HAD X0;obtain ⟨cT,cU,lA1⟩:=A1.o.q3;go_wp2_with fail;clear cT cU lA1;have hb2:=A1.o.ep (.bool t.neg) (.slice x1 t.num.length x2) (.slice x3 t.den.length x4);have hn2:=NN.o.ib A1.o ah (.bool t.neg) (.slice x1 t.num.length x2) (.slice x3 t.den.length x4);have hx2:Ext w _:=((X.o.set (p:=⟨An+1,0,none⟩) HW.o (.bool t.neg)).set (p:=⟨An+1,1,none⟩) HW.o (.slice x1 t.num.length x2)).set (p:=⟨An+1,2,none⟩) HW.o (.slice x3 t.den.length x4);have CN:=kI hn2;have xX:=kI hx2;clear hn2 hx2;refine bodyPost_ret (v:=.tuple #[.agg #[.bool t.neg,.slice x1 t.num.length x2,.slice x3 t.den.length x4],.int .i64 te]) (by have k1:=hb2.cell;have k2:=hb2.free;have k3:=hb2.lt;clear hb2;simp only [results,Tryz.results127];go_simp) rfl ⟨bG.mk (l:=t) CN.o E.o,xX.o⟩
def ki (w:World) (v:Value) (g:List (List RR)):Prop:=∃ a cap,v=.slice a g.length cap∧g.length≤cap∧cap≤9223372036854775807∧
 ∀ i,i < g.length→∃ b off ai ci,a=some ⟨b,off,none⟩∧b < w.heap.size∧w.cell? ⟨b,off+i,none⟩=some (.slice ai (g.getD i []).length ci)∧aT w (.slice ai (g.getD i []).length ci) (g.getD i [])
theorem ki.ext {g:List (List RR)} (h:ki w v g) (e:Ext w w'):ki w' v g:=by
 exact qC6
instance {g:List (List RR)}:Lx (Ext w w') (ki w v g) (ki w' v g):=⟨fun k h=>ki.ext h k⟩
theorem ki.at {a:Option Addr} {g:List (List RR)} (h:ki w (.slice a n cap) g) {i:Nat} (hi:i < g.length):∃ b off ai ci,a=some ⟨b,off,none⟩∧b < w.heap.size∧w.cell? ⟨b,off+i,none⟩=some (.slice ai (g.getD i []).length ci)∧aT w (.slice ai (g.getD i []).length ci) (g.getD i []):=by
 exact qW6
theorem ki.shape {g:List (List RR)} (h:ki w v g):∃ a cap,v=.slice a g.length cap∧g.length≤9223372036854775807:=by obtain ⟨a,cap,h,h1,h2,_⟩:=h;exact ⟨a,cap,h,Nat.le_trans h1 h2⟩
/-- IU of two copies of one row of rows. -/
theorem dF (v1 v2:Value) (g:List (List RR)) (w:World) (h1:ki w v1 g) (h2:ki w v2 g) :
  Calls Tryz.prog 22 #[v1,v2] w fun e w'=>e=.returned (.bool true)∧Ext w w':=by
 have H1:=kI h1;have H2:=kI h2;obtain ⟨a1,c1,rfl,hgl⟩:=h1.shape;obtain ⟨a2,c2,rfl,_⟩:=h2.shape;clear h1 h2;go_enter Tryz.func22,Tryz.ntmps22
 go_wp2
 go_loopw [5] (fun i wr=>∃ k:Nat,k≤g.length∧i=.int .i64 k∧Ext w wr) (fun i _=>g.length - (intOf i).toNat)
 case atStart=>exact ⟨0,Nat.zero_le _,rfl,Ext.refl w⟩
 case round=>
  obtain ⟨wk,hwk⟩:=gN (wr);subst hwk;obtain ⟨k,hk,rfl,hext⟩:=hrel;by_cases hlt:k < g.length
  ·obtain ⟨b1,o1,p1,d1,rfl,r1,r2,r3⟩:=(H1.o.ext hext).at hlt;obtain ⟨b2,o2,p2,d2,rfl,s1,s2,s3⟩:=(H2.o.ext hext).at hlt;have heq:=fun W (x:Ext wk W)=>dz _ _ _ _ W (r3.ext x) (s3.ext x);obtain ⟨c,hc⟩:=gN (g.getD k []);rw [← hc] at r2 s2 heq;have q1:(0:Int)≤(k:Int):=Z
   have q2:(k:Int) < (g.length:Int):=Z
   have HX:=kI hext;rw [decide_eq_true rfl] at heq;have HQ:=kI heq;clear r3 s3 hext heq hc;go_wp2_with fail;(refine aF ak ak ?_;(repeat (go_big_quiet_step ((go_at_call 24;exact iz (HQ.o _ (Later.ext _))))));refine wpQuiet_nil ?_;rintro w1 ⟨⟨_,hx1⟩,rfl⟩;(try dsimp only))
   exact Pg
  ·exact Pm
theorem rN (v1 v2:Value) (l1 l2:List Int) (w:World) (h1:aY .i64 w v1 l1) (h2:aY .i64 w v2 l2) :
  Calls Tryz.prog 36 #[v1,v2] w fun e w'=>e=.returned (.bool (decide (l1=l2)))∧Ext w w':=by
 obtain ⟨a1,c1,rfl,hc1,hm1,hr1⟩:=h1.get;obtain ⟨a2,c2,rfl,hc2,hm2,hr2⟩:=h2.get;clear h1 h2;by_cases hlen:l1.length=l2.length
 ·have H1:=kI hr1;clear hr1;have H2:=kI hr2;clear hr2;rw [← hlen];rw [← hlen] at H2 hc2;have HL:=kI hlen;clear hlen;go_enter Tryz.func36,Tryz.ntmps36
  exact jU9
 ·have hb:(l1.length != l2.length)=true:=by simpa using hlen
  go_enter Tryz.func36,Tryz.ntmps36
  exact WJ
theorem rO {β:Type} (f:α→β) (l:List α) (k:Nat) (h:k < l.length):(l.take (k+1)).map f=(l.take k).map f ++ [f l[k]]:=by
 rw [List.take_succ_eq_append_getElem h,List.map_append];rfl
abbrev Fs (w:World) (B:Nat) (v:Value) (l:List Int):Prop:=w.ownsRow B 3 1 v l.length (l.map (Value.int .i64))
theorem uz (v1:Value) (l1:List Int) (w:World) (h1:aY .i64 w v1 l1) (hs:l1.length≤1000000000) :
  Calls Tryz.prog 31 #[v1] w fun e w'=>∃ v,e=.returned v∧Fs w' w.heap.size v l1∧Ext w w':=by
 obtain ⟨a1,c1,rfl,hc1,hm1,hr1⟩:=h1.get;clear h1;have H1:=kI hr1;clear hr1;go_enter Tryz.func31,Tryz.ntmps31
 go_wp2
 go_loopw [3,4] (fun v i wr=>∃ k:Nat,k≤l1.length∧i=.int .i64 k∧Fs wr w.heap.size v (l1.take k)∧Ext w wr)
  (fun _ i _=>l1.length - (intOf i).toNat)
 case atStart=>exact ⟨0,Nat.zero_le _,rfl,World.ownsRow_nil _ _ _ _,Ext.refl w⟩
 case round=>
  obtain ⟨k,hk,rfl,hown,hext⟩:=hrel;by_cases hlt:k < l1.length
  ·obtain ⟨b1,o1,rfl,hb1,hx1⟩:=H1.o k hlt;have hx2:=(hext.cell (p:=⟨b1,o1+k,none⟩) hb1).trans hx1;clear hx1;have hz:=hext.size;have hl:=List.length_take_of_le (Nat.le_of_lt hlt);rw [Fs,hl] at hown;have HO:=kI hown;clear hown;have HE:=kI hext;clear hext;have HL:=kI hl;clear hl;go_wp2_with (at_builtin;(refine bY wr rfl _ _ 53 rfl w.heap.size 3 (.int .i64 0) 1 8 Tryz.underlying53 Tryz.oy rfl ah _ _ _ HO.o rfl [_] rfl iW rfl Z Z hz ?_))
   intro g cap w1 hown1 hb1;have KF:=kI hown1;clear hown1;have HB1:=kI hb1;clear hb1;go_wp2
   go_roundw
   case rel=>
    refine ⟨k+1,by omega,by go_num,?_,Below.trans HE.o HB1.o⟩;have:=KF.o;rw [Fs,rO _ _ _ hlt,List.length_take_of_le Z];simpa [hlt] using this
   case measure=>simp [intOf];omega
  ·go_wp2
   go_ret;rw [List.take_of_length_le Z] at hown;exact ⟨_,rfl,hown,hext⟩
theorem zs {size:Nat} (h:w.ownsRow B e size v n xs) (k:Keeps C t w w') (ht:e≠t):w'.ownsRow B e size v n xs:=by
 exact qEi
theorem Fs.Mp (h:Fs w B v l):∃ a c,v=.slice a l.length c:=by
 rcases h.2 with ⟨rfl,h0⟩|⟨g,cap,cur,rfl,_⟩
 ·exact ⟨none,0,by rw [h0]⟩
 ·exact ⟨_,_,rfl⟩
theorem Fs.Zi (h:Fs w B v l):aY .i64 w v l:=by
 exact KO (B:=B) (e:=3) (by rw [List.length_map];exact h)
def ix (B:Nat) (w:World) (h:List Value) (l:List Int):Prop:=∃ a c,h=[.slice a l.length c]∧Fs w B (.slice a l.length c) l
theorem ix.keeps (ht:3≠t) (w w':World) (h:List Value) (l:List Int) (e:ix B w h l) (k:Keeps C t w w'):ix B w' h l:=by
 obtain ⟨a,c,rfl,h1⟩:=e;exact ⟨a,c,rfl,zs h1 k ht⟩
theorem ix.ext (e:ix B w h l) (x:Ext w w'):ix B w' h l:=by
 obtain ⟨a,c,rfl,h1⟩:=e;exact ⟨a,c,rfl,jU h1 x⟩
instance:Lx (Ext w w') (ix B w h l) (ix B w' h l):=⟨fun k h=>ix.ext h k⟩
abbrev bX (B:Nat) (w:World) (v:Value) (g:List (List Int)):Prop:=au 53 1 (ix B) B w v g
theorem bX.ext' {g:List (List Int)} (h:bX B w v g) (x:Ext w w'):bX B w' v g:=au.ext h x (fun _ _ e=>e.ext x)
instance {g:List (List Int)}:Lx (Ext w w') (bX B w v g) (bX B w' v g):=⟨fun k h=>bX.ext' h k⟩
theorem bX.UX {g:List (List Int)} (h:bX B w v g):dL w v g:=by
 obtain ⟨a,cap,hv,hc,hm,hr⟩:=au.rh h;refine ⟨a,cap,hv,hc,hm,fun i hi=>?_⟩;have hl:g[i]?=some (g.getD i []):=by rw [List.getD_eq_getElem?_getD,List.getElem?_eq_getElem hi];rfl
 obtain ⟨b,h,e1,_,e2,e3,e4,a1,c1,e5,e6⟩:=hr i _ hl;subst e5;refine ⟨b,0,a1,c1,e1,e2,?_,Fs.Zi e6⟩;exact WR
theorem Tryz.oQ:(Tryz.prog.info? 53).map (fun i=>(i.zero,i.size,i.bytes))=some (some (.slice none 0 0),1,24):=ak
theorem zu (v:Value) (g:List (List Int)) (w:World) (h:dL w v g) (hs:g.length≤1000000000) (hl:∀ i,i < g.length→(g.getD i []).length≤1000000000) :
  Calls Tryz.prog 13 #[v] w fun e w'=>(∃ v',e=.returned v'∧bX w.heap.size w' v' g)∧Ext w w':=by
 have HG:=kI h;obtain ⟨a,cap,rfl,hgl⟩:=h.shape;have HL:=kI hl;clear h hl;go_enter Tryz.func13,Tryz.ntmps13
 go_wp2_with fail;go_loopw [3,4] (fun v i wr=>∃ k:Nat,k≤g.length∧i=.int .i64 k∧bX w.heap.size wr v (g.take k)∧Ext w wr) (fun _ i _=>g.length - (intOf i).toNat)
 case atStart=>exact ⟨0,Nat.zero_le _,rfl,au.nil _ _ _ _ _,Ext.refl w⟩
 case round=>
  obtain ⟨k,hk,rfl,hown,hext⟩:=hrel;by_cases hlt:k < g.length
  ·obtain ⟨b,off,ai,ci,rfl,r1,r2,r3⟩:=(HG.o.ext hext).at hlt;have hcp:=uz _ _ wr r3 (HL.o k hlt);have hts:=bC g k [] hlt;have hlk:=List.length_take_of_le (Nat.le_of_lt hlt);obtain ⟨c,hc⟩:=gN (g.getD k []);rw [← hc] at r2 hcp hts;obtain ⟨HC,HO,HX,HT,CQ⟩:=iR hcp hown hext hts hlk;have hz:=hext.size;have q1:(0:Int)≤(k:Int):=Z
   have q2:(k:Int) < (g.length:Int):=Z
   clear hcp hown hext hts r3 hlk hc;go_wp2_with fail;refine HC.o.mono ?_;rintro e w1 ⟨u,rfl,hu,hx⟩;obtain ⟨ua,uc,rfl⟩:=Fs.Mp hu;have KF:=kI (HO.o.ext' hx);have yq:=HX.x hx;have hz1:=yq.o.size;have HE:=kI (show ix w.heap.size w1 [.slice ua c.length uc] c from ⟨_,_,rfl,fZ hu hz⟩);clear hu hx;go_wp2_with (at_builtin;(refine aN w1 rfl _ _ 30 rfl w.heap.size 53 (.slice none 0 0) 1 24 Tryz.underlying30 Tryz.oQ rfl ah (ix.keeps ah) _ _ KF.o rfl [.slice ua c.length uc] rfl iW c HE.o rfl CW CW hz1 ?_))
   intro g9 cap2 w3 hown hkp;have Y3:=kI hown;have GU:=kI (Below.trans yq.o (hkp.below hz1));clear hown hkp;go_wp2_with fail;go_roundw
   case rel=>
    refine ⟨k+1,by omega,by go_num,?_,GU.o⟩;rw [HT.o];exact Y3.o
   case measure=>simp [intOf];omega
  ·obtain rfl:k=g.length:=Z
   rw [List.take_length] at hown;have q1:¬ (g.length:Int) < (g.length:Int):=Z
   have HO:=kI hown;have HX:=kI hext;clear hown hext;go_wp2_with fail;go_ret;exact ⟨⟨_,rfl,HO.o⟩,HX.o⟩
/-- Ov of two copies of one row of rows. -/
theorem iO (v1 v2:Value) (g:List (List Int)) (w:World) (h1:dL w v1 g) (h2:dL w v2 g) :
  Calls Tryz.prog 23 #[v1,v2] w fun e w'=>e=.returned (.bool true)∧Ext w w':=by
 have H1:=kI h1;have H2:=kI h2;obtain ⟨a1,c1,rfl,hgl⟩:=h1.shape;obtain ⟨a2,c2,rfl,_⟩:=h2.shape;clear h1 h2;go_enter Tryz.func23,Tryz.ntmps23
 go_wp2
 go_loopw [5] (fun i wr=>∃ k:Nat,k≤g.length∧i=.int .i64 k∧Ext w wr) (fun i _=>g.length - (intOf i).toNat)
 case atStart=>exact ⟨0,Nat.zero_le _,rfl,Ext.refl w⟩
 case round=>
  obtain ⟨wk,hwk⟩:=gN (wr);subst hwk;obtain ⟨k,hk,rfl,hext⟩:=hrel;by_cases hlt:k < g.length
  ·obtain ⟨b1,o1,p1,d1,rfl,r1,r2,r3⟩:=(H1.o.ext hext).at hlt;obtain ⟨b2,o2,p2,d2,rfl,s1,s2,s3⟩:=(H2.o.ext hext).at hlt;have heq:=fun W (x:Ext wk W)=>rN _ _ _ _ W (r3.ext x) (s3.ext x);obtain ⟨c,hc⟩:=gN (g.getD k []);rw [← hc] at r2 s2 heq;have q1:(0:Int)≤(k:Int):=Z
   have q2:(k:Int) < (g.length:Int):=Z
   have HX:=kI hext;rw [decide_eq_true rfl] at heq;have HQ:=kI heq;clear r3 s3 hext heq hc;go_wp2_with fail;(refine aF ak ak ?_;(repeat (go_big_quiet_step ((go_at_call 36;exact iz (HQ.o _ (Later.ext _))))));refine wpQuiet_nil ?_;rintro w1 ⟨⟨_,hx1⟩,rfl⟩;(try dsimp only))
   exact Pg
  ·exact Pm
def qL (A B:World):Prop:=∀ (i:Nat) (c:Array Value) (t:TypeId),(t=25∨t=157)→af A i c t→af B i c t
theorem qL.ext {B:World} (h:Ext A B):qL A B:=fun _ _ _ _ b=>b.ext h
theorem qL.trans {B C:World} (h:qL A B) (k:qL B C):qL A C:=fun i c t ht b=>k i c t ht (h i c t ht b)
instance {B C:World}:Lx (qL B C) (qL A B) (qL A C):=⟨fun k h=>qL.trans h k⟩
theorem qL.kq {m:Nat} {B:World} (h:Kq m A B):qL A B:=fun i c t _ b=>h.blk i c t b
theorem qL.keeps {C:World} (k:Keeps B t A C) (h1:25≠t) (h2:157≠t):qL A C:=fun i c u hu b=>b.keeps k (by rcases hu with rfl|rfl;exact h1;exact h2)
theorem gB.ty (h:gB B w v l) (k:qL w w'):gB B w' v l:=by
 obtain ⟨⟨a,cap,rfl,h1,h2,h3⟩,h4⟩:=h;refine ⟨⟨a,cap,rfl,h1,h2,fun i hi=>?_⟩,h4.imp id fun ⟨g,c,cur,e,hb,hs,hB⟩=>⟨g,c,cur,e,k g cur _ (.inr rfl) hb,hs,hB⟩⟩;obtain ⟨b,off,e1,e2,e3,e4⟩:=h3 i hi;rcases e4 with e4|⟨cur,e4⟩
 ·omega
 ·have hb:=k b cur _ (.inr rfl) e4;have he:w'.heap[b]?=w.heap[b]?:=by unfold af at hb e4;rw [hb,e4]
  exact ⟨b,off,e1,hb.lt,(World.cell?_of_block (a:=⟨b,off+i,none⟩) he).trans e3,.inr ⟨cur,hb⟩⟩
theorem fW.ty {r:RR} (e:fW B w h r) (k:qL w w'):fW B w' h r:=by
 obtain ⟨a1,c1,a2,c2,rfl,h1,h2⟩:=e;exact ⟨a1,c1,a2,c2,rfl,h1.ty k,h2.ty k⟩
theorem bm.ty {l:List RR} (h:bm B w v l) (k:qL w w'):bm B w' v l:=by
 obtain ⟨hs,h1,h2,h3,h4⟩:=h;refine ⟨hs,⟨h1.1,?_⟩,h2,h3,fun i y hi=>by obtain ⟨h,e1,e2⟩:=h4 i y hi;exact ⟨h,e1,e2.ty k⟩⟩;rcases h1.2 with hn|⟨g,cap,cur,rfl,hb,hg,rest⟩
 ·exact .inl hn
 ·exact .inr ⟨g,cap,cur,rfl,hb,k g cur _ (.inl rfl) hg,rest⟩
structure oJ (n:Nat) (X:Nat→Prop) (A B:World):Prop where
 kp:ei n X A B
 ty:qL A B
theorem oJ.refl (n:Nat) (X:Nat→Prop) (A:World):oJ n X A A:=⟨ei.refl _ _ _,fun _ _ _ _ b=>b⟩
theorem oJ.trans {B C:World} (h:oJ n X A B) (k:oJ n X B C):oJ n X A C:=⟨h.kp.trans k.kp,h.ty.trans k.ty⟩
instance {B C:World}:Lx (oJ n X B C) (oJ n X A B) (oJ n X A C):=⟨fun k h=>oJ.trans h k⟩
theorem oJ.ext {B:World} (h:Ext A B):oJ n X A B:=⟨.ext h,.ext h⟩
def Mq (w0:World) (m:MD) (vals:List RR) (k:Nat) (pre:List (Value × Value)) (x:Value × Value) (W:World):Prop:=
 pre.length < k∧(az m (bu m vals pre.length)).2.2=0∧bm w0.heap.size W x.1 (bu m vals (pre.length+1))∧eO w0.heap.size W x.2 (az m (bu m vals pre.length)).2.1
def Su (m:MD) (vals:List RR) (k:Nat) (pre:List (Value × Value)) (ch:List PanicEntry):Prop:=
 pre.length < k∧(az m (bu m vals pre.length)).2.2≠0∧ch=[dC (az m (bu m vals pre.length)).2.2]
structure uN (o:Nat) (A B:World):Prop where
 zero:Below 0 A B
 block:∀ i,i < A.heap.size→i≠o→B.heap[i]?=A.heap[i]?
theorem uN.ext {o:Nat} {B:World} (h:Ext A B):uN o A B:=⟨h.mono (Nat.zero_le _),fun i hi _=>h.block i hi⟩
theorem uN.set {o:Nat} {B:World} (h:uN o A B) (p:Nat) (v:Value):uN o A (B.setCell ⟨o,p,none⟩ v):=⟨h.zero.setCell (Nat.zero_le _) v,fun i hi hn=>(Below.heap_setCell B ⟨o,p,none⟩ v i hn).trans (h.block i hi hn)⟩
theorem uN.trans {o:Nat} {B C:World} (h:uN o A B) (k:uN o B C):uN o A C:=⟨h.zero.trans k.zero,fun i hi hn=>(k.block i (Nat.lt_of_lt_of_le hi h.zero.size) hn).trans (h.block i hi hn)⟩
instance {o:Nat} {B C:World}:Lx (uN o B C) (uN o A B) (uN o A C):=⟨fun k h=>uN.trans h k⟩
structure Mr (o:Nat) (A B:World):Prop where
 o:uN o A B
 k:Keeps 0 29 A B
theorem Mr.ext {o:Nat} {B:World} (h:Ext A B):Mr o A B:=⟨.ext h,Keeps.ext h⟩
theorem eO.mono (h:eO B w v l) (hB:C≤B):eO C w v l:=by
 obtain ⟨hs,h1,h2,h3,h4⟩:=h;exact ⟨hs,fZ h1 hB,h2,h3,h4⟩
theorem xF (n:Nat) (hn:1≤n) (m:MD) (m1:Option Addr) (n1:Nat) (m2:Option Addr) (n2:Nat) (m3:Option Addr) (n3:Nat) (a:Option Addr) (c:Nat) (vals:List RR) (k H N lb:Nat) (X:Nat→Prop) (w0 W1:World)
  (hm:dd w0 (.agg (wL m m1 n1 m2 n2 m3 n3)) m) (hv:aT w0 (.slice a vals.length c) vals) (hlm:eG m) (hlv:bQ vals) (hk:k≤24)
  (hx:Ext w0 W1) (hX:∀ i,X i→w0.heap.size≤i∧i < H) (UA:w0.heap.size≤H) (hH:H+2 < N) (hN:N≤W1.heap.size)
  (hb0:af W1 H (wL m m1 n1 m2 n2 m3 n3) 28) (hb1:af W1 (H+1) #[.slice a vals.length c] 29) (hb2:af W1 (H+2) #[.int .i64 k] 3) :
  qp Fence.wide n Tryz.prog 134 (Kg H) (oJ N X) (Mr (H+1)) (fun x:Value × Value=>#[x.1,x.2]) (Mq w0 m vals k) (fun xs=>xs.length=k) (Su m vals k) lb W1:=by
 intro J Jx hJ hY h0;have hbk:=fun W vv l (x:Ext w0 W) (h:aT W vv l) (hl:bQ l)=>yY _ vv m l W (hm.ext x) h hlm hl;have hsl:=fun j=>wY (m:=m) (v:=vals) hlv j;obtain ⟨Sv,HSL,HV,HB0,HX,Rk,HY⟩:=Ba hbk hsl hv hb0 hx hJ hY;have hw0:w0.heap.size≤W1.heap.size:=HX.o.size;have HB1:=kI hb1;clear hm hv hbk hsl hx hlm hlv hJ hY hb0 hb1;refine callsIn_of_wp Tryz.func134 rfl trivial ?_ rfl;simp only [Tryz.ntmps134,List.size_toArray,List.length_cons,List.length_nil,Nat.reduceAdd,Nat.reduceSub,Array.replicate_succ,Array.replicate_zero,List.push_toArray,List.append_toArray,List.nil_append,List.cons_append];have d0:=hb2.cell;have d1:=hb2.lt;gi_wp2_with fail;clear d0 d1 hb2;gi_loopw [9] (fun i wr=>∃ (j:Nat) (pre:List (Value × Value)) (vv:Value),j≤k∧i=.int .i64 j∧pre.length=j∧J pre wr∧Ext w0 wr∧N≤wr.heap.size∧af wr H (wL m m1 n1 m2 n2 m3 n3) 28∧af wr (H+1) #[vv] 29∧aT wr vv (bu m vals j)∧oJ N (fun i=>X i∨i=H+1) W1 wr) (fun i _=>k - (intOf i).toNat)
 case atStart=>exact ⟨0,[],_,by omega,rfl,rfl,h0,HX.o,hN,HB0.o,HB1.o,HV.o.ext HX.o,oJ.refl _ _ _⟩
 case round=>
  obtain ⟨wk,hwk⟩:=gN (wr);subst hwk;obtain ⟨j,pre,vv,hjk,rfl,hpl,hj,hxk,hNk,b0,b1,hrd,hst⟩:=hrel;obtain ⟨XK,HJ,mD,B0,B1,RD,ST⟩:=Ba hxk hj hpl b0 b1 hrd hst;clear hxk hj hpl b0 b1 hrd hst;by_cases hlt:j < k
  ·obtain ⟨av,cv,rfl,-,-,-⟩:=RD.o.get;have hr:=fun W (x:Ext wk W)=>Sv.o W _ _ (XK.o.trans x) (RD.o.ext x) (HSL.o j);obtain ⟨R,hR⟩:=gN (az m (bu m vals j));rw [← hR] at hr;have HR:=kI hR;obtain ⟨vs,as2,e⟩:=R;have Zj:=kI hr;have LM:=B0.o.cell;have Cd:=B1.o.cell;have kb2:=B0.o.lt;have YJ:=B1.o.lt;obtain ⟨sl,hsl⟩:=gN ((bu m vals j).length);clear hr hR;clear hsl;gi_wp2_with fail;refine ⟨trivial,(callsIn_wide.2 (Zj.o wk (Ext.refl _))).mono ?_⟩;rintro e9 w2 ⟨⟨v,aw,rfl,ov,oz⟩,hx2⟩;dsimp only at ov oz;have X2:=kI hx2;have OV:=kI (bm.mono ov XK.o.size);have OZ:=kI oz;have Gy:Hid (Ext w0 w2):=kI (XK.o.trans hx2);have HE:Hid ((az m (bu m vals j)).2.2=e):=kI (by rw [← HR.o]);have C0:Hid (bu m vals (j+1)=vs):=kI (by show (az m (bu m vals j)).1=vs;rw [← HR.o]);have HAS:Hid ((az m (bu m vals j)).2.1=as2):=kI (by rw [← HR.o]);have b1:=B1.o.ext hx2;have c1:=b1.cell;have f1:=b1.free;have l1:=b1.lt;obtain ⟨x1,x2,rfl⟩:=OV.o.shape;clear ov oz hx2 LM Cd kb2 YJ b1;by_cases he:e=0
   ·subst he;gi_wp2_with fail;refine ⟨trivial,(callsIn_wide.2 (iK w2)).mono ?_⟩;rintro e9 w3 ⟨rfl,rfl⟩;have B13:=kI (B1.o.ext X2.o);have B03:=kI (B0.o.ext X2.o);gi_wp2_with fail;obtain ⟨ws,hws⟩:=gN (w3.setCell ⟨H+1,0,none⟩ (.slice x1 vs.length x2));have hks:Keeps 0 29 w3 ws:=by rw [hws];exact aB B13.o 0 _
    have hos:uN (H+1) wk ws:=by rw [hws];exact (uN.ext X2.o).set 0 _
    have hps:ei N (fun i=>X i∨i=H+1) wk ws:=by rw [hws];exact (ei.ext X2.o).set (.inl (.inr rfl)) 0 _
    have hxs:Ext w0 ws:=by rw [hws];exact Below.setCell Gy.o aD _
    have b0s:af ws H (wL m m1 n1 m2 n2 m3 n3) 28:=by rw [hws];exact B03.o.setOther (a:=⟨H+1,0,none⟩) aD _
    have b1s:af ws (H+1) #[.slice x1 vs.length x2] 29:=by rw [hws];exact B13.o.set 0 _
    have hsz:wk.heap.size≤ws.heap.size:=hos.zero.size;rw [← hws];obtain ⟨rE,HPS,HXS,B0S,B1S,HKS,UI⟩:=Ba hos hps hxs b0s b1s hks hsz;have OVS:=kI (bm.keeps OV.o hks ah ah);have OZS:=kI (eO.keeps OZ.o hks ah);have hok:=Cp HE.o;have hvs:vs=kr m (bu m vals j):=C0.o.symm.trans hok.2.2.1;have hlen:jE vs:=by rw [hvs];exact Fb hok.1 hok.2.1
    have Kj:vs.length≤1000000:=by
     rw [hvs,fM];have:=(bD (bU hok.1).1).2.2.1;omega
    have HLEN:=kI hlen;have HL2:=kI Kj;clear hws hos hps hxs b0s b1s hks hsz hok hvs hlen Kj c1 f1 l1;refine ⟨trivial,(callsIn_wide.2 (AA _ vs ws OVS.o.rd HL2.o HLEN.o)).mono ?_⟩;rintro e9 w4 ⟨⟨v4,rfl,ow⟩,hx4⟩;have X4:=kI hx4;have hw4:w0.heap.size≤ws.heap.size:=HXS.o.size;have OW4:Hid (bm w0.heap.size w4 v4 (bu m vals (j+1))):=kI (by rw [C0.o];exact bm.mono ow hw4);have OZ4:Hid (eO w0.heap.size w4 aw (az m (bu m vals j)).2.1):=kI (by rw [HAS.o];exact eO.mono (eO.ext' OZS.o hx4) XK.o.size);obtain ⟨fn,tmps,assign,body,hy,hR⟩:=HY.o pre (v4,aw) w4 (Rk.o _ _ _ HJ.o ⟨rE.o.trans (.ext hx4),((Keeps.ext X2.o).trans HKS.o).trans (Keeps.ext hx4)⟩) ⟨by rw [mD.o];exact hlt,by rw [mD.o];exact HE.o,by rw [mD.o];exact OW4.o,by rw [mD.o];exact OZ4.o⟩;have HRR:=kI hR;dsimp only at hy HRR;clear hR ow hx4;gi_wp2_with fail;refine HRR.o.mono ?_;rintro e9 W5 ⟨hb5,(⟨rfl,Sx⟩|⟨rfl,Sx⟩)⟩
    ·have Zk:=kI Sx;have HB5:=kI hb5;clear Sx hb5 hy HRR;gi_wp2_with fail;go_roundw
     case rel=>
      have Sy:Ext w0 w4:=HXS.o.trans X4.o;have h5:=HB5.o;refine ⟨j+1,_,_,by omega,by go_num,by have:=mD.o;simp [this],Zk.o,Below.trans Sy (h5.kp.below (fun i h=>(hX i h).1) Z Sy.size),Nat.le_trans hNk (Nat.le_trans (Nat.le_trans UI.o X4.o.size) h5.kp.zero.size),(B0S.o.ext X4.o).yd h5.kp Z (fun h=>by have:=(hX _ h).2;omega),(B1S.o.ext X4.o).yd h5.kp Z (fun h=>by have:=(hX _ h).2;omega),?_,?_⟩
      ·rw [C0.o];exact ((bm.ext' OVS.o X4.o).ty h5.ty).rd
      ·exact (ST.o.trans ⟨HPS.o.trans (.ext X4.o),(qL.ext X2.o).trans ((qL.keeps HKS.o ah ah).trans (.ext X4.o))⟩).trans ⟨h5.kp.mono (fun i h=>.inl h),h5.ty⟩
     case measure=>simp [intOf];omega
    ·have Zk:=kI Sx;clear Sx hb5 hy HRR;gi_wp2_with fail;refine bodyPost_ret (v:=.tuple #[]) ?_ rfl (.inl ⟨⟨_,rfl⟩,.inr ⟨_,Zk.o⟩⟩);first|rfl|(simp only [results,Tryz.results134];go_simp)
   ·gi_wp2_with fail;refine ⟨trivial,(callsIn_wide.2 (bB he w2)).mono ?_⟩;rintro e9 w3 ⟨rfl,rfl⟩;simp +zetaDelta only [Exit.then,Exit.inBlock];exact cH rfl (.inr ⟨_,pre,rfl,⟨by rw [mD.o];exact hlt,by rw [mD.o,HE.o];exact he,by rw [mD.o,HE.o]⟩,Rk.o _ _ _ HJ.o (.ext X2.o)⟩)
  ·obtain rfl:j=k:=Z
   have q6:¬ (j:Int) < (j:Int):=Z
   gi_wp2_with fail;go_end0
   exact .inl ⟨⟨_,rfl⟩,.inl ⟨_,mD.o,HJ.o⟩⟩
def nG (B:Nat) (w:World) (h:List Value) (l:List RR):Prop:=∃ a c,h=[.slice a l.length c]∧bm B w (.slice a l.length c) l
theorem nG.keeps (ht:25≠t) (hu:157≠t) (w w':World) (h:List Value) (l:List RR) (e:nG B w h l) (k:Keeps C t w w'):nG B w' h l:=by
 obtain ⟨a,c,rfl,h1⟩:=e;exact ⟨a,c,rfl,h1.keeps k ht hu⟩
theorem nG.ext {l:List RR} (e:nG B w h l) (x:Ext w w'):nG B w' h l:=by
 obtain ⟨a,c,rfl,h1⟩:=e;exact ⟨a,c,rfl,bm.ext' h1 x⟩
instance {l:List RR}:Lx (Ext w w') (nG B w h l) (nG B w' h l):=⟨fun k h=>nG.ext h k⟩
theorem nG.of {l:List RR} (h:bm B w v l):nG B w [v] l:=by
 obtain ⟨a,c,rfl⟩:=h.shape;exact ⟨a,c,rfl,h⟩
abbrev bA (B:Nat) (w:World) (v:Value) (g:List (List RR)):Prop:=au 29 1 (nG B) B w v g
theorem bA.nil (B:Nat) (w:World):bA B w (.slice none 0 0) []:=au.nil _ _ _ _ _
theorem bA.ext' {g:List (List RR)} (h:bA B w v g) (x:Ext w w'):bA B w' v g:=au.ext h x (fun _ _ e=>e.ext x)
instance {g:List (List RR)}:Lx (Ext w w') (bA B w v g) (bA B w' v g):=⟨fun k h=>bA.ext' h k⟩
theorem bA.keeps {g:List (List RR)} (h:bA B w v g) (k:Keeps C t w w') (ht:29≠t) (hr:25≠t) (hu:157≠t):bA B w' v g:=au.jH h k ht (fun _ _ e=>e.keeps hr hu _ _ _ _ k)
theorem bA.shape {g:List (List RR)} (h:bA B w v g):∃ a c,v=.slice a g.length c:=by
 exact NH
theorem bA.mono {g:List (List RR)} (h:bA B w v g) (hB:C≤B):bA C w v g:=by
 obtain ⟨hs,h1,h2,h3,h4⟩:=h;exact ⟨hs,fZ h1 hB,h2,h3,fun i y hi=>by obtain ⟨h,e1,a,c,e2,e3⟩:=h4 i y hi;exact ⟨h,e1,a,c,e2,e3.mono hB⟩⟩
theorem bX.mono {g:List (List Int)} (h:bX B w v g) (hB:C≤B):bX C w v g:=by
 obtain ⟨hs,h1,h2,h3,h4⟩:=h;exact ⟨hs,fZ h1 hB,h2,h3,fun i y hi=>by obtain ⟨h,e1,a,c,e2,e3⟩:=h4 i y hi;exact ⟨h,e1,a,c,e2,fZ e3 hB⟩⟩
theorem bA.SA {o:Nat} {g:List (List RR)} (h:bA B w v g) (k:Mr o w w') (hne:v.ownBlock≠some o):bA B w' v g:=by
 obtain ⟨hs,h1,h2,h3,h4⟩:=h;refine ⟨hs,⟨h1.1,?_⟩,h2,h3,fun i y hi=>by obtain ⟨h,e1,e2⟩:=h4 i y hi;exact ⟨h,e1,e2.keeps ah ah _ _ _ _ k.k⟩⟩;rcases h1.2 with hn|⟨q,cap,cur,rfl,hb,hg,rest⟩
 ·exact .inl hn
 ·have hq:q≠o:=fun e=>hne (by rw [e];rfl);have hlt:q < w.heap.size:=(Array.getElem?_eq_some_iff.1 hg).1;exact .inr ⟨q,cap,cur,rfl,hb,(k.o.block q hlt hq).trans hg,rest⟩
theorem bX.keeps {g:List (List Int)} (h:bX B w v g) (k:Keeps C t w w') (ht:53≠t) (hi:3≠t):bX B w' v g:=au.jH h k ht (fun _ _ e=>e.keeps hi _ _ _ _ k)
theorem bX.nil (B:Nat) (w:World):bX B w (.slice none 0 0) []:=au.nil _ _ _ _ _
theorem bX.shape {g:List (List Int)} (h:bX B w v g):∃ a c,v=.slice a g.length c:=by
 exact NH
theorem ix.of (h:eO B w v l):ix B w [v] l:=by
 obtain ⟨a,c,rfl⟩:=h.shape;exact ⟨a,c,rfl,h.owI⟩
def Aside (v:Value) (H N:Nat):Prop:=∀ q,v.ownBlock=some q→q < H∨N≤q
theorem Tryz.ij:(Tryz.prog.info? 29).map (fun i=>(i.zero,i.size,i.bytes))=some (some (.slice none 0 0),1,24):=ak
theorem au.fx {size:Nat} {El:World→List Value→α→Prop} {l:List α} (h:au e size El B w v l) {q:Nat} (hq:v.ownBlock=some q):(∃ cur,af w q cur e)∧B≤q∧q < w.heap.size:=by
 exact zUo
theorem au.kJ {size:Nat} {El:World→List Value→α→Prop} {l:List α} (h:au e size El B w v l) (hg:w.grownBy w' v.ownBlock):Keeps B e w w':=
 ⟨⟨hg.os,hg.tape,hg.output,hg.size,fun i hi=>by omega⟩,fun i hi ho=>hg.block i hi (fun e9=>by
  obtain ⟨⟨cur,hb⟩,hq,_⟩:=h.fx e9.symm;rcases ho with ho|⟨c2,u,h5,h6⟩
  ·omega
  ·unfold af at hb h5;rw [hb] at h5;injection h5 with h5
   injection h5 with _ h7
   exact h6 h7.symm)⟩
theorem bA.rd {g:List (List RR)} (h:bA B w v g):ki w v g:=by
 obtain ⟨a,cap,hv,hc,hm,hr⟩:=au.rh h;refine ⟨a,cap,hv,hc,hm,fun i hi=>?_⟩;have hl:g[i]?=some (g.getD i []):=by rw [List.getD_eq_getElem?_getD,List.getElem?_eq_getElem hi];rfl
 obtain ⟨b,h,e1,_,e2,e3,e4,a1,c1,e5,e6⟩:=hr i _ hl;subst e5;refine ⟨b,0,a1,c1,e1,e2,?_,e6.rd⟩;exact WR
def kg (w w':World) (e:Ending) (r:List (List RR) × List (List Int) × Int):Prop:=∃ v p,e=.returned (.tuple #[v,p,.int .i64 r.2.2])∧bA w.heap.size w' v r.1∧bX w.heap.size w' p r.2.1
theorem kg.mk {p:Value} {g:List (List RR)} {q:List (List Int)} {x:Int} {r:List (List RR) × List (List Int) × Int} (h:bA w.heap.size w' v g) (k:bX w.heap.size w' p q) (e:r=(g,q,x)):kg w w' (.returned (.tuple #[v,p,.int .i64 x])) r:=by subst e;exact ⟨v,p,rfl,h,k⟩
def kj (w w':World) (e:Ending) (r:List (List RR) × Int):Prop:=∃ v,e=.returned (.tuple #[v,.int .i64 r.2])∧bA w.heap.size w' v r.1
theorem kj.mk {g:List (List RR)} {x:Int} {r:List (List RR) × Int} (h:bA w.heap.size w' v g) (e:r=(g,x)):kj w w' (.returned (.tuple #[v,.int .i64 x])) r:=by subst e;exact ⟨v,rfl,h⟩
def jM (m:MD) (v:List RR):List (List RR) × Int:=if li m v≠0 then ([],li m v) else (m.states.map (bK m v),0)
theorem Ct {m:MD} {v:List RR} (hk:k < m.states.length) (h1:∀ i,i < k→gS m v (m.states.getD i [])=0) (hj:j < (m.states.getD k []).length) (h2:∀ i,i < j→(aC m v (m.act k i)).2=0) (h3:(aC m v (m.act k j)).2=c) (hc:c≠0):jM m v=([],c):=by
 have e1:gS m v (m.states.getD k [])=c:=by
  unfold gS;have:=cz (f:=fun a=>(aC m v ((m.states.getD k []).getD a dA)).2) (k:=j) h2 (by show (aC m v (m.act k j)).2≠0;rw [h3];exact hc) hj;rw [this];exact h3
 have e2:li m v=c:=by
  unfold li;have:=cz (f:=fun s=>gS m v (m.states.getD s [])) (k:=k) h1 (by show gS m v (m.states.getD k [])≠0;rw [e1];exact hc) hk;rw [this];exact e1
 unfold jM;rw [e2,if_pos hc]
theorem Ft {m:MD} {v:List RR} (h:∀ i,i < m.states.length→gS m v (m.states.getD i [])=0):jM m v=(m.states.map (bK m v),0):=by
 have e:li m v=0:=bg h;unfold jM;rw [e,if_neg (fun h=>h rfl)]
theorem Cu {m:MD} {v:List RR} (h:k < m.states.length):(m.states.map (bK m v)).take (k+1)=(m.states.map (bK m v)).take k ++ [bK m v (m.states.getD k [])]:=by
 rw [bC _ k [] (by rw [List.length_map];exact h)];congr 2
 rw [List.getD_eq_getElem?_getD,List.getElem?_map,List.getD_eq_getElem?_getD,List.getElem?_eq_getElem h];rfl
theorem iU (mv vv:Value) (m:MD) (vals:List RR) (w:World) (hm:dd w mv m) (hv:aT w vv vals) (hlm:eG m) (hlv:bQ vals) (hE:cJ m vals=0) :
  Calls Tryz.prog 66 #[mv,vv] w fun e w'=>kj w w' e (jM m vals)∧Ext w w':=by
 obtain ⟨HM,HV,xZ,yV⟩:=dW hm hv hlm hlv;obtain ⟨hmd,hvl⟩:=bU hE;have hn:=(bD hmd).2.2.1;have jA:=kI hmd;have UY:=kI hvl;obtain ⟨m1,n1,m2,n2,m3,n3,rfl,-,hms⟩:=hm;obtain ⟨av,cv,rfl,-,-,-⟩:=hv.get;have sN:=kI hms;clear hv hlm hlv hms hE hmd hvl;have bb0:=(af.new w #[.bool m.ag.neg,.slice m1 m.ag.num.length n1,.slice m2 m.ag.den.length n2,.slice m3 m.states.length n3] 28);have x0:Ext w (w.alloc (.cells #[.bool m.ag.neg,.slice m1 m.ag.num.length n1,.slice m2 m.ag.den.length n2,.slice m3 m.states.length n3] 28)):=((Ext.refl w).alloc _);have A0:=kI bb0;have X:=kI x0;clear x0 bb0;go_enter Tryz.func66,Tryz.ntmps66
 go_wp2_with fail;obtain ⟨w1,hw1⟩:=gN ((w.alloc (.cells #[.bool m.ag.neg,.slice m1 m.ag.num.length n1,.slice m2 m.ag.den.length n2,.slice m3 m.states.length n3] 28)));rw [← hw1] at A0 X ⊢;clear hw1;have XL:=kI X.o.size;go_loopw [6,7] (fun vo i wr=>∃ k:Nat,k≤m.states.length∧i=.int .i64 k∧bA w1.heap.size wr vo ((m.states.map (bK m vals)).take k)∧(∀ i,i < k→gS m vals (m.states.getD i [])=0)∧Ext w1 wr) (fun _ i _=>m.states.length - (intOf i).toNat)
 case atStart=>exact ⟨0,Nat.zero_le _,rfl,bA.nil _ _,fun i hi=>by omega,Ext.refl _⟩
 case round=>
  obtain ⟨wi,hwi⟩:=gN (wr);subst hwi;obtain ⟨k,hk,rfl,mU,hok,hxi⟩:=hrel;obtain ⟨oa,oc,rfl⟩:=mU.shape;obtain ⟨VO,OK,XI⟩:=cC mU hok hxi;have ai:=A0.o.ext hxi;have AI:=kI ai;have a0:=ai.cell;have a9:=ai.free;have a2:=ai.lt;have hlo:((m.states.map (bK m vals)).take k).length=k:=by rw [List.length_take,List.length_map];omega
  have Io:=kI hlo;rw [hlo];clear mU hok hxi ai hlo;by_cases hlt:k < m.states.length
  ·obtain ⟨b,off,ga,gc,rfl,g0,g1,g2⟩:=(sN.o.ext (X.o.trans XI.o)).at hlt;obtain ⟨ac,hac⟩:=gN (m.states.getD k []);have hsv:=(dm ((bD jA.o).2.2.2 k hlt)).2.1;rw [← hac] at g1 hsv;have iY:=kI hac;have GS:Hid (b < wi.heap.size∧wi.cell? ⟨b,off+k,none⟩=some (.slice ga ac.length gc)):=kI ⟨g0,g1⟩;have Zl:=kI hsv;have q1:(k:Int) < (m.states.length:Int):=Z
   have q2:(0:Int)≤(k:Int):=Z
   clear g2 hac;go_wp2_with fail;clear a0 a9 a2 g0 g1;go_loopw [8,9] (fun vr i wq=>∃ j:Nat,j≤ac.length∧i=.int .i64 j∧bm wi.heap.size wq vr ((bK m vals ac).take j)∧(∀ i,i < j→(aC m vals (m.act k i)).2=0)∧Ext wi wq) (fun _ i _=>ac.length - (intOf i).toNat)
   case atStart=>exact ⟨0,Nat.zero_le _,rfl,bm.nil _ _,fun i hi=>by omega,Ext.refl _⟩
   case round=>
    obtain ⟨wj,qZ⟩:=gN (wr);subst qZ;obtain ⟨j,hj,rfl,Ms,hoj,hxj⟩:=hrel;obtain ⟨ra,rc,rfl⟩:=Ms.shape;obtain ⟨VR,OJ,XJ⟩:=cC Ms hoj hxj;have aj:=AI.o.ext hxj;have AJ:=kI aj;have a0:=aj.cell;have a9:=aj.free;have a2:=aj.lt;have g0:=Nat.lt_of_lt_of_le GS.o.1 hxj.size;have g1:=(hxj.cell (p:=⟨b,off+k,none⟩) GS.o.1).trans GS.o.2;have hlr:((bK m vals ac).take j).length=j:=by rw [List.length_take,cS];omega
    have Zm:=kI hlr;have s6:=Zl.o;rw [hlr];clear Ms hoj hxj aj hlr;by_cases hlj:j < ac.length
    ·have q3:(j:Int) < (ac.length:Int):=Z
     have hact:=fd (qD jA.o hlt (a:=j) Xn);have hsc:=jL _ _ m vals k j wj (HM.o.ext (X.o.trans (XI.o.trans XJ.o))) (HV.o.ext (X.o.trans (XI.o.trans XJ.o))) xZ.o yV.o hlt Z Xn (by rw [← iY.o];omega) (fun i hi=>by have h:=j0 (hact.2.2.2.1 i hi);have:=UY.o;omega) hact.2.2.1;obtain ⟨sc,Mt⟩:=gN (aC m vals (m.act k j));rw [← Mt] at hsc;obtain ⟨t,c⟩:=sc;unfold bG at hsc;dsimp only at hsc;have nL:=kI hsc;have Zn:=kI Mt;clear hact hsc Mt;go_wp2_with fail;clear a0 a9 a2 g0 g1;refine nL.o.mono ?_;rintro e w9 ⟨⟨v,rfl,nn⟩,hx⟩;obtain ⟨t1,t2,t3,t4,rfl⟩:=nn.shape;have HE:=kI (fW.new nn XJ.o.size);replace VR:=kI (VR.o.ext' hx);replace XJ:=XJ.x hx;clear nn hx nL;by_cases hc:c=0
     rotate_left
     ·have E:=kI (Ct hlt OK.o Xn OJ.o (by rw [← Zn.o]) hc);have q7:(c != 0)=true:=bne_iff_ne.2 hc;clear hc;go_wp2_with fail;go_ret2
      exact ⟨kj.mk (bA.nil _ _) E.o,X.o.trans (XI.o.trans (XJ.o.trans ((Ext.refl _).alloc _)))⟩
     subst hc;have bz:=af.new w9 #[.bool t.neg,.slice t1 t.num.length t2,.slice t3 t.den.length t4] 25;have hx:Ext w9 (w9.alloc (.cells #[.bool t.neg,.slice t1 t.num.length t2,.slice t3 t.den.length t4] 25)):=(Ext.refl w9).alloc _;obtain ⟨wa,Kh⟩:=gN (w9.alloc (.cells #[.bool t.neg,.slice t1 t.num.length t2,.slice t3 t.den.length t4] 25));rw [← Kh] at bz hx;have Zo:=kI Kh;have BZ:=kI bz;replace VR:=kI (VR.o.ext' hx);revert HE XJ;refine lf hx ?_;intro HE XJ;have x0:=bz.cell;have x1:=bz.free;have x2:=bz.lt;have hts:(bK m vals ac).take (j+1)=(bK m vals ac).take j ++ [t]:=by
      rw [mP hlj];have:aC m vals (ac.getD j dA)=(t,0):=by rw [iY.o];exact Zn.o.symm
      rw [this]
     have Zp:=kI hts;have hz1:=XJ.o.size;have SD:∀ i,i < j+1→(aC m vals (m.act k i)).2=0:=fun i hi=>by
      by_cases e:i=j
      ·rw [e,← Zn.o]
      ·exact OJ.o i Z
     have OJ2:=kI SD;rw [Kh] at x0 x1 x2;clear bz hx Kh hts SD;go_wp2_with (at_builtin;(rw [← Zo.o];refine aN (El:=fW wi.heap.size) (l:=(bK m vals ac).take j) wa rfl _ _ 29 rfl wi.heap.size 25 (.agg #[.bool false,.slice none 0 0,.slice none 0 0]) 3 56 Tryz.underlying29 Tryz.dH rfl ah (fW.keeps ah) _ VR.o (by rw [Zm.o];rfl) [.bool t.neg,.slice t1 t.num.length t2,.slice t3 t.den.length t4] rfl iW t HE.o (by first|rfl|(rw [Zo.o];rfl)|(rw [Zo.o,World.size_alloc];rfl)) (by have:=Zm.o;omega) (by have:=Zm.o;omega) hz1 ?_))
     intro g cap2 w2 hown2 hk2;have VR2:=kI hown2;have X2:=kI (Below.trans XJ.o (hk2.below hz1));clear hown2 hk2 x0 x1 x2;go_wp2_with fail;go_roundw
     case rel=>exact ⟨j+1,hlj,by go_num,by rw [Zp.o];exact VR2.o,OJ2.o,X2.o⟩
     case measure=>simp [intOf];omega
    ·obtain rfl:j=ac.length:=Z
     have q3:¬ ((ac.length:Int) < (ac.length:Int)):=Z
     have hrt:(bK m vals ac).take ac.length=bK m vals ac:=List.take_of_length_le (by rw [cS];exact Nat.le_refl _);have Ms:=VR.o;rw [hrt] at Ms;have Mu:=Ms.mono XI.o.size;rw [cS] at Mu;have HE:=kI (nG.of Mu);have Zq:=kI (bA.ext' VO.o XJ.o);have C3:=kI (XI.o.trans XJ.o);have hz1:w1.heap.size≤wj.heap.size:=C3.o.size;have hok2:∀ i,i < k+1→gS m vals (m.states.getD i [])=0:=fun i hi=>by
      by_cases e:i=k
      ·rw [e];exact row_zero (fun a ha=>OJ.o a (by rw [iY.o];exact ha))
      ·exact OK.o i Z
     have oP:=kI hok2;have Zp:=kI (Cu (v:=vals) hlt);clear hrt Ms Mu hok2;go_wp2_with (at_builtin;(refine aN (El:=nG w1.heap.size) (l:=(m.states.map (bK m vals)).take k) wj rfl _ _ 36 rfl w1.heap.size 29 (.slice none 0 0) 1 24 Tryz.underlying36 Tryz.ij rfl ah (nG.keeps ah ah) _ Zq.o (by rw [Io.o];rfl) [.slice ra ac.length rc] rfl iW (bK m vals ac) HE.o (by rfl) (by have:=Io.o;omega) (by have:=Io.o;omega) hz1 ?_))
     intro g cap2 w2 hown2 hk2;have Mv:=kI hown2;have X2:=kI (Below.trans C3.o (hk2.below hz1));clear hown2 hk2 a0 a9 a2 g0 g1;go_wp2_with fail;go_roundw
     case rel=>exact ⟨k+1,hlt,by go_num,by rw [Zp.o,← iY.o];exact Mv.o,oP.o,X2.o⟩
     case measure=>simp [intOf];omega
  ·obtain rfl:k=m.states.length:=Z
   have q3:¬ ((m.states.length:Int) < (m.states.length:Int)):=Z
   have mU:=VO.o.mono XL.o;rw [List.take_of_length_le (by rw [List.length_map];exact Nat.le_refl _)] at mU;rw [List.length_map] at mU;have Mv:=kI mU;have E:=kI (Ft (v:=vals) OK.o);clear mU;go_wp2_with fail;go_ret2
   exact ⟨kj.mk Mv.o E.o,X.o.trans XI.o⟩
end Go.Proofs.YtnnjbaijcaiohaaGreat
