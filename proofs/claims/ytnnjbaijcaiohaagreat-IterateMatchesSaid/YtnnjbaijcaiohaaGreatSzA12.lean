/- Walks and lemmas. -/
import Derived.Test.YtnnjbaijcaiohaaGreatSzA8
import Derived.Test.YtnnjbaijcaiohaaGreatSzA11
import Derived.Test.YtnnjbaijcaiohaaGreatSzA10
import Derived.SizedLaws
import Derived.Test.YtnnjbaijcaiohaaGreatSzA2
import Derived.Test.YtnnjbaijcaiohaaGreatSzA4
import Derived.Test.YtnnjbaijcaiohaaGreatSzA5
set_option linter.unusedVariables false
set_option linter.unusedSimpArgs false
set_option maxRecDepth 100000
set_option maxHeartbeats 16000000
namespace Go.Proofs.YtnnjbaijcaiohaaGreat
open Go.RowKit
variable {a a0:Act} {listed:Array Bool} {T:Array Bool→World→Prop} {ops:Array Oper} {ps:Array Tmp} {args tmps:Array Value} {assign body:Code} {Q:Exit→Act→World→Prop} {F:Fence} {u:FrameMode} {f:FuncId} {c s:Int} {plan:List (List Int)} {ds:List Deferred} {l l1 l2 la lb lq:List Int} {rest:List Oper} {cs h vs xs:List Value} {An B C H L N b b0 bx c1 c2 cap d1 d2 fuel g i id j jn k m1 m2 n n1 n2 nf nn off xn y:Nat} {X:Nat→Prop} {oi om:Oper} {a1 a2 a3 xa:Option Addr} {P:Program} {R p p0 p1 p10 p11 p12 p13 p2 p3 p4 p5 p6 p7 p8 p9:Prop} {md:Region.Mode} {α:Type} {e t t1 t2 t3:TypeId} {lv v vb vr z:Value} {A W W' W0 w w' w0 w2 w3 w4 wB:World} {S S1 S2:World→Prop}
theorem qr (v1:Value) (l1:List Int) (w:World) (h1:aY .u32 w v1 l1) (hs:l1.length≤35184372087808) :
  Calls Tryz.prog 170 #[v1] w fun e w'=>(∃ v,e=.returned v∧bv w w' v l1)∧Ext w w':=by
 exact kKs
theorem mt (v1:Value) (l1:List Int) (w:World) (h1:aY .u32 w v1 l1) (hs:l1.length≤35184372087808) :
  Calls Tryz.prog 124 #[v1] w fun e w'=>(∃ v,e=.returned v∧bv w w' v l1)∧Ext w w':=by
 have H1:=kI h1;obtain ⟨a1,c1,rfl,hc1,hm1,hr1⟩:=fC h1;clear h1 hr1;go_enter Tryz.func124,Tryz.ntmps124
 go_wp2_with fail;refine (qr _ l1 _ H1.o hs).mono ?_;exact kKm
theorem iM (v:Value) (r:RR) (w:World) (h:bH w v r) (hs:r.num.length≤35184372087808∧r.den.length≤35184372087808) :
  Calls Tryz.prog 61 #[v] w fun e w'=>(∃ v',e=.returned v'∧aO w w' v' r)∧Ext w w':=by
 obtain ⟨a1,c1,a2,c2,rfl,hn,hd⟩:=h.parts;obtain ⟨b,l1,l2⟩:=r;dsimp only at hn hd hs ⊢;obtain ⟨hs1,hs2⟩:=hs;have HN:=kI hn;have HD:=kI hd;clear hn hd h;have bb0:=((af.new w #[.bool b,.slice a1 l1.length c1,.slice a2 l2.length c2] 25).alloc (.cells #[.bool false,.slice none 0 0,.slice none 0 0] 25));have bb1:=(af.new (w.alloc (.cells #[.bool b,.slice a1 l1.length c1,.slice a2 l2.length c2] 25)) #[.bool false,.slice none 0 0,.slice none 0 0] 25);rw [World.size_alloc] at bb1;have x0:Ext w ((w.alloc (.cells #[.bool b,.slice a1 l1.length c1,.slice a2 l2.length c2] 25)).alloc (.cells #[.bool false,.slice none 0 0,.slice none 0 0] 25)):=(((Ext.refl w).alloc _).alloc _);obtain ⟨A0,A1,X⟩:=cC bb0 bb1 x0;clear x0 bb0 bb1;have HN:=kI (HN.o.ext X.o);have HD:=kI (HD.o.ext X.o);go_enter Tryz.func61,Tryz.ntmps61
 go_wp2_with fail;refine wp_region_held_drew (S:=(fun W=>(af W w.heap.size #[.bool b,.slice a1 l1.length c1,.slice a2 l2.length c2] 25∧W.cell? ⟨w.heap.size,0,none⟩=some (.bool b)∧W.cell? ⟨w.heap.size,1,none⟩=some (.slice a1 l1.length c1)∧W.cell? ⟨w.heap.size,2,none⟩=some (.slice a2 l2.length c2)))) ak ?_ (fun hHeld=>?_)
 ·exact af.s3 A0.o.drew
 refine tk 0 ?_;refine tk 1 ?_;refine tk 2 ?_;refine tk 3 ?_;refine tk 5 ?_;refine tk 6 ?_;have x1:=X.o;refine dt [4] ?_;refine rc (fun K hK=>?_);go_simp;refine (mt (.slice a1 l1.length c1) l1 _ (HN.o.ext gM) Z).mono ?_;rintro e w1 ⟨⟨v,rfl,nn⟩,hx⟩;have hx:=Ext.trans (show Ext ((w.alloc (.cells #[.bool b,.slice a1 l1.length c1,.slice a2 l2.length c2] 25)).alloc (.cells #[.bool false,.slice none 0 0,.slice none 0 0] 25)) _ from by first|exact Ext.refl _|exact (Ext.refl _).drew) hx;revert A0 A1 X HN HD;refine lf hx ?_;intro A0 A1 X HN HD;obtain ⟨n1,n2,rfl⟩:=nn.shape;have On:=kI (nn.from (Ext.trans x1 eX));clear nn hx x1;(try go_wp2_with fail);refine hK.out _ _ ?_ (fun hHeld=>?_)
 ·exact af.s3 A0.o
 clear hK K;(try simp only [sP]);have x1:=X.o;refine dt [7] ?_;refine rc (fun K hK=>?_);go_simp;refine (mt (.slice a2 l2.length c2) l2 _ (HD.o.ext gM) Z).mono ?_;exact jD8
def Oo (r:RR):Prop:=r.num.length≤35184372087808∧r.den.length≤35184372087808
def UK (l:List Out):Prop:=l.length≤2199023255488∧∀ i,i < l.length→Oo (l.getD i dO).2
def lnX (x:aL):Prop:=Oo x.cost∧UK x.next
def YZ (l:List aL):Prop:=l.length≤1759218604390∧∀ i,i < l.length→lnX (l.getD i dA)
def RE (l:List (List aL)):Prop:=l.length≤5864062014634∧∀ i,i < l.length→YZ (l.getD i [])
def Ck (w:World) (h:List Value) (y:Out):Prop:=∃ a1 c1 a2 c2,h=[.int .i64 y.1,.bool y.2.neg,.slice a1 y.2.num.length c1,.slice a2 y.2.den.length c2]∧gw 0 w (.slice a1 y.2.num.length c1) y.2.num∧gw 0 w (.slice a2 y.2.den.length c2) y.2.den
theorem Ck.keeps (ht:157≠t) {w w':World} {h:List Value} {y:Out} (e:Ck w h y) (k:Keeps B t w w'):Ck w' h y:=by
 obtain ⟨a1,c1,a2,c2,e1,e2,e3⟩:=e;exact ⟨a1,c1,a2,c2,e1,e2.keeps (k.mono (Nat.zero_le _)) ht,e3.keeps (k.mono (Nat.zero_le _)) ht⟩
theorem Ck.ext {y:Out} (e:Ck w h y) (k:Ext w w'):Ck w' h y:=by
 exact jHu
instance {y:Out}:Lx (Ext w w') (Ck w h y) (Ck w' h y):=⟨fun k h=>Ck.ext h k⟩
abbrev jI (B:Nat) (w:World) (v:Value) (l:List Out):Prop:=au 80 4 Ck B w v l
theorem jI.ext {l:List Out} (h:jI B w v l) (k:Ext w w'):jI B w' v l:=au.ext h k (fun _ _ e=>e.ext k)
instance {l:List Out}:Lx (Ext w w') (jI B w v l) (jI B w' v l):=⟨fun k h=>jI.ext h k⟩
theorem jI.keeps {l:List Out} (h:jI B w v l) (k:Keeps C t w w') (h1:157≠t) (h2:80≠t):jI B w' v l:=au.jH h k h2 (fun _ _ e=>e.keeps h1 k)
theorem jI.rd {l:List Out} (h:jI B w v l):dD w v l:=by
 obtain ⟨a,cap,hv,hc,hm,hr⟩:=au.rh h;refine ⟨a,cap,hv,hc,hm,fun i hi=>?_⟩;have hl:l[i]?=some (l.getD i dO):=by rw [List.getD_eq_getElem?_getD,List.getElem?_eq_getElem hi];rfl
 obtain ⟨b,h,e1,_,e2,e3,e4,a1,c1,a2,c2,e5,e6,e7⟩:=hr i _ hl;subst e5;refine ⟨b,0,a1,c1,a2,c2,e1,e2,?_,?_,?_,?_,_,_,rfl,e6.rd,e7.rd⟩
 ·rw [Nat.zero_add];exact e4 0 Z
 ·rw [Nat.zero_add];exact e4 1 Z
 ·rw [Nat.zero_add];exact e4 2 Z
 ·rw [Nat.zero_add];exact e4 3 Z
def Cl (w:World) (h:List Value) (x:aL):Prop:=∃ a1 c1 a2 c2 a3 c3 B,h=[.bool x.cost.neg,.slice a1 x.cost.num.length c1,.slice a2 x.cost.den.length c2,.slice a3 x.next.length c3]∧gw 0 w (.slice a1 x.cost.num.length c1) x.cost.num∧gw 0 w (.slice a2 x.cost.den.length c2) x.cost.den∧jI B w (.slice a3 x.next.length c3) x.next
theorem Cl.keeps (h1:157≠t) (h2:80≠t) {w w':World} {h:List Value} {x:aL} (e:Cl w h x) (k:Keeps B t w w'):Cl w' h x:=by
 obtain ⟨a1,c1,a2,c2,a3,c3,C,e1,e2,e3,e4⟩:=e;exact ⟨a1,c1,a2,c2,a3,c3,C,e1,e2.keeps (k.mono (Nat.zero_le _)) h1,e3.keeps (k.mono (Nat.zero_le _)) h1,e4.keeps k h1 h2⟩
theorem Cl.ext {x:aL} (e:Cl w h x) (k:Ext w w'):Cl w' h x:=by
 obtain ⟨a1,c1,a2,c2,a3,c3,C,e1,e2,e3,e4⟩:=e;exact ⟨a1,c1,a2,c2,a3,c3,C,e1,e2.ext k,e3.ext k,e4.ext k⟩
instance {x:aL}:Lx (Ext w w') (Cl w h x) (Cl w' h x):=⟨fun k h=>Cl.ext h k⟩
abbrev kW (B:Nat) (w:World) (v:Value) (l:List aL):Prop:=au 83 4 Cl B w v l
theorem kW.ext {l:List aL} (h:kW B w v l) (k:Ext w w'):kW B w' v l:=au.ext h k (fun _ _ e=>e.ext k)
instance {l:List aL}:Lx (Ext w w') (kW B w v l) (kW B w' v l):=⟨fun k h=>kW.ext h k⟩
theorem kW.keeps {l:List aL} (h:kW B w v l) (k:Keeps C t w w') (h1:157≠t) (h2:80≠t) (h3:83≠t):kW B w' v l:=au.jH h k h3 (fun _ _ e=>e.keeps h1 h2 k)
theorem kW.rd {l:List aL} (h:kW B w v l):fb w v l:=by
 obtain ⟨a,cap,hv,hc,hm,hr⟩:=au.rh h;refine ⟨a,cap,hv,hc,hm,fun i hi=>?_⟩;have hl:l[i]?=some (l.getD i dA):=by rw [List.getD_eq_getElem?_getD,List.getElem?_eq_getElem hi];rfl
 obtain ⟨b,h,e1,_,e2,e3,e4,a1,c1,a2,c2,a3,c3,C,e5,e6,e7,e8⟩:=hr i _ hl;subst e5;refine ⟨b,0,a1,c1,a2,c2,a3,c3,e1,⟨e2,?_,?_,?_,_,_,rfl,e6.rd,e7.rd⟩,?_,e8.rd⟩
 ·rw [Nat.zero_add];exact e4 0 Z
 ·rw [Nat.zero_add];exact e4 1 Z
 ·rw [Nat.zero_add];exact e4 2 Z
 ·rw [Nat.zero_add];exact e4 3 Z
def Cm (B:Nat) (w:World) (h:List Value) (ac:List aL):Prop:=∃ a c C,h=[.slice a ac.length c]∧B≤C∧kW C w (.slice a ac.length c) ac
theorem Cm.keeps {D:Nat} (h1:157≠t) (h2:80≠t) (h3:83≠t) {w w':World} {h:List Value} {ac:List aL} (e:Cm B w h ac) (k:Keeps D t w w'):Cm B w' h ac:=by
 obtain ⟨a,c,C,e1,e2,e3⟩:=e;exact ⟨a,c,C,e1,e2,e3.keeps k h1 h2 h3⟩
theorem Cm.ext {ac:List aL} (e:Cm B w h ac) (k:Ext w w'):Cm B w' h ac:=by
 obtain ⟨a,c,C,e1,e2,e3⟩:=e;exact ⟨a,c,C,e1,e2,e3.ext k⟩
instance {ac:List aL}:Lx (Ext w w') (Cm B w h ac) (Cm B w' h ac):=⟨fun k h=>Cm.ext h k⟩
abbrev wR (B:Nat) (w:World) (v:Value) (l:List (List aL)):Prop:=au 84 1 (Cm B) B w v l
theorem wR.ext {l:List (List aL)} (h:wR B w v l) (k:Ext w w'):wR B w' v l:=au.ext h k (fun _ _ e=>e.ext k)
instance {l:List (List aL)}:Lx (Ext w w') (wR B w v l) (wR B w' v l):=⟨fun k h=>wR.ext h k⟩
theorem wR.keeps {l:List (List aL)} (h:wR B w v l) (k:Keeps C t w w') (h1:157≠t) (h2:80≠t) (h3:83≠t) (h4:84≠t):wR B w' v l:=au.jH h k h4 (fun _ _ e=>e.keeps h1 h2 h3 k)
theorem wR.rd {l:List (List aL)} (h:wR B w v l):gh w v l:=by
 obtain ⟨a,cap,hv,hc,hm,hr⟩:=au.rh h;refine ⟨a,cap,hv,hc,hm,fun i hi=>?_⟩;have hl:l[i]?=some (l.getD i []):=by rw [List.getD_eq_getElem?_getD,List.getElem?_eq_getElem hi];rfl
 obtain ⟨b,h,e1,_,e2,e3,e4,a1,c1,C,e5,_,e6⟩:=hr i _ hl;subst e5;refine ⟨b,0,a1,c1,e1,e2,?_,e6.rd⟩;exact WR
theorem Tryz.RF:(Tryz.prog.info? 80).map (fun i=>(i.zero,i.size,i.bytes))=some (some (.agg #[.int .i64 0,.bool false,.slice none 0 0,.slice none 0 0]),4,64):=ak
theorem Tryz.RH:(Tryz.prog.info? 83).map (fun i=>(i.zero,i.size,i.bytes))=some (some (.agg #[.bool false,.slice none 0 0,.slice none 0 0,.slice none 0 0]),4,80):=ak
theorem Tryz.RI:(Tryz.prog.info? 84).map (fun i=>(i.zero,i.size,i.bytes))=some (some (.slice none 0 0),1,24):=ak
theorem dM {c:Array Value} (hb:af w b c t) (x y z u:Value):Keeps 0 t w ((((w.setCell ⟨b,0,none⟩ x).setCell ⟨b,1,none⟩ y).setCell ⟨b,2,none⟩ z).setCell ⟨b,3,none⟩ u):=
 (((aB hb 0 x).trans (aB (hb.set 0 x) 1 y)).trans (aB ((hb.set 0 x).set 1 y) 2 z)).trans (aB (((hb.set 0 x).set 1 y).set 2 z) 3 u)
theorem GA {b:Bool} {r:RR} (h:aO w0 w (.agg #[.bool b,.slice a1 n1 c1,.slice a2 n2 c2]) r):gw 0 w (.slice a1 n1 c1) r.num∧gw 0 w (.slice a2 n2 c2) r.den:=by
 obtain ⟨vn,vd,e,h1,h2⟩:=h;injection e with e
 simp only [Array.mk.injEq,List.cons.injEq,and_true,true_and] at e;obtain ⟨_,rfl,rfl⟩:=e;exact ⟨gw.new h1,gw.new h2⟩
def LQ (An:Nat) (y:Out) (p1 p2:Option Addr) (d1 d2:Nat) (j:Nat) (v:Value) (W:World):Prop:=
 match j with
 | 0=>v=.pointer (some ⟨An,0,none⟩)
 | 1=>v=.int .i64 y.1
 | 2=>v=.pointer (some ⟨An,1,none⟩)
 | 3=>v=.agg #[.bool y.2.neg,.slice p1 y.2.num.length d1,.slice p2 y.2.den.length d2]
 | 4=>∃ a1 c1 a2 c2,v=.agg #[.bool y.2.neg,.slice a1 y.2.num.length c1,.slice a2 y.2.den.length c2]∧gw 0 W (.slice a1 y.2.num.length c1) y.2.num∧gw 0 W (.slice a2 y.2.den.length c2) y.2.den
 | 5=>∃ a1 c1 a2 c2,v=.agg #[.int .i64 y.1,.bool y.2.neg,.slice a1 y.2.num.length c1,.slice a2 y.2.den.length c2]∧gw 0 W (.slice a1 y.2.num.length c1) y.2.num∧gw 0 W (.slice a2 y.2.den.length c2) y.2.den
 | _=>True
theorem EK {y:Out} {p1 p2:Option Addr} (h:LQ An y p1 p2 d1 d2 j v W) (x:Ext W W'):LQ An y p1 p2 d1 d2 j v W':=by
 match j,h with
 | 0,h=>exact h
 | 1,h=>exact h
 | 2,h=>exact h
 | 3,h=>exact h
 | 4,⟨a1,c1,a2,c2,h1,h2,h3⟩=>exact ⟨a1,c1,a2,c2,h1,h2.ext x,h3.ext x⟩
 | 5,⟨a1,c1,a2,c2,h1,h2,h3⟩=>exact ⟨a1,c1,a2,c2,h1,h2.ext x,h3.ext x⟩
 | _+6,_=>trivial
theorem nP (y:Out) (p1 p2:Option Addr) (d1 d2:Nat) (w:World) (h:bH w (.agg #[.bool y.2.neg,.slice p1 y.2.num.length d1,.slice p2 y.2.den.length d2]) y.2) (hs:Oo y.2) :
  Calls Tryz.prog 206 #[.agg #[.int .i64 y.1,.bool y.2.neg,.slice p1 y.2.num.length d1,.slice p2 y.2.den.length d2]] w fun e w'=>(∃ a1 c1 a2 c2,e=.returned (.agg #[.int .i64 y.1,.bool y.2.neg,.slice a1 y.2.num.length c1,.slice a2 y.2.den.length c2])∧Ck w' [.int .i64 y.1,.bool y.2.neg,.slice a1 y.2.num.length c1,.slice a2 y.2.den.length c2] y)∧Ext w w':=by
 have HN:=kI h;have HS:=kI hs;clear h hs;have bb0:=((af.new w #[.int .i64 y.1,.bool y.2.neg,.slice p1 y.2.num.length d1,.slice p2 y.2.den.length d2] 80).alloc (.cells #[.int .i64 0,.bool false,.slice none 0 0,.slice none 0 0] 80));have bb1:=(af.new (w.alloc (.cells #[.int .i64 y.1,.bool y.2.neg,.slice p1 y.2.num.length d1,.slice p2 y.2.den.length d2] 80)) #[.int .i64 0,.bool false,.slice none 0 0,.slice none 0 0] 80);rw [World.size_alloc] at bb1;have x0:Ext w ((w.alloc (.cells #[.int .i64 y.1,.bool y.2.neg,.slice p1 y.2.num.length d1,.slice p2 y.2.den.length d2] 80)).alloc (.cells #[.int .i64 0,.bool false,.slice none 0 0,.slice none 0 0] 80)):=(((Ext.refl w).alloc _).alloc _);obtain ⟨A0,A1,X⟩:=cC bb0 bb1 x0;clear x0 bb0 bb1;go_enter Tryz.func206,Tryz.ntmps206
 go_wp2_with fail;obtain ⟨An,hAn⟩:=gN (w.heap.size);rw [← hAn] at A0 A1 ⊢;obtain ⟨w1,hw1⟩:=gN (((w.alloc (.cells #[.int .i64 y.1,.bool y.2.neg,.slice p1 y.2.num.length d1,.slice p2 y.2.den.length d2] 80)).alloc (.cells #[.int .i64 0,.bool false,.slice none 0 0,.slice none 0 0] 80)));rw [← hw1] at A0 A1 X ⊢;have AN:=kI hAn;clear hAn hw1;replace HN:=kI (HN.o.ext X.o);refine bE 6 (LQ An y p1 p2 d1 d2) ak ak ak (fun _ _ _ _ h x=>EK h x) ?_ ?_
 ·refine ⟨?_,?_,?_,?_,?_,?_,trivial⟩
  ·exact KG
  ·exact Xi
  ·exact KG
  ·intro a W hW hB hD K hK;obtain ⟨v5,e5,h5⟩:=aQ (hD 2 _ 5 rfl rfl ak);obtain rfl:=h5;exact Po
  ·intro a W hW hB hD K hK;obtain ⟨v6,e6,h6⟩:=aQ (hD 3 _ 6 rfl rfl ak);obtain rfl:=h6;go_simp;refine (iM _ y.2 _ (HN.o.ext hW) HS.o).mono ?_;exact WH
  ·intro a W hW hB hD K hK;obtain ⟨v4,e4,h4⟩:=aQ (hD 1 _ 4 rfl rfl ak);obtain rfl:=h4;obtain ⟨v7,e7,h7⟩:=aQ (hD 4 _ 7 rfl rfl ak);obtain ⟨x1,x2,x3,x4,rfl,e1,e2⟩:=h7;go_simp;exact hK _ _ (Ext.refl _) ⟨_,_,_,_,rfl,e1,e2⟩
 intro w9 hx;simp only [dR,List.take_succ_cons,List.take_zero,List.drop_succ_cons,List.drop_zero];rintro u0 - u1 - u2 - u3 - u4 - u5 h9;obtain ⟨a1,c1,a2,c2,rfl,h1,h2⟩:=h9;simp only [Act.put,List.setIfInBounds_toArray,List.set_cons_zero,List.set_cons_succ];have B1:=A1.x hx;have X1:=X.x hx;obtain ⟨q1,f1,l1⟩:=B1.o.q3;have E1:=kI h1;have E2:=kI h2;clear h1 h2;clear hx;go_wp2_with fail;refine bodyPost_ret (v:=.agg #[.int .i64 y.1,.bool y.2.neg,.slice a1 y.2.num.length c1,.slice a2 y.2.den.length c2]) (by simp only [results,Tryz.results206];go_simp) rfl ⟨⟨_,_,_,_,rfl,_,_,_,_,rfl,E1.o.keeps (dM B1.o _ _ _ _) ah,E2.o.keeps (dM B1.o _ _ _ _) ah⟩,?_⟩;have:=X1.o;have:=AN.o;exact eX
theorem mR (v:Value) (l:List Out) (w:World) (h:dD w v l) (hl:UK l) :
  Calls Tryz.prog 195 #[v] w fun e w'=>(∃ v',e=.returned v'∧jI w.heap.size w' v' l)∧Ext w w':=by
 obtain ⟨a,cap,rfl,hlm⟩:=h.shape;have HR:=kI h;have HL:=kI hl;have hlb:=hl.1;clear h hl;go_enter Tryz.func195,Tryz.ntmps195
 go_wp2_with fail;go_loopw [3,4] (fun v i wr=>∃ k:Nat,k≤l.length∧i=.int .i64 k∧jI w.heap.size wr v (l.take k)∧Ext w wr) (fun _ i _=>l.length - (intOf i).toNat)
 case atStart=>exact ⟨0,Nat.zero_le _,rfl,au.nil _ _ _ _ _,Ext.refl w⟩
 case round=>
  obtain ⟨k,hk,rfl,hown,hext⟩:=hrel;by_cases hlt:k < l.length
  ·obtain ⟨b,off,p1,d1,p2,d2,rfl,z⟩:=(HR.o.ext hext).at hlt;obtain ⟨hb,y0,y1,y2,y3,hrd⟩:=z;have hcp:=nP _ _ _ _ _ wr hrd (HL.o.2 k hlt);clear hrd;have hts:=bC l k dO hlt;have hlk:=List.length_take_of_le (Nat.le_of_lt hlt);obtain ⟨r,hrr⟩:=gN (l.getD k dO);rw [← hrr] at hts hcp y0 y1 y2 y3;obtain ⟨HC,HO,HX,HT,CQ⟩:=iR hcp hown hext hts hlk;have hz:=hext.size;have q1:(0:Int)≤(k:Int):=Z
   have q2:(k:Int) < (l.length:Int):=Z
   clear hcp hown hext hts hlk hrr;go_wp2_with fail;refine HC.o.mono ?_;rintro e w1 ⟨⟨g0,g1,g2,g3,rfl,hel⟩,hx⟩;have HE:=kI hel;clear hel;replace HO:=kI (jI.ext HO.o hx);replace HX:=HX.x hx;have hz1:=HX.o.size;clear y0 y1 y2 y3;go_wp2_with (at_builtin;(refine aN (El:=Ck) (l:=l.take k) w1 rfl _ _ 81 rfl w.heap.size 80 (.agg #[.int .i64 0,.bool false,.slice none 0 0,.slice none 0 0]) 4 64 Tryz.underlying81 Tryz.RF rfl ah (fun _ _ _ _ e k=>Ck.keeps ah e k) _ HO.o rfl [.int .i64 r.1,.bool r.2.neg,.slice g0 r.2.num.length g1,.slice g2 r.2.den.length g3] rfl iW r HE.o rfl CW CW hz1 ?_))
   exact Wv
  ·exact TM
def LS (An:Nat) (ya:aL) (p1 p2 p3:Option Addr) (d1 d2 d3:Nat) (j:Nat) (v:Value) (W:World):Prop:=
 match j with
 | 0=>v=.pointer (some ⟨An,0,none⟩)
 | 1=>v=.agg #[.bool ya.cost.neg,.slice p1 ya.cost.num.length d1,.slice p2 ya.cost.den.length d2]
 | 2=>∃ a1 c1 a2 c2,v=.agg #[.bool ya.cost.neg,.slice a1 ya.cost.num.length c1,.slice a2 ya.cost.den.length c2]∧gw 0 W (.slice a1 ya.cost.num.length c1) ya.cost.num∧gw 0 W (.slice a2 ya.cost.den.length c2) ya.cost.den
 | 3=>v=.pointer (some ⟨An,3,none⟩)
 | 4=>v=.slice p3 ya.next.length d3
 | 5=>∃ a3 c3,v=.slice a3 ya.next.length c3∧∃ B,0≤B∧jI B W (.slice a3 ya.next.length c3) ya.next
 | 6=>∃ a1 c1 a2 c2 a3 c3,v=.agg #[.bool ya.cost.neg,.slice a1 ya.cost.num.length c1,.slice a2 ya.cost.den.length c2,.slice a3 ya.next.length c3]∧gw 0 W (.slice a1 ya.cost.num.length c1) ya.cost.num∧gw 0 W (.slice a2 ya.cost.den.length c2) ya.cost.den∧∃ B,0≤B∧jI B W (.slice a3 ya.next.length c3) ya.next
 | _=>True
theorem EN {ya:aL} {p1 p2 p3:Option Addr} {d3:Nat} (h:LS An ya p1 p2 p3 d1 d2 d3 j v W) (x:Ext W W'):LS An ya p1 p2 p3 d1 d2 d3 j v W':=by
 match j,h with
 | 0,h=>exact h
 | 1,h=>exact h
 | 2,⟨a1,c1,a2,c2,h1,h2,h3⟩=>exact ⟨a1,c1,a2,c2,h1,h2.ext x,h3.ext x⟩
 | 3,h=>exact h
 | 4,h=>exact h
 | 5,⟨a3,c3,h1,B,hB,h2⟩=>exact ⟨a3,c3,h1,B,hB,h2.ext x⟩
 | 6,⟨a1,c1,a2,c2,a3,c3,h1,h2,h3,B,hB,h4⟩=>exact ⟨a1,c1,a2,c2,a3,c3,h1,h2.ext x,h3.ext x,B,hB,h4.ext x⟩
 | _+7,_=>trivial
theorem qt (ya:aL) (p1 p2 p3:Option Addr) (d1 d2 d3:Nat) (w:World) (h:bH w (.agg #[.bool ya.cost.neg,.slice p1 ya.cost.num.length d1,.slice p2 ya.cost.den.length d2]) ya.cost) (hn:dD w (.slice p3 ya.next.length d3) ya.next) (hs:lnX ya) :
  Calls Tryz.prog 171 #[.agg #[.bool ya.cost.neg,.slice p1 ya.cost.num.length d1,.slice p2 ya.cost.den.length d2,.slice p3 ya.next.length d3]] w fun e w'=>(∃ a1 c1 a2 c2 a3 c3,e=.returned (.agg #[.bool ya.cost.neg,.slice a1 ya.cost.num.length c1,.slice a2 ya.cost.den.length c2,.slice a3 ya.next.length c3])∧Cl w' [.bool ya.cost.neg,.slice a1 ya.cost.num.length c1,.slice a2 ya.cost.den.length c2,.slice a3 ya.next.length c3] ya)∧Ext w w':=by
 have HN:=kI h;have HO:=kI hn;have HS:=kI hs.1;have HL:=kI hs.2;clear h hs hn;have bb0:=((af.new w #[.bool ya.cost.neg,.slice p1 ya.cost.num.length d1,.slice p2 ya.cost.den.length d2,.slice p3 ya.next.length d3] 83).alloc (.cells #[.bool false,.slice none 0 0,.slice none 0 0,.slice none 0 0] 83));have bb1:=(af.new (w.alloc (.cells #[.bool ya.cost.neg,.slice p1 ya.cost.num.length d1,.slice p2 ya.cost.den.length d2,.slice p3 ya.next.length d3] 83)) #[.bool false,.slice none 0 0,.slice none 0 0,.slice none 0 0] 83);rw [World.size_alloc] at bb1;have x0:Ext w ((w.alloc (.cells #[.bool ya.cost.neg,.slice p1 ya.cost.num.length d1,.slice p2 ya.cost.den.length d2,.slice p3 ya.next.length d3] 83)).alloc (.cells #[.bool false,.slice none 0 0,.slice none 0 0,.slice none 0 0] 83)):=(((Ext.refl w).alloc _).alloc _);obtain ⟨A0,A1,X⟩:=cC bb0 bb1 x0;clear x0 bb0 bb1;go_enter Tryz.func171,Tryz.ntmps171
 go_wp2_with fail;obtain ⟨An,hAn⟩:=gN (w.heap.size);rw [← hAn] at A0 A1 ⊢;obtain ⟨w1,hw1⟩:=gN (((w.alloc (.cells #[.bool ya.cost.neg,.slice p1 ya.cost.num.length d1,.slice p2 ya.cost.den.length d2,.slice p3 ya.next.length d3] 83)).alloc (.cells #[.bool false,.slice none 0 0,.slice none 0 0,.slice none 0 0] 83)));rw [← hw1] at A0 A1 X ⊢;have AN:=kI hAn;clear hAn hw1;replace HN:=kI (HN.o.ext X.o);replace HO:=kI (HO.o.ext X.o);refine bE 7 (LS An ya p1 p2 p3 d1 d2 d3) ak ak ak (fun _ _ _ _ h x=>EN h x) ?_ ?_
 ·refine ⟨?_,?_,?_,?_,?_,?_,?_,trivial⟩
  ·exact KG
  ·exact Xi
  ·intro a W hW hB hD K hK;obtain ⟨v4,e4,h4⟩:=aQ (hD 1 _ 4 rfl rfl ak);obtain rfl:=h4;go_simp;refine (iM _ ya.cost _ (HN.o.ext hW) HS.o).mono ?_;exact WH
  ·exact KG
  ·exact jIq
  ·intro a W hW hB hD K hK;obtain ⟨v7,e7,h7⟩:=aQ (hD 4 _ 7 rfl rfl ak);obtain rfl:=h7;go_simp;refine (mR _ ya.next _ (HO.o.ext hW) HL.o).mono ?_;rintro e w9 ⟨⟨v,rfl,nn⟩,hx⟩;obtain ⟨x1,x2,rfl,-⟩:=au.rh nn;exact hK _ _ hx ⟨_,_,rfl,_,Nat.zero_le _,nn⟩
  ·exact zFm
 intro w9 hx;simp only [dR,List.take_succ_cons,List.take_zero,List.drop_succ_cons,List.drop_zero];rintro u0 - u1 - u2 - u3 - u4 - u5 - u6 h9;obtain ⟨a1,c1,a2,c2,a3,c3,rfl,h1,h2,h3⟩:=h9;simp only [Act.put,List.setIfInBounds_toArray,List.set_cons_zero,List.set_cons_succ];have B1:=A1.x hx;have X1:=X.x hx;obtain ⟨q1,f1,l1⟩:=B1.o.q3;obtain ⟨E1,E2,E3⟩:=cC h1 h2 h3;clear h1 h2 h3;clear hx;go_wp2_with fail;obtain ⟨C,hC,h3⟩:=E3.o;refine bodyPost_ret (v:=.agg #[.bool ya.cost.neg,.slice a1 ya.cost.num.length c1,.slice a2 ya.cost.den.length c2,.slice a3 ya.next.length c3]) (by simp only [results,Tryz.results171];go_simp) rfl ⟨⟨_,_,_,_,_,_,rfl,_,_,_,_,_,_,C,rfl,E1.o.keeps (dM B1.o _ _ _ _) ah,E2.o.keeps (dM B1.o _ _ _ _) ah,h3.keeps (dM B1.o _ _ _ _) ah ah⟩,?_⟩;have:=X1.o;have:=AN.o;exact eX
theorem nQ (v:Value) (l:List aL) (w:World) (h:fb w v l) (hl:YZ l) :
  Calls Tryz.prog 125 #[v] w fun e w'=>(∃ v',e=.returned v'∧kW w.heap.size w' v' l)∧Ext w w':=by
 obtain ⟨a,cap,rfl,hlm⟩:=h.shape;have HR:=kI h;have HL:=kI hl;have hlb:=hl.1;clear h hl;go_enter Tryz.func125,Tryz.ntmps125
 go_wp2_with fail;go_loopw [3,4] (fun v i wr=>∃ k:Nat,k≤l.length∧i=.int .i64 k∧kW w.heap.size wr v (l.take k)∧Ext w wr) (fun _ i _=>l.length - (intOf i).toNat)
 case atStart=>exact ⟨0,Nat.zero_le _,rfl,au.nil _ _ _ _ _,Ext.refl w⟩
 case round=>
  obtain ⟨k,hk,rfl,hown,hext⟩:=hrel;by_cases hlt:k < l.length
  ·obtain ⟨b,off,p1,d1,p2,d2,p3,d3,rfl,z⟩:=(HR.o.ext hext).at hlt;obtain ⟨⟨hb,y0,y1,y2,hrd⟩,y3,hrn⟩:=z;have hcp:=qt _ _ _ _ _ _ _ wr hrd hrn (HL.o.2 k hlt);clear hrd hrn;have hts:=bC l k dA hlt;have hlk:=List.length_take_of_le (Nat.le_of_lt hlt);obtain ⟨r,hrr⟩:=gN (l.getD k dA);rw [← hrr] at hts hcp y0 y1 y2 y3;obtain ⟨HC,HO,HX,HT,CQ⟩:=iR hcp hown hext hts hlk;have hz:=hext.size;have q1:(0:Int)≤(k:Int):=Z
   have q2:(k:Int) < (l.length:Int):=Z
   clear hcp hown hext hts hlk hrr;go_wp2_with fail;refine HC.o.mono ?_;rintro e w1 ⟨⟨g0,g1,g2,g3,g4,g5,rfl,hel⟩,hx⟩;have HE:=kI hel;clear hel;replace HO:=kI (kW.ext HO.o hx);replace HX:=HX.x hx;have hz1:=HX.o.size;clear y0 y1 y2 y3;go_wp2_with (at_builtin;(refine aN (El:=Cl) (l:=l.take k) w1 rfl _ _ 84 rfl w.heap.size 83 (.agg #[.bool false,.slice none 0 0,.slice none 0 0,.slice none 0 0]) 4 80 Tryz.underlying84 Tryz.RH rfl ah (fun _ _ _ _ e k=>Cl.keeps ah ah e k) _ HO.o rfl [.bool r.cost.neg,.slice g0 r.cost.num.length g1,.slice g2 r.cost.den.length g3,.slice g4 r.next.length g5] rfl iW r HE.o rfl CW CW hz1 ?_))
   exact Wv
  ·exact TM
theorem qu (v:Value) (l:List (List aL)) (w:World) (h:gh w v l) (hl:RE l) :
  Calls Tryz.prog 62 #[v] w fun e w'=>(∃ v',e=.returned v'∧wR w.heap.size w' v' l)∧Ext w w':=by
 obtain ⟨a,cap,rfl,hlm⟩:=h.shape;have HR:=kI h;have HL:=kI hl;have hlb:=hl.1;clear h hl;go_enter Tryz.func62,Tryz.ntmps62
 go_wp2_with fail;go_loopw [3,4] (fun v i wr=>∃ k:Nat,k≤l.length∧i=.int .i64 k∧wR w.heap.size wr v (l.take k)∧Ext w wr) (fun _ i _=>l.length - (intOf i).toNat)
 case atStart=>exact ⟨0,Nat.zero_le _,rfl,au.nil _ _ _ _ _,Ext.refl w⟩
 case round=>
  obtain ⟨k,hk,rfl,hown,hext⟩:=hrel;by_cases hlt:k < l.length
  ·obtain ⟨b,off,p1,d1,rfl,z⟩:=(HR.o.ext hext).at hlt;obtain ⟨hb,y0,hrd⟩:=z;have hcp:=nQ _ _ wr hrd (HL.o.2 k hlt);clear hrd;have hts:=bC l k [] hlt;have hlk:=List.length_take_of_le (Nat.le_of_lt hlt);obtain ⟨r,hrr⟩:=gN (l.getD k []);rw [← hrr] at hts hcp y0;obtain ⟨HC,HO,HX,HT,CQ⟩:=iR hcp hown hext hts hlk;have hz:=hext.size;have q1:(0:Int)≤(k:Int):=Z
   have q2:(k:Int) < (l.length:Int):=Z
   clear hcp hown hext hts hlk hrr;go_wp2_with fail;refine HC.o.mono ?_;rintro e w1 ⟨⟨v1,rfl,nn⟩,hx⟩;obtain ⟨a9,c9,rfl,-⟩:=au.rh nn;have hel:Cm w.heap.size w1 [.slice a9 r.length c9] r:=⟨a9,c9,_,rfl,hz,nn⟩;have HE:=kI hel;clear hel nn;replace HO:=kI (wR.ext HO.o hx);replace HX:=HX.x hx;have hz1:=HX.o.size;clear y0;go_wp2_with (at_builtin;(refine aN (El:=Cm w.heap.size) (l:=l.take k) w1 rfl _ _ 26 rfl w.heap.size 84 (.slice none 0 0) 1 24 Tryz.underlying26 Tryz.RI rfl ah (fun _ _ _ _ e k=>Cm.keeps ah ah ah e k) _ HO.o rfl [.slice a9 r.length c9] rfl iW r HE.o rfl CW CW hz1 ?_))
   exact Wv
  ·exact TM
def LT (An:Nat) (ya:MD) (p1 p2 p3:Option Addr) (d1 d2 d3:Nat) (wB:World) (j:Nat) (v:Value) (W:World):Prop:=
 match j with
 | 0=>v=.pointer (some ⟨An,0,none⟩)
 | 1=>v=.agg #[.bool ya.ag.neg,.slice p1 ya.ag.num.length d1,.slice p2 ya.ag.den.length d2]
 | 2=>∃ a1 c1 a2 c2,v=.agg #[.bool ya.ag.neg,.slice a1 ya.ag.num.length c1,.slice a2 ya.ag.den.length c2]∧gw 0 W (.slice a1 ya.ag.num.length c1) ya.ag.num∧gw 0 W (.slice a2 ya.ag.den.length c2) ya.ag.den
 | 3=>v=.pointer (some ⟨An,3,none⟩)
 | 4=>v=.slice p3 ya.states.length d3
 | 5=>∃ a3 c3,v=.slice a3 ya.states.length c3∧∃ B,wB.heap.size≤B∧wR B W (.slice a3 ya.states.length c3) ya.states
 | 6=>∃ a1 c1 a2 c2 a3 c3,v=.agg #[.bool ya.ag.neg,.slice a1 ya.ag.num.length c1,.slice a2 ya.ag.den.length c2,.slice a3 ya.states.length c3]∧gw 0 W (.slice a1 ya.ag.num.length c1) ya.ag.num∧gw 0 W (.slice a2 ya.ag.den.length c2) ya.ag.den∧∃ B,wB.heap.size≤B∧wR B W (.slice a3 ya.states.length c3) ya.states
 | _=>True
theorem EP {ya:MD} {p1 p2 p3:Option Addr} {d3:Nat} (h:LT An ya p1 p2 p3 d1 d2 d3 wB j v W) (x:Ext W W'):LT An ya p1 p2 p3 d1 d2 d3 wB j v W':=by
 match j,h with
 | 0,h=>exact h
 | 1,h=>exact h
 | 2,⟨a1,c1,a2,c2,h1,h2,h3⟩=>exact ⟨a1,c1,a2,c2,h1,h2.ext x,h3.ext x⟩
 | 3,h=>exact h
 | 4,h=>exact h
 | 5,⟨a3,c3,h1,B,hB,h2⟩=>exact ⟨a3,c3,h1,B,hB,h2.ext x⟩
 | 6,⟨a1,c1,a2,c2,a3,c3,h1,h2,h3,B,hB,h4⟩=>exact ⟨a1,c1,a2,c2,a3,c3,h1,h2.ext x,h3.ext x,B,hB,h4.ext x⟩
 | _+7,_=>trivial
theorem wT (ya:MD) (p1 p2 p3:Option Addr) (d1 d2 d3:Nat) (w:World) (h:bH w (.agg #[.bool ya.ag.neg,.slice p1 ya.ag.num.length d1,.slice p2 ya.ag.den.length d2]) ya.ag) (hn:gh w (.slice p3 ya.states.length d3) ya.states) (hs:Oo ya.ag) (hss:RE ya.states) :
  Calls Tryz.prog 11 #[.agg #[.bool ya.ag.neg,.slice p1 ya.ag.num.length d1,.slice p2 ya.ag.den.length d2,.slice p3 ya.states.length d3]] w fun e w'=>(∃ a1 c1 a2 c2 a3 c3 B,e=.returned (.agg #[.bool ya.ag.neg,.slice a1 ya.ag.num.length c1,.slice a2 ya.ag.den.length c2,.slice a3 ya.states.length c3])∧gw 0 w' (.slice a1 ya.ag.num.length c1) ya.ag.num∧gw 0 w' (.slice a2 ya.ag.den.length c2) ya.ag.den∧w.heap.size≤B∧wR B w' (.slice a3 ya.states.length c3) ya.states)∧Ext w w':=by
 obtain ⟨HN,HO,HS,HL⟩:=dW h hn hs hss;clear h hs hss hn;have bb0:=((af.new w #[.bool ya.ag.neg,.slice p1 ya.ag.num.length d1,.slice p2 ya.ag.den.length d2,.slice p3 ya.states.length d3] 28).alloc (.cells #[.bool false,.slice none 0 0,.slice none 0 0,.slice none 0 0] 28));have bb1:=(af.new (w.alloc (.cells #[.bool ya.ag.neg,.slice p1 ya.ag.num.length d1,.slice p2 ya.ag.den.length d2,.slice p3 ya.states.length d3] 28)) #[.bool false,.slice none 0 0,.slice none 0 0,.slice none 0 0] 28);rw [World.size_alloc] at bb1;have x0:Ext w ((w.alloc (.cells #[.bool ya.ag.neg,.slice p1 ya.ag.num.length d1,.slice p2 ya.ag.den.length d2,.slice p3 ya.states.length d3] 28)).alloc (.cells #[.bool false,.slice none 0 0,.slice none 0 0,.slice none 0 0] 28)):=(((Ext.refl w).alloc _).alloc _);obtain ⟨A0,A1,X⟩:=cC bb0 bb1 x0;clear x0 bb0 bb1;go_enter Tryz.func11,Tryz.ntmps11
 go_wp2_with fail;obtain ⟨An,hAn⟩:=gN (w.heap.size);rw [← hAn] at A0 A1 ⊢;obtain ⟨w1,hw1⟩:=gN (((w.alloc (.cells #[.bool ya.ag.neg,.slice p1 ya.ag.num.length d1,.slice p2 ya.ag.den.length d2,.slice p3 ya.states.length d3] 28)).alloc (.cells #[.bool false,.slice none 0 0,.slice none 0 0,.slice none 0 0] 28)));rw [← hw1] at A0 A1 X ⊢;have AN:=kI hAn;clear hAn hw1;replace HN:=kI (HN.o.ext X.o);replace HO:=kI (HO.o.ext X.o);refine bE 7 (LT An ya p1 p2 p3 d1 d2 d3 w1) ak ak ak (fun _ _ _ _ h x=>EP h x) ?_ ?_
 ·refine ⟨?_,?_,?_,?_,?_,?_,?_,trivial⟩
  ·exact KG
  ·exact Xi
  ·intro a W hW hB hD K hK;obtain ⟨v4,e4,h4⟩:=aQ (hD 1 _ 4 rfl rfl ak);obtain rfl:=h4;go_simp;refine (iM _ ya.ag _ (HN.o.ext hW) HS.o).mono ?_;exact WH
  ·exact KG
  ·exact jIq
  ·intro a W hW hB hD K hK;obtain ⟨v7,e7,h7⟩:=aQ (hD 4 _ 7 rfl rfl ak);obtain rfl:=h7;go_simp;refine (qu _ ya.states _ (HO.o.ext hW) HL.o).mono ?_;rintro e w9 ⟨⟨v,rfl,nn⟩,hx⟩;obtain ⟨x1,x2,rfl,-⟩:=au.rh nn;exact hK _ _ hx ⟨_,_,rfl,_,hW.size,nn⟩
  ·exact zFm
 intro w9 hx;simp only [dR,List.take_succ_cons,List.take_zero,List.drop_succ_cons,List.drop_zero];rintro u0 - u1 - u2 - u3 - u4 - u5 - u6 h9;obtain ⟨a1,c1,a2,c2,a3,c3,rfl,h1,h2,h3⟩:=h9;simp only [Act.put,List.setIfInBounds_toArray,List.set_cons_zero,List.set_cons_succ];have B1:=A1.x hx;have X1:=X.x hx;obtain ⟨q1,f1,l1⟩:=B1.o.q3;obtain ⟨E1,E2,E3⟩:=cC h1 h2 h3;clear h1 h2 h3;clear hx;go_wp2_with fail;obtain ⟨C,hC,h3⟩:=E3.o;refine bodyPost_ret (v:=.agg #[.bool ya.ag.neg,.slice a1 ya.ag.num.length c1,.slice a2 ya.ag.den.length c2,.slice a3 ya.states.length c3]) (by simp only [results,Tryz.results11];go_simp) rfl ⟨⟨_,_,_,_,_,_,C,rfl,E1.o.keeps (dM B1.o _ _ _ _) ah,E2.o.keeps (dM B1.o _ _ _ _) ah,Nat.le_trans X.o.size hC,h3.keeps (dM B1.o _ _ _ _) ah ah ah ah⟩,?_⟩;have:=X1.o;have:=AN.o;exact eX
section
open Go.RowKit Go.ChangeShapes Go.WideShapes Go.ChangeAt Go.Deep
theorem Tryz.LU:Tryz.prog.bytesOf 157=4:=ak
theorem Tryz.LW:Tryz.prog.bytesOf 80=64:=ak
theorem Tryz.L5:Tryz.prog.bytesOf 83=80:=ak
theorem Tryz.Ir:Tryz.prog.bytesOf 84=24:=ak
theorem Tryz.Is:Tryz.prog.cellsOf 157=1:=ak
theorem Tryz.It:Tryz.prog.cellsOf 23=1:=ak
theorem Tryz.Iu:Tryz.prog.cellsOf 4=1:=ak
theorem Tryz.ur:Tryz.prog.cellsOf 25=3:=ak
section
variable {H:Type} {enc:TypeId × Value→H} {w:World} {base:Nat} {spare:Nat→Bool} {held:Bool}
def Sz (t:TypeId) (d:DataW H):Prop:=∀ n ∈ d.weights Tryz.prog t,n≤reachBytes
theorem weightsAll_mem:∀ {l:List (DataW H)} {d:DataW H},d ∈ l→∀ n ∈ d.weights Tryz.prog e,n ∈ DataW.weightsAll Tryz.prog e l
 | x :: l,d,h,n,hn=>by
  simp only [DataW.weightsAll,List.mem_append];rcases List.mem_cons.1 h with rfl|h
  ·exact .inl hn
  ·exact .inr (weightsAll_mem h n hn)
 | [],_,h,_,_=>by cases h
theorem oH {m:Nat} {x:DataW H × List MemPlace} (ht:Tryz.prog.underlying t=some (.slice e)) (hb:Tryz.prog.bytesOf e=k) (hm:Tryz.prog.cellsOf e=m) (hm0:0 < m) (h:DataW.trod enc Tryz.prog w base spare held fuel t cs=some x) (hz:Sz t x.1) :
  ∃ (a:Option Addr) (len cap:Nat),cs=[.slice a len cap]∧len*k≤reachBytes∧∀ i,i < len→∃ (es:List Value) (n:Nat) (d:DataW H) (pl:List MemPlace),es.length=m∧(∀ b off,a=some ⟨b,off,none⟩→∀ j,j < m→w.cell? ⟨b,off+i*m+j,none⟩=es[j]?)∧DataW.trod enc Tryz.prog w base spare held n e es=some (d,pl)∧Sz e d:=by
 rcases open_slice ht h with ⟨rfl,_⟩|⟨a,len,cap,q,n',D,Pl,rfl,_,hlc,_,hk,rfl,hall⟩
 ·exact ⟨none,0,0,rfl,by omega,fun i hi=>by omega⟩
 ·have hlk:len≤q:=by rw [hk];split <;> omega
  refine ⟨some a,len,cap,rfl,?_,fun i hi=>?_⟩
  ·have:=hz ((len+(q - len))*k) (by simp [DataW.weights,ht,hb]);exact Nat.le_trans (Nat.mul_le_mul_right k (Nat.le_add_right len (q - len))) this
  ·obtain ⟨es,h1,h2⟩:=hall i Z;rw [hm] at h1;obtain ⟨_,hl,hcell⟩:=World.cells?_some h1;refine ⟨es,n',D i,Pl i,hl,fun b off e j hj=>?_,h2,fun n hn=>hz n ?_⟩
   ·have h5:=hcell j hj;rw [Option.some.inj e] at h5;rw [Go.WideShapes.add_plain,Go.WideShapes.add_plain] at h5;exact h5
   ·simp only [DataW.weights,ht,List.mem_cons,List.mem_append];exact .inr (.inl (weightsAll_mem (List.mem_map.2 ⟨i,List.mem_range.2 hi,rfl⟩) n hn))
theorem AS {a:Option Addr} {c:Nat} {x:DataW H × List MemPlace} (h:DataW.trod enc Tryz.prog w base spare held fuel 23 [.slice a n c]=some x) (hz:Sz 23 x.1):n≤35184372087808:=by
 obtain ⟨a',len,cap,e,h1,_⟩:=oH Tryz.underlying23 Tryz.LU Tryz.Is ah h hz;injection e with e _
 injection e with _ e2 _
 subst e2;unfold reachBytes at h1;omega
theorem Sz.field {fs:Array Field} (hu:Tryz.prog.underlying t=some (.struct fs)) {parts:List (DataW H)} (hz:Sz t (.agg parts)) {j:Nat} {f:Field} {d:DataW H} (hf:fs.toList[j]?=some f) (hd:parts[j]?=some d):Sz f.type d:=fun n hn=>
 hz n (by
  simp only [DataW.weights,hu];exact DataW.weights_mem_each (t:=f.type) (by rw [List.getElem?_map,hf];rfl) hd n hn)
theorem ER {b:Bool} {x:DataW H × List MemPlace} (h:DataW.trod enc Tryz.prog w base spare held fuel 25 [.bool b,.slice a1 n1 c1,.slice a2 n2 c2]=some x) (hz:Sz 25 x.1):n1≤35184372087808∧n2≤35184372087808:=by
 obtain ⟨xs,m,_,rfl,hl,hx,hf⟩:=DataW.trod_struct Tryz.underlying25 h;have h1:=hf 1 _ rfl;have h2:=hf 2 _ rfl;simp [Tryz.Iu,Tryz.It] at h1 h2;obtain ⟨y0,y1,y2,rfl⟩:∃ a b c,xs=[a,b,c]:=by match xs,hx with|[a,b,c],_=>exact ⟨a,b,c,rfl⟩
 simp at h1 h2;exact ⟨AS h1 (Sz.field Tryz.underlying25 hz (j:=1) rfl rfl),AS h2 (Sz.field Tryz.underlying25 hz (j:=2) rfl rfl)⟩
theorem RO {t:Int} {b:Bool} {x:DataW H × List MemPlace} (h:DataW.trod enc Tryz.prog w base spare held fuel 80 [.int .i64 t,.bool b,.slice a1 n1 c1,.slice a2 n2 c2]=some x) (hz:Sz 80 x.1):n1≤35184372087808∧n2≤35184372087808:=by
 obtain ⟨xs,m,_,rfl,hl,hx,hf⟩:=DataW.trod_struct Tryz.underlying80 h;have h1:=hf 1 _ rfl;simp [Tryz.uh,Tryz.ur] at h1;obtain ⟨y0,y1,rfl⟩:∃ a b,xs=[a,b]:=by match xs,hx with|[a,b],_=>exact ⟨a,b,rfl⟩
 simp at h1;exact ER h1 (Sz.field Tryz.underlying80 hz (j:=1) rfl rfl)
theorem L6 {l:List Out} {x:DataW H × List MemPlace} (hr:dD w v l) (h:DataW.trod enc Tryz.prog w base spare held fuel 81 [v]=some x) (hz:Sz 81 x.1):UK l:=by
 obtain ⟨a,len,cap,e,h1,h2⟩:=oH Tryz.underlying81 Tryz.LW Tryz.ui ah h hz;injection e with e _
 subst e;obtain ⟨a',cap',e,_⟩:=id hr;injection e with e1 e2 e3
 subst e1;subst e2;subst e3;refine ⟨by unfold reachBytes at h1;omega,fun i hi=>?_⟩;obtain ⟨b,off,p1,d1,p2,d2,rfl,o1,o2,o3,o4,o5,_⟩:=hr.at hi;obtain ⟨es,n,d,pl,k1,k2,k3,k4⟩:=h2 i hi;have q0:=k2 _ _ rfl 0 ah;have q1:=k2 _ _ rfl 1 ah;have q2:=k2 _ _ rfl 2 ah;have q3:=k2 _ _ rfl 3 ah;rw [Nat.add_zero,o2] at q0;rw [o3] at q1;rw [o4] at q2;rw [o5] at q3;match es,k1 with
 | [e0,e1,e2,e3],_=>
  simp at q0 q1 q2 q3;subst q0;subst q1;subst q2;subst q3;exact RO k3 k4
theorem RQ {y:aL} {c3:Nat} {b:Bool} {x:DataW H × List MemPlace} (hr:dD w (.slice a3 y.next.length c3) y.next) (h:DataW.trod enc Tryz.prog w base spare held fuel 83 [.bool b,.slice a1 n1 c1,.slice a2 n2 c2,.slice a3 y.next.length c3]=some x) (hz:Sz 83 x.1):n1≤35184372087808∧n2≤35184372087808∧UK y.next:=by
 obtain ⟨xs,m,_,rfl,hl,hx,hf⟩:=DataW.trod_struct Tryz.underlying83 h;have h0:=hf 0 _ rfl;have h1:=hf 1 _ rfl;simp [Tryz.wG,Tryz.ur] at h0 h1;obtain ⟨y0,y1,rfl⟩:∃ a b,xs=[a,b]:=by match xs,hx with|[a,b],_=>exact ⟨a,b,rfl⟩
 simp at h0 h1;obtain ⟨r1,r2⟩:=ER h0 (Sz.field Tryz.underlying83 hz (j:=0) rfl rfl);exact ⟨r1,r2,L6 hr h1 (Sz.field Tryz.underlying83 hz (j:=1) rfl rfl)⟩
theorem L7 {l:List aL} {x:DataW H × List MemPlace} (hr:fb w v l) (h:DataW.trod enc Tryz.prog w base spare held fuel 84 [v]=some x) (hz:Sz 84 x.1):YZ l:=by
 obtain ⟨a,len,cap,e,h1,h2⟩:=oH Tryz.underlying84 Tryz.L5 Tryz.uj ah h hz;injection e with e _
 subst e;obtain ⟨a',cap',e,_⟩:=id hr;injection e with e1 e2 e3
 subst e1;subst e2;subst e3;refine ⟨by unfold reachBytes at h1;omega,fun i hi=>?_⟩;obtain ⟨b,off,p1,d1,p2,d2,p3,d3,rfl,⟨o1,o2,o3,o4,_⟩,o5,o6⟩:=hr.at hi;obtain ⟨es,n,d,pl,k1,k2,k3,k4⟩:=h2 i hi;have q0:=k2 _ _ rfl 0 ah;have q1:=k2 _ _ rfl 1 ah;have q2:=k2 _ _ rfl 2 ah;have q3:=k2 _ _ rfl 3 ah;rw [Nat.add_zero,o2] at q0;rw [o3] at q1;rw [o4] at q2;rw [o5] at q3;match es,k1 with
 | [e0,e1,e2,e3],_=>
  simp at q0 q1 q2 q3;subst q0;subst q1;subst q2;subst q3;obtain ⟨r1,r2,r3⟩:=RQ o6 k3 k4;exact ⟨⟨r1,r2⟩,r3⟩
theorem RU {l:List (List aL)} {x:DataW H × List MemPlace} (hr:gh w v l) (h:DataW.trod enc Tryz.prog w base spare held fuel 26 [v]=some x) (hz:Sz 26 x.1):RE l:=by
 obtain ⟨a,len,cap,e,h1,h2⟩:=oH Tryz.underlying26 Tryz.Ir Tryz.wH ah h hz;injection e with e _
 subst e;obtain ⟨a',cap',e,_⟩:=id hr;injection e with e1 e2 e3
 subst e1;subst e2;subst e3;refine ⟨by unfold reachBytes at h1;omega,fun i hi=>?_⟩;obtain ⟨b,off,p1,d1,rfl,o1,o2,o3⟩:=hr.at hi;obtain ⟨es,n,d,pl,k1,k2,k3,k4⟩:=h2 i hi;have q0:=k2 _ _ rfl 0 ah;rw [Nat.add_zero,Nat.mul_one,o2] at q0;match es,k1 with
 | [e0],_=>
  simp at q0;subst q0;exact L7 o3 k3 k4
/-- A process of the arguments. -/
theorem RW {m:MD} {d:DataW H} {p:List MemPlace} (hr:dd w v m) (h:DataW.Trod enc Tryz.prog w base spare held 28 v d p) (hz:Sz 28 d):Oo m.ag∧RE m.states:=by
 obtain ⟨a1,c1,a2,c2,a3,c3,rfl,_,hs⟩:=hr;obtain ⟨fuel,h⟩:=h;have h':DataW.trod enc Tryz.prog w base spare held fuel 28 [.bool m.ag.neg,.slice a1 m.ag.num.length c1,.slice a2 m.ag.den.length c2,.slice a3 m.states.length c3]=some (d,p):=by simpa [Value.cells] using h
 obtain ⟨xs,_,_,hx0,hl,hx,hf⟩:=DataW.trod_struct Tryz.underlying28 h';have h0:=hf 0 _ rfl;have h1:=hf 1 _ rfl;simp [Tryz.sJ,Tryz.ur] at h0 h1;obtain ⟨y0,y1,rfl⟩:∃ a b,xs=[a,b]:=by match xs,hx with|[a,b],_=>exact ⟨a,b,rfl⟩
 simp at h0 h1;injection hx0 with hx1 _
 subst hx1;exact ⟨ER h0 (Sz.field Tryz.underlying28 hz (j:=0) rfl rfl),RU hs h1 (Sz.field Tryz.underlying28 hz (j:=1) rfl rfl)⟩
theorem Sz.L8 {ts:List TypeId} {ds:List (DataW H)} (h:(DataW.weightsEach Tryz.prog ts ds).all (·≤reachBytes)=true) {j:Nat} {t:TypeId} {d:DataW H} (ht:ts[j]?=some t) (hd:ds[j]?=some d):Sz t d:=fun n hn=>by
 have:=List.all_eq_true.1 h _ (DataW.weights_mem_each ht hd n hn);exact ri
end
end
theorem Cn {p:Nat} {q:Int} {m:Nat} (hl:bk l) (hp:p < l.length) (hq:0≤q) (hc:0≤c) (h:nv l+4294967296 ^ p*c.toNat=n+4294967296 ^ k*m) (hk:k≤p) (r:Nat) (hr:4294967296 ^ k*r=4294967296 ^ p*q.toNat) :
  nv (l.set p ((q+l.getD p 0+c) % 4294967296))+4294967296 ^ (p+1)*((q+l.getD p 0+c) / 4294967296).toNat=n+4294967296 ^ k*(m+r):=by
 have h1:=vB (q:=q) (c:=c) hl hp hq hc;rw [h1,Nat.mul_add,Nat.mul_add,hr];omega
theorem ES {x y z:Int} (hx:0≤x∧x < 4294967296) (hy:0≤y∧y < 4294967296) (hz:0≤z∧z < 4294967296) (hc:0≤c∧c < 4294967296):0≤x*y+z+c∧x*y+z+c < 18446744073709551616:=by
 have:=oC hx hy;omega
theorem wU (v1 v2:Value) (l1 l2:List Int) (w:World) (h1:aY .u32 w v1 l1) (h2:aY .u32 w v2 l2) (hl1:bk l1) (hl2:bk l2) (s1:l1.length≤10000000) (s2:l2.length≤10000000) :
  Calls Tryz.prog 173 #[v1,v2] w fun e w'=>(∃ v,e=.returned v∧bv w w' v (lim (nv l1*nv l2)))∧Ext w w':=by
 have H1:=kI h1;have H2:=kI h2;obtain ⟨a1,c1,rfl,hc1,hm1,hr1⟩:=fC h1;obtain ⟨a2,c2,rfl,hc2,hm2,hr2⟩:=fC h2;obtain ⟨R1,R2,jg,HL2⟩:=dW hr1 hr2 hl1 hl2;clear h1 h2 hr1 hr2 hl1 hl2;go_enter Tryz.func173,Tryz.ntmps173
 go_wp2_with (with_reducible refine d6 rfl _ _ rfl _ _ (l1.length+l2.length) rfl rfl Z Z Z ?_)
 intro w2 hrow2 hx2 hsz2;have HR2:=kI hrow2;have X2:=kI hx2;have W1:w.heap.size < w2.heap.size:=Z
 clear hrow2 hx2 hsz2;go_wp2_with fail;go_loopw [6,7,8,9] (fun i _ _ _ wr=>∃ (k:Nat) (lo:List Int),k≤l1.length∧i=.int .i64 k∧lo.length=l1.length+l2.length∧bk lo∧nv lo=nv (l1.take k)*nv l2∧(∀ t,k+l2.length≤t→lo.getD t 0=0)∧bh wr w.heap.size (l1.length+l2.length) lo∧Ext w wr)
  (fun i _ _ _ _=>l1.length - (intOf i).toNat)
 case atStart=>
  refine ⟨0,_,Nat.zero_le _,rfl,List.length_replicate,fP _,by rw [im];simp [nv],fun t _=>?_,HR2.o,X2.o⟩;exact Xa
 case round=>
  obtain ⟨k,lo,hk,rfl,e1,e2,e3,ez,e4,e5⟩:=hrel;obtain ⟨G1,G2,G3,GZ,G4,G5⟩:=od e1 e2 e3 ez e4 e5;clear e1 e2 e3 e4 e5 ez;by_cases hlt:k < l1.length
  ·obtain ⟨b,off,rfl,hbl,hx⟩:=R1.o k hlt;have hxl:=aI jg.o k;obtain ⟨x,hxx⟩:=gN (l1.getD k 0);rw [← hxx] at hx hxl;have Uo:=kI hxx;have HX:=kI hx;clear hx hxx;go_wp2_with fail;go_loopw [7,8,9] (fun cy i _ wq=>∃ (j:Nat) (c:Int) (lj:List Int),j≤l2.length∧i=.int .i64 j∧cy=.int .u64 c∧0≤c∧c < 4294967296∧lj.length=l1.length+l2.length∧bk lj∧nv lj+4294967296 ^ (k+j)*c.toNat=nv lo+4294967296 ^ k*(x.toNat*nv (l2.take j))∧
     (∀ t,k+l2.length≤t→lj.getD t 0=0)∧bh wq w.heap.size (l1.length+l2.length) lj∧Ext w wq)
    (fun _ i _ _=>l2.length - (intOf i).toNat)
   case atStart=>
    exact ⟨0,0,lo,Nat.zero_le _,rfl,rfl,by omega,by omega,G1.o,G2.o,by simp [nv],GZ.o,G4.o,G5.o⟩
   case round=>
    obtain ⟨j,c,lj,hj,rfl,rfl,c0,c1,e1,e2,e3,ez,e4,e5⟩:=hrel;by_cases hlt2:j < l2.length
    ·obtain ⟨b2,off2,rfl,L9,hy⟩:=R2.o j hlt2;have hyl:=aI HL2.o j;have hx':=(e5.cell (p:=⟨b,off+k,none⟩) hbl).trans HX.o;have hy':=(e5.cell (p:=⟨b2,off2+j,none⟩) L9).trans hy;obtain ⟨y,eQ⟩:=gN (l2.getD j 0);have hmt:=lS x.toNat l2 hlt2;rw [← eQ] at hy' hyl hmt;have hzl:=aI e2 (k+j);obtain ⟨z,hzz⟩:=gN (lj.getD (k+j) 0);have hz':=e4.getD (i:=k+j) Z hzz;have hst:=Cn (q:=x*y) (r:=4294967296 ^ j*(x*y).toNat) e2 (show k+j < lj.length by omega) (oC hxl hyl).1 c0 e3 Z (by rw [← Nat.mul_assoc,← Nat.pow_add]);rw [← hzz] at hst hzl;have hbig:=ES hxl hyl hzl ⟨c0,c1⟩;have Hm:(x*y).toNat=x.toNat*y.toNat:=Int.toNat_mul hxl.1 hyl.1;rw [Hm,← hmt] at hst;have hpb:=oC hxl hyl;obtain ⟨s,hs⟩:=gN (x*y+z+c);have fz:=e4.free;have lz:=e4.lt;have hcd:0≤(x*y+z+c) / 4294967296∧(x*y+z+c) / 4294967296 < 4294967296:=Z
     have R0:∀ t,k+l2.length≤t→(lj.set (k+j) ((x*y+z+c) % 4294967296)).getD t 0=0:=fun t ht=>by
      rw [eJ _ Z];exact ez t ht
     obtain ⟨G7,G8,Lc,J1,GS,GE⟩:=od e1 e2 e4 e5 hst R0;have q1:(0:Int)≤(j:Int):=Z
     have q2:(j:Int) < (l2.length:Int):=Z
     obtain ⟨hz0,hz1⟩:=hzl;obtain ⟨hx0,Xu⟩:=hxl;obtain ⟨hy0,hy1'⟩:=hyl;obtain ⟨hb0,hb1⟩:=hbig;obtain ⟨p1,p2⟩:=hpb;obtain ⟨d1,d2⟩:=hcd;clear e1 e2 e3 e4 e5 ez eQ hzz hst hmt Hm hy R0 hs;go_wp2_with fail;go_quiet (fail)
     go_wp2_with fail;go_roundw
     case rel=>
      refine ⟨j+1,(x*y+z+c) / 4294967296,lj.set (k+j) ((x*y+z+c) % 4294967296),by omega,by go_num,rfl,d1,d2,(List.length_set).trans G7.o,er G8.o _ _,?_,GE.o,?_,?_⟩
      ·rw [← Nat.add_assoc];exact GS.o
      ·exact (Lc.o.ext ((Ext.refl _).drewN _)).set (k+j) _ (by have:=G7.o;omega)
      ·exact (J1.o.drewN _).set (p:=⟨w.heap.size,k+j,none⟩) (Nat.le_refl _) _
     case measure=>simp [intOf];omega
    ·obtain rfl:j=l2.length:=Z
     rw [List.take_length] at e3;have hset:=lM (l:=lj) (k:=k+l2.length) Z c;rw [ez _ (Nat.le_refl _),show (0:Int).toNat=0 from rfl,Nat.mul_zero,Nat.add_zero,e3] at hset;have R0:∀ t,k+1+l2.length≤t→(lj.set (k+l2.length) c).getD t 0=0:=fun t ht=>by
      rw [eJ _ Z];exact ez t Z
     have hz2:=e4.cell (i:=k+l2.length) Z;have fz:=e4.free;have lz:=e4.lt;have hcm:c % 4294967296=c:=Z
     obtain ⟨G7,G8,GS,Lc,J1,GE⟩:=od e1 e2 hset e4 e5 R0;clear e1 e2 e3 e4 e5 ez hset R0;go_wp2_with fail;go_roundw
     case rel=>
      refine ⟨k+1,lj.set (k+l2.length) c,by omega,by go_num,(List.length_set).trans G7.o,jS G8.o _ c0 c1,?_,GE.o,?_,?_⟩
      ·rw [GS.o,G3.o,dy hlt,← Uo.o,Nat.add_mul,Nat.mul_assoc]
      ·exact Lc.o.set (k+l2.length) _ (by have:=G7.o;omega)
      ·exact J1.o.set (Nat.le_refl _) _
     case measure=>simp [intOf];omega
  ·obtain rfl:k=l1.length:=Z
   have e3:=G3.o;rw [List.take_length] at e3;have G9:=kI e3;clear e3;have hcall:=lI (some w.heap.size) _ lo wr (eZ.row G4.o) G2.o;rw [G1.o] at hcall;have HC:=kI hcall;clear hcall;go_wp2_with fail;refine HC.o.mono ?_;rintro e w5 ⟨v',rfl,hO,hx5⟩;have HO:=kI hO;have X5:=kI hx5;clear hO hx5;go_wp2_with fail;go_ret;rw [← G9.o];exact ⟨⟨v',rfl,some w.heap.size,HO.o,fun g hg=>by cases hg;exact Nat.le_refl _⟩,G5.o.trans X5.o⟩
theorem mu (ty:TypeId) (c:Nat) (v:Value) (n:Nat) (xs:List Value) (base:Nat) (hown:w.ownsRow base 157 1 v n xs) :
  (Builtin.append_ #[23,23] ty #[v,.slice none 0 c]).run Tryz.prog w=.ok v w:=by
 obtain ⟨i0,hi,hz0,hz1,hz2⟩:=info_parts Tryz.ko;rcases hown.2 with ⟨rfl,rfl⟩|⟨g,cap,cur,rfl,_,_,hnc,_⟩
 ·simp [Builtin.append_,run_underlying Tryz.underlying23,sizeOf,typeInfo,hi,Builtin.lenOf,Builtin.firstCells]
 ·simp [Builtin.append_,run_underlying Tryz.underlying23,sizeOf,typeInfo,hi,Builtin.lenOf,Builtin.firstCells,hnc,storeCells]
theorem eL {o:Oper} (hgd:o.guard=none) (s x:Operand)
  (ho:o.op=.call { callee:=.builtin .append,args:=#[s,x],argTypes:=#[23,23] }) (hs:a.eval s=.slice none 0 0) (vx:Value) (l:List Int) (hx:a.eval x=vx) (hr:aY .u32 W vx l) (hl:l.length≤1000000000)
  (h:∀ v' w',bv W w' v' l→Ext W w'→wpList Tryz.prog ops Q rest (a.put o.dst v') w'):wpList Tryz.prog ops Q (o :: rest) a W:=by
 obtain ⟨a1,c1,rfl,hc1,hm1,hrd⟩:=fC hr;cases a1 with
 | none=>
  have e:l=[]:=by
   cases l with
   | nil=>rfl
   | cons x xs=>obtain ⟨b,off,e,_⟩:=hrd 0 dc;cases e
  subst e;refine wpList_plain hgd fun K hK=>?_;have hrun:=mu (w:=W) o.type c1 (.slice none 0 0) 0 [] W.heap.size (World.ownsRow_nil _ _ _ _);unfold Oper.wp;simp [execOp,ho,resolve,invoke,builtin,hs,hx,hrun,Result.andThen];exact hK _ _ (h _ _ (bv.nil _ _) (Ext.refl _))
 | some p=>
  obtain ⟨i0,hi,hz0,hz1,hz2⟩:=info_parts Tryz.ko;refine wpList_append_own _ hgd s x 23 ho W.heap.size 157 i0 (.int .u32 0) 1 4 Tryz.underlying23 hi hz0 hz1 hz2 rfl ah _ 0 [] hs (World.ownsRow_nil _ _ _ _) p l.length c1 (l.map (Value.int .u32)) hx dc ?c1 ?c2 ?c3 ?c4 (Nat.le_refl _) ?_
  case c1=>
   intro j u hj;have hjl:j < l.length:=by have:=(List.getElem?_eq_some_iff.1 hj).1;simpa using this
   obtain ⟨b,off,e,hb,hcell⟩:=hrd j hjl;have hp:=Option.some.inj e;subst hp;rw [Go.WideShapes.add_plain];rw [hcell];exact kKi
  case c2=>intro u hu;obtain ⟨x,_,rfl⟩:=List.mem_map.1 hu;rfl
  case c3=>unfold maxLen;omega
  case c4=>omega
  intro v' w1 hown hgr _;have hX:Ext W w1:=((Gr.refl none W).fresh hgr (fun g hg=>by simp [Value.ownBlock] at hg)).ext;refine h v' w1 (bv.yp ?_) hX;rw [List.nil_append,Nat.zero_add] at hown;exact hown
theorem ze (W:World) (b off n len cap:Nat) (h:n≤len) (hc:len≤cap) (hm:cap≤9223372036854775807) :
  (Instr.slice 23 (.slice (some ⟨b,off,none⟩) len cap) (some (.int .i64 n)) none none).run Tryz.prog W=.ok (.slice (some ⟨b,if cap=n then off else off+n,none⟩) (len - n) (cap - n)) W:=by
 by_cases e:cap=n
 ·subst e;obtain rfl:len=cap:=Z
  rw [if_pos rfl];go_simp;done
 ·rw [if_neg e];go_simp;done
theorem Iv {c:Nat} (h:aY .u32 w (.slice (some ⟨b,off,none⟩) l.length c) l) (hn:n≤l.length) :
  aY .u32 w (.slice (some ⟨b,if c=n then off else off+n,none⟩) (l.length - n) (c - n)) (l.drop n):=by
 obtain ⟨a1,c1,e,hc1,hm1,hrd⟩:=fC h;injection e with e1 e2 e3
 subst e1;subst e3;refine lh.to (p:=fun _=>True) ⟨_,c - n,by rw [List.length_drop],by rw [List.length_drop];omega,by omega,fun i hi=>?_⟩;rw [List.length_drop] at hi;obtain ⟨b2,off2,e,hb,hx⟩:=hrd (n+i) Z;injection e with e
 injection e with e1 e2
 subst e1;subst e2;rw [if_neg Z];refine ⟨_,_,rfl,trivial,hb,?_⟩;rw [Nat.add_assoc,hx,List.getD_eq_getElem?_getD,List.getD_eq_getElem?_getD,List.getElem?_drop]
theorem zN {V:Nat} (h:bk lb) (hv:V < 2*nv lb):(lim V).length≤lb.length+1:=by
 refine aG.2 ?_;have:=bJ h;rw [Nat.pow_succ];generalize 4294967296 ^ lb.length=P at *
 omega
theorem gT (va vb:Value) (la lb:List Int) (w:World) (ha:aY .u32 w va la) (hb:aY .u32 w vb lb) (hla:bk la) (hlb:bk lb) (za:df la) (zb:df lb) (hs:la.length≤10000) (hs2:lb.length≤10000) (hpos:0 < nv lb) :
  Calls Tryz.prog 163 #[va,vb] w fun e w'=>(∃ v1 v2,e=.returned (.tuple #[v1,v2])∧bv w w' v1 (lim (nv la / nv lb))∧bv w w' v2 (lim (nv la % nv lb)))∧Ext w w':=by
 have HA:=kI ha;have HB:=kI hb;obtain ⟨aa,ca,rfl,hca,hma,hra⟩:=fC ha;obtain ⟨ab,cb,rfl,hcb,hmb,hrb⟩:=fC hb;obtain ⟨RA,i5,iX,Oa,Gk⟩:=iR hra hla hlb za zb;have hlb0:0 < lb.length:=by
  cases lb with
  | nil=>exact absurd hpos ah
  | cons x xs=>simp
 clear ha hb hra hrb hla hlb za zb;by_cases hsh:la.length < lb.length
 ·have hd:decide ((la.length:Int) - (lb.length:Int)+1≤0)=true:=decide_eq_true Z;have hlt:=gQ i5.o iX.o Gk.o hsh;have hdm:lim (nv la / nv lb)=[]∧lim (nv la % nv lb)=la:=by
   rw [Nat.div_eq_of_lt hlt,Nat.mod_eq_of_lt hlt,dg i5.o Oa.o];exact ⟨rfl,rfl⟩
  have HD:=kI hdm;clear hlt hdm;go_enter Tryz.func163,Tryz.ntmps163
  go_wp2_with (at_builtin;(refine eL rfl _ _ rfl rfl _ la rfl HA.o Z ?_))
  intro v' w2 hnew hx2;have N2:=kI hnew;have X2:=kI hx2;clear hnew hx2;go_wp2_with fail;go_ret2
  obtain ⟨e1,e2⟩:=HD.o;rw [e1,e2];exact ⟨⟨_,_,rfl,bv.nil _ _,N2.o⟩,X2.o⟩
 ·obtain ⟨b0,Iw,rfl,ai2,_⟩:=RA.o 0 Z;obtain ⟨n,hn⟩:∃ n:Nat,n=la.length - lb.length+1:=⟨_,rfl⟩;have hn1:(la.length:Int) - (lb.length:Int)+1=(n:Int):=Z
  have hn2:n≤la.length:=Z
  have hn3:1≤n:=Z
  have HN:=kI hn;clear hn;go_enter Tryz.func163,Tryz.ntmps163
  go_wp2_with (with_reducible refine d6 rfl _ _ rfl _ _ n rfl rfl Z Z Z ?_)
  intro w2 hrow2 hx2 hsz2;have HR2:=kI hrow2;have X2:=kI hx2;have W1:w.heap.size < w2.heap.size:=Z
  clear hrow2 hx2 hsz2;obtain ⟨o1,ho1⟩:=gN (if ca=n then Iw else Iw+n);have hsl:=fun W=>ze W b0 Iw n la.length ca hn2 hca hma;have hrd:=Iv HA.o hn2;rw [← ho1] at hsl hrd;have HRD:=kI hrd;clear ho1 hrd;go_wp2_with (at_builtin;(refine eL rfl _ _ rfl rfl _ (la.drop n) rfl (HRD.o.ext X2.o) (by rw [List.length_drop];omega) ?_))
  intro v3 w3 Ki hx3;have hN3:=Ki;obtain ⟨og,hov,hog⟩:=Ki;obtain ⟨Y3,X3,HG3⟩:=cC hov hx3 hog;clear hov hx3 hog hsl;have hdv:=jm la n hn2;have htk:=bJ (fi i5.o n);rw [List.length_take_of_le hn2,pow_two] at htk;rw [pow_two] at hdv;have hdr:nv la / 2 ^ (32*n)=nv (la.drop n):=by
   rw [hdv,Nat.add_mul_div_left _ _ (Nat.pow_pos Z),Nat.div_eq_of_lt htk,Nat.zero_add]
  have hlo:nv (la.drop n) < nv lb:=by
   have h1:=bJ (ve i5.o n);rw [List.length_drop] at h1;have h2:=zY iX.o Gk.o (by intro e;subst e;simp at hlb0);have h3:=f5 (show la.length - n≤lb.length - 1 by have:=HN.o;omega);omega
  have HDR:=kI hdr;have Io:=kI hlo;clear hdv htk hdr hlo;have Hn:=kI (HR2.o.ext X3.o);have hcut:=lI og v3 (la.drop n) w3 Y3.o (ve i5.o n);have Y4:=kI hcut;have hz3:=X3.o.size;have hX3:=X2.o.trans X3.o;have X3':=kI hX3;clear hcut hX3;go_wp2_with fail;refine Y4.o.mono ?_;rintro e w4 ⟨v4,rfl,Ob,hx4⟩;have O4:Hid (cF w4 (w.heap.size+1) v4 (lim (nv (la.drop n)))):=kI ⟨og,Ob,fun g hg=>by have:=HG3.o g hg;omega⟩;have X4:=kI (X3'.out.trans hx4);have R4:=Hn.x hx4;clear Ob hx4;go_wp2_with fail;go_loopw [8,9] (fun vr i wr=>∃ (k:Nat) (lq:List Int),k≤32*n∧i=.int .i64 ((k:Int) - 1)∧lq.length=n∧bk lq∧nv lq=nv la / 2 ^ k / nv lb*2 ^ k∧bh wr w.heap.size n lq∧cF wr (w.heap.size+1) vr (lim (nv la / 2 ^ k % nv lb))∧Ext w wr)
   (fun _ i _=>(intOf i+1).toNat)
  case atStart=>
   refine ⟨32*n,_,Nat.le_refl _,by go_num,List.length_replicate,fP _,?_,R4.o,?_,X4.o⟩
   ·rw [HDR.o,Nat.div_eq_of_lt Io.o,Nat.zero_mul,im]
   ·rw [HDR.o,Nat.mod_eq_of_lt Io.o];exact O4.o
  case round=>
   obtain ⟨k,lq,hk,rfl,e1,e2,e3,e4,e5,e6⟩:=hrel;obtain ⟨av,cv,rfl⟩:=e5.shape;obtain ⟨G1,G2,G3,G4,G5,G6⟩:=od e1 e2 e3 e4 e5 e6;have hzr:=e6.size;have ai3:=e4.lt;clear e1 e2 e3 e4 e5 e6;cases k with
   | zero=>
    have h3:=G3.o;have h5:=G5.o;rw [Nat.pow_zero,Nat.div_one,Nat.mul_one] at h3;rw [Nat.pow_zero,Nat.div_one] at h5;have hcut:=lI (some w.heap.size) _ lq wr (eZ.row G4.o) G2.o;rw [h3,G1.o] at hcut;have HC:=kI hcut;have H5:=kI h5;clear hcut h3 h5;go_wp2_with fail;refine HC.o.mono ?_;rintro e w5 ⟨v5,rfl,ho5,hx5⟩;have O5:=kI ho5;have X5:=kI hx5;clear ho5 hx5;go_wp2_with fail;go_ret2
    refine ⟨⟨_,_,rfl,⟨_,O5.o,fun g hg=>by cases hg;exact Nat.le_refl _⟩,?_⟩,G6.o.trans X5.o⟩;exact (H5.o.ext X5.o).mono (Nat.le_succ w.heap.size)
   | succ j=>
    have hstep:=vF (nv la / 2 ^ (j+1)) (nv lb) (nJ (nv la) j) hpos (Nat.mod_lt _ Z);rw [← Ag] at hstep;obtain ⟨R,hR⟩:=gN (nv la / 2 ^ (j+1) % nv lb);have hRb:R < nv lb:=by rw [hR];exact Nat.mod_lt _ hpos
    rw [← hR] at hstep G5 ⊢;have hbit:=DU la i5.o (j / 32) (j % 32) (Nat.mod_lt _ Z) Z;rw [Nat.div_add_mod] at hbit;have L9:nJ (nv la) j < 2:=Nat.mod_lt _ Z;obtain ⟨bt,hbt⟩:=gN (nJ (nv la) j);rw [← hbt] at hstep hbit L9;obtain ⟨b1,o2,e,hbx,hcx⟩:=RA.o (j / 32) Z;injection e with e
    injection e with e e'
    subst e;subst e';have hxl:=aI i5.o (j / 32);obtain ⟨x,hx⟩:=gN (la.getD (j / 32) 0);rw [← hx] at hcx hbit hxl;have hxz:x / 2 ^ (j % 32) % 2=(bt:Int):=by
     obtain ⟨y,rfl⟩:=Int.eq_ofNat_of_zero_le hxl.1;rw [hbit,Int.toNat_natCast];simp
    have hlR:(lim R).length≤10000:=Nat.le_trans (aG.2 (Nat.lt_trans hRb (bJ iX.o))) hs2;have hsum:=fun W (h:aY .u32 W (.slice av (lim R).length cv) (lim R))=>sum_any (.slice av (lim R).length cv) (.slice av (lim R).length cv) (lim R) (lim R) W h h (aH _) (aH _) Z Z;rw [aA] at hsum;obtain ⟨oX,HST,HRB,HCX,Y7⟩:=iR hsum hstep hRb hcx hxz;have hk2:j < 32*n:=Z
    clear hsum hstep hbit hbt hx hR hxz hcx hk;have hj1:(((j+1:Nat):Int) - 1)=(j:Int):=Z
    rw [hj1];go_wp2_with fail;refine (oX.o _ G5.o.rd).mono ?_;rintro e w5 ⟨⟨v5,rfl,n5⟩,hx5⟩;obtain ⟨a5,c5,rfl⟩:=n5.shape;have N5:Hid (cF w5 (w.heap.size+1) (.slice a5 (lim (R+R)).length c5) (lim (R+R))):=kI (cF.mono n5 Z);have X5:=G6.x hx5;have R5:=G4.x hx5;have ai4:=(X5.o.cell (p:=⟨b0,Iw+j / 32,none⟩) hbx).trans HCX.o;have hz5:=X5.o.size;clear n5 hx5;have q1:(0:Int)≤(j:Int):=Z
    have q2:(j:Int) / 32 < (la.length:Int):=Z
    have q3:(0:Int)≤(j:Int) / 32:=Z
    have hb2:bt=0∨bt=1:=Z
    obtain ⟨x0,x1⟩:=hxl;have hxt:(x / 2 ^ (j % 32)).tmod 2=(bt:Int):=by
     rw [Int.tmod_eq_emod_of_nonneg (Int.ediv_nonneg x0 (Int.pow_nonneg Z))];exact Y7.o
    rcases hb2 with rfl|rfl
    ·have hxb:((x / 2 ^ (j % 32)).tmod 2 == 1)=false:=by rw [hxt];rfl
     clear hxt;go_wp2_with fail;obtain ⟨V,hV⟩:=gN (R+R);rw [← hV] at N5 ⊢;have hstp:=HST.o;rw [show 2*R+0=V by omega] at hstp;have tj:=kI hstp;clear hstp hV;have N6:=N5;have X6:=X5;have R6:=R5;obtain ⟨a6,ha6⟩:=gN (a5);obtain ⟨c6,hc6⟩:=gN (c5);obtain ⟨w6,hw6⟩:=gN (w5);subst ha6;subst hc6;subst hw6;exact jWw
    ·have hxb:((x / 2 ^ (j % 32)).tmod 2 == 1)=true:=by rw [hxt];rfl
     clear hxt;go_wp2_with fail;have hone:=Ai w5 [1] dc;have hs1:=sum_any (.slice a5 (lim (R+R)).length c5) (.slice (some ⟨w5.heap.size,0,none⟩) 1 1) (lim (R+R)) [1] _ (N5.o.rd.ext ((Ext.refl w5).alloc _)) hone (aH _) (Qu [1] ah) (Nat.le_trans (zN iX.o (show R+R < 2*nv lb by have:=HRB.o;omega)) Z) ah;rw [aA,show nv [1]=1 from rfl] at hs1;refine hs1.mono ?_;clear hs1 hone;rintro e w6 ⟨⟨v6,rfl,n6⟩,hx6⟩;obtain ⟨a6,c6,rfl⟩:=n6.shape;have N6:Hid (cF w6 (w.heap.size+1) (.slice a6 (lim (R+R+1)).length c6) (lim (R+R+1))):=kI (cF.mono n6 (by simp only [World.size_alloc];have:=R5.o.lt;omega));have hxa:=((Ext.refl w5).alloc (.cells #[.int .u32 1] 157)).trans hx6;have X6:=X5.x hxa;have R6:=R5.x hxa;clear n6 hx6 hxa;obtain ⟨V,hV⟩:=gN (R+R+1);rw [← hV] at N6 ⊢;have hstp:=HST.o;rw [show 2*R+1=V by omega] at hstp;have tj:=kI hstp;clear hstp hV;go_wp2_with fail;exact jWw
theorem qw (va vb:Value) (la lb:List Int) (w:World) (ha:aY .u32 w va la) (hb:aY .u32 w vb lb) (hla:bk la) (hlb:bk lb) (za:df la) (zb:df lb) (hs:la.length≤10000) (hs2:lb.length≤10000) :
  Calls Tryz.prog 152 #[va,vb] w fun e w'=>(∃ v,e=.returned v∧bv w w' v (lim (Nat.gcd (nv la) (nv lb))))∧Ext w w':=by
 have HA:=kI ha;have HB:=kI hb;obtain ⟨aa,ca,rfl,hca,hma,hra⟩:=fC ha;obtain ⟨ab,cb,rfl,hcb,hmb,hrb⟩:=fC hb;obtain ⟨i5,iX,Oa,Gk⟩:=dW hla hlb za zb;clear ha hb hra hrb hla hlb za zb;obtain ⟨G,hG⟩:=gN (Nat.gcd (nv la) (nv lb));rw [← hG];have HG:=kI hG;clear hG;go_enter Tryz.func152,Tryz.ntmps152
 go_wp2_with fail;go_loopg [0,1,5,6] (nv lb) (fun g va vb _ _ wr=>∃ (x y:Nat),y≤g∧aY .u32 wr va (lim x)∧aY .u32 wr vb (lim y)∧(lim x).length≤10000∧(lim y).length≤10000∧Nat.gcd x y=G∧Ext w wr)
 case atStart=>
  refine ⟨nv la,nv lb,Nat.le_refl _,?_,?_,?_,?_,HG.o.symm,Ext.refl w⟩
  ·rw [dg i5.o Oa.o];exact HA.o
  ·rw [dg iX.o Gk.o];exact HB.o
  ·rw [dg i5.o Oa.o];exact hs
  ·rw [dg iX.o Gk.o];exact hs2
 case round=>
  obtain ⟨x,y,hy,hx1,hy1,hlx,Y8,hg,hext⟩:=hrel;have RX:=kI hx1;have RY:=kI hy1;obtain ⟨ax,cx,rfl,_,_,_⟩:=fC hx1;obtain ⟨ay,cy,rfl,_,_,_⟩:=fC hy1;have X:=kI hext;have GG:=kI hg;clear hx1 hy1 hext hg HA HB;by_cases h0:y=0
  ·subst h0;rw [lJ];go_wp2_with (at_builtin;(refine eL rfl _ _ rfl rfl _ (lim x) rfl RX.o Z ?_))
   intro v' w2 hnew hx2;have N2:=kI hnew;have X2:=kI hx2;clear hnew hx2;go_wp2_with fail;go_ret;rw [← GG.o,Nat.gcd_zero_right];exact ⟨⟨_,rfl,N2.o.from X.o⟩,X.o.trans X2.o⟩
  ·have hlp:(0:Int) < ((lim y).length:Int):=by
    have:lim y≠[]:=fun e=>h0 (by rw [← aA y,e];rfl);have:=List.length_pos_iff.2 this;omega
   have hdv:=gT _ _ (lim x) (lim y) _ RX.o RY.o (aH _) (aH _) (aW _) (aW _) hlx Y8 (by rw [aA];omega);rw [aA,aA] at hdv;have HDV:=kI hdv;clear hdv;go_wp2_with fail;refine HDV.o.mono ?_;rintro e w2 ⟨⟨v1,v2,rfl,n1,n2⟩,hx2⟩;have N2:=kI n2.rd;have X2:=X.x hx2;have RY2:=RY.x hx2;clear n1 n2 hx2;go_wp2_with fail;go_roundg (x % y)
   case measure=>have:=Nat.mod_lt x (Nat.pos_of_ne_zero h0);omega
   case rel=>
    refine ⟨y,x % y,Nat.le_refl _,RY2.o,N2.o,Y8,?_,?_,X2.o⟩
    ·refine Nat.le_trans (aG.2 (Nat.lt_trans (Nat.mod_lt x (Nat.pos_of_ne_zero h0)) ?_)) Y8;exact aG.1 (Nat.le_refl _)
    ·rw [← GG.o,Nat.gcd_comm x y,Nat.gcd_rec y x,Nat.gcd_comm]
theorem wV (n:Nat) (w:World) (hn:n < 18446744073709551616) :
  Calls Tryz.prog 164 #[.int .u64 n] w fun e w'=>(∃ v,e=.returned v∧bv w w' v (lim n))∧Ext w w':=by
 have h0:(0:Int)≤(n:Int):=Z
 have h1:(n:Int) < 18446744073709551616:=Z
 have hl:bk [(n:Int) % 4294967296,(n:Int) / 4294967296]:=by
  exact jD1
 have hv:nv [(n:Int) % 4294967296,(n:Int) / 4294967296]=n:=by simp only [nv];omega
 have hr:bh (w.alloc (.cells #[.int .u32 ((n:Int) % 4294967296),.int .u32 ((n:Int) / 4294967296)] 157)) w.heap.size 2 [(n:Int) % 4294967296,(n:Int) / 4294967296]:=bh.new w [(n:Int) % 4294967296,(n:Int) / 4294967296] dc;have ho:=eZ.row hr;obtain ⟨HL,HV,HO⟩:=cC hl hv ho;clear hl hv hr ho;go_enter Tryz.func164,Tryz.ntmps164
 go_wp2_with fail;refine (lI (some w.heap.size) _ [(n:Int) % 4294967296,(n:Int) / 4294967296] _ HO.o HL.o).mono ?_;rintro e w1 ⟨v',rfl,h1,h2⟩;have P1:=kI h1;have P2:=kI h2;clear h1 h2;go_wp2_with fail;go_ret;refine ⟨⟨_,rfl,some w.heap.size,?_,fun g hg=>by cases hg;exact Nat.le_refl _⟩,((Ext.refl w).alloc _).trans P2.o⟩;have:=P1.o;rw [HV.o] at this;exact this
theorem mw (k:Int) (n:Nat) (w:World) (hn:n < 18446744073709551616) (hk:k=n) :
  Calls Tryz.prog 164 #[.int .u64 k] w fun e w'=>(∃ v,e=.returned v∧bv w w' v (lim n))∧Ext w w':=by
 subst hk;exact wV n w hn
theorem one_any (w:World):Calls Tryz.prog 116 #[] w fun e w'=>(∃ v,e=.returned v∧bv w w' v [1])∧Ext w w':=by
 go_enter Tryz.func116,Tryz.ntmps116
 go_wp2_with fail;go_ret;exact ⟨⟨_,rfl,⟨some w.heap.size,eZ.row (bh.new w [1] dc),fun g h=>by cases h;exact Nat.le_refl _⟩⟩,(Ext.refl w).alloc _⟩
theorem zf (n:Int) (w:World) (h0 : -9223372036854775808≤n) (h1:n≤9223372036854775807) :
  Calls Tryz.prog 115 #[.int .i64 n] w fun e w'=>(∃ v,e=.returned v∧bv w w' v (lim n.natAbs))∧Ext w w':=by
 by_cases hn:n < 0
 ·have hf:=fun k hk W=>mw k n.natAbs W Z hk;have HF:=kI hf;obtain ⟨m,hm⟩:=gN (n.natAbs);rw [← hm] at HF ⊢;have hmn:(m:Int) = -n:=Z
  clear hf hm;go_enter Tryz.func115,Tryz.ntmps115
  exact qUg
 ·have hf:=fun k hk W=>mw k n.natAbs W Z hk;have HF:=kI hf;obtain ⟨m,hm⟩:=gN (n.natAbs);rw [← hm] at HF ⊢;have hmn:(m:Int)=n:=Z
  clear hf hm;go_enter Tryz.func115,Tryz.ntmps115
  go_wp2_with fail;refine (HF.o _ Z _).mono ?_;exact Ws
theorem Co (b:Bool) {n d:Nat} (hn:n≠0) (hd:d≠0):rep (mkRat (sg b n) d)=⟨b,lim (n / Nat.gcd n d),if lim (d / Nat.gcd n d)=[1] then [] else lim (d / Nat.gcd n d)⟩:=by
 rw [pK b hn hd];have:(lim (d / Nat.gcd n d)=[1])↔(d / Nat.gcd n d=1):=by
  constructor
  ·intro h;rw [← aA (d / Nat.gcd n d),h];rfl
  ·intro h;rw [h];rfl
 by_cases h:d / Nat.gcd n d=1
 ·rw [if_pos h,if_pos (this.2 h)]
 ·rw [if_neg h,if_neg (fun e=>h (this.1 e))]
theorem qx (b:Bool) (vp vq:Value) (lp lq:List Int) (w:World) (hp:aY .u32 w vp lp) (hq:aY .u32 w vq lq) (gp:bk lp) (gq:bk lq) (zp:df lp) (zq:df lq) (sp:lp.length≤10000) (sq:lq.length≤10000) (h0:nv lq≠0) :
  Calls Tryz.prog 114 #[.bool b,vp,vq] w fun e w'=>(∃ v,e=.returned v∧aO w w' v (rep (mkRat (sg b (nv lp)) (nv lq))))∧Ext w w':=by
 have HP:=kI hp;have HQ:=kI hq;obtain ⟨ap,cp,rfl⟩:=am hp;obtain ⟨aq,cq,rfl⟩:=am hq;clear hp hq;have b0:=af.new w #[.bool false,.slice none 0 0,.slice none 0 0] 25;have B0:=kI b0;have X0:=kI ((Ext.refl w).alloc (.cells #[.bool false,.slice none 0 0,.slice none 0 0] 25));clear b0;by_cases hl:lp.length=0
 ·obtain rfl:lp=[]:=List.length_eq_zero_iff.1 hl;rw [show nv ([]:List Int)=0 from rfl,vQ];clear hl;go_enter Tryz.func114,Tryz.ntmps114
  go_wp2_with fail;exact bodyPost_ret (v:=.agg #[.bool false,.slice none 0 0,.slice none 0 0]) Xk rfl ⟨⟨_,rfl,aO.zero _ _⟩,eX⟩
 ·have hn:nv lp≠0:=fun e=>hl ((cD gp zp).1 e);have hlb:((lp.length:Int) == 0)=false:=by simp only [beq_eq_false_iff_ne];omega
  have hms:=Co b hn h0;have hcom:=fun W h1 h2=>qw (.slice ap lp.length cp) (.slice aq lq.length cq) lp lq W h1 h2 gp gq zp zq sp sq;have KN:0 < Nat.gcd (nv lp) (nv lq):=Nat.gcd_pos_of_pos_left _ Z;obtain ⟨g,hg⟩:=gN (Nat.gcd (nv lp) (nv lq));have hgl:(lim g).length≤10000:=by
   refine Nat.le_trans (aG.2 ?_) sp;rw [hg];exact Nat.lt_of_le_of_lt (Nat.gcd_le_left _ Z) (bJ gp)
  rw [← hg] at hms hcom KN;have hd1:=fun W v h1 h2=>gT (.slice ap lp.length cp) v lp (lim g) W h1 h2 gp (aH _) zp (aW _) sp hgl Uf;have hd2:=fun W v h1 h2=>gT (.slice aq lq.length cq) v lq (lim g) W h1 h2 gq (aH _) zq (aW _) sq hgl Uf;rw [aA] at hd1 hd2;obtain ⟨L1,hL1⟩:=gN (lim (nv lp / g));obtain ⟨L2,hL2⟩:=gN (lim (nv lq / g));obtain ⟨RS,hRS⟩:=gN (rep (mkRat (sg b (nv lp)) (nv lq)));rw [← hL1] at hms hd1;rw [← hL2] at hms hd2;rw [← hRS] at hms;rw [← hRS];obtain ⟨Y9,HD1,HD2,sN⟩:=dW hcom hd1 hd2 hms;clear hms hcom hd1 hd2 hL1 hL2 hRS hg KN hl hn;go_enter Tryz.func114,Tryz.ntmps114
  go_wp2_with fail;refine (Y9.o _ (HP.o.ext X0.o) (HQ.o.ext X0.o)).mono ?_;rintro e w1 ⟨⟨v,rfl,n1⟩,hx1⟩;obtain ⟨a1,c1,rfl⟩:=n1.shape;have N1:=kI n1.rd;have B1:=B0.x hx1;have X1:=X0.x hx1;clear n1 hx1;go_wp2_with fail;refine (HD1.o _ _ (HP.o.ext X1.o) N1.o).mono ?_;rintro e w2 ⟨⟨v1,v2,rfl,n2,n3⟩,hx2⟩;obtain ⟨a2,c2,rfl⟩:=n2.shape;obtain ⟨a3,c3,rfl⟩:=n3.shape;have N2:=kI (n2.from X1.o);have B2:=B1.x hx2;have X2:=X1.x hx2;have N1:=N1.x hx2;clear n2 n3 hx2;go_wp2_with fail;refine (HD2.o _ _ (HQ.o.ext X2.o) N1.o).mono ?_;rintro e w3 ⟨⟨v1,v2,rfl,n4,n5⟩,hx3⟩;obtain ⟨a4,c4,rfl⟩:=n4.shape;obtain ⟨a5,c5,rfl⟩:=n5.shape;have N4:=kI (n4.from X2.o);have B3:=B2.x hx3;have X3:=X2.x hx3;have N2:=N2.x hx3;clear n4 n5 hx3;go_wp2_with fail;refine (one_any _).mono ?_;rintro e w4 ⟨⟨v,rfl,n6⟩,hx4⟩;obtain ⟨a6,c6,rfl⟩:=n6.shape;have N6:=kI n6.rd;have B4:=B3.x hx4;have X4:=X3.x hx4;have N2:=N2.x hx4;have N4:=N4.x hx4;clear n6 hx4;go_wp2_with fail;have heq:=dQ _ _ L2 [1] _ N4.o.rd N6.o;refine heq.mono ?_;clear heq;rintro e w5 ⟨rfl,hx5⟩;have B5:=B4.x hx5;have X5:=X4.x hx5;have N2:=N2.x hx5;have N4:=N4.x hx5;clear hx5;have k0:=B5.o.cell;have f0:=B5.o.free;have l0:=B5.o.lt;by_cases h1:L2=[1]
  ·rw [decide_eq_true h1];have e:=sN.o;rw [if_pos h1] at e;have E:=kI e;clear e h1;go_wp2_with fail;refine bodyPost_ret (v:=.agg #[.bool b,.slice a2 L1.length c2,.slice none 0 0]) Xk rfl ⟨⟨_,rfl,?_⟩,?_⟩
   ·rw [E.o];exact aO.cW (r:=⟨b,L1,[]⟩) ⟨_,_,rfl,N2.o,bv.nil _ _⟩ B5.o ah _ _ _
   ·have:=X5.o;exact eX
  ·rw [decide_eq_false h1];have e:=sN.o;rw [if_neg h1] at e;have E:=kI e;clear e h1;go_wp2_with fail;refine bodyPost_ret (v:=.agg #[.bool b,.slice a2 L1.length c2,.slice a4 L2.length c4]) Xk rfl ⟨⟨_,rfl,?_⟩,?_⟩
   ·rw [E.o];exact aO.cW (r:=⟨b,L1,L2⟩) ⟨_,_,rfl,N2.o,N4.o⟩ B5.o ah _ _ _
   ·have:=X5.o;exact eX
end Go.Proofs.YtnnjbaijcaiohaaGreat
