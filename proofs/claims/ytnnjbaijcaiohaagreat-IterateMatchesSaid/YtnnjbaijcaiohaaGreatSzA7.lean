/- Walks and lemmas. -/
import Derived.Test.YtnnjbaijcaiohaaGreatSzA5
import Derived.Test.YtnnjbaijcaiohaaGreatSzA6
set_option linter.unusedVariables false
set_option linter.unusedSimpArgs false
set_option maxRecDepth 100000
set_option maxHeartbeats 16000000
namespace Go.Proofs.YtnnjbaijcaiohaaGreat
open Go.RowKit
variable {a a0:Act} {listed:Array Bool} {T:Array Bool→World→Prop} {ops:Array Oper} {ps:Array Tmp} {args tmps:Array Value} {assign body:Code} {Q:Exit→Act→World→Prop} {F:Fence} {u:FrameMode} {f:FuncId} {c s:Int} {plan:List (List Int)} {ds:List Deferred} {l l1 l2 la lb lq:List Int} {rest:List Oper} {cs h vs xs:List Value} {An B C H L N b b0 bx c1 c2 cap d1 d2 fuel g i id j jn k m1 m2 n n1 n2 nf nn off xn y:Nat} {X:Nat→Prop} {oi om:Oper} {a1 a2 a3 xa:Option Addr} {P:Program} {R p p0 p1 p10 p11 p12 p13 p2 p3 p4 p5 p6 p7 p8 p9:Prop} {md:Region.Mode} {α:Type} {e t t1 t2 t3:TypeId} {lv v vb vr z:Value} {A W W' W0 w w' w0 w2 w3 w4 wB:World} {S S1 S2:World→Prop}
def bQ (l:List RR):Prop:=∀ i,i < l.length→bj (l.getD i zR)
theorem Ed (q:Rat):bj (dv q).1:=by
 unfold dv;split
 ·exact cG q
 ·exact ⟨fun x h=>(by cases h),fun x h=>(by cases h)⟩
theorem bO:bj zR:=⟨fun x h=>(by cases h),fun x h=>(by cases h)⟩
theorem Au (a b:RR) (q:Rat):bj (ng a b (dv q)).1:=by
 unfold ng;split
 ·exact Ed q
 ·exact bO
theorem dX (a b:RR):bj (bL a b).1:=Au a b _
theorem fg (a b:RR):bj (mulR a b).1:=Au a b _
def du (s:RR):List RR→RR × Int
 | []=>(s,0)
 | x :: r=>if (bL s x).2=0 then du (bL s x).1 r else (zR,(bL s x).2)
theorem oN:∀ (l:List RR) (s:RR),bj s→bj (du s l).1
 | [],s,h=>h
 | x :: r,s,h=>by
  unfold du;split
  ·exact oN r _ (dX s x)
  ·exact bO
theorem mK {s:RR} {l:List RR} (h:k < l.length):du s (l.drop k)=if (bL s (l.getD k zR)).2=0 then du (bL s (l.getD k zR)).1 (l.drop (k+1)) else (zR,(bL s (l.getD k zR)).2):=by
 exact WP
def kN (s:RR):List RR→List RR→RR × Int
 | a :: la,b :: bs=>if (mulR a b).2=0 then (if (du zR [s,(mulR a b).1]).2=0 then kN (du zR [s,(mulR a b).1]).1 la bs else (zR,(du zR [s,(mulR a b).1]).2)) else (zR,(mulR a b).2)
 | _,_=>(s,0)
theorem oY (s:RR) (b:List RR):kN s [] b=(s,0):=by unfold kN;rfl
def i6 (a b:List RR):RR × Int:=if a.length=b.length then kN zR a b else (zR,16)
theorem aO.ib {b:Bool} {vn vd:Value} {r:RR} (h:aO w A (.agg #[.bool b,vn,vd]) r) {p q s:Value} (hb:af A bx #[p,q,s] t) (ht:t≠157) (x y z:Value):
  aO w (((A.setCell ⟨bx,0,none⟩ x).setCell ⟨bx,1,none⟩ y).setCell ⟨bx,2,none⟩ z) (.agg #[.bool b,vn,vd]) r:=by
 obtain ⟨vn',vd',e,h1,h2⟩:=h;exact ⟨vn',vd',e,cF.cW h1 hb ht x y z,cF.cW h2 hb ht x y z⟩
theorem af.ep {p q s:Value} (hb:af A bx #[p,q,s] t) (x y z:Value):af (((A.setCell ⟨bx,0,none⟩ x).setCell ⟨bx,1,none⟩ y).setCell ⟨bx,2,none⟩ z) bx #[x,y,z] t:=by
 have:=((hb.set 0 x).set 1 y).set 2 z;exact ri
theorem C7 (v:Value) (l:List RR) (w:World) (h:aT w v l) (hl:bQ l):
  Calls Tryz.prog 197 #[v] w fun e w'=>bG w w' e (du zR l)∧Ext w w':=by
 obtain ⟨al,cl,rfl,hlc,hlm,f,hr⟩:=h.get;have HR:=kI hr;have HL:=kI hl;clear h hr hl;have bb0:=(af.new w #[.bool false,.slice none 0 0,.slice none 0 0] 25);have x0:Ext w (w.alloc (.cells #[.bool false,.slice none 0 0,.slice none 0 0] 25)):=((Ext.refl w).alloc _);have A0:=kI bb0;have X:=kI x0;clear x0 bb0;have Z0:Hid (aO w (w.alloc (.cells #[.bool false,.slice none 0 0,.slice none 0 0] 25)) (.agg #[.bool false,.slice none 0 0,.slice none 0 0]) zR):=kI (aO.zero _ _);have gl:(l.length:Int)≤9223372036854775807:=Z
 go_enter Tryz.func197,Tryz.ntmps197
 go_wp2_with fail;go_loopw [8] (fun i wr=>∃ (k:Nat) (r:RR) (a1:Option Addr) (c1:Nat) (a2:Option Addr) (c2:Nat),k≤l.length∧i=.int .i64 k∧bj r∧du zR l=du r (l.drop k)∧Ext w wr∧af wr w.heap.size #[.bool r.neg,.slice a1 r.num.length c1,.slice a2 r.den.length c2] 25∧aO w wr (.agg #[.bool r.neg,.slice a1 r.num.length c1,.slice a2 r.den.length c2]) r) (fun i _=>l.length - (intOf i).toNat)
 case atStart=>exact ⟨0,zR,none,0,none,0,Nat.zero_le _,rfl,bO,rfl,X.o,A0.o,Z0.o⟩
 case round=>
  obtain ⟨k,r,a1,c1,a2,c2,hk,rfl,hrl,hsum,hx,hblk,hnew⟩:=hrel;clear A0 X Z0;obtain ⟨HS,X,A0,NR,RL⟩:=iR hsum hx hblk hnew hrl;clear hsum hx hblk hnew hrl;by_cases hlt:k < l.length
  ·obtain ⟨b,off,rfl,hb,x0,x1,x2,rr⟩:=HR.o k hlt;have rl:=HL.o k hlt;have hst:=mK (s:=r) hlt;rw [← HS.o] at hst;generalize l.getD k zR=y at x0 x1 x2 rr rl hst
   generalize f k=fk at x0 x1 x2 rr
   obtain ⟨⟨y1,y2⟩,⟨y3,y4⟩⟩:=fk;dsimp only at x0 x1 x2 rr;have c0:=(X.o.cell (p:=⟨b,off+k*3,none⟩) hb).trans x0;have cc1:=(X.o.cell (p:=⟨b,off+k*3+1,none⟩) hb).trans x1;have cc2:=(X.o.cell (p:=⟨b,off+k*3+2,none⟩) hb).trans x2;have lb:b < wr.heap.size:=Nat.lt_of_lt_of_le hb X.o.size;have RY:=kI (rr.ext X.o);have LY:=kI rl;have HST:=kI hst;have q1:(0:Int)≤(k:Int):=Z
   have q2:(k:Int) < (l.length:Int):=Z
   clear x0 x1 x2 rr rl hst hb;obtain ⟨aK,fA0,aJ⟩:=A0.o.q3;go_wp2_with fail;have XW:=X;refine (ma _ _ r y _ (bH.ext NR.o.rd ((Ext.refl _).alloc _)) (bH.ext RY.o ((Ext.refl _).alloc _)) RL.o LY.o).mono ?_;rintro e w1 ⟨⟨vs,rfl,nn⟩,hx⟩;have hx:=Ext.trans (show Ext wr _ from eX) hx;clear aK fA0 aJ;revert X A0 NR RY;refine lf hx ?_;intro X A0 NR RY;obtain ⟨s1,s2,s3,s4,rfl⟩:=nn.shape;have NS:=kI (aO.from nn (Ext.alloc XW.o _));have SL:=kI (dX r y);clear nn hx;obtain ⟨t,e,ht⟩:∃ t e,bL r y=(t,e):=⟨_,_,rfl⟩;rw [ht] at HST NS SL ⊢;dsimp only at HST NS SL ⊢;clear ht;by_cases he:e=0
   ·subst he;obtain ⟨aK,fA0,aJ⟩:=A0.o.q3;go_wp2_with fail;clear aK fA0 aJ;have hb2:=A0.o.ep (.bool t.neg) (.slice s1 t.num.length s2) (.slice s3 t.den.length s4);have hn2:=NS.o.ib A0.o ah (.bool t.neg) (.slice s1 t.num.length s2) (.slice s3 t.den.length s4);have hx2:Ext w _:=((X.o.set (p:=⟨w.heap.size,0,none⟩) (Nat.le_refl _) (.bool t.neg)).set (p:=⟨w.heap.size,1,none⟩) (Nat.le_refl _) (.slice s1 t.num.length s2)).set (p:=⟨w.heap.size,2,none⟩) (Nat.le_refl _) (.slice s3 t.den.length s4);obtain ⟨HB2,CN,xX⟩:=cC hb2 hn2 hx2;clear hb2 hn2 hx2;go_roundw
    case rel=>exact ⟨k+1,t,s1,s2,s3,s4,by omega,by go_num,SL.o,by have:=HST.o;simpa using this,xX.o,HB2.o,CN.o⟩
    case measure=>simp [intOf];omega
   ·have he2:(e != 0)=true:=by simpa using he
    have HE:=kI he;clear he;obtain ⟨aK,fA0,aJ⟩:=A0.o.q3;go_wp2_with fail;clear aK fA0 aJ;have hb6:=(A0.o.ep (.bool t.neg) (.slice s1 t.num.length s2) (.slice s3 t.den.length s4)).ep (.bool false) (.slice none 0 0) (.slice none 0 0);have hx6:Ext w ((((((w1.setCell ⟨w.heap.size,0,none⟩ (.bool t.neg)).setCell ⟨w.heap.size,1,none⟩ (.slice s1 t.num.length s2)).setCell ⟨w.heap.size,2,none⟩ (.slice s3 t.den.length s4)).setCell ⟨w.heap.size,0,none⟩ (.bool false)).setCell ⟨w.heap.size,1,none⟩ (.slice none 0 0)).setCell ⟨w.heap.size,2,none⟩ (.slice none 0 0)):=((((((X.o.set (p:=⟨w.heap.size,0,none⟩) (Nat.le_refl _) _).set (p:=⟨w.heap.size,1,none⟩) (Nat.le_refl _) _).set (p:=⟨w.heap.size,2,none⟩) (Nat.le_refl _) _).set (p:=⟨w.heap.size,0,none⟩) (Nat.le_refl _) _).set (p:=⟨w.heap.size,1,none⟩) (Nat.le_refl _) _).set (p:=⟨w.heap.size,2,none⟩) (Nat.le_refl _) _);obtain ⟨W6,iS⟩:=gN (((((((w1.setCell ⟨w.heap.size,0,none⟩ (.bool t.neg)).setCell ⟨w.heap.size,1,none⟩ (.slice s1 t.num.length s2)).setCell ⟨w.heap.size,2,none⟩ (.slice s3 t.den.length s4)).setCell ⟨w.heap.size,0,none⟩ (.bool false)).setCell ⟨w.heap.size,1,none⟩ (.slice none 0 0)).setCell ⟨w.heap.size,2,none⟩ (.slice none 0 0)));rw [← iS] at hb6 hx6 ⊢;clear iS;have nD:=kI hx6;clear hx6;refine bodyPost_ret (v:=.tuple #[.agg #[.bool false,.slice none 0 0,.slice none 0 0],.int .i64 e]) (by have k1:=hb6.cell;have k2:=hb6.free;have k3:=hb6.lt;clear hb6;simp only [results,Tryz.results197];go_simp) rfl ⟨bG.mk (l:=zR) (aO.zero _ _) ?_,?_⟩
    ·have h9:=HST.o;rw [if_neg HE.o] at h9;exact h9
    ·exact nD.o
  ·obtain rfl:k=l.length:=Z
   have q2:¬ (l.length:Int) < (l.length:Int):=Z
   obtain ⟨aK,fA0,aJ⟩:=A0.o.q3;go_wp2_with fail;clear aK fA0 aJ;refine bodyPost_ret (v:=.tuple #[.agg #[.bool r.neg,.slice a1 r.num.length c1,.slice a2 r.den.length c2],.int .i64 0]) (by have k1:=A0.o.cell;have k2:=A0.o.free;have k3:=A0.o.lt;simp only [results,Tryz.results197];go_simp) rfl ⟨bG.mk (l:=r) ?_ ?_,?_⟩
   ·exact NR.o.ib A0.o ah _ _ _
   ·have h9:=HS.o;rw [List.drop_of_length_le (Nat.le_refl _)] at h9;exact h9
   ·exact jWi
def wg (W:World) (b o:Nat) (r:RR) (a1:Option Addr) (c1:Nat) (a2:Option Addr) (c2:Nat):Prop:=
 b < W.heap.size∧W.cell? ⟨b,o,none⟩=some (.bool r.neg)∧W.cell? ⟨b,o+1,none⟩=some (.slice a1 r.num.length c1)∧W.cell? ⟨b,o+2,none⟩=some (.slice a2 r.den.length c2)
theorem wg.c3 {o:Nat} {r:RR} (h:wg w b o r a1 c1 a2 c2) (x:Ext w W):
  W.cell? ⟨b,o,none⟩=some (.bool r.neg)∧W.cell? ⟨b,o+1,none⟩=some (.slice a1 r.num.length c1)∧W.cell? ⟨b,o+2,none⟩=some (.slice a2 r.den.length c2):=
 ⟨(x.cell (p:=⟨b,o,none⟩) h.1).trans h.2.1,(x.cell (p:=⟨b,o+1,none⟩) h.1).trans h.2.2.1,(x.cell (p:=⟨b,o+2,none⟩) h.1).trans h.2.2.2⟩
theorem jc {r:RR} (hb:af W b #[.bool r.neg,.slice a1 r.num.length c1,.slice a2 r.den.length c2] 25) (h:bH W (.agg #[.bool r.neg,.slice a1 r.num.length c1,.slice a2 r.den.length c2]) r):aT W (.slice (some ⟨b,0,none⟩) 1 1) [r]:=by
 obtain ⟨vn,vd,e,h1,h2⟩:=h;injection e with e
 simp only [Array.mk.injEq,List.cons.injEq,and_true,true_and] at e;obtain ⟨rfl,rfl⟩:=e;refine ⟨_,1,rfl,Nat.le_refl _,by simp,fun i hi=>?_⟩;obtain rfl:i=0:=by simp at hi;omega
 exact ⟨b,0,a1,c1,a2,c2,rfl,hb.lt,hb.cell 0,hb.cell 1,hb.cell 2,h1,h2⟩
theorem C8 {r p:RR} {c3:Nat} {a4:Option Addr} {c4:Nat} 
  (hb:af W b #[.bool r.neg,.slice a1 r.num.length c1,.slice a2 r.den.length c2,.bool p.neg,.slice a3 p.num.length c3,.slice a4 p.den.length c4] 25) (h:bH W (.agg #[.bool r.neg,.slice a1 r.num.length c1,.slice a2 r.den.length c2]) r) (g:bH W (.agg #[.bool p.neg,.slice a3 p.num.length c3,.slice a4 p.den.length c4]) p):aT W (.slice (some ⟨b,0,none⟩) 2 2) [r,p]:=by
 obtain ⟨vn,vd,e,h1,h2⟩:=h;injection e with e
 simp only [Array.mk.injEq,List.cons.injEq,and_true,true_and] at e;obtain ⟨rfl,rfl⟩:=e;obtain ⟨vn,vd,e,h3,h4⟩:=g;injection e with e
 simp only [Array.mk.injEq,List.cons.injEq,and_true,true_and] at e;obtain ⟨rfl,rfl⟩:=e;refine ⟨_,2,rfl,Nat.le_refl _,by simp,fun i hi=>?_⟩;simp at hi;match i,hi with
 | 0,_=>exact ⟨b,0,a1,c1,a2,c2,rfl,hb.lt,hb.cell 0,hb.cell 1,hb.cell 2,h1,h2⟩
 | 1,_=>exact ⟨b,0,a3,c3,a4,c4,rfl,hb.lt,hb.cell 3,hb.cell 4,hb.cell 5,h3,h4⟩
theorem C9 {r p:RR} (h:bj r) (g:bj p):bQ [r,p]:=fun i hi=>by
 simp at hi;match i,hi with
 | 0,_=>exact h
 | 1,_=>exact g
theorem sG {s:RR} {a b:List RR} (h:k < a.length) (g:k < b.length):kN s (a.drop k) (b.drop k) =
  if (mulR (a.getD k zR) (b.getD k zR)).2=0 then (if (du zR [s,(mulR (a.getD k zR) (b.getD k zR)).1]).2=0 then kN (du zR [s,(mulR (a.getD k zR) (b.getD k zR)).1]).1 (a.drop (k+1)) (b.drop (k+1)) else (zR,(du zR [s,(mulR (a.getD k zR) (b.getD k zR)).1]).2)) else (zR,(mulR (a.getD k zR) (b.getD k zR)).2):=by
 rw [List.drop_eq_getElem_cons h,List.drop_eq_getElem_cons g,List.getD_eq_getElem?_getD,List.getElem?_eq_getElem h,List.getD_eq_getElem?_getD,List.getElem?_eq_getElem g];rfl
theorem Ee (va vb:Value) (la lb:List RR) (w:World) (ha:aT w va la) (hb:aT w vb lb) (hla:bQ la) (hlb:bQ lb):
  Calls Tryz.prog 178 #[va,vb] w fun e w'=>bG w w' e (i6 la lb)∧Ext w w':=by
 obtain ⟨aa,ca,rfl,hac,ham,f,hf⟩:=ha.get;obtain ⟨ab,cb,rfl,hbc,hbm,g,hg⟩:=hb.get;obtain ⟨HF,HG,i5,iX⟩:=dW hf hg hla hlb;clear ha hb hf hg hla hlb;have bb0:=(af.new w #[.bool false,.slice none 0 0,.slice none 0 0] 25);have x0:Ext w (w.alloc (.cells #[.bool false,.slice none 0 0,.slice none 0 0] 25)):=((Ext.refl w).alloc _);have A0:=kI bb0;have X:=kI x0;clear x0 bb0;have Z0:Hid (aO w (w.alloc (.cells #[.bool false,.slice none 0 0,.slice none 0 0] 25)) (.agg #[.bool false,.slice none 0 0,.slice none 0 0]) zR):=kI (aO.zero _ _);have gla:(la.length:Int)≤9223372036854775807:=Z
 have glb:(lb.length:Int)≤9223372036854775807:=Z
 by_cases hlen:la.length=lb.length
 ·have hr0:i6 la lb=kN zR la lb:=if_pos hlen;have HR0:=kI hr0;clear hr0;have hlz:(la.length:Int)=(lb.length:Int):=Z
  have q0:((la.length:Int) != (lb.length:Int))=false:=by simp [hlz]
  have HLEN:=kI hlen;clear hlen hlz;go_enter Tryz.func178,Tryz.ntmps178
  go_wp2_with fail;go_loopw [17] (fun i wr=>∃ (k:Nat) (r:RR) (a1:Option Addr) (c1:Nat) (a2:Option Addr) (c2:Nat),k≤la.length∧i=.int .i64 k∧bj r∧kN zR la lb=kN r (la.drop k) (lb.drop k)∧Ext w wr∧af wr w.heap.size #[.bool r.neg,.slice a1 r.num.length c1,.slice a2 r.den.length c2] 25∧aO w wr (.agg #[.bool r.neg,.slice a1 r.num.length c1,.slice a2 r.den.length c2]) r) (fun i _=>la.length - (intOf i).toNat)
  case atStart=>exact ⟨0,zR,none,0,none,0,Nat.zero_le _,rfl,bO,rfl,X.o,A0.o,Z0.o⟩
  case round=>
   obtain ⟨k,r,a1,c1,a2,c2,hk,rfl,hrl,hsum,hx,hblk,hnew⟩:=hrel;clear A0 X Z0;obtain ⟨HS,X,A0,NR,RL⟩:=iR hsum hx hblk hnew hrl;clear hsum hx hblk hnew hrl;by_cases hlt:k < la.length
   ·have hlt2:k < lb.length:=by have:=HLEN.o;omega
    obtain ⟨ba,oa,rfl,hba,x0,x1,x2,rx⟩:=HF.o k hlt;obtain ⟨bb,ob,rfl,hbb,y0,y1,y2,ry⟩:=HG.o k hlt2;have lx:=i5.o k hlt;have ly:=iX.o k hlt2;have hst:=sG (s:=r) hlt hlt2;rw [← HS.o] at hst;generalize la.getD k zR=x at x0 x1 x2 rx lx hst
    generalize lb.getD k zR=y at y0 y1 y2 ry ly hst
    generalize f k=fk at x0 x1 x2 rx
    generalize g k=gk at y0 y1 y2 ry
    obtain ⟨⟨p1,p2⟩,⟨p3,p4⟩⟩:=fk;obtain ⟨⟨g1,g2⟩,⟨g3,g4⟩⟩:=gk;dsimp only at x0 x1 x2 rx y0 y1 y2 ry;have EA:Hid (wg w ba (oa+k*3) x p1 p2 p3 p4):=kI ⟨hba,x0,x1,x2⟩;have EB:Hid (wg w bb (ob+k*3) y g1 g2 g3 g4):=kI ⟨hbb,y0,y1,y2⟩;have l1:ba < wr.heap.size:=Nat.lt_of_lt_of_le hba X.o.size;have l2:bb < wr.heap.size:=Nat.lt_of_lt_of_le hbb X.o.size;have RX:=kI (rx.ext X.o);have RY:=kI (ry.ext X.o);obtain ⟨LX,LY,HST⟩:=cC lx ly hst;have q1:(0:Int)≤(k:Int):=Z
    have q2:(k:Int) < (la.length:Int):=Z
    have q3:(k:Int) < (lb.length:Int):=Z
    clear x0 x1 x2 rx lx y0 y1 y2 ry ly hst hba hbb q0;go_wp2_with fail;have X0:=X;refine wp_region_held_drew (S:=(fun W=>(W.cell? ⟨ba,oa+k*3,none⟩=some (.bool x.neg)∧W.cell? ⟨ba,oa+k*3+1,none⟩=some (.slice p1 x.num.length p2)∧W.cell? ⟨ba,oa+k*3+2,none⟩=some (.slice p3 x.den.length p4))∧(W.cell? ⟨bb,ob+k*3,none⟩=some (.bool y.neg)∧W.cell? ⟨bb,ob+k*3+1,none⟩=some (.slice g1 y.num.length g2)∧W.cell? ⟨bb,ob+k*3+2,none⟩=some (.slice g3 y.den.length g4)))) ak ?_ (fun hHeld=>?_)
    ·exact Pb
    refine tk 0 ?_;refine tk 1 ?_;refine tk 2 ?_;refine tk 3 ?_;refine tk 4 ?_;refine tk 5 ?_;refine tk 6 ?_;refine tk 7 ?_;refine dt [8,12] ?_;refine AllReadyH.cons rfl (fun K hK=>?_) (AllReadyH.cons rfl (fun K hK=>?_) AllReadyH.nil)
    ·go_simp;have XO:=X;refine (mb _ _ x y _ (RX.o.ext gM) (RY.o.ext gM) LX.o LY.o).mono ?_;rintro e w1 ⟨⟨v,rfl,nn⟩,hx⟩;have hx:=Ext.trans (show Ext wr _ from by first|exact Ext.refl _|exact (Ext.refl _).drew) hx;revert X;revert RY;revert RX;revert NR;revert A0;refine lf hx ?_;intro A0 NR RX RY X;obtain ⟨m1,m2,m3,m4,rfl⟩:=nn.shape;have Nm:=kI nn.rd;have Om:=kI (nn.from ((show Ext w _ from by have x9:=XO.o;exact eX)));clear nn hx;(try go_wp2_with fail);refine hK.out _ _ ?_ (fun hHeld=>?_)
     ·exact Pb
     clear hK K;(try simp only [sP]);refine tk 9 ?_;refine tk 10 ?_;refine tk 11 ?_;refine dt [12] ?_;refine rc (fun K hK=>?_);go_simp;have hA0:w.heap.size < w1.heap.size:=A0.o.lt;have hx:Ext w1 ((w1.alloc (.cells #[.bool false,.slice none 0 0,.slice none 0 0] 25))):=(Ext.refl _).alloc _;have bz:af ((w1.alloc (.cells #[.bool false,.slice none 0 0,.slice none 0 0] 25))) (w1.heap.size) #[.bool false,.slice none 0 0,.slice none 0 0] 25:=by have hh:=(af.new w1 #[.bool false,.slice none 0 0,.slice none 0 0] 25);(try simp only [World.size_alloc] at hh);exact hh
     obtain ⟨w2,wn⟩:=gN ((w1.alloc (.cells #[.bool false,.slice none 0 0,.slice none 0 0] 25)));rw [← wn] at hx bz ⊢;obtain ⟨dw,pT⟩:=gN (w1.heap.size);have oL:Hid (w.heap.size < dw):=kI KM;have xW:Hid (w.heap.size≤dw):=kI KL;rw [← pT] at bz ⊢;revert X;revert Om;revert Nm;revert RY;revert RX;revert NR;revert A0;refine lf hx ?_;intro A0 NR RX RY Nm Om X;have AP:=kI bz;clear hx bz wn pT;(try go_wp2_with fail);refine hK.out _ _ ?_ (fun hHeld=>?_)
     ·exact Pb
     clear hK K;(try simp only [sP]);exact qF6
    ·go_simp;have hx:Ext wr ((wr.alloc (.cells #[.bool false,.slice none 0 0,.slice none 0 0] 25)).drew):=((Ext.refl _).alloc _).drew;have bz:af ((wr.alloc (.cells #[.bool false,.slice none 0 0,.slice none 0 0] 25)).drew) (wr.heap.size) #[.bool false,.slice none 0 0,.slice none 0 0] 25:=by have hh:=(af.new wr #[.bool false,.slice none 0 0,.slice none 0 0] 25).drew;(try simp only [World.size_alloc] at hh);exact hh
     obtain ⟨w1,wu⟩:=gN ((wr.alloc (.cells #[.bool false,.slice none 0 0,.slice none 0 0] 25)).drew);rw [← wu] at hx bz ⊢;obtain ⟨dw,pT⟩:=gN (wr.heap.size);have oL:Hid (w.heap.size < dw):=kI KM;have xW:Hid (w.heap.size≤dw):=kI KL;rw [← pT] at bz ⊢;revert X;revert RY;revert RX;revert NR;revert A0;refine lf hx ?_;intro A0 NR RX RY X;have AP:=kI bz;clear hx bz wu pT;(try go_wp2_with fail);refine hK.out _ _ ?_ (fun hHeld=>?_)
     ·exact Pb
     clear hK K;(try simp only [sP]);have XO:=X;refine dt [8] ?_;refine rc (fun K hK=>?_);go_simp;refine (mb _ _ x y _ (RX.o.ext gM) (RY.o.ext gM) LX.o LY.o).mono ?_;rintro e w2 ⟨⟨v,rfl,nn⟩,hx⟩;have hx:=Ext.trans (show Ext w1 _ from by first|exact Ext.refl _|exact (Ext.refl _).drew) hx;revert X;revert AP;revert RY;revert RX;revert NR;revert A0;refine lf hx ?_;intro A0 NR RX RY AP X;obtain ⟨m1,m2,m3,m4,rfl⟩:=nn.shape;have Nm:=kI nn.rd;have Om:=kI (nn.from ((show Ext w _ from by have x9:=XO.o;exact eX)));clear nn hx;(try go_wp2_with fail);refine hK.out _ _ ?_ (fun hHeld=>?_)
     ·exact Pb
     clear hK K;(try simp only [sP]);refine tk 9 ?_;refine tk 10 ?_;refine tk 11 ?_;exact qF6
   ·obtain rfl:k=la.length:=Z
    have q2:¬ (la.length:Int) < (la.length:Int):=Z
    obtain ⟨aK,fA0,aJ⟩:=A0.o.q3;go_wp2_with fail;clear aK fA0 aJ;refine bodyPost_ret (v:=.tuple #[.agg #[.bool r.neg,.slice a1 r.num.length c1,.slice a2 r.den.length c2],.int .i64 0]) zF3 rfl ⟨bG.mk (l:=r) ?_ ?_,?_⟩
    ·exact NR.o.ib A0.o ah _ _ _
    ·exact qKh
    ·exact jWi
 ·have hr0:i6 la lb=(zR,16):=if_neg hlen;have HR0:=kI hr0;clear hr0;have q0:((la.length:Int) != (lb.length:Int))=true:=by simp;omega
  go_enter Tryz.func178,Tryz.ntmps178
  obtain ⟨aK,fA0,aJ⟩:=A0.o.q3;go_wp2_with fail;clear aK fA0 aJ;refine bodyPost_ret (v:=.tuple #[.agg #[.bool false,.slice none 0 0,.slice none 0 0],.int .i64 16]) zF3 rfl ⟨bG.mk (l:=zR) (aO.zero _ _) HR0.o,X.o⟩
abbrev Hd:=Option Addr × Nat × Nat
def iq (n:Nat):Prop:=(n≤6∨128 < n)∧n≤200
def QI (vs:List (Hd × Hd)) (e:Ending):Prop:=∃ r,e=.returned (.bool r)∧(r=false→∀ (i:Nat) (hi:i < vs.length),iq (vs[i]).1.2.1∧iq (vs[i]).2.2.1)
def bd (q:Rat) (k:Nat):Prop:=q.num.natAbs < 4294967296 ^ k∧q.den < 4294967296 ^ k
theorem wv {q:Rat} (h:bd q k) (hk:k≤128):small q:=by
 refine ⟨Nat.le_trans (aG.2 h.1) hk,?_⟩;unfold rep;dsimp only;split
 ·simp
 ·exact Nat.le_trans (aG.2 h.2) hk
theorem Hz (q:Rat):vq (decide (q.num < 0),q.num.natAbs,q.den)=q:=by
 have h:=Al q;unfold vq;dsimp only;have e:sg (decide (q.num < 0)) q.num.natAbs=q.num:=by
  unfold sg;exact qLd
 rw [e,Rat.mkRat_self]
theorem cu (f2:Nat) (L2:Array Bool) (F:Act→World→Prop)
  (h2:∀ a w,F a w→wpAnyH P md ops Q S f2 L2 a w) (h1:(∀ a w,F a w→wpAnyH P md ops Q S f2 L2 a w)→wpAnyH P md ops Q S fuel listed a w):wpAnyH P md ops Q S fuel listed a w:=h1 h2
theorem tU {x:Bool × Nat × Nat} (h:x.2.2≠0):(x.2.1=0→vq x=0)∧(x.2.1≠0→(x.1=true→vq x < 0)∧(x.1=false→0 < vq x)):=by
 obtain ⟨s,n,d⟩:=x;dsimp only at h ⊢;refine ⟨?_,fun hn=>?_⟩
 ·rintro rfl;unfold vq;have:sg s 0=0:=by cases s <;> rfl
  dsimp only;rw [this,Rat.zero_mkRat]
 ·have hl:=pK s hn h;have h1:=congrArg RR.neg hl;have h2:decide ((vq (s,n,d)).num < 0)=s:=h1;have h3:vq (s,n,d)≠0:=by
   intro e;have h4:=congrArg RR.num hl;have h5:lim (vq (s,n,d)).num.natAbs=lim (n / Nat.gcd n d):=h4;rw [e] at h5;have h6:=congrArg nv h5;rw [aA,aA] at h6;have:=Nat.div_gcd_pos_of_pos_left d (Nat.pos_of_ne_zero hn);have h7:(0:Rat).num.natAbs=0:=rfl;omega
  constructor
  ·rintro rfl;have h4:(vq (true,n,d)).num < 0:=by simpa using h2
   refine Rat.not_le.1 fun h5=>?_;have:=Rat.num_nonneg.2 h5;omega
  ·rintro rfl;have h4:¬ (vq (false,n,d)).num < 0:=by simpa using h2
   have h5:0≤vq (false,n,d):=Rat.num_nonneg.1 Z;refine Rat.not_le.1 fun h6=>h3 (Rat.le_antisymm h6 h5)
theorem Av (x y:Rat):(x - y=0→et x y=0)∧(x - y < 0→et x y = -1)∧(0 < x - y→et x y=1):=by
 have h0:x - y=0↔x=y:=by
  constructor
  ·intro h;have:x - y+y=0+y:=by rw [h]
   rwa [Rat.sub_add_cancel,Rat.zero_add] at this
  ·rintro rfl;exact Rat.sub_self
 have h1:x - y < 0↔x < y:=by
  have:=Rat.add_lt_add_right (a:=x - y) (b:=0) (c:=y);rw [Rat.sub_add_cancel,Rat.zero_add] at this;exact this.symm
 have hi:∀ z:Rat,¬ z < z:=fun _=>Rat.lt_irrefl;refine ⟨fun h=>?_,fun h=>?_,fun h=>?_⟩
 ·have e:=h0.1 h;unfold et;rw [if_neg (by rw [e];exact hi _),if_pos e]
 ·unfold et;rw [if_pos (h1.1 h)]
 ·have n1:¬ x - y < 0:=Rat.not_lt.2 (Rat.le_of_lt h);have n2:¬ x - y=0:=fun e=>by rw [e] at h;exact hi _ h
  unfold et;rw [if_neg (fun g=>n1 (h1.2 g)),if_neg (fun g=>n2 (h0.2 g))]
theorem pU (va vb:Value) (ra rb:RR) (w:World) (ha:bH w va ra) (hb:bH w vb rb) (la:bj ra) (lb:bj rb):
  Calls Tryz.prog 56 #[va,vb] w fun e w'=>e=.returned (.tuple #[.int .i64 (fK ra rb).1,.int .i64 (fK ra rb).2])∧Ext w w':=by
 have qW:=kI (tN ha la);have BR:=kI (tN hb lb);have HA:=kI ha;have HB:=kI hb;obtain ⟨a1,c1,a2,c2,rfl⟩:=ha.shape;obtain ⟨a3,c3,a4,c4,rfl⟩:=hb.shape;obtain ⟨s1,l1,l2⟩:=ra;obtain ⟨s2,l3,l4⟩:=rb;dsimp only at qW BR HA HB ⊢;clear ha hb;have b0:=(af.new w #[.bool s1,.slice a1 l1.length c1,.slice a2 l2.length c2] 25).alloc (.cells #[.bool s2,.slice a3 l3.length c3,.slice a4 l4.length c4] 25);have b1:=af.new (w.alloc (.cells #[.bool s1,.slice a1 l1.length c1,.slice a2 l2.length c2] 25)) #[.bool s2,.slice a3 l3.length c3,.slice a4 l4.length c4] 25;rw [World.size_alloc] at b1;have x0:Ext w ((w.alloc (.cells #[.bool s1,.slice a1 l1.length c1,.slice a2 l2.length c2] 25)).alloc (.cells #[.bool s2,.slice a3 l3.length c3,.slice a4 l4.length c4] 25)):=((Ext.refl w).alloc _).alloc _;have A0:=kI b0;have A1:=kI b1;clear b0 b1;by_cases hc:cK ⟨s1,l1,l2⟩ ⟨s2,l3,l4⟩=0
 ·obtain ⟨hca,hcb⟩:=dE hc;have eo:fK ⟨s1,l1,l2⟩ ⟨s2,l3,l4⟩=(et (qv ⟨s1,l1,l2⟩) (qv ⟨s2,l3,l4⟩),0):=by unfold fK;rw [if_pos hc]
  obtain ⟨p1,p2,p3,p4,p5,p6⟩:=cM la hca;obtain ⟨q1,q2,q3,q4,q5,q6⟩:=cM lb hcb;have hsub:vq (eP (l6 ⟨s1,l1,l2⟩) (!s2,nv l3,nv (dl l4)))=qv ⟨s1,l1,l2⟩ - qv ⟨s2,l3,l4⟩:=by
   rw [yO p5 q5,fe,iC,Lk,Rat.sub_eq_add_neg];congr 2
   have:=fe ⟨s2,l3,l4⟩;exact congrArg vq this
  have hden:(eP (l6 ⟨s1,l1,l2⟩) (!s2,nv l3,nv (dl l4))).2.2≠0:=by rw [pP];exact Nat.mul_ne_zero p5 q5
  have Eg:=tU hden;rw [hsub] at Eg;obtain ⟨k0,km,kp⟩:=Av (qv ⟨s1,l1,l2⟩) (qv ⟨s2,l3,l4⟩);have hsg:((eP (l6 ⟨s1,l1,l2⟩) (!s2,nv l3,nv (dl l4))).2.1=0→fK ⟨s1,l1,l2⟩ ⟨s2,l3,l4⟩=(0,0))∧((eP (l6 ⟨s1,l1,l2⟩) (!s2,nv l3,nv (dl l4))).2.1≠0→((eP (l6 ⟨s1,l1,l2⟩) (!s2,nv l3,nv (dl l4))).1=true→fK ⟨s1,l1,l2⟩ ⟨s2,l3,l4⟩=(-1,0))∧((eP (l6 ⟨s1,l1,l2⟩) (!s2,nv l3,nv (dl l4))).1=false→fK ⟨s1,l1,l2⟩ ⟨s2,l3,l4⟩=(1,0))):=
   ⟨fun h=>by rw [eo,k0 (Eg.1 h)],fun h=>⟨fun g=>by rw [eo,km ((Eg.2 h).1 g)],fun g=>by rw [eo,kp ((Eg.2 h).2 g)]⟩⟩
  have hsum:=fun W va vb h1 h2=>vR va vb s1 (!s2) l1 (dl l2) l3 (dl l4) W h1 h2 la.1 p6 lb.1 q6 p3 p4 q3 q4 (Nat.le_trans p1 ah) (Nat.le_trans p2 ah) (Nat.le_trans q1 ah) (Nat.le_trans q2 ah);dsimp only [l6] at hsg hden;obtain ⟨TT,hTT⟩:=gN (eP (s1,nv l1,nv (dl l2)) (!s2,nv l3,nv (dl l4)));rw [← hTT] at hsg hsum;have HSG:=kI hsg;have oX:=kI hsum;rw [hca] at qW;rw [hcb] at BR;clear hc hca hcb eo la lb p1 p2 p3 p4 p5 p6 q1 q2 q3 q4 q5 q6 hsub hden hsg hsum hTT Eg k0 km kp;go_enter Tryz.func56,Tryz.ntmps56
  go_wp2_with fail;have hmx:Tryz.prog.follows .mixedOrders=true:=ak
  go_region_held3 (fun W=>(af W w.heap.size #[.bool s1,.slice a1 l1.length c1,.slice a2 l2.length c2] 25∧W.cell? ⟨w.heap.size,0,none⟩=some (.bool s1)∧W.cell? ⟨w.heap.size,1,none⟩=some (.slice a1 l1.length c1)∧W.cell? ⟨w.heap.size,2,none⟩=some (.slice a2 l2.length c2))∧(af W (w.heap.size+1) #[.bool s2,.slice a3 l3.length c3,.slice a4 l4.length c4] 25∧W.cell? ⟨w.heap.size+1,0,none⟩=some (.bool s2)∧W.cell? ⟨w.heap.size+1,1,none⟩=some (.slice a3 l3.length c3)∧W.cell? ⟨w.heap.size+1,2,none⟩=some (.slice a4 l4.length c4)))
   ((refine ⟨af.s3 ?_,af.s3 ?_⟩ <;> (repeat (first|exact A0.o|exact A1.o|exact k1|exact k2|exact k4|exact k5|exact k7|exact k8|refine af.setOther ?_ aD _|refine af.alloc ?_ _|refine af.drew ?_))))
   (first|(go_at_call_of 111 (Value.slice a1 l1.length c1);refine (qW.o _ eX).mono ?_;rintro e W4 ⟨rfl,hx4⟩;have x4:=Ext.trans x0 (Ext.trans eX hx4);have k1:=A0.o.ext (Ext.trans eX hx4);have k2:=A1.o.ext (Ext.trans eX hx4))|(go_at_call_of 111 (Value.slice a3 l3.length c3);refine (BR.o _ eX).mono ?_;rintro e W5 ⟨rfl,hx5⟩;have x5:=x4.trans hx5;have k4:=k1.ext hx5;have k5:=k2.ext hx5)|(go_at_call 121;refine (lO _ _ _ _ (af.new W5 _ _)).mono ?_;rintro e W6 ⟨rfl,hx6⟩;have x6:=(x5.alloc _).trans hx6;have k7:=(k4.alloc _).ext hx6;have k8:=(k5.alloc _).ext hx6))
  obtain ⟨G6,H6,X6⟩:=cC k7 k8 x6;clear k1 k2 k4 k5 k7 k8 hx4 hx5 hx6 x4 x5 x6 A0 A1 x0;go_wp2_with fail;have hoa:=fun W (x:Ext w W)=>oG _ _ W (HA.o.ext x);have hob:=fun W (x:Ext w W)=>oG _ _ W (HB.o.ext x);dsimp only at hoa hob;have Og:=kI hoa;have Oh:=kI hob;have lt6:=H6.o.lt;clear hoa hob;refine wp_region_held_drew (S:=(fun W=>(af W w.heap.size #[.bool s1,.slice a1 l1.length c1,.slice a2 l2.length c2] 25∧W.cell? ⟨w.heap.size,0,none⟩=some (.bool s1)∧W.cell? ⟨w.heap.size,1,none⟩=some (.slice a1 l1.length c1)∧W.cell? ⟨w.heap.size,2,none⟩=some (.slice a2 l2.length c2))∧(af W (w.heap.size+1) #[.bool s2,.slice a3 l3.length c3,.slice a4 l4.length c4] 25∧W.cell? ⟨w.heap.size+1,0,none⟩=some (.bool s2)∧W.cell? ⟨w.heap.size+1,1,none⟩=some (.slice a3 l3.length c3)∧W.cell? ⟨w.heap.size+1,2,none⟩=some (.slice a4 l4.length c4)))) ak ?_ (fun hHeld=>?_)
  ·exact ⟨af.s3 G6.o.drew,af.s3 H6.o.drew⟩
  refine wpAnyH_take (i:=0) (v:=?_) rfl ak ak ak (fun _ _ _ h=>h) (Or.inl ⟨by rfl,?_⟩) (by assumption) ?_;rotate_left
  ·exact Pj
  (try simp only [Act.put,List.setIfInBounds_toArray,List.set_cons_zero,List.set_cons_succ]);refine wpAnyH_take (i:=2) (v:=?_) rfl ak ak ak (fun _ _ _ h=>h) (Or.inl ⟨by rfl,?_⟩) (by assumption) ?_;rotate_left
  ·exact Pj
  (try simp only [Act.put,List.setIfInBounds_toArray,List.set_cons_zero,List.set_cons_succ]);refine cu 2 #[true,true,true,true,true,true,false,false] (fun a W=>∃ (y6 jv jw jx jy:Value) (a5:Option Addr) (c5:Nat) (a6:Option Addr) (c6:Nat) (a7:Option Addr) (c7:Nat) (a8:Option Addr) (c8:Nat) (p7:Nat) (p8:Nat),a=⟨#[.agg #[.bool s1,.slice a1 l1.length c1,.slice a2 l2.length c2],.agg #[.bool s2,.slice a3 l3.length c3,.slice a4 l4.length c4],.pointer (some ⟨w.heap.size,0,none⟩),.pointer (some ⟨w.heap.size+1,0,none⟩),.int .i64 0,.int .i64 0,y6,.pointer (some ⟨p7,0,none⟩),.pointer (some ⟨p8,0,none⟩),undef,.agg #[.bool s1,.slice a1 l1.length c1,.slice a2 l2.length c2],.int .i64 0,.agg #[.bool s2,.slice a3 l3.length c3,.slice a4 l4.length c4],.int .i64 0,jv,jw,jx,jy,undef,.agg #[.bool s1,.slice a1 l1.length c1,.slice a2 l2.length c2],.agg #[.slice a5 l1.length c5,.slice a6 (dl l2).length c6,.bool s1],.agg #[.bool s2,.slice a3 l3.length c3,.slice a4 l4.length c4],.agg #[.slice a7 l3.length c7,.slice a8 (dl l4).length c8,.bool s2],undef,undef,undef,undef,undef,undef,undef,undef,undef,undef,undef,undef,undef,undef,undef,undef],[]⟩∧Ext W6 W∧af W w.heap.size #[.bool s1,.slice a1 l1.length c1,.slice a2 l2.length c2] 25∧af W (w.heap.size+1) #[.bool s2,.slice a3 l3.length c3,.slice a4 l4.length c4] 25∧aY .u32 W (.slice a5 l1.length c5) l1∧aY .u32 W (.slice a6 (dl l2).length c6) (dl l2)∧aY .u32 W (.slice a7 l3.length c7) l3∧aY .u32 W (.slice a8 (dl l4).length c8) (dl l4)∧af W p7 #[.slice none 0 0,.slice none 0 0,.bool false] 134∧w.heap.size+1 < p7∧af W p8 #[.slice none 0 0,.slice none 0 0,.bool false] 134∧w.heap.size+1 < p8∧p7≠p8) ?_ (fun mL=>?_)
  ·rintro a W ⟨y6,jv,jw,jx,jy,a5,c5,a6,c6,a7,c7,a8,c8,p7,p8,rfl,x,g2,g3,n1,d1,n2,d2,z7,i7,z8,i8,ne⟩;have k7:=z7.cell;have f7:=z7.free;have l7:=z7.lt;have k8:=z8.cell;have f8:=z8.free;have l8:=z8.lt;have b7:af (((W.setCell ⟨p7,0,none⟩ (.slice a5 l1.length c5)).setCell ⟨p7,1,none⟩ (.slice a6 (dl l2).length c6)).setCell ⟨p7,2,none⟩ (.bool s1)) p7 #[.slice a5 l1.length c5,.slice a6 (dl l2).length c6,.bool s1] 134:=by have:=(((z7).set 0 (.slice a5 l1.length c5)).set 1 (.slice a6 (dl l2).length c6)).set 2 (.bool s1);simpa using this
   have e8:af (((W.setCell ⟨p7,0,none⟩ (.slice a5 l1.length c5)).setCell ⟨p7,1,none⟩ (.slice a6 (dl l2).length c6)).setCell ⟨p7,2,none⟩ (.bool s1)) p8 #[.slice none 0 0,.slice none 0 0,.bool false] 134:=(((z8.setOther (a:=⟨p7,0,none⟩) aD (.slice a5 l1.length c5)).setOther (a:=⟨p7,1,none⟩) aD (.slice a6 (dl l2).length c6)).setOther (a:=⟨p7,2,none⟩) aD (.bool s1));have h2:=(((g2.setOther (a:=⟨p7,0,none⟩) aD (.slice a5 l1.length c5)).setOther (a:=⟨p7,1,none⟩) aD (.slice a6 (dl l2).length c6)).setOther (a:=⟨p7,2,none⟩) aD (.bool s1));have h3:=(((g3.setOther (a:=⟨p7,0,none⟩) aD (.slice a5 l1.length c5)).setOther (a:=⟨p7,1,none⟩) aD (.slice a6 (dl l2).length c6)).setOther (a:=⟨p7,2,none⟩) aD (.bool s1));have n1a:=fj n1 z7 CT (.slice a5 l1.length c5) (.slice a6 (dl l2).length c6) (.bool s1) dc dc;have d1a:=fj d1 z7 CT (.slice a5 l1.length c5) (.slice a6 (dl l2).length c6) (.bool s1) dc dc;have n2a:=fj n2 z7 CT (.slice a5 l1.length c5) (.slice a6 (dl l2).length c6) (.bool s1) dc dc;have d2a:=fj d2 z7 CT (.slice a5 l1.length c5) (.slice a6 (dl l2).length c6) (.bool s1) dc dc;skip
   refine dt [6] ?_;refine rc (fun K hK=>?_);go_simp;(try go_wp2_with fail);refine hK.out _ _ ?_ (fun hHeld=>?_)
   ·exact ⟨af.s3 h2,af.s3 h3⟩
   clear hK K hHeld k7 f7 l7 k8 f8 l8;(try simp only [Act.put,List.setIfInBounds_toArray,List.set_cons_zero,List.set_cons_succ]);have k8:=e8.cell;have f8:=e8.free;have l8:=e8.lt;refine dt [7] ?_;refine rc (fun K hK=>?_);go_simp;(try go_wp2_with fail);refine hK.out _ _ ?_ (fun hHeld=>?_)
   ·exact ⟨af.s3 ((((h2.setOther (a:=⟨p8,0,none⟩) aD (.slice a7 l3.length c7)).setOther (a:=⟨p8,1,none⟩) aD (.slice a8 (dl l4).length c8)).setOther (a:=⟨p8,2,none⟩) aD (.bool s2))),af.s3 ((((h3.setOther (a:=⟨p8,0,none⟩) aD (.slice a7 l3.length c7)).setOther (a:=⟨p8,1,none⟩) aD (.slice a8 (dl l4).length c8)).setOther (a:=⟨p8,2,none⟩) aD (.bool s2)))⟩
   (try simp only [Act.put,List.setIfInBounds_toArray,List.set_cons_zero,List.set_cons_succ]);refine wpAnyH_done ak ?_ _;clear hK K hHeld k8 f8 l8 h2 h3;have Yf:af ((((((W.setCell ⟨p7,0,none⟩ (.slice a5 l1.length c5)).setCell ⟨p7,1,none⟩ (.slice a6 (dl l2).length c6)).setCell ⟨p7,2,none⟩ (.bool s1)).setCell ⟨p8,0,none⟩ (.slice a7 l3.length c7)).setCell ⟨p8,1,none⟩ (.slice a8 (dl l4).length c8)).setCell ⟨p8,2,none⟩ (.bool s2)) p7 #[.slice a5 l1.length c5,.slice a6 (dl l2).length c6,.bool s1] 134:=(((b7.setOther (a:=⟨p8,0,none⟩) aD (.slice a7 l3.length c7)).setOther (a:=⟨p8,1,none⟩) aD (.slice a8 (dl l4).length c8)).setOther (a:=⟨p8,2,none⟩) aD (.bool s2));have Yg:af ((((((W.setCell ⟨p7,0,none⟩ (.slice a5 l1.length c5)).setCell ⟨p7,1,none⟩ (.slice a6 (dl l2).length c6)).setCell ⟨p7,2,none⟩ (.bool s1)).setCell ⟨p8,0,none⟩ (.slice a7 l3.length c7)).setCell ⟨p8,1,none⟩ (.slice a8 (dl l4).length c8)).setCell ⟨p8,2,none⟩ (.bool s2)) p8 #[.slice a7 l3.length c7,.slice a8 (dl l4).length c8,.bool s2] 134:=by have:=(((e8).set 0 (.slice a7 l3.length c7)).set 1 (.slice a8 (dl l4).length c8)).set 2 (.bool s2);simpa using this
   have n1b:=fj n1a e8 CT (.slice a7 l3.length c7) (.slice a8 (dl l4).length c8) (.bool s2) dc dc;have Yh:=fj d1a e8 CT (.slice a7 l3.length c7) (.slice a8 (dl l4).length c8) (.bool s2) dc dc;have Yi:=fj n2a e8 CT (.slice a7 l3.length c7) (.slice a8 (dl l4).length c8) (.bool s2) dc dc;have Yj:=fj d2a e8 CT (.slice a7 l3.length c7) (.slice a8 (dl l4).length c8) (.bool s2) dc dc;have xb:Ext w ((((((W.setCell ⟨p7,0,none⟩ (.slice a5 l1.length c5)).setCell ⟨p7,1,none⟩ (.slice a6 (dl l2).length c6)).setCell ⟨p7,2,none⟩ (.bool s1)).setCell ⟨p8,0,none⟩ (.slice a7 l3.length c7)).setCell ⟨p8,1,none⟩ (.slice a8 (dl l4).length c8)).setCell ⟨p8,2,none⟩ (.bool s2)):=by have x1:=X6.o.trans x;exact eX
   obtain ⟨Wz,hWz⟩:=gN (((((((W.setCell ⟨p7,0,none⟩ (.slice a5 l1.length c5)).setCell ⟨p7,1,none⟩ (.slice a6 (dl l2).length c6)).setCell ⟨p7,2,none⟩ (.bool s1)).setCell ⟨p8,0,none⟩ (.slice a7 l3.length c7)).setCell ⟨p8,1,none⟩ (.slice a8 (dl l4).length c8)).setCell ⟨p8,2,none⟩ (.bool s2)));rw [← hWz] at Yf Yg n1b Yh Yi Yj xb ⊢;obtain ⟨B7,B8,M1,M2,M3,M4,XZ⟩:=Ba Yf Yg n1b Yh Yi Yj xb;clear hWz Yf Yg n1b Yh Yi Yj xb b7 e8 n1 d1 n2 d2 n1a d1a n2a d2a z7 z8 g2 g3 x;have k8:=B8.o.cell;have f8:=B8.o.free;have l8:=B8.o.lt;have k7:=B7.o.cell;have l7:=B7.o.lt;go_wp2_with fail;have hr1:=oX.o (Wz.setCell ⟨p8,2,none⟩ (.bool (!s2))) _ _ ⟨_,_,rfl,dJ M1.o B8.o CT 2 (.bool (!s2)),dJ M2.o B8.o CT 2 (.bool (!s2))⟩ ⟨_,_,rfl,dJ M3.o B8.o CT 2 (.bool (!s2)),dJ M4.o B8.o CT 2 (.bool (!s2))⟩;refine hr1.mono ?_;clear hr1 k8 f8 l8 k7 l7;rintro e W9 ⟨⟨v,rfl,vn,vd,rfl,hn,hd⟩,hx⟩;obtain ⟨a9,c9,rfl⟩:=am hn;obtain ⟨a10,c10,rfl⟩:=am hd;have X9:=kI ((XZ.o.set (p:=⟨p8,2,none⟩) aD (.bool (!s2))).trans hx);clear hn hd hx;obtain ⟨tb,tn,td⟩:=TT;dsimp only at HSG ⊢;obtain ⟨z1,z2⟩:=HSG.o;by_cases h0:tn=0
   ·have r1:=z1 h0;have q1:(((lim tn).length:Int) == 0)=true:=by rw [h0];rfl
    have R1:=kI r1;clear z1 z2 r1 h0;exact WX
   ·obtain ⟨z3,z4⟩:=z2 h0;have q1:(((lim tn).length:Int) == 0)=false:=by
     have:lim tn≠[]:=fun e=>h0 (by rw [← aA tn,e];rfl);have:=List.length_pos_iff.2 this;simp only [beq_eq_false_iff_ne];omega
    cases tb
    ·have R1:=kI (z4 rfl);clear z1 z2 z3 z4 h0;exact WX
    ·have R1:=kI (z3 rfl);clear z1 z2 z3 z4 h0;exact WX
  refine cu 3 #[true,true,true,false,true,true,false,false] (fun a W=>∃ (y6 jv jw jx jy:Value) (a5:Option Addr) (c5:Nat) (a6:Option Addr) (c6:Nat) (p7:Nat) (p8:Nat),a=⟨#[.agg #[.bool s1,.slice a1 l1.length c1,.slice a2 l2.length c2],.agg #[.bool s2,.slice a3 l3.length c3,.slice a4 l4.length c4],.pointer (some ⟨w.heap.size,0,none⟩),.pointer (some ⟨w.heap.size+1,0,none⟩),.int .i64 0,.int .i64 0,y6,.pointer (some ⟨p7,0,none⟩),.pointer (some ⟨p8,0,none⟩),undef,.agg #[.bool s1,.slice a1 l1.length c1,.slice a2 l2.length c2],.int .i64 0,.agg #[.bool s2,.slice a3 l3.length c3,.slice a4 l4.length c4],.int .i64 0,jv,jw,jx,jy,undef,.agg #[.bool s1,.slice a1 l1.length c1,.slice a2 l2.length c2],.agg #[.slice a5 l1.length c5,.slice a6 (dl l2).length c6,.bool s1],.agg #[.bool s2,.slice a3 l3.length c3,.slice a4 l4.length c4],undef,undef,undef,undef,undef,undef,undef,undef,undef,undef,undef,undef,undef,undef,undef,undef,undef],[]⟩∧Ext W6 W∧af W w.heap.size #[.bool s1,.slice a1 l1.length c1,.slice a2 l2.length c2] 25∧af W (w.heap.size+1) #[.bool s2,.slice a3 l3.length c3,.slice a4 l4.length c4] 25∧aY .u32 W (.slice a5 l1.length c5) l1∧aY .u32 W (.slice a6 (dl l2).length c6) (dl l2)∧af W p7 #[.slice none 0 0,.slice none 0 0,.bool false] 134∧w.heap.size+1 < p7∧af W p8 #[.slice none 0 0,.slice none 0 0,.bool false] 134∧w.heap.size+1 < p8∧p7≠p8) ?_ (fun tV=>?_)
  ·rintro a W ⟨y6,jv,jw,jx,jy,a5,c5,a6,c6,p7,p8,rfl,x,g2,g3,n1,d1,z7,i7,z8,i8,ne⟩;refine dt [3] ?_;refine AllReadyH.cons rfl (fun K hK=>?_) ?_
   ·go_simp;refine (Oh.o _ (X6.o.trans x)).mono ?_;rintro e W2 ⟨⟨v,rfl,vn,vd,rfl,n2,d2⟩,hx⟩;obtain ⟨a7,c7,rfl⟩:=am n2;obtain ⟨a8,c8,rfl⟩:=am d2;(try go_wp2_with fail);refine hK.out _ _ ?_ (fun hHeld=>?_)
    ·exact JQ
    (try simp only [Act.put,List.setIfInBounds_toArray,List.set_cons_zero,List.set_cons_succ]);exact mL _ _ ⟨_,_,_,_,_,_,_,_,_,_,_,_,_,_,_,rfl,x.trans hx,g2.ext hx,g3.ext hx,n1.ext hx,d1.ext hx,n2,d2,z7.ext hx,i7,z8.ext hx,i8,ne⟩
   exact AllReadyH.nil
  refine cu 3 #[true,true,true,true,true,false,false,false] (fun a W=>∃ (y6 jv jw jx jy:Value) (a5:Option Addr) (c5:Nat) (a6:Option Addr) (c6:Nat) (a7:Option Addr) (c7:Nat) (a8:Option Addr) (c8:Nat) (p7:Nat),a=⟨#[.agg #[.bool s1,.slice a1 l1.length c1,.slice a2 l2.length c2],.agg #[.bool s2,.slice a3 l3.length c3,.slice a4 l4.length c4],.pointer (some ⟨w.heap.size,0,none⟩),.pointer (some ⟨w.heap.size+1,0,none⟩),.int .i64 0,.int .i64 0,y6,.pointer (some ⟨p7,0,none⟩),undef,undef,.agg #[.bool s1,.slice a1 l1.length c1,.slice a2 l2.length c2],.int .i64 0,.agg #[.bool s2,.slice a3 l3.length c3,.slice a4 l4.length c4],.int .i64 0,jv,jw,jx,jy,undef,.agg #[.bool s1,.slice a1 l1.length c1,.slice a2 l2.length c2],.agg #[.slice a5 l1.length c5,.slice a6 (dl l2).length c6,.bool s1],.agg #[.bool s2,.slice a3 l3.length c3,.slice a4 l4.length c4],.agg #[.slice a7 l3.length c7,.slice a8 (dl l4).length c8,.bool s2],undef,undef,undef,undef,undef,undef,undef,undef,undef,undef,undef,undef,undef,undef,undef,undef],[]⟩∧Ext W6 W∧af W w.heap.size #[.bool s1,.slice a1 l1.length c1,.slice a2 l2.length c2] 25∧af W (w.heap.size+1) #[.bool s2,.slice a3 l3.length c3,.slice a4 l4.length c4] 25∧aY .u32 W (.slice a5 l1.length c5) l1∧aY .u32 W (.slice a6 (dl l2).length c6) (dl l2)∧aY .u32 W (.slice a7 l3.length c7) l3∧aY .u32 W (.slice a8 (dl l4).length c8) (dl l4)∧af W p7 #[.slice none 0 0,.slice none 0 0,.bool false] 134∧w.heap.size+1 < p7) ?_ (fun Aw=>?_)
  ·rintro a W ⟨y6,jv,jw,jx,jy,a5,c5,a6,c6,a7,c7,a8,c8,p7,rfl,x,g2,g3,n1,d1,n2,d2,z7,i7⟩;refine dt [5] ?_;refine AllReadyH.cons rfl (fun K hK=>?_) ?_
   ·go_simp;(try go_wp2_with fail);refine hK.out _ _ ?_ (fun hHeld=>?_)
    ·exact CR
    (try simp only [Act.put,List.setIfInBounds_toArray,List.set_cons_zero,List.set_cons_succ]);exact mL _ _ ⟨_,_,_,_,_,_,_,_,_,_,_,_,_,_,_,rfl,x.alloc _,g2.alloc _,g3.alloc _,n1.ext ((Ext.refl _).alloc _),d1.ext ((Ext.refl _).alloc _),n2.ext ((Ext.refl _).alloc _),d2.ext ((Ext.refl _).alloc _),z7.alloc _,i7,af.new _ _ _,CV,(by have:=z7.lt;omega)⟩
   exact AllReadyH.nil
  refine cu 3 #[true,true,true,true,false,true,false,false] (fun a W=>∃ (y6 jv jw jx jy:Value) (a5:Option Addr) (c5:Nat) (a6:Option Addr) (c6:Nat) (a7:Option Addr) (c7:Nat) (a8:Option Addr) (c8:Nat) (p8:Nat),a=⟨#[.agg #[.bool s1,.slice a1 l1.length c1,.slice a2 l2.length c2],.agg #[.bool s2,.slice a3 l3.length c3,.slice a4 l4.length c4],.pointer (some ⟨w.heap.size,0,none⟩),.pointer (some ⟨w.heap.size+1,0,none⟩),.int .i64 0,.int .i64 0,y6,undef,.pointer (some ⟨p8,0,none⟩),undef,.agg #[.bool s1,.slice a1 l1.length c1,.slice a2 l2.length c2],.int .i64 0,.agg #[.bool s2,.slice a3 l3.length c3,.slice a4 l4.length c4],.int .i64 0,jv,jw,jx,jy,undef,.agg #[.bool s1,.slice a1 l1.length c1,.slice a2 l2.length c2],.agg #[.slice a5 l1.length c5,.slice a6 (dl l2).length c6,.bool s1],.agg #[.bool s2,.slice a3 l3.length c3,.slice a4 l4.length c4],.agg #[.slice a7 l3.length c7,.slice a8 (dl l4).length c8,.bool s2],undef,undef,undef,undef,undef,undef,undef,undef,undef,undef,undef,undef,undef,undef,undef,undef],[]⟩∧Ext W6 W∧af W w.heap.size #[.bool s1,.slice a1 l1.length c1,.slice a2 l2.length c2] 25∧af W (w.heap.size+1) #[.bool s2,.slice a3 l3.length c3,.slice a4 l4.length c4] 25∧aY .u32 W (.slice a5 l1.length c5) l1∧aY .u32 W (.slice a6 (dl l2).length c6) (dl l2)∧aY .u32 W (.slice a7 l3.length c7) l3∧aY .u32 W (.slice a8 (dl l4).length c8) (dl l4)∧af W p8 #[.slice none 0 0,.slice none 0 0,.bool false] 134∧w.heap.size+1 < p8) ?_ (fun Ay=>?_)
  ·rintro a W ⟨y6,jv,jw,jx,jy,a5,c5,a6,c6,a7,c7,a8,c8,p8,rfl,x,g2,g3,n1,d1,n2,d2,z8,i8⟩;refine dt [4] ?_;refine AllReadyH.cons rfl (fun K hK=>?_) ?_
   ·go_simp;(try go_wp2_with fail);refine hK.out _ _ ?_ (fun hHeld=>?_)
    ·exact CR
    (try simp only [Act.put,List.setIfInBounds_toArray,List.set_cons_zero,List.set_cons_succ]);exact mL _ _ ⟨_,_,_,_,_,_,_,_,_,_,_,_,_,_,_,rfl,x.alloc _,g2.alloc _,g3.alloc _,n1.ext ((Ext.refl _).alloc _),d1.ext ((Ext.refl _).alloc _),n2.ext ((Ext.refl _).alloc _),d2.ext ((Ext.refl _).alloc _),af.new _ _ _,CV,z8.alloc _,i8,(by have:=z8.lt;omega)⟩
   exact AllReadyH.nil
  refine cu 4 #[true,false,true,false,true,true,false,false] (fun a W=>∃ (y6 jv jw jx jy:Value) (p7:Nat) (p8:Nat),a=⟨#[.agg #[.bool s1,.slice a1 l1.length c1,.slice a2 l2.length c2],.agg #[.bool s2,.slice a3 l3.length c3,.slice a4 l4.length c4],.pointer (some ⟨w.heap.size,0,none⟩),.pointer (some ⟨w.heap.size+1,0,none⟩),.int .i64 0,.int .i64 0,y6,.pointer (some ⟨p7,0,none⟩),.pointer (some ⟨p8,0,none⟩),undef,.agg #[.bool s1,.slice a1 l1.length c1,.slice a2 l2.length c2],.int .i64 0,.agg #[.bool s2,.slice a3 l3.length c3,.slice a4 l4.length c4],.int .i64 0,jv,jw,jx,jy,undef,.agg #[.bool s1,.slice a1 l1.length c1,.slice a2 l2.length c2],undef,.agg #[.bool s2,.slice a3 l3.length c3,.slice a4 l4.length c4],undef,undef,undef,undef,undef,undef,undef,undef,undef,undef,undef,undef,undef,undef,undef,undef,undef],[]⟩∧Ext W6 W∧af W w.heap.size #[.bool s1,.slice a1 l1.length c1,.slice a2 l2.length c2] 25∧af W (w.heap.size+1) #[.bool s2,.slice a3 l3.length c3,.slice a4 l4.length c4] 25∧af W p7 #[.slice none 0 0,.slice none 0 0,.bool false] 134∧w.heap.size+1 < p7∧af W p8 #[.slice none 0 0,.slice none 0 0,.bool false] 134∧w.heap.size+1 < p8∧p7≠p8) ?_ (fun J6=>?_)
  ·rintro a W ⟨y6,jv,jw,jx,jy,p7,p8,rfl,x,g2,g3,z7,i7,z8,i8,ne⟩;refine dt [1] ?_;refine AllReadyH.cons rfl (fun K hK=>?_) ?_
   ·go_simp;refine (Og.o _ (X6.o.trans x)).mono ?_;rintro e W2 ⟨⟨v,rfl,vn,vd,rfl,n1,d1⟩,hx⟩;obtain ⟨a5,c5,rfl⟩:=am n1;obtain ⟨a6,c6,rfl⟩:=am d1;(try go_wp2_with fail);refine hK.out _ _ ?_ (fun hHeld=>?_)
    ·exact JQ
    (try simp only [Act.put,List.setIfInBounds_toArray,List.set_cons_zero,List.set_cons_succ]);exact tV _ _ ⟨_,_,_,_,_,_,_,_,_,_,_,rfl,x.trans hx,g2.ext hx,g3.ext hx,n1,d1,z7.ext hx,i7,z8.ext hx,i8,ne⟩
   exact AllReadyH.nil
  refine cu 4 #[true,true,true,false,true,false,false,false] (fun a W=>∃ (y6 jv jw jx jy:Value) (a5:Option Addr) (c5:Nat) (a6:Option Addr) (c6:Nat) (p7:Nat),a=⟨#[.agg #[.bool s1,.slice a1 l1.length c1,.slice a2 l2.length c2],.agg #[.bool s2,.slice a3 l3.length c3,.slice a4 l4.length c4],.pointer (some ⟨w.heap.size,0,none⟩),.pointer (some ⟨w.heap.size+1,0,none⟩),.int .i64 0,.int .i64 0,y6,.pointer (some ⟨p7,0,none⟩),undef,undef,.agg #[.bool s1,.slice a1 l1.length c1,.slice a2 l2.length c2],.int .i64 0,.agg #[.bool s2,.slice a3 l3.length c3,.slice a4 l4.length c4],.int .i64 0,jv,jw,jx,jy,undef,.agg #[.bool s1,.slice a1 l1.length c1,.slice a2 l2.length c2],.agg #[.slice a5 l1.length c5,.slice a6 (dl l2).length c6,.bool s1],.agg #[.bool s2,.slice a3 l3.length c3,.slice a4 l4.length c4],undef,undef,undef,undef,undef,undef,undef,undef,undef,undef,undef,undef,undef,undef,undef,undef,undef],[]⟩∧Ext W6 W∧af W w.heap.size #[.bool s1,.slice a1 l1.length c1,.slice a2 l2.length c2] 25∧af W (w.heap.size+1) #[.bool s2,.slice a3 l3.length c3,.slice a4 l4.length c4] 25∧aY .u32 W (.slice a5 l1.length c5) l1∧aY .u32 W (.slice a6 (dl l2).length c6) (dl l2)∧af W p7 #[.slice none 0 0,.slice none 0 0,.bool false] 134∧w.heap.size+1 < p7) ?_ (fun J7=>?_)
  ·rintro a W ⟨y6,jv,jw,jx,jy,a5,c5,a6,c6,p7,rfl,x,g2,g3,n1,d1,z7,i7⟩;refine dt [3,5] ?_;refine AllReadyH.cons rfl (fun K hK=>?_) ?_
   ·go_simp;refine (Oh.o _ (X6.o.trans x)).mono ?_;rintro e W2 ⟨⟨v,rfl,vn,vd,rfl,n2,d2⟩,hx⟩;obtain ⟨a7,c7,rfl⟩:=am n2;obtain ⟨a8,c8,rfl⟩:=am d2;(try go_wp2_with fail);refine hK.out _ _ ?_ (fun hHeld=>?_)
    ·exact JQ
    (try simp only [Act.put,List.setIfInBounds_toArray,List.set_cons_zero,List.set_cons_succ]);exact Aw _ _ ⟨_,_,_,_,_,_,_,_,_,_,_,_,_,_,rfl,x.trans hx,g2.ext hx,g3.ext hx,n1.ext hx,d1.ext hx,n2,d2,z7.ext hx,i7⟩
   refine AllReadyH.cons rfl (fun K hK=>?_) ?_
   ·go_simp;(try go_wp2_with fail);refine hK.out _ _ ?_ (fun hHeld=>?_)
    ·exact CR
    (try simp only [Act.put,List.setIfInBounds_toArray,List.set_cons_zero,List.set_cons_succ]);exact tV _ _ ⟨_,_,_,_,_,_,_,_,_,_,_,rfl,x.alloc _,g2.alloc _,g3.alloc _,n1.ext ((Ext.refl _).alloc _),d1.ext ((Ext.refl _).alloc _),z7.alloc _,i7,af.new _ _ _,CV,(by have:=z7.lt;omega)⟩
   exact AllReadyH.nil
  refine cu 4 #[true,true,true,false,false,true,false,false] (fun a W=>∃ (y6 jv jw jx jy:Value) (a5:Option Addr) (c5:Nat) (a6:Option Addr) (c6:Nat) (p8:Nat),a=⟨#[.agg #[.bool s1,.slice a1 l1.length c1,.slice a2 l2.length c2],.agg #[.bool s2,.slice a3 l3.length c3,.slice a4 l4.length c4],.pointer (some ⟨w.heap.size,0,none⟩),.pointer (some ⟨w.heap.size+1,0,none⟩),.int .i64 0,.int .i64 0,y6,undef,.pointer (some ⟨p8,0,none⟩),undef,.agg #[.bool s1,.slice a1 l1.length c1,.slice a2 l2.length c2],.int .i64 0,.agg #[.bool s2,.slice a3 l3.length c3,.slice a4 l4.length c4],.int .i64 0,jv,jw,jx,jy,undef,.agg #[.bool s1,.slice a1 l1.length c1,.slice a2 l2.length c2],.agg #[.slice a5 l1.length c5,.slice a6 (dl l2).length c6,.bool s1],.agg #[.bool s2,.slice a3 l3.length c3,.slice a4 l4.length c4],undef,undef,undef,undef,undef,undef,undef,undef,undef,undef,undef,undef,undef,undef,undef,undef,undef],[]⟩∧Ext W6 W∧af W w.heap.size #[.bool s1,.slice a1 l1.length c1,.slice a2 l2.length c2] 25∧af W (w.heap.size+1) #[.bool s2,.slice a3 l3.length c3,.slice a4 l4.length c4] 25∧aY .u32 W (.slice a5 l1.length c5) l1∧aY .u32 W (.slice a6 (dl l2).length c6) (dl l2)∧af W p8 #[.slice none 0 0,.slice none 0 0,.bool false] 134∧w.heap.size+1 < p8) ?_ (fun J8=>?_)
  ·rintro a W ⟨y6,jv,jw,jx,jy,a5,c5,a6,c6,p8,rfl,x,g2,g3,n1,d1,z8,i8⟩;refine dt [3,4] ?_;refine AllReadyH.cons rfl (fun K hK=>?_) ?_
   ·go_simp;refine (Oh.o _ (X6.o.trans x)).mono ?_;rintro e W2 ⟨⟨v,rfl,vn,vd,rfl,n2,d2⟩,hx⟩;obtain ⟨a7,c7,rfl⟩:=am n2;obtain ⟨a8,c8,rfl⟩:=am d2;(try go_wp2_with fail);refine hK.out _ _ ?_ (fun hHeld=>?_)
    ·exact JQ
    (try simp only [Act.put,List.setIfInBounds_toArray,List.set_cons_zero,List.set_cons_succ]);exact Ay _ _ ⟨_,_,_,_,_,_,_,_,_,_,_,_,_,_,rfl,x.trans hx,g2.ext hx,g3.ext hx,n1.ext hx,d1.ext hx,n2,d2,z8.ext hx,i8⟩
   refine AllReadyH.cons rfl (fun K hK=>?_) ?_
   ·go_simp;(try go_wp2_with fail);refine hK.out _ _ ?_ (fun hHeld=>?_)
    ·exact CR
    (try simp only [Act.put,List.setIfInBounds_toArray,List.set_cons_zero,List.set_cons_succ]);exact tV _ _ ⟨_,_,_,_,_,_,_,_,_,_,_,rfl,x.alloc _,g2.alloc _,g3.alloc _,n1.ext ((Ext.refl _).alloc _),d1.ext ((Ext.refl _).alloc _),af.new _ _ _,CV,z8.alloc _,i8,(by have:=z8.lt;omega)⟩
   exact AllReadyH.nil
  refine cu 4 #[true,true,true,true,false,false,false,false] (fun a W=>∃ (y6 jv jw jx jy:Value) (a5:Option Addr) (c5:Nat) (a6:Option Addr) (c6:Nat) (a7:Option Addr) (c7:Nat) (a8:Option Addr) (c8:Nat),a=⟨#[.agg #[.bool s1,.slice a1 l1.length c1,.slice a2 l2.length c2],.agg #[.bool s2,.slice a3 l3.length c3,.slice a4 l4.length c4],.pointer (some ⟨w.heap.size,0,none⟩),.pointer (some ⟨w.heap.size+1,0,none⟩),.int .i64 0,.int .i64 0,y6,undef,undef,undef,.agg #[.bool s1,.slice a1 l1.length c1,.slice a2 l2.length c2],.int .i64 0,.agg #[.bool s2,.slice a3 l3.length c3,.slice a4 l4.length c4],.int .i64 0,jv,jw,jx,jy,undef,.agg #[.bool s1,.slice a1 l1.length c1,.slice a2 l2.length c2],.agg #[.slice a5 l1.length c5,.slice a6 (dl l2).length c6,.bool s1],.agg #[.bool s2,.slice a3 l3.length c3,.slice a4 l4.length c4],.agg #[.slice a7 l3.length c7,.slice a8 (dl l4).length c8,.bool s2],undef,undef,undef,undef,undef,undef,undef,undef,undef,undef,undef,undef,undef,undef,undef,undef],[]⟩∧Ext W6 W∧af W w.heap.size #[.bool s1,.slice a1 l1.length c1,.slice a2 l2.length c2] 25∧af W (w.heap.size+1) #[.bool s2,.slice a3 l3.length c3,.slice a4 l4.length c4] 25∧aY .u32 W (.slice a5 l1.length c5) l1∧aY .u32 W (.slice a6 (dl l2).length c6) (dl l2)∧aY .u32 W (.slice a7 l3.length c7) l3∧aY .u32 W (.slice a8 (dl l4).length c8) (dl l4)) ?_ (fun QJ=>?_)
  ·rintro a W ⟨y6,jv,jw,jx,jy,a5,c5,a6,c6,a7,c7,a8,c8,rfl,x,g2,g3,n1,d1,n2,d2⟩;refine dt [4,5] ?_;refine AllReadyH.cons rfl (fun K hK=>?_) ?_
   ·go_simp;(try go_wp2_with fail);refine hK.out _ _ ?_ (fun hHeld=>?_)
    ·exact CR
    (try simp only [Act.put,List.setIfInBounds_toArray,List.set_cons_zero,List.set_cons_succ]);exact Aw _ _ ⟨_,_,_,_,_,_,_,_,_,_,_,_,_,_,rfl,x.alloc _,g2.alloc _,g3.alloc _,n1.ext ((Ext.refl _).alloc _),d1.ext ((Ext.refl _).alloc _),n2.ext ((Ext.refl _).alloc _),d2.ext ((Ext.refl _).alloc _),af.new _ _ _,CV⟩
   refine AllReadyH.cons rfl (fun K hK=>?_) ?_
   ·go_simp;(try go_wp2_with fail);refine hK.out _ _ ?_ (fun hHeld=>?_)
    ·exact CR
    (try simp only [Act.put,List.setIfInBounds_toArray,List.set_cons_zero,List.set_cons_succ]);exact Ay _ _ ⟨_,_,_,_,_,_,_,_,_,_,_,_,_,_,rfl,x.alloc _,g2.alloc _,g3.alloc _,n1.ext ((Ext.refl _).alloc _),d1.ext ((Ext.refl _).alloc _),n2.ext ((Ext.refl _).alloc _),d2.ext ((Ext.refl _).alloc _),af.new _ _ _,CV⟩
   exact AllReadyH.nil
  refine cu 5 #[true,false,true,false,true,false,false,false] (fun a W=>∃ (y6 jv jw jx jy:Value) (p7:Nat),a=⟨#[.agg #[.bool s1,.slice a1 l1.length c1,.slice a2 l2.length c2],.agg #[.bool s2,.slice a3 l3.length c3,.slice a4 l4.length c4],.pointer (some ⟨w.heap.size,0,none⟩),.pointer (some ⟨w.heap.size+1,0,none⟩),.int .i64 0,.int .i64 0,y6,.pointer (some ⟨p7,0,none⟩),undef,undef,.agg #[.bool s1,.slice a1 l1.length c1,.slice a2 l2.length c2],.int .i64 0,.agg #[.bool s2,.slice a3 l3.length c3,.slice a4 l4.length c4],.int .i64 0,jv,jw,jx,jy,undef,.agg #[.bool s1,.slice a1 l1.length c1,.slice a2 l2.length c2],undef,.agg #[.bool s2,.slice a3 l3.length c3,.slice a4 l4.length c4],undef,undef,undef,undef,undef,undef,undef,undef,undef,undef,undef,undef,undef,undef,undef,undef,undef],[]⟩∧Ext W6 W∧af W w.heap.size #[.bool s1,.slice a1 l1.length c1,.slice a2 l2.length c2] 25∧af W (w.heap.size+1) #[.bool s2,.slice a3 l3.length c3,.slice a4 l4.length c4] 25∧af W p7 #[.slice none 0 0,.slice none 0 0,.bool false] 134∧w.heap.size+1 < p7) ?_ (fun Ha4=>?_)
  ·rintro a W ⟨y6,jv,jw,jx,jy,p7,rfl,x,g2,g3,z7,i7⟩;refine dt [1,5] ?_;refine AllReadyH.cons rfl (fun K hK=>?_) ?_
   ·go_simp;refine (Og.o _ (X6.o.trans x)).mono ?_;rintro e W2 ⟨⟨v,rfl,vn,vd,rfl,n1,d1⟩,hx⟩;obtain ⟨a5,c5,rfl⟩:=am n1;obtain ⟨a6,c6,rfl⟩:=am d1;(try go_wp2_with fail);refine hK.out _ _ ?_ (fun hHeld=>?_)
    ·exact JQ
    (try simp only [Act.put,List.setIfInBounds_toArray,List.set_cons_zero,List.set_cons_succ]);exact J7 _ _ ⟨_,_,_,_,_,_,_,_,_,_,rfl,x.trans hx,g2.ext hx,g3.ext hx,n1,d1,z7.ext hx,i7⟩
   refine AllReadyH.cons rfl (fun K hK=>?_) ?_
   ·go_simp;(try go_wp2_with fail);refine hK.out _ _ ?_ (fun hHeld=>?_)
    ·exact CR
    (try simp only [Act.put,List.setIfInBounds_toArray,List.set_cons_zero,List.set_cons_succ]);exact J6 _ _ ⟨_,_,_,_,_,_,_,rfl,x.alloc _,g2.alloc _,g3.alloc _,z7.alloc _,i7,af.new _ _ _,CV,(by have:=z7.lt;omega)⟩
   exact AllReadyH.nil
  refine cu 5 #[true,false,true,false,false,true,false,false] (fun a W=>∃ (y6 jv jw jx jy:Value) (p8:Nat),a=⟨#[.agg #[.bool s1,.slice a1 l1.length c1,.slice a2 l2.length c2],.agg #[.bool s2,.slice a3 l3.length c3,.slice a4 l4.length c4],.pointer (some ⟨w.heap.size,0,none⟩),.pointer (some ⟨w.heap.size+1,0,none⟩),.int .i64 0,.int .i64 0,y6,undef,.pointer (some ⟨p8,0,none⟩),undef,.agg #[.bool s1,.slice a1 l1.length c1,.slice a2 l2.length c2],.int .i64 0,.agg #[.bool s2,.slice a3 l3.length c3,.slice a4 l4.length c4],.int .i64 0,jv,jw,jx,jy,undef,.agg #[.bool s1,.slice a1 l1.length c1,.slice a2 l2.length c2],undef,.agg #[.bool s2,.slice a3 l3.length c3,.slice a4 l4.length c4],undef,undef,undef,undef,undef,undef,undef,undef,undef,undef,undef,undef,undef,undef,undef,undef,undef],[]⟩∧Ext W6 W∧af W w.heap.size #[.bool s1,.slice a1 l1.length c1,.slice a2 l2.length c2] 25∧af W (w.heap.size+1) #[.bool s2,.slice a3 l3.length c3,.slice a4 l4.length c4] 25∧af W p8 #[.slice none 0 0,.slice none 0 0,.bool false] 134∧w.heap.size+1 < p8) ?_ (fun Ha5=>?_)
  ·rintro a W ⟨y6,jv,jw,jx,jy,p8,rfl,x,g2,g3,z8,i8⟩;refine dt [1,4] ?_;refine AllReadyH.cons rfl (fun K hK=>?_) ?_
   ·go_simp;refine (Og.o _ (X6.o.trans x)).mono ?_;rintro e W2 ⟨⟨v,rfl,vn,vd,rfl,n1,d1⟩,hx⟩;obtain ⟨a5,c5,rfl⟩:=am n1;obtain ⟨a6,c6,rfl⟩:=am d1;(try go_wp2_with fail);refine hK.out _ _ ?_ (fun hHeld=>?_)
    ·exact JQ
    (try simp only [Act.put,List.setIfInBounds_toArray,List.set_cons_zero,List.set_cons_succ]);exact J8 _ _ ⟨_,_,_,_,_,_,_,_,_,_,rfl,x.trans hx,g2.ext hx,g3.ext hx,n1,d1,z8.ext hx,i8⟩
   refine AllReadyH.cons rfl (fun K hK=>?_) ?_
   ·go_simp;(try go_wp2_with fail);refine hK.out _ _ ?_ (fun hHeld=>?_)
    ·exact CR
    (try simp only [Act.put,List.setIfInBounds_toArray,List.set_cons_zero,List.set_cons_succ]);exact J6 _ _ ⟨_,_,_,_,_,_,_,rfl,x.alloc _,g2.alloc _,g3.alloc _,af.new _ _ _,CV,z8.alloc _,i8,(by have:=z8.lt;omega)⟩
   exact AllReadyH.nil
  refine cu 5 #[true,true,true,false,false,false,false,false] (fun a W=>∃ (y6 jv jw jx jy:Value) (a5:Option Addr) (c5:Nat) (a6:Option Addr) (c6:Nat),a=⟨#[.agg #[.bool s1,.slice a1 l1.length c1,.slice a2 l2.length c2],.agg #[.bool s2,.slice a3 l3.length c3,.slice a4 l4.length c4],.pointer (some ⟨w.heap.size,0,none⟩),.pointer (some ⟨w.heap.size+1,0,none⟩),.int .i64 0,.int .i64 0,y6,undef,undef,undef,.agg #[.bool s1,.slice a1 l1.length c1,.slice a2 l2.length c2],.int .i64 0,.agg #[.bool s2,.slice a3 l3.length c3,.slice a4 l4.length c4],.int .i64 0,jv,jw,jx,jy,undef,.agg #[.bool s1,.slice a1 l1.length c1,.slice a2 l2.length c2],.agg #[.slice a5 l1.length c5,.slice a6 (dl l2).length c6,.bool s1],.agg #[.bool s2,.slice a3 l3.length c3,.slice a4 l4.length c4],undef,undef,undef,undef,undef,undef,undef,undef,undef,undef,undef,undef,undef,undef,undef,undef,undef],[]⟩∧Ext W6 W∧af W w.heap.size #[.bool s1,.slice a1 l1.length c1,.slice a2 l2.length c2] 25∧af W (w.heap.size+1) #[.bool s2,.slice a3 l3.length c3,.slice a4 l4.length c4] 25∧aY .u32 W (.slice a5 l1.length c5) l1∧aY .u32 W (.slice a6 (dl l2).length c6) (dl l2)) ?_ (fun Hc1=>?_)
  ·rintro a W ⟨y6,jv,jw,jx,jy,a5,c5,a6,c6,rfl,x,g2,g3,n1,d1⟩;refine dt [3,4,5] ?_;refine AllReadyH.cons rfl (fun K hK=>?_) ?_
   ·go_simp;refine (Oh.o _ (X6.o.trans x)).mono ?_;rintro e W2 ⟨⟨v,rfl,vn,vd,rfl,n2,d2⟩,hx⟩;obtain ⟨a7,c7,rfl⟩:=am n2;obtain ⟨a8,c8,rfl⟩:=am d2;(try go_wp2_with fail);refine hK.out _ _ ?_ (fun hHeld=>?_)
    ·exact JQ
    (try simp only [Act.put,List.setIfInBounds_toArray,List.set_cons_zero,List.set_cons_succ]);exact QJ _ _ ⟨_,_,_,_,_,_,_,_,_,_,_,_,_,rfl,x.trans hx,g2.ext hx,g3.ext hx,n1.ext hx,d1.ext hx,n2,d2⟩
   refine AllReadyH.cons rfl (fun K hK=>?_) ?_
   ·go_simp;(try go_wp2_with fail);refine hK.out _ _ ?_ (fun hHeld=>?_)
    ·exact CR
    (try simp only [Act.put,List.setIfInBounds_toArray,List.set_cons_zero,List.set_cons_succ]);exact J7 _ _ ⟨_,_,_,_,_,_,_,_,_,_,rfl,x.alloc _,g2.alloc _,g3.alloc _,n1.ext ((Ext.refl _).alloc _),d1.ext ((Ext.refl _).alloc _),af.new _ _ _,CV⟩
   refine AllReadyH.cons rfl (fun K hK=>?_) ?_
   ·go_simp;(try go_wp2_with fail);refine hK.out _ _ ?_ (fun hHeld=>?_)
    ·exact CR
    (try simp only [Act.put,List.setIfInBounds_toArray,List.set_cons_zero,List.set_cons_succ]);exact J8 _ _ ⟨_,_,_,_,_,_,_,_,_,_,rfl,x.alloc _,g2.alloc _,g3.alloc _,n1.ext ((Ext.refl _).alloc _),d1.ext ((Ext.refl _).alloc _),af.new _ _ _,CV⟩
   exact AllReadyH.nil
  refine cu 6 #[true,false,true,false,false,false,false,false] (fun a W=>∃ (y6 jv jw jx jy:Value),a=⟨#[.agg #[.bool s1,.slice a1 l1.length c1,.slice a2 l2.length c2],.agg #[.bool s2,.slice a3 l3.length c3,.slice a4 l4.length c4],.pointer (some ⟨w.heap.size,0,none⟩),.pointer (some ⟨w.heap.size+1,0,none⟩),.int .i64 0,.int .i64 0,y6,undef,undef,undef,.agg #[.bool s1,.slice a1 l1.length c1,.slice a2 l2.length c2],.int .i64 0,.agg #[.bool s2,.slice a3 l3.length c3,.slice a4 l4.length c4],.int .i64 0,jv,jw,jx,jy,undef,.agg #[.bool s1,.slice a1 l1.length c1,.slice a2 l2.length c2],undef,.agg #[.bool s2,.slice a3 l3.length c3,.slice a4 l4.length c4],undef,undef,undef,undef,undef,undef,undef,undef,undef,undef,undef,undef,undef,undef,undef,undef,undef],[]⟩∧Ext W6 W∧af W w.heap.size #[.bool s1,.slice a1 l1.length c1,.slice a2 l2.length c2] 25∧af W (w.heap.size+1) #[.bool s2,.slice a3 l3.length c3,.slice a4 l4.length c4] 25) ?_ (fun QK=>?_)
  ·rintro a W ⟨y6,jv,jw,jx,jy,rfl,x,g2,g3⟩;refine dt [1,4,5] ?_;refine AllReadyH.cons rfl (fun K hK=>?_) ?_
   ·go_simp;refine (Og.o _ (X6.o.trans x)).mono ?_;rintro e W2 ⟨⟨v,rfl,vn,vd,rfl,n1,d1⟩,hx⟩;obtain ⟨a5,c5,rfl⟩:=am n1;obtain ⟨a6,c6,rfl⟩:=am d1;(try go_wp2_with fail);refine hK.out _ _ ?_ (fun hHeld=>?_)
    ·exact JQ
    (try simp only [Act.put,List.setIfInBounds_toArray,List.set_cons_zero,List.set_cons_succ]);exact Hc1 _ _ ⟨_,_,_,_,_,_,_,_,_,rfl,x.trans hx,g2.ext hx,g3.ext hx,n1,d1⟩
   refine AllReadyH.cons rfl (fun K hK=>?_) ?_
   ·go_simp;(try go_wp2_with fail);refine hK.out _ _ ?_ (fun hHeld=>?_)
    ·exact CR
    (try simp only [Act.put,List.setIfInBounds_toArray,List.set_cons_zero,List.set_cons_succ]);exact Ha4 _ _ ⟨_,_,_,_,_,_,rfl,x.alloc _,g2.alloc _,g3.alloc _,af.new _ _ _,CV⟩
   refine AllReadyH.cons rfl (fun K hK=>?_) ?_
   ·go_simp;(try go_wp2_with fail);refine hK.out _ _ ?_ (fun hHeld=>?_)
    ·exact CR
    (try simp only [Act.put,List.setIfInBounds_toArray,List.set_cons_zero,List.set_cons_succ]);exact Ha5 _ _ ⟨_,_,_,_,_,_,rfl,x.alloc _,g2.alloc _,g3.alloc _,af.new _ _ _,CV⟩
   exact AllReadyH.nil
  exact QK _ _ ⟨_,_,_,_,_,rfl,(Ext.refl W6).drew,G6.o.drew,H6.o.drew⟩
 ·have e:fK ⟨s1,l1,l2⟩ ⟨s2,l3,l4⟩=(0,cK ⟨s1,l1,l2⟩ ⟨s2,l3,l4⟩):=by unfold fK;rw [if_neg hc]
  obtain ⟨ca,hca⟩:=gN (aE ⟨s1,l1,l2⟩);obtain ⟨cb,hcb⟩:=gN (aE ⟨s2,l3,l4⟩);have hcc:cK ⟨s1,l1,l2⟩ ⟨s2,l3,l4⟩=z6 ca cb:=by unfold cK;rw [hca,hcb]
  rw [hcc] at e hc;rw [← hca] at qW;rw [← hcb] at BR;obtain ⟨cc,hcd⟩:=gN (z6 ca cb);have hor:=fun W b h=>lO ca cb b W h;rw [← hcd] at e hc hor;have hcz:(cc != 0)=true:=by simpa using hc
  have E:=kI e;have Dd:=kI hor;clear e hc hcc hca hcb hcd hor;go_enter Tryz.func56,Tryz.ntmps56
  go_wp2_with fail;have hmx:Tryz.prog.follows .mixedOrders=true:=ak
  go_region_held3 (fun W=>(af W w.heap.size #[.bool s1,.slice a1 l1.length c1,.slice a2 l2.length c2] 25∧W.cell? ⟨w.heap.size,0,none⟩=some (.bool s1)∧W.cell? ⟨w.heap.size,1,none⟩=some (.slice a1 l1.length c1)∧W.cell? ⟨w.heap.size,2,none⟩=some (.slice a2 l2.length c2))∧(af W (w.heap.size+1) #[.bool s2,.slice a3 l3.length c3,.slice a4 l4.length c4] 25∧W.cell? ⟨w.heap.size+1,0,none⟩=some (.bool s2)∧W.cell? ⟨w.heap.size+1,1,none⟩=some (.slice a3 l3.length c3)∧W.cell? ⟨w.heap.size+1,2,none⟩=some (.slice a4 l4.length c4)))
   ((refine ⟨af.s3 ?_,af.s3 ?_⟩ <;> (repeat (first|exact A0.o|exact A1.o|exact k1|exact k2|exact k4|exact k5|exact k7|exact k8|refine af.setOther ?_ aD _|refine af.alloc ?_ _|refine af.drew ?_))))
   (first|(go_at_call_of 111 (Value.slice a1 l1.length c1);refine (qW.o _ eX).mono ?_;rintro e W4 ⟨rfl,hx4⟩;have x4:=Ext.trans x0 (Ext.trans eX hx4);have k1:=A0.o.ext (Ext.trans eX hx4);have k2:=A1.o.ext (Ext.trans eX hx4))|(go_at_call_of 111 (Value.slice a3 l3.length c3);refine (BR.o _ eX).mono ?_;rintro e W5 ⟨rfl,hx5⟩;have x5:=x4.trans hx5;have k4:=k1.ext hx5;have k5:=k2.ext hx5)|(go_at_call 121;refine (Dd.o _ _ (af.new W5 _ _)).mono ?_;rintro e W6 ⟨rfl,hx6⟩;have x6:=(x5.alloc _).trans hx6;have k7:=(k4.alloc _).ext hx6;have k8:=(k5.alloc _).ext hx6))
  go_wp2_with fail;go_ret2
  exact ⟨by rw [E.o];rfl,x6⟩
theorem H7 {x y:Rat} (h:x < y):et x y = -1:=by unfold et;rw [if_pos h]
theorem H8 (x:Rat):et x x=0:=by unfold et;rw [if_neg Rat.lt_irrefl,if_pos rfl]
theorem sH {x y:Rat} (h:x < y):¬ y < x:=Rat.not_lt.2 (Rat.le_of_lt h)
theorem Lm {x y:Rat} (h:x < y):x≠y:=fun e=>by rw [e] at h;exact Rat.lt_irrefl h
theorem H9 {x y:Rat} (h:y < x):et x y=1:=by unfold et;rw [if_neg (sH h),if_neg (fun e=>Lm h e.symm)]
theorem Ia (x y:Rat):x < y∨x=y∨y < x:=by
 by_cases h1:x < y
 ·exact .inl h1
 ·by_cases h2:y < x
  ·exact .inr (.inr h2)
  ·exact .inr (.inl (Rat.le_antisymm (Rat.not_lt.1 h2) (Rat.not_lt.1 h1)))
theorem yS (x y:Rat):(x < y∧et x y = -1)∨(x=y∧et x y=0)∨(y < x∧et x y=1):=by
 rcases Ia x y with h|h|h
 ·exact .inl ⟨h,H7 h⟩
 ·subst h;exact .inr (.inl ⟨rfl,H8 x⟩)
 ·exact .inr (.inr ⟨h,H9 h⟩)
theorem BV {n:Int} (h0 : -9223372036854775808≤n) (h1:n≤9223372036854775807):small (n:Rat):=by
 refine wv (k:=2) ⟨?_,?_⟩ ah
 ·rw [Rat.num_intCast];omega
 ·rw [Rat.den_intCast];decide
end Go.Proofs.YtnnjbaijcaiohaaGreat
