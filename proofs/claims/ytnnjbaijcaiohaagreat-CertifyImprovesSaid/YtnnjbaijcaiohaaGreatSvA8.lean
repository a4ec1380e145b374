/- Walks and lemmas. -/
import Derived.Test.YtnnjbaijcaiohaaGreatSvA7
import Derived.Test.YtnnjbaijcaiohaaGreatSvA6
set_option linter.unusedVariables false
set_option linter.unusedSimpArgs false
set_option maxRecDepth 100000
set_option maxHeartbeats 16000000
namespace Go.Proofs.YtnnjbaijcaiohaaGreat
open Go.RowKit
def dm (l:List RR):Prop:=∀ i,i < l.length→aC (l.getD i zR)
theorem Cn (q:Rat):aC (dK q).1:=by
 unfold dK;split
 ·exact cU q
 ·exact ⟨fun x h=>Mu,fun x h=>Mu⟩
theorem aT:aC zR:=⟨fun x h=>Mu,fun x h=>Mu⟩
theorem mi (a b:RR) (q:Rat):aC (i9 a b (dK q)).1:=by
 unfold i9;split
 ·exact Cn q
 ·exact aT
theorem gz (a b:RR):aC (cz a b).1:=mi a b _
theorem fh (a b:RR):aC (mulR a b).1:=mi a b _
def cZ (s:RR):List RR→RR × Int
 | []=>(s,0)
 | x :: r=>if (cz s x).2=0 then cZ (cz s x).1 r else (zR,(cz s x).2)
theorem mn:∀ (l:List RR) (s:RR),aC s→aC (cZ s l).1
 | [],s,h=>h
 | x :: r,s,h=>by
  unfold cZ;split
  ·exact mn r _ (gz s x)
  ·exact aT
theorem rJ {s:RR} {l:List RR} {k:Nat} (h:k < l.length):cZ s (l.drop k)=if (cz s (l.getD k zR)).2=0 then cZ (cz s (l.getD k zR)).1 (l.drop (k+1)) else (zR,(cz s (l.getD k zR)).2):=by
 rw [List.drop_eq_getElem_cons h,List.getD_eq_getElem?_getD,List.getElem?_eq_getElem h];rfl
def ii (s:RR):List RR→List RR→RR × Int
 | a :: la,b :: bs=>if (mulR a b).2=0 then (if (cZ zR [s,(mulR a b).1]).2=0 then ii (cZ zR [s,(mulR a b).1]).1 la bs else (zR,(cZ zR [s,(mulR a b).1]).2)) else (zR,(mulR a b).2)
 | _,_=>(s,0)
theorem mo (s:RR) (b:List RR):ii s [] b=(s,0):=by unfold ii;rfl
def gA (a b:List RR):RR × Int:=if a.length=b.length then ii zR a b else (zR,16)
theorem aV.rK {w A:World} {b:Bool} {vn vd:Value} {r:RR} (h:aV w A (.agg #[.bool b,vn,vd]) r) {bx:Nat} {p q s:Value} {t:TypeId} (hb:ag A bx #[p,q,s] t) (ht:t≠157) (x y z:Value) :
  aV w (((A.setCell ⟨bx,0,none⟩ x).setCell ⟨bx,1,none⟩ y).setCell ⟨bx,2,none⟩ z) (.agg #[.bool b,vn,vd]) r:=by
 obtain ⟨ZT,ZU,e,h1,h2⟩:=h;exact ⟨ZT,ZU,e,bZ.cM h1 hb ht x y z,bZ.cM h2 hb ht x y z⟩
theorem ag.js {A:World} {bx:Nat} {p q s:Value} {t:TypeId} (hb:ag A bx #[p,q,s] t) (x y z:Value):ag (((A.setCell ⟨bx,0,none⟩ x).setCell ⟨bx,1,none⟩ y).setCell ⟨bx,2,none⟩ z) bx #[x,y,z] t:=by
 have:=((hb.set 0 x).set 1 y).set 2 z;simpa using this
theorem uU (v:Value) (l:List RR) (w:World) (h:cH w v l) (hl:dm l) :
  Calls Tryz.prog 197 #[v] w fun e w'=>bU w w' e (cZ zR l)∧Ext w w':=by
 obtain ⟨al,cl,rfl,hlc,hlm,f,hr⟩:=h.get;have HR:=kI hr;have HL:=kI hl;clear h hr hl;have bb0:=(ag.new w #[.bool false,.slice none 0 0,.slice none 0 0] 25);have x0:Ext w (w.alloc (.cells #[.bool false,.slice none 0 0,.slice none 0 0] 25)):=((Ext.refl w).alloc _);have A0:=kI bb0;have X:=kI x0;clear x0 bb0;have Z0:Hid (aV w (w.alloc (.cells #[.bool false,.slice none 0 0,.slice none 0 0] 25)) (.agg #[.bool false,.slice none 0 0,.slice none 0 0]) zR):=kI (aV.zero _ _);have gl:(l.length:Int)≤9223372036854775807:=Z
 go_enter Tryz.func197,Tryz.ntmps197
 go_wp2_with fail;go_loopw [8] (fun i wr=>∃ (k:Nat) (r:RR) (a1:Option Addr) (c1:Nat) (a2:Option Addr) (c2:Nat),k≤l.length∧i=.int .i64 k∧aC r∧cZ zR l=cZ r (l.drop k)∧Ext w wr∧ag wr w.heap.size #[.bool r.neg,.slice a1 r.num.length c1,.slice a2 r.den.length c2] 25∧aV w wr (.agg #[.bool r.neg,.slice a1 r.num.length c1,.slice a2 r.den.length c2]) r) (fun i _=>l.length - (intOf i).toNat)
 case atStart=>exact ⟨0,zR,none,0,none,0,Nat.zero_le _,rfl,aT,rfl,X.o,A0.o,Z0.o⟩
 case round=>
  obtain ⟨k,r,a1,c1,a2,c2,hk,rfl,hrl,hsum,hx,hblk,hnew⟩:=hrel;clear A0 X Z0;have HS:=kI hsum;have X:=kI hx;have A0:=kI hblk;have NR:=kI hnew;have RL:=kI hrl;clear hsum hx hblk hnew hrl;by_cases hlt:k < l.length
  ·obtain ⟨b,off,rfl,hb,x0,x1,x2,rr⟩:=HR.o k hlt;have rl:=HL.o k hlt;have hst:=rJ (s:=r) hlt;rw [← HS.o] at hst;generalize l.getD k zR=y at x0 x1 x2 rr rl hst
   generalize f k=fk at x0 x1 x2 rr
   obtain ⟨⟨y1,y2⟩,⟨y3,y4⟩⟩:=fk;dsimp only at x0 x1 x2 rr;have c0:=(X.o.cell (p:=⟨b,off+k*3,none⟩) hb).trans x0;have cc1:=(X.o.cell (p:=⟨b,off+k*3+1,none⟩) hb).trans x1;have cc2:=(X.o.cell (p:=⟨b,off+k*3+2,none⟩) hb).trans x2;have lb:b < wr.heap.size:=Nat.lt_of_lt_of_le hb X.o.size;have RY:=kI (rr.ext X.o);have LY:=kI rl;have HST:=kI hst;have q1:(0:Int)≤(k:Int):=Z
   have q2:(k:Int) < (l.length:Int):=Z
   clear x0 x1 x2 rr rl hst hb;obtain ⟨aK,fA0,aJ⟩:=A0.o.q3;go_wp2_with fail;have XW:=X;refine (jn _ _ r y _ (bh.ext NR.o.rd ((Ext.refl _).alloc _)) (bh.ext RY.o ((Ext.refl _).alloc _)) RL.o LY.o).mono ?_;rintro e w1 ⟨⟨vs,rfl,nn⟩,hx⟩;have hx:=Ext.trans (show Ext wr _ from eX) hx;clear aK fA0 aJ;have A0:=kI (A0.o.ext hx);have NR:=kI (NR.o.ext hx);have RY:=kI (RY.o.ext hx);have X:=kI (X.o.trans hx);obtain ⟨s1,s2,s3,s4,rfl⟩:=nn.shape;have NS:=kI (aV.from nn (Ext.alloc XW.o _));have SL:=kI (gz r y);clear nn hx;obtain ⟨t,e,ht⟩:∃ t e,cz r y=(t,e):=⟨_,_,rfl⟩;rw [ht] at HST NS SL ⊢;dsimp only at HST NS SL ⊢;clear ht;by_cases he:e=0
   ·subst he;obtain ⟨aK,fA0,aJ⟩:=A0.o.q3;go_wp2_with fail;clear aK fA0 aJ;have hb2:=A0.o.js (.bool t.neg) (.slice s1 t.num.length s2) (.slice s3 t.den.length s4);have hn2:=NS.o.rK A0.o ap (.bool t.neg) (.slice s1 t.num.length s2) (.slice s3 t.den.length s4);have hx2:Ext w _:=((X.o.set (p:=⟨w.heap.size,0,none⟩) (Nat.le_refl _) (.bool t.neg)).set (p:=⟨w.heap.size,1,none⟩) (Nat.le_refl _) (.slice s1 t.num.length s2)).set (p:=⟨w.heap.size,2,none⟩) (Nat.le_refl _) (.slice s3 t.den.length s4);have HB2:=kI hb2;have xJ:=kI hn2;have Bz:=kI hx2;clear hb2 hn2 hx2;go_roundw
    case rel=>exact ⟨k+1,t,s1,s2,s3,s4,by omega,by go_num,SL.o,by have:=HST.o;simpa using this,Bz.o,HB2.o,xJ.o⟩
    case measure=>simp [intOf];omega
   ·have he2:(e != 0)=true:=by simpa using he
    have HE:=kI he;clear he;obtain ⟨aK,fA0,aJ⟩:=A0.o.q3;go_wp2_with fail;clear aK fA0 aJ;have hb6:=(A0.o.js (.bool t.neg) (.slice s1 t.num.length s2) (.slice s3 t.den.length s4)).js (.bool false) (.slice none 0 0) (.slice none 0 0);have hx6:Ext w ((((((w1.setCell ⟨w.heap.size,0,none⟩ (.bool t.neg)).setCell ⟨w.heap.size,1,none⟩ (.slice s1 t.num.length s2)).setCell ⟨w.heap.size,2,none⟩ (.slice s3 t.den.length s4)).setCell ⟨w.heap.size,0,none⟩ (.bool false)).setCell ⟨w.heap.size,1,none⟩ (.slice none 0 0)).setCell ⟨w.heap.size,2,none⟩ (.slice none 0 0)):=((((((X.o.set (p:=⟨w.heap.size,0,none⟩) (Nat.le_refl _) _).set (p:=⟨w.heap.size,1,none⟩) (Nat.le_refl _) _).set (p:=⟨w.heap.size,2,none⟩) (Nat.le_refl _) _).set (p:=⟨w.heap.size,0,none⟩) (Nat.le_refl _) _).set (p:=⟨w.heap.size,1,none⟩) (Nat.le_refl _) _).set (p:=⟨w.heap.size,2,none⟩) (Nat.le_refl _) _);obtain ⟨W6,rL⟩:=gN (((((((w1.setCell ⟨w.heap.size,0,none⟩ (.bool t.neg)).setCell ⟨w.heap.size,1,none⟩ (.slice s1 t.num.length s2)).setCell ⟨w.heap.size,2,none⟩ (.slice s3 t.den.length s4)).setCell ⟨w.heap.size,0,none⟩ (.bool false)).setCell ⟨w.heap.size,1,none⟩ (.slice none 0 0)).setCell ⟨w.heap.size,2,none⟩ (.slice none 0 0)));rw [← rL] at hb6 hx6 ⊢;clear rL;have Ae:=kI hx6;clear hx6;refine bodyPost_ret (v:=.tuple #[.agg #[.bool false,.slice none 0 0,.slice none 0 0],.int .i64 e]) (by have k1:=hb6.cell;have k2:=hb6.free;have k3:=hb6.lt;clear hb6;simp only [results,Tryz.results197];go_simp) rfl ⟨bU.mk (l:=zR) (aV.zero _ _) ?_,?_⟩
    ·have h9:=HST.o;rw [if_neg HE.o] at h9;exact h9
    ·exact Ae.o
  ·obtain rfl:k=l.length:=Z
   have q2:¬ (l.length:Int) < (l.length:Int):=Z
   obtain ⟨aK,fA0,aJ⟩:=A0.o.q3;go_wp2_with fail;clear aK fA0 aJ;refine bodyPost_ret (v:=.tuple #[.agg #[.bool r.neg,.slice a1 r.num.length c1,.slice a2 r.den.length c2],.int .i64 0]) (by have k1:=A0.o.cell;have k2:=A0.o.free;have k3:=A0.o.lt;simp only [results,Tryz.results197];go_simp) rfl ⟨bU.mk (l:=r) ?_ ?_,?_⟩
   ·exact NR.o.rK A0.o ap _ _ _
   ·have h9:=HS.o;rw [List.drop_of_length_le (Nat.le_refl _)] at h9;exact h9
   ·exact ((X.o.set (p:=⟨w.heap.size,0,none⟩) (Nat.le_refl _) _).set (p:=⟨w.heap.size,1,none⟩) (Nat.le_refl _) _).set (p:=⟨w.heap.size,2,none⟩) (Nat.le_refl _) _
def Co (W:World) (b o:Nat) (r:RR) (a1:Option Addr) (c1:Nat) (a2:Option Addr) (c2:Nat):Prop:=
 b < W.heap.size∧W.cell? ⟨b,o,none⟩=some (.bool r.neg)∧W.cell? ⟨b,o+1,none⟩=some (.slice a1 r.num.length c1)∧W.cell? ⟨b,o+2,none⟩=some (.slice a2 r.den.length c2)
theorem Co.c3 {W:World} {b o:Nat} {r:RR} {a1:Option Addr} {c1:Nat} {a2:Option Addr} {c2:Nat} {w:World} (h:Co w b o r a1 c1 a2 c2) (x:Ext w W) :
  W.cell? ⟨b,o,none⟩=some (.bool r.neg)∧W.cell? ⟨b,o+1,none⟩=some (.slice a1 r.num.length c1)∧W.cell? ⟨b,o+2,none⟩=some (.slice a2 r.den.length c2):=
 ⟨(x.cell (p:=⟨b,o,none⟩) h.1).trans h.2.1,(x.cell (p:=⟨b,o+1,none⟩) h.1).trans h.2.2.1,(x.cell (p:=⟨b,o+2,none⟩) h.1).trans h.2.2.2⟩
theorem dV {W:World} {b:Nat} {r:RR} {a1:Option Addr} {c1:Nat} {a2:Option Addr} {c2:Nat} (hb:ag W b #[.bool r.neg,.slice a1 r.num.length c1,.slice a2 r.den.length c2] 25) (h:bh W (.agg #[.bool r.neg,.slice a1 r.num.length c1,.slice a2 r.den.length c2]) r):cH W (.slice (some ⟨b,0,none⟩) 1 1) [r]:=by
 obtain ⟨vn,vd,e,h1,h2⟩:=h;injection e with e
 simp only [Array.mk.injEq,List.cons.injEq,and_true,true_and] at e;obtain ⟨rfl,rfl⟩:=e;refine ⟨_,1,rfl,Nat.le_refl _,by simp,fun i hi=>?_⟩;obtain rfl:i=0:=by simp at hi;omega
 exact ⟨b,0,a1,c1,a2,c2,rfl,hb.lt,hb.cell 0,hb.cell 1,hb.cell 2,h1,h2⟩
theorem jt {W:World} {b:Nat} {r p:RR} {a1:Option Addr} {c1:Nat} {a2:Option Addr} {c2:Nat} {a3:Option Addr} {c3:Nat} {a4:Option Addr} {c4:Nat}
  (hb:ag W b #[.bool r.neg,.slice a1 r.num.length c1,.slice a2 r.den.length c2,.bool p.neg,.slice a3 p.num.length c3,.slice a4 p.den.length c4] 25) (h:bh W (.agg #[.bool r.neg,.slice a1 r.num.length c1,.slice a2 r.den.length c2]) r) (g:bh W (.agg #[.bool p.neg,.slice a3 p.num.length c3,.slice a4 p.den.length c4]) p):cH W (.slice (some ⟨b,0,none⟩) 2 2) [r,p]:=by
 obtain ⟨vn,vd,e,h1,h2⟩:=h;injection e with e
 simp only [Array.mk.injEq,List.cons.injEq,and_true,true_and] at e;obtain ⟨rfl,rfl⟩:=e;obtain ⟨vn,vd,e,h3,h4⟩:=g;injection e with e
 simp only [Array.mk.injEq,List.cons.injEq,and_true,true_and] at e;obtain ⟨rfl,rfl⟩:=e;refine ⟨_,2,rfl,Nat.le_refl _,by simp,fun i hi=>?_⟩;simp at hi;match i,hi with
 | 0,_=>exact ⟨b,0,a1,c1,a2,c2,rfl,hb.lt,hb.cell 0,hb.cell 1,hb.cell 2,h1,h2⟩
 | 1,_=>exact ⟨b,0,a3,c3,a4,c4,rfl,hb.lt,hb.cell 3,hb.cell 4,hb.cell 5,h3,h4⟩
theorem uV {r p:RR} (h:aC r) (g:aC p):dm [r,p]:=fun i hi=>by
 simp at hi;match i,hi with
 | 0,_=>exact h
 | 1,_=>exact g
theorem Af {s:RR} {a b:List RR} {k:Nat} (h:k < a.length) (g:k < b.length):ii s (a.drop k) (b.drop k) =
  if (mulR (a.getD k zR) (b.getD k zR)).2=0 then (if (cZ zR [s,(mulR (a.getD k zR) (b.getD k zR)).1]).2=0 then ii (cZ zR [s,(mulR (a.getD k zR) (b.getD k zR)).1]).1 (a.drop (k+1)) (b.drop (k+1)) else (zR,(cZ zR [s,(mulR (a.getD k zR) (b.getD k zR)).1]).2)) else (zR,(mulR (a.getD k zR) (b.getD k zR)).2):=by
 rw [List.drop_eq_getElem_cons h,List.drop_eq_getElem_cons g,List.getD_eq_getElem?_getD,List.getElem?_eq_getElem h,List.getD_eq_getElem?_getD,List.getElem?_eq_getElem g];rfl
theorem Cp (va vb:Value) (la lb:List RR) (w:World) (ha:cH w va la) (hb:cH w vb lb) (hla:dm la) (hlb:dm lb) :
  Calls Tryz.prog 178 #[va,vb] w fun e w'=>bU w w' e (gA la lb)∧Ext w w':=by
 obtain ⟨aa,ca,rfl,hac,ham,f,hf⟩:=ha.get;obtain ⟨ab,cb,rfl,hbc,hbm,g,hg⟩:=hb.get;have HF:=kI hf;have HG:=kI hg;have Ih:=kI hla;have zJ:=kI hlb;clear ha hb hf hg hla hlb;have bb0:=(ag.new w #[.bool false,.slice none 0 0,.slice none 0 0] 25);have x0:Ext w (w.alloc (.cells #[.bool false,.slice none 0 0,.slice none 0 0] 25)):=((Ext.refl w).alloc _);have A0:=kI bb0;have X:=kI x0;clear x0 bb0;have Z0:Hid (aV w (w.alloc (.cells #[.bool false,.slice none 0 0,.slice none 0 0] 25)) (.agg #[.bool false,.slice none 0 0,.slice none 0 0]) zR):=kI (aV.zero _ _);have gla:(la.length:Int)≤9223372036854775807:=Z
 have glb:(lb.length:Int)≤9223372036854775807:=Z
 by_cases hlen:la.length=lb.length
 ·have hr0:gA la lb=ii zR la lb:=if_pos hlen;have HR0:=kI hr0;clear hr0;have hlz:(la.length:Int)=(lb.length:Int):=Z
  have q0:((la.length:Int) != (lb.length:Int))=false:=by simp [hlz]
  have HLEN:=kI hlen;clear hlen hlz;go_enter Tryz.func178,Tryz.ntmps178
  go_wp2_with fail;go_loopw [17] (fun i wr=>∃ (k:Nat) (r:RR) (a1:Option Addr) (c1:Nat) (a2:Option Addr) (c2:Nat),k≤la.length∧i=.int .i64 k∧aC r∧ii zR la lb=ii r (la.drop k) (lb.drop k)∧Ext w wr∧ag wr w.heap.size #[.bool r.neg,.slice a1 r.num.length c1,.slice a2 r.den.length c2] 25∧aV w wr (.agg #[.bool r.neg,.slice a1 r.num.length c1,.slice a2 r.den.length c2]) r) (fun i _=>la.length - (intOf i).toNat)
  case atStart=>exact ⟨0,zR,none,0,none,0,Nat.zero_le _,rfl,aT,rfl,X.o,A0.o,Z0.o⟩
  case round=>
   obtain ⟨k,r,a1,c1,a2,c2,hk,rfl,hrl,hsum,hx,hblk,hnew⟩:=hrel;clear A0 X Z0;have HS:=kI hsum;have X:=kI hx;have A0:=kI hblk;have NR:=kI hnew;have RL:=kI hrl;clear hsum hx hblk hnew hrl;by_cases hlt:k < la.length
   ·have hlt2:k < lb.length:=by have:=HLEN.o;omega
    obtain ⟨ba,oa,rfl,hba,x0,x1,x2,rx⟩:=HF.o k hlt;obtain ⟨bb,ob,rfl,hbb,y0,y1,y2,ry⟩:=HG.o k hlt2;have lx:=Ih.o k hlt;have ly:=zJ.o k hlt2;have hst:=Af (s:=r) hlt hlt2;rw [← HS.o] at hst;generalize la.getD k zR=x at x0 x1 x2 rx lx hst
    generalize lb.getD k zR=y at y0 y1 y2 ry ly hst
    generalize f k=fk at x0 x1 x2 rx
    generalize g k=gk at y0 y1 y2 ry
    obtain ⟨⟨p1,p2⟩,⟨p3,p4⟩⟩:=fk;obtain ⟨⟨g1,g2⟩,⟨g3,g4⟩⟩:=gk;dsimp only at x0 x1 x2 rx y0 y1 y2 ry;have EA:Hid (Co w ba (oa+k*3) x p1 p2 p3 p4):=kI ⟨hba,x0,x1,x2⟩;have EB:Hid (Co w bb (ob+k*3) y g1 g2 g3 g4):=kI ⟨hbb,y0,y1,y2⟩;have l1:ba < wr.heap.size:=Nat.lt_of_lt_of_le hba X.o.size;have l2:bb < wr.heap.size:=Nat.lt_of_lt_of_le hbb X.o.size;have RX:=kI (rx.ext X.o);have RY:=kI (ry.ext X.o);have LX:=kI lx;have LY:=kI ly;have HST:=kI hst;have q1:(0:Int)≤(k:Int):=Z
    have q2:(k:Int) < (la.length:Int):=Z
    have q3:(k:Int) < (lb.length:Int):=Z
    clear x0 x1 x2 rx lx y0 y1 y2 ry ly hst hba hbb q0;go_wp2_with fail;have X0:=X;refine wp_region_held_drew (S:=(fun W=>(W.cell? ⟨ba,oa+k*3,none⟩=some (.bool x.neg)∧W.cell? ⟨ba,oa+k*3+1,none⟩=some (.slice p1 x.num.length p2)∧W.cell? ⟨ba,oa+k*3+2,none⟩=some (.slice p3 x.den.length p4))∧(W.cell? ⟨bb,ob+k*3,none⟩=some (.bool y.neg)∧W.cell? ⟨bb,ob+k*3+1,none⟩=some (.slice g1 y.num.length g2)∧W.cell? ⟨bb,ob+k*3+2,none⟩=some (.slice g3 y.den.length g4)))) ax ?_ (fun hHeld=>?_)
    ·exact ⟨EA.o.c3 Ey,EB.o.c3 Ey⟩
    refine tk 0 ?_;refine tk 1 ?_;refine tk 2 ?_;refine tk 3 ?_;refine tk 4 ?_;refine tk 5 ?_;refine tk 6 ?_;refine tk 7 ?_;refine lK [8,12] ?_;refine AllReadyH.cons rfl (fun K hK=>?_) (AllReadyH.cons rfl (fun K hK=>?_) AllReadyH.nil)
    ·go_simp;have XO:=X;refine (fg _ _ x y _ (RX.o.ext Mc) (RY.o.ext Mc) LX.o LY.o).mono ?_;rintro e w1 ⟨⟨v,rfl,nn⟩,hx⟩;have hx:=Ext.trans (show Ext wr _ from by first|exact Ext.refl _|exact (Ext.refl _).drew) hx;have A0:=kI (A0.o.ext hx);have NR:=kI (NR.o.ext hx);have RX:=kI (RX.o.ext hx);have RY:=kI (RY.o.ext hx);have X:=kI (X.o.trans hx);obtain ⟨m1,m2,m3,m4,rfl⟩:=nn.shape;have Nm:=kI nn.rd;have Om:=kI (nn.from ((show Ext w _ from by have x9:=XO.o;exact eX)));clear nn hx;(try go_wp2_with fail);refine hK.out _ _ ?_ (fun hHeld=>?_)
     ·exact ⟨EA.o.c3 Ey,EB.o.c3 Ey⟩
     clear hK K;(try simp only [sP]);refine tk 9 ?_;refine tk 10 ?_;refine tk 11 ?_;refine lK [12] ?_;refine rc (fun K hK=>?_);go_simp;have hA0:w.heap.size < w1.heap.size:=A0.o.lt;have hx:Ext w1 ((w1.alloc (.cells #[.bool false,.slice none 0 0,.slice none 0 0] 25))):=(Ext.refl _).alloc _;have bz:ag ((w1.alloc (.cells #[.bool false,.slice none 0 0,.slice none 0 0] 25))) (w1.heap.size) #[.bool false,.slice none 0 0,.slice none 0 0] 25:=by have hh:=(ag.new w1 #[.bool false,.slice none 0 0,.slice none 0 0] 25);(try simp only [World.size_alloc] at hh);exact hh
     obtain ⟨w2,Of⟩:=gN ((w1.alloc (.cells #[.bool false,.slice none 0 0,.slice none 0 0] 25)));rw [← Of] at hx bz ⊢;obtain ⟨lp,Cq⟩:=gN (w1.heap.size);have Cr:Hid (w.heap.size < lp):=kI Wl;have Ic:Hid (w.heap.size≤lp):=kI Wk;rw [← Cq] at bz ⊢;have A0:=kI (A0.o.ext hx);have NR:=kI (NR.o.ext hx);have RX:=kI (RX.o.ext hx);have RY:=kI (RY.o.ext hx);have Nm:=kI (Nm.o.ext hx);have Om:=kI (Om.o.ext hx);have X:=kI (X.o.trans hx);have AP:=kI bz;clear hx bz Of Cq;(try go_wp2_with fail);refine hK.out _ _ ?_ (fun hHeld=>?_)
     ·exact ⟨EA.o.c3 Ey,EB.o.c3 Ey⟩
     clear hK K;(try simp only [sP]);obtain ⟨Jp,Jq,Jr⟩:=AP.o.q3;refine lK [13] ?_;refine rc (fun K hK=>?_);go_simp;(try go_wp2_with fail);refine hK.out _ _ ?_ (fun hHeld=>?_)
     ·((try dsimp only);exact ⟨EA.o.c3 QU,EB.o.c3 QU⟩)
     clear hK K;(try simp only [sP]);refine tk 14 ?_;refine wpAnyH_done ax ?_ _;clear Jp Jq Jr;have hap:=AP.o.js (.bool (mulR x y).1.neg) (.slice m1 (mulR x y).1.num.length m2) (.slice m3 (mulR x y).1.den.length m4);have hnm:=Om.o.cM AP.o ap (.bool (mulR x y).1.neg) (.slice m1 (mulR x y).1.num.length m2) (.slice m3 (mulR x y).1.den.length m4);have hnr:=NR.o.cM AP.o ap (.bool (mulR x y).1.neg) (.slice m1 (mulR x y).1.num.length m2) (.slice m3 (mulR x y).1.den.length m4);have hne:w.heap.size≠lp:=Nat.ne_of_lt Cr.o;have ha0:=((A0.o.setOther (a:=⟨lp,0,none⟩) hne (.bool (mulR x y).1.neg)).setOther (a:=⟨lp,1,none⟩) hne (.slice m1 (mulR x y).1.num.length m2)).setOther (a:=⟨lp,2,none⟩) hne (.slice m3 (mulR x y).1.den.length m4);have hx6:Ext w (((w2.setCell ⟨lp,0,none⟩ (.bool (mulR x y).1.neg)).setCell ⟨lp,1,none⟩ (.slice m1 (mulR x y).1.num.length m2)).setCell ⟨lp,2,none⟩ (.slice m3 (mulR x y).1.den.length m4)):=(((X.o.set (p:=⟨lp,0,none⟩) Ic.o _).set (p:=⟨lp,1,none⟩) Ic.o _).set (p:=⟨lp,2,none⟩) Ic.o _);obtain ⟨wz,hwz⟩:=gN ((((w2.setCell ⟨lp,0,none⟩ (.bool (mulR x y).1.neg)).setCell ⟨lp,1,none⟩ (.slice m1 (mulR x y).1.num.length m2)).setCell ⟨lp,2,none⟩ (.slice m3 (mulR x y).1.den.length m4)));rw [← hwz] at hap hnm hnr ha0 hx6 ⊢;clear hwz;have AP:=kI hap;have Om:=kI hnm;have NR:=kI hnr;have A0:=kI ha0;have X:=kI hx6;have ZV:=kI hne;clear hap hnm hnr ha0 hx6 hne;have PL:=kI (fh x y);obtain ⟨p,e,hp⟩:∃ p e,mulR x y=(p,e):=⟨_,_,rfl⟩;rw [hp] at HST AP Om PL ⊢;dsimp only at HST AP Om PL ⊢;clear hp;by_cases he:e=0
     ·subst he;obtain ⟨aK,fA0,aJ⟩:=A0.o.q3;obtain ⟨Jp,Jq,Jr⟩:=AP.o.q3;go_wp2_with fail;have XW:=X;refine (uU _ [r,p] _ (jt (ag.new wz _ _) (bh.ext NR.o.rd ((Ext.refl _).alloc _)) (bh.ext Om.o.rd ((Ext.refl _).alloc _))) (uV RL.o PL.o)).mono ?_;rintro e w3 ⟨⟨vs,rfl,nn⟩,hx⟩;have hx:=Ext.trans (show Ext wz _ from eX) hx;clear aK fA0 aJ Jp Jq Jr;have AP:=kI (AP.o.ext hx);have Om:=kI (Om.o.ext hx);have NR:=kI (NR.o.ext hx);have A0:=kI (A0.o.ext hx);have X:=kI (X.o.trans hx);obtain ⟨s1,s2,s3,s4,rfl⟩:=nn.shape;have NS:=kI (aV.from nn (Ext.alloc XW.o _));have SL:=kI (mn [r,p] zR aT);clear nn hx;have hst:=HST.o;rw [if_pos trivial] at hst;obtain ⟨t,e,ht⟩:∃ t e,cZ zR [r,p]=(t,e):=⟨_,_,rfl⟩;rw [ht] at NS SL hst ⊢;dsimp only at hst NS SL ⊢;have HST:=kI hst;clear ht hst;by_cases he:e=0
      ·subst he;obtain ⟨aK,fA0,aJ⟩:=A0.o.q3;go_wp2_with fail;clear aK fA0 aJ;have hb2:=A0.o.js (.bool t.neg) (.slice s1 t.num.length s2) (.slice s3 t.den.length s4);have hn2:=NS.o.rK A0.o ap (.bool t.neg) (.slice s1 t.num.length s2) (.slice s3 t.den.length s4);have hx2:Ext w _:=((X.o.set (p:=⟨w.heap.size,0,none⟩) (Nat.le_refl _) (.bool t.neg)).set (p:=⟨w.heap.size,1,none⟩) (Nat.le_refl _) (.slice s1 t.num.length s2)).set (p:=⟨w.heap.size,2,none⟩) (Nat.le_refl _) (.slice s3 t.den.length s4);have HB2:=kI hb2;have xJ:=kI hn2;have Bz:=kI hx2;clear hb2 hn2 hx2;go_roundw
       case rel=>exact ⟨k+1,t,s1,s2,s3,s4,by omega,by go_num,SL.o,by have:=HST.o;simpa using this,Bz.o,HB2.o,xJ.o⟩
       case measure=>simp [intOf];omega
      ·have he2:(e != 0)=true:=by simpa using he
       have HE:=kI he;clear he;obtain ⟨aK,fA0,aJ⟩:=A0.o.q3;go_wp2_with fail;clear aK fA0 aJ;have hb6:=(A0.o.js (.bool t.neg) (.slice s1 t.num.length s2) (.slice s3 t.den.length s4)).js (.bool false) (.slice none 0 0) (.slice none 0 0);have hx6:Ext w ((((((w3.setCell ⟨w.heap.size,0,none⟩ (.bool t.neg)).setCell ⟨w.heap.size,1,none⟩ (.slice s1 t.num.length s2)).setCell ⟨w.heap.size,2,none⟩ (.slice s3 t.den.length s4)).setCell ⟨w.heap.size,0,none⟩ (.bool false)).setCell ⟨w.heap.size,1,none⟩ (.slice none 0 0)).setCell ⟨w.heap.size,2,none⟩ (.slice none 0 0)):=((((((X.o.set (p:=⟨w.heap.size,0,none⟩) (Nat.le_refl _) _).set (p:=⟨w.heap.size,1,none⟩) (Nat.le_refl _) _).set (p:=⟨w.heap.size,2,none⟩) (Nat.le_refl _) _).set (p:=⟨w.heap.size,0,none⟩) (Nat.le_refl _) _).set (p:=⟨w.heap.size,1,none⟩) (Nat.le_refl _) _).set (p:=⟨w.heap.size,2,none⟩) (Nat.le_refl _) _);obtain ⟨W6,rL⟩:=gN (((((((w3.setCell ⟨w.heap.size,0,none⟩ (.bool t.neg)).setCell ⟨w.heap.size,1,none⟩ (.slice s1 t.num.length s2)).setCell ⟨w.heap.size,2,none⟩ (.slice s3 t.den.length s4)).setCell ⟨w.heap.size,0,none⟩ (.bool false)).setCell ⟨w.heap.size,1,none⟩ (.slice none 0 0)).setCell ⟨w.heap.size,2,none⟩ (.slice none 0 0)));rw [← rL] at hb6 hx6 ⊢;clear rL;have Ae:=kI hx6;clear hx6;refine bodyPost_ret (v:=.tuple #[.agg #[.bool false,.slice none 0 0,.slice none 0 0],.int .i64 e]) QN rfl ⟨bU.mk (l:=zR) (aV.zero _ _) ?_,?_⟩
       ·rw [HR0.o];have h9:=HST.o;rw [if_neg HE.o] at h9;exact h9
       ·exact Ae.o
     ·have he2:(e != 0)=true:=by simpa using he
      have HE:=kI he;clear he;obtain ⟨aK,fA0,aJ⟩:=A0.o.q3;go_wp2_with fail;clear aK fA0 aJ;have hb6:=A0.o.js (.bool false) (.slice none 0 0) (.slice none 0 0);have hx6:Ext w (((wz.setCell ⟨w.heap.size,0,none⟩ (.bool false)).setCell ⟨w.heap.size,1,none⟩ (.slice none 0 0)).setCell ⟨w.heap.size,2,none⟩ (.slice none 0 0)):=(((X.o.set (p:=⟨w.heap.size,0,none⟩) (Nat.le_refl _) _).set (p:=⟨w.heap.size,1,none⟩) (Nat.le_refl _) _).set (p:=⟨w.heap.size,2,none⟩) (Nat.le_refl _) _);obtain ⟨W6,rL⟩:=gN ((((wz.setCell ⟨w.heap.size,0,none⟩ (.bool false)).setCell ⟨w.heap.size,1,none⟩ (.slice none 0 0)).setCell ⟨w.heap.size,2,none⟩ (.slice none 0 0)));rw [← rL] at hb6 hx6 ⊢;clear rL;have Ae:=kI hx6;clear hx6;refine bodyPost_ret (v:=.tuple #[.agg #[.bool false,.slice none 0 0,.slice none 0 0],.int .i64 e]) QN rfl ⟨bU.mk (l:=zR) (aV.zero _ _) ?_,?_⟩
      ·rw [HR0.o];have h9:=HST.o;rw [if_neg HE.o] at h9;exact h9
      ·exact Ae.o
    ·go_simp;have hx:Ext wr ((wr.alloc (.cells #[.bool false,.slice none 0 0,.slice none 0 0] 25)).drew):=((Ext.refl _).alloc _).drew;have bz:ag ((wr.alloc (.cells #[.bool false,.slice none 0 0,.slice none 0 0] 25)).drew) (wr.heap.size) #[.bool false,.slice none 0 0,.slice none 0 0] 25:=by have hh:=(ag.new wr #[.bool false,.slice none 0 0,.slice none 0 0] 25).drew;(try simp only [World.size_alloc] at hh);exact hh
     obtain ⟨w1,Og⟩:=gN ((wr.alloc (.cells #[.bool false,.slice none 0 0,.slice none 0 0] 25)).drew);rw [← Og] at hx bz ⊢;obtain ⟨lp,Cq⟩:=gN (wr.heap.size);have Cr:Hid (w.heap.size < lp):=kI Wl;have Ic:Hid (w.heap.size≤lp):=kI Wk;rw [← Cq] at bz ⊢;have A0:=kI (A0.o.ext hx);have NR:=kI (NR.o.ext hx);have RX:=kI (RX.o.ext hx);have RY:=kI (RY.o.ext hx);have X:=kI (X.o.trans hx);have AP:=kI bz;clear hx bz Og Cq;(try go_wp2_with fail);refine hK.out _ _ ?_ (fun hHeld=>?_)
     ·exact ⟨EA.o.c3 Ey,EB.o.c3 Ey⟩
     clear hK K;(try simp only [sP]);have XO:=X;refine lK [8] ?_;refine rc (fun K hK=>?_);go_simp;refine (fg _ _ x y _ (RX.o.ext Mc) (RY.o.ext Mc) LX.o LY.o).mono ?_;rintro e w2 ⟨⟨v,rfl,nn⟩,hx⟩;have hx:=Ext.trans (show Ext w1 _ from by first|exact Ext.refl _|exact (Ext.refl _).drew) hx;have A0:=kI (A0.o.ext hx);have NR:=kI (NR.o.ext hx);have RX:=kI (RX.o.ext hx);have RY:=kI (RY.o.ext hx);have AP:=kI (AP.o.ext hx);have X:=kI (X.o.trans hx);obtain ⟨m1,m2,m3,m4,rfl⟩:=nn.shape;have Nm:=kI nn.rd;have Om:=kI (nn.from ((show Ext w _ from by have x9:=XO.o;exact eX)));clear nn hx;(try go_wp2_with fail);refine hK.out _ _ ?_ (fun hHeld=>?_)
     ·exact ⟨EA.o.c3 Ey,EB.o.c3 Ey⟩
     clear hK K;(try simp only [sP]);refine tk 9 ?_;refine tk 10 ?_;refine tk 11 ?_;obtain ⟨Jp,Jq,Jr⟩:=AP.o.q3;refine lK [13] ?_;refine rc (fun K hK=>?_);go_simp;(try go_wp2_with fail);refine hK.out _ _ ?_ (fun hHeld=>?_)
     ·((try dsimp only);exact ⟨EA.o.c3 QU,EB.o.c3 QU⟩)
     clear hK K;(try simp only [sP]);refine tk 14 ?_;refine wpAnyH_done ax ?_ _;clear Jp Jq Jr;have hap:=AP.o.js (.bool (mulR x y).1.neg) (.slice m1 (mulR x y).1.num.length m2) (.slice m3 (mulR x y).1.den.length m4);have hnm:=Om.o.cM AP.o ap (.bool (mulR x y).1.neg) (.slice m1 (mulR x y).1.num.length m2) (.slice m3 (mulR x y).1.den.length m4);have hnr:=NR.o.cM AP.o ap (.bool (mulR x y).1.neg) (.slice m1 (mulR x y).1.num.length m2) (.slice m3 (mulR x y).1.den.length m4);have hne:w.heap.size≠lp:=Nat.ne_of_lt Cr.o;have ha0:=((A0.o.setOther (a:=⟨lp,0,none⟩) hne (.bool (mulR x y).1.neg)).setOther (a:=⟨lp,1,none⟩) hne (.slice m1 (mulR x y).1.num.length m2)).setOther (a:=⟨lp,2,none⟩) hne (.slice m3 (mulR x y).1.den.length m4);have hx6:Ext w (((w2.setCell ⟨lp,0,none⟩ (.bool (mulR x y).1.neg)).setCell ⟨lp,1,none⟩ (.slice m1 (mulR x y).1.num.length m2)).setCell ⟨lp,2,none⟩ (.slice m3 (mulR x y).1.den.length m4)):=(((X.o.set (p:=⟨lp,0,none⟩) Ic.o _).set (p:=⟨lp,1,none⟩) Ic.o _).set (p:=⟨lp,2,none⟩) Ic.o _);obtain ⟨wz,hwz⟩:=gN ((((w2.setCell ⟨lp,0,none⟩ (.bool (mulR x y).1.neg)).setCell ⟨lp,1,none⟩ (.slice m1 (mulR x y).1.num.length m2)).setCell ⟨lp,2,none⟩ (.slice m3 (mulR x y).1.den.length m4)));rw [← hwz] at hap hnm hnr ha0 hx6 ⊢;clear hwz;have AP:=kI hap;have Om:=kI hnm;have NR:=kI hnr;have A0:=kI ha0;have X:=kI hx6;have ZV:=kI hne;clear hap hnm hnr ha0 hx6 hne;have PL:=kI (fh x y);obtain ⟨p,e,hp⟩:∃ p e,mulR x y=(p,e):=⟨_,_,rfl⟩;rw [hp] at HST AP Om PL ⊢;dsimp only at HST AP Om PL ⊢;clear hp;by_cases he:e=0
     ·subst he;obtain ⟨aK,fA0,aJ⟩:=A0.o.q3;obtain ⟨Jp,Jq,Jr⟩:=AP.o.q3;go_wp2_with fail;have XW:=X;refine (uU _ [r,p] _ (jt (ag.new wz _ _) (bh.ext NR.o.rd ((Ext.refl _).alloc _)) (bh.ext Om.o.rd ((Ext.refl _).alloc _))) (uV RL.o PL.o)).mono ?_;rintro e w3 ⟨⟨vs,rfl,nn⟩,hx⟩;have hx:=Ext.trans (show Ext wz _ from eX) hx;clear aK fA0 aJ Jp Jq Jr;have AP:=kI (AP.o.ext hx);have Om:=kI (Om.o.ext hx);have NR:=kI (NR.o.ext hx);have A0:=kI (A0.o.ext hx);have X:=kI (X.o.trans hx);obtain ⟨s1,s2,s3,s4,rfl⟩:=nn.shape;have NS:=kI (aV.from nn (Ext.alloc XW.o _));have SL:=kI (mn [r,p] zR aT);clear nn hx;have hst:=HST.o;rw [if_pos trivial] at hst;obtain ⟨t,e,ht⟩:∃ t e,cZ zR [r,p]=(t,e):=⟨_,_,rfl⟩;rw [ht] at NS SL hst ⊢;dsimp only at hst NS SL ⊢;have HST:=kI hst;clear ht hst;by_cases he:e=0
      ·subst he;obtain ⟨aK,fA0,aJ⟩:=A0.o.q3;go_wp2_with fail;clear aK fA0 aJ;have hb2:=A0.o.js (.bool t.neg) (.slice s1 t.num.length s2) (.slice s3 t.den.length s4);have hn2:=NS.o.rK A0.o ap (.bool t.neg) (.slice s1 t.num.length s2) (.slice s3 t.den.length s4);have hx2:Ext w _:=((X.o.set (p:=⟨w.heap.size,0,none⟩) (Nat.le_refl _) (.bool t.neg)).set (p:=⟨w.heap.size,1,none⟩) (Nat.le_refl _) (.slice s1 t.num.length s2)).set (p:=⟨w.heap.size,2,none⟩) (Nat.le_refl _) (.slice s3 t.den.length s4);have HB2:=kI hb2;have xJ:=kI hn2;have Bz:=kI hx2;clear hb2 hn2 hx2;go_roundw
       case rel=>exact ⟨k+1,t,s1,s2,s3,s4,by omega,by go_num,SL.o,by have:=HST.o;simpa using this,Bz.o,HB2.o,xJ.o⟩
       case measure=>simp [intOf];omega
      ·have he2:(e != 0)=true:=by simpa using he
       have HE:=kI he;clear he;obtain ⟨aK,fA0,aJ⟩:=A0.o.q3;go_wp2_with fail;clear aK fA0 aJ;have hb6:=(A0.o.js (.bool t.neg) (.slice s1 t.num.length s2) (.slice s3 t.den.length s4)).js (.bool false) (.slice none 0 0) (.slice none 0 0);have hx6:Ext w ((((((w3.setCell ⟨w.heap.size,0,none⟩ (.bool t.neg)).setCell ⟨w.heap.size,1,none⟩ (.slice s1 t.num.length s2)).setCell ⟨w.heap.size,2,none⟩ (.slice s3 t.den.length s4)).setCell ⟨w.heap.size,0,none⟩ (.bool false)).setCell ⟨w.heap.size,1,none⟩ (.slice none 0 0)).setCell ⟨w.heap.size,2,none⟩ (.slice none 0 0)):=((((((X.o.set (p:=⟨w.heap.size,0,none⟩) (Nat.le_refl _) _).set (p:=⟨w.heap.size,1,none⟩) (Nat.le_refl _) _).set (p:=⟨w.heap.size,2,none⟩) (Nat.le_refl _) _).set (p:=⟨w.heap.size,0,none⟩) (Nat.le_refl _) _).set (p:=⟨w.heap.size,1,none⟩) (Nat.le_refl _) _).set (p:=⟨w.heap.size,2,none⟩) (Nat.le_refl _) _);obtain ⟨W6,rL⟩:=gN (((((((w3.setCell ⟨w.heap.size,0,none⟩ (.bool t.neg)).setCell ⟨w.heap.size,1,none⟩ (.slice s1 t.num.length s2)).setCell ⟨w.heap.size,2,none⟩ (.slice s3 t.den.length s4)).setCell ⟨w.heap.size,0,none⟩ (.bool false)).setCell ⟨w.heap.size,1,none⟩ (.slice none 0 0)).setCell ⟨w.heap.size,2,none⟩ (.slice none 0 0)));rw [← rL] at hb6 hx6 ⊢;clear rL;have Ae:=kI hx6;clear hx6;refine bodyPost_ret (v:=.tuple #[.agg #[.bool false,.slice none 0 0,.slice none 0 0],.int .i64 e]) QN rfl ⟨bU.mk (l:=zR) (aV.zero _ _) ?_,?_⟩
       ·rw [HR0.o];have h9:=HST.o;rw [if_neg HE.o] at h9;exact h9
       ·exact Ae.o
     ·have he2:(e != 0)=true:=by simpa using he
      have HE:=kI he;clear he;obtain ⟨aK,fA0,aJ⟩:=A0.o.q3;go_wp2_with fail;clear aK fA0 aJ;have hb6:=A0.o.js (.bool false) (.slice none 0 0) (.slice none 0 0);have hx6:Ext w (((wz.setCell ⟨w.heap.size,0,none⟩ (.bool false)).setCell ⟨w.heap.size,1,none⟩ (.slice none 0 0)).setCell ⟨w.heap.size,2,none⟩ (.slice none 0 0)):=(((X.o.set (p:=⟨w.heap.size,0,none⟩) (Nat.le_refl _) _).set (p:=⟨w.heap.size,1,none⟩) (Nat.le_refl _) _).set (p:=⟨w.heap.size,2,none⟩) (Nat.le_refl _) _);obtain ⟨W6,rL⟩:=gN ((((wz.setCell ⟨w.heap.size,0,none⟩ (.bool false)).setCell ⟨w.heap.size,1,none⟩ (.slice none 0 0)).setCell ⟨w.heap.size,2,none⟩ (.slice none 0 0)));rw [← rL] at hb6 hx6 ⊢;clear rL;have Ae:=kI hx6;clear hx6;refine bodyPost_ret (v:=.tuple #[.agg #[.bool false,.slice none 0 0,.slice none 0 0],.int .i64 e]) QN rfl ⟨bU.mk (l:=zR) (aV.zero _ _) ?_,?_⟩
      ·rw [HR0.o];have h9:=HST.o;rw [if_neg HE.o] at h9;exact h9
      ·exact Ae.o
   ·obtain rfl:k=la.length:=Z
    have q2:¬ (la.length:Int) < (la.length:Int):=Z
    obtain ⟨aK,fA0,aJ⟩:=A0.o.q3;go_wp2_with fail;clear aK fA0 aJ;refine bodyPost_ret (v:=.tuple #[.agg #[.bool r.neg,.slice a1 r.num.length c1,.slice a2 r.den.length c2],.int .i64 0]) Wj rfl ⟨bU.mk (l:=r) ?_ ?_,?_⟩
    ·exact NR.o.rK A0.o ap _ _ _
    ·rw [HR0.o];have h9:=HS.o;rw [List.drop_of_length_le (Nat.le_refl _)] at h9;rw [h9];exact mo _ _
    ·exact ((X.o.set (p:=⟨w.heap.size,0,none⟩) (Nat.le_refl _) _).set (p:=⟨w.heap.size,1,none⟩) (Nat.le_refl _) _).set (p:=⟨w.heap.size,2,none⟩) (Nat.le_refl _) _
 ·have hr0:gA la lb=(zR,16):=if_neg hlen;have HR0:=kI hr0;clear hr0;have q0:((la.length:Int) != (lb.length:Int))=true:=by simp;omega
  go_enter Tryz.func178,Tryz.ntmps178
  obtain ⟨aK,fA0,aJ⟩:=A0.o.q3;go_wp2_with fail;clear aK fA0 aJ;refine bodyPost_ret (v:=.tuple #[.agg #[.bool false,.slice none 0 0,.slice none 0 0],.int .i64 16]) Wj rfl ⟨bU.mk (l:=zR) (aV.zero _ _) HR0.o,X.o⟩
end Go.Proofs.YtnnjbaijcaiohaaGreat
