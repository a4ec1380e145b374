/- Walks and lemmas. -/
import Derived.Test.YtnnjbaijcaiohaaGreatSvA20
import Derived.Test.YtnnjbaijcaiohaaGreatSvA13
import Derived.Laws.EntriesVeiled
set_option linter.unusedVariables false
set_option linter.unusedSimpArgs false
set_option maxRecDepth 100000
set_option maxHeartbeats 16000000
namespace Go.Proofs.YtnnjbaijcaiohaaGreat
open Go.RowKit
def Bs (m:MD) (p:List Int) (n B:Nat) (W:World) (h:List Value) (y:Nat × Nat):Prop:=∃ a1 c1 a2 c2,h=[.slice (some ⟨y.2,0,none⟩) n n,.bool (cJ m p y.1).cost.neg,.slice a1 (cJ m p y.1).cost.num.length c1,.slice a2 (cJ m p y.1).cost.den.length c2]∧
 fV W B y.2 n (fC m p y.1).1∧ku B W (.slice a1 (cJ m p y.1).cost.num.length c1) (cJ m p y.1).cost.num∧ku B W (.slice a2 (cJ m p y.1).cost.den.length c2) (cJ m p y.1).cost.den
theorem Bs.keeps {m:MD} {p:List Int} {n B:Nat} {t:TypeId} (h1:25≠t) (h2:157≠t) (w w':World) (h:List Value) (y:Nat × Nat) (e:Bs m p n B w h y) (k:Keeps B t w w'):Bs m p n B w' h y:=by
 obtain ⟨a1,c1,a2,c2,e1,e2,e3,e4⟩:=e;exact ⟨a1,c1,a2,c2,e1,e2.keeps k h1 h2,e3.keeps k h2,e4.keeps k h2⟩
theorem Bs.ext {m:MD} {p:List Int} {n B:Nat} {w w':World} {h:List Value} {y:Nat × Nat} (e:Bs m p n B w h y) (x:Ext w w'):Bs m p n B w' h y:=by
 obtain ⟨a1,c1,a2,c2,e1,e2,e3,e4⟩:=e;exact ⟨a1,c1,a2,c2,e1,e2.ext x,ku.ext e3 x,ku.ext e4 x⟩
abbrev ET (m:MD) (p:List Int) (n B:Nat) (w:World) (v:Value) (k:Nat) (bs:Nat→Nat):Prop:=aD 150 4 (Bs m p n B) B w v ((List.range k).map fun s=>(s,bs s))
theorem ET.ext {m:MD} {p:List Int} {n B k:Nat} {bs:Nat→Nat} {w w':World} {v:Value} (h:ET m p n B w v k bs) (x:Ext w w'):ET m p n B w' v k bs:=aD.ext h x (fun _ _ e=>e.ext x)
theorem ET.eqB {m:MD} {p:List Int} {n B k:Nat} {bs:Nat→Nat} {w:World} {L c:Nat} (h:ET m p n B w (.slice (some ⟨L,0,none⟩) k c) k bs) (hk:0 < k) (hle:∀ s,s < k→B≤bs s) (hinj:∀ s t,s < k→t < k→bs s=bs t→s=t) (hlm:∀ s i,aC ((fC m p s).1 i)) (hls:∀ s,aC (cJ m p s).cost) :
  sh w B L n k bs (fun s=>(fC m p s).1) (fun s=>(cJ m p s).cost)∧k≤c∧c≤9223372036854775807:=by
 obtain ⟨a,cap,e0,hc1,hc2,hr⟩:=aD.wI h;have hlen:((List.range k).map fun s=>(s,bs s)).length=k:=by simp
 rw [hlen] at e0 hc1;injection e0 with e1 _ e2
 subst e2;have hat:∀ s,s < k→∃ h,L < w.heap.size∧B≤L∧(∀ j,j < 4→w.cell? ⟨L,s*4+j,none⟩=h[j]?)∧Bs m p n B w h (s,bs s):=fun s hs=>by
  obtain ⟨b,h,e3,e4,e5,e6,e7,e8⟩:=hr s (s,bs s) (by rw [List.getElem?_map,List.getElem?_range hs];rfl);rw [← e1] at e3;injection e3 with e3
  injection e3 with e3 _ _
  subst e3;exact ⟨h,e5,e4,e7,e8⟩
 obtain ⟨hs0,hown,_⟩:=h;rcases hown.2 with ⟨h0,_⟩|⟨g,cap,cur,e3,hg,hblk,hcap,hmax,hsz,_⟩
 ·cases h0
 ·injection e3 with e3 _ e4
  injection e3 with e3
  injection e3 with e3 _ _
  subst e3;subst e4;refine ⟨⟨⟨cur,hblk,by omega,fun s hs=>?_⟩,fun s hs=>?_,hle,hinj,hlm,hls,hg⟩,hc1,hc2⟩
  ·obtain ⟨h,k1,k2,k3,a1,c1,a2,c2,k4,k5,k6,k7⟩:=hat s hs;subst k4;have q0:=k3 0 ap;have q1:=k3 1 ap;have q2:=k3 2 ap;have q3:=k3 3 ap;have hb:ag w L cur 150:=hblk;rw [hb.cell] at q0 q1 q2 q3;exact ⟨q0,a1,c1,a2,c2,q1,q2,q3,k6,k7⟩
  ·obtain ⟨h,k1,k2,k3,a1,c1,a2,c2,k4,k5,k6,k7⟩:=hat s hs;exact k5
theorem PX {w w9 wf:World} {An:Nat} {c:Array Value} {t:TypeId} {sv:Value} (h:ag w9 (An+1) c t) (hw:wf=w9.setCell ⟨An+1,0,none⟩ sv) (_:Ext w w9) (hA:An=w.heap.size):Keeps w.heap.size t w9 wf:=by
 rw [hw];exact (ay h 0 sv).mono Z
theorem jP (d:RR) (l:List Out) (s:Nat):∀ (k i:Nat),aC ((eH d l s k).1 i)
 | 0,i=>by
  unfold eH;dsimp only;by_cases e:i=s
  ·subst e;rw [bL];exact cU _
  ·rw [cG e];exact aT
 | k+1,i=>by
  unfold eH;split
  ·exact jP d l s k i
  ·split
   ·exact jP d l s k i
   ·dsimp only;by_cases e:i=(l.getD k dO).1.toNat
    ·rw [e,bL];exact tH _ _ _
    ·rw [cG e];exact jP d l s k i
theorem vH {d:RR} {l:List Out} {s j:Nat} {c:Int} (h:(eH d l s j).2=c) (hc:c≠0):∀ {k:Nat},j≤k→(eH d l s k).2=c
 | 0,hk=>by obtain rfl:j=0:=Z;exact h
 | k+1,hk=>by
  by_cases e:j=k+1
  ·subst e;exact h
  ·have:=vH h hc (k:=k) Z;unfold eH;rw [if_pos (by rw [this];exact hc)];exact this
theorem AG {d:RR} {l:List Out} {s j:Nat} {r:Nat→RR} (h:eH d l s j=(r,0)):eH d l s (j+1)=if (gg (r (l.getD j dO).1.toNat) d (l.getD j dO).2).2≠0 then (r,(gg (r (l.getD j dO).1.toNat) d (l.getD j dO).2).2)
  else (cN r (l.getD j dO).1.toNat (gg (r (l.getD j dO).1.toNat) d (l.getD j dO).2).1,0):=by
 show (if (eH d l s j).2≠0 then eH d l s j else _)=_;rw [h,if_neg (fun h=>h rfl)]
theorem xY {m:MD} {p:List Int} {s:Nat} {c:Int} (hs:s < p.length) (h0:∀ i,i < s→(fC m p i).2=0) (h:(fC m p s).2=c) (hc:c≠0):aH m p=([],c):=by
 have e:bG (fun s=>(fC m p s).2) p.length=c:=(dF (f:=fun s=>(fC m p s).2) h0 IM hs).trans h;unfold aH;rw [e,if_pos hc]
theorem xZ {m:MD} {p:List Int} {c:Int} (h0:∀ i,i < p.length→(fC m p i).2=0) (h:(bY p.length p.length 0 (mB m p)).2=c) (hc:c≠0):aH m p=([],c):=by
 have e:bG (fun s=>(fC m p s).2) p.length=0:=bH h0;unfold aH;rw [e,if_neg (fun h=>h rfl),h,if_pos hc]
theorem Dr {m:MD} {p:List Int} (h0:∀ i,i < p.length→(fC m p i).2=0) (h:(bY p.length p.length 0 (mB m p)).2=0):aH m p=((List.range p.length).map (bY p.length p.length 0 (mB m p)).1.V,0):=by
 have e:bG (fun s=>(fC m p s).2) p.length=0:=bH h0;unfold aH;rw [e,if_neg (fun h=>h rfl),h,if_neg (fun h=>h rfl)]
theorem Tryz.PZ:(Tryz.prog.info? 150).map (fun i=>(i.zero,i.size,i.bytes))=some (some (.agg #[.slice none 0 0,.bool false,.slice none 0 0,.slice none 0 0]),4,80):=ax
def Kj (pa:Option Addr) (pc n xb B:Nat) (z:RR) (a1:Option Addr) (a2:Nat) (a3:Option Addr) (a4:Nat) (CC:Array Value) (j:Nat) (v:Value) (W:World):Prop:=
 match j with
 | 0=>v=.slice pa n pc
 | 1=>v=.int .i64 (n:Nat)
 | 2=>∃ b,v=.slice (some ⟨b,0,none⟩) n n∧B≤b∧ag W b CC 25
 | 3=>v=.pointer (some ⟨xb,0,none⟩)
 | 4=>v=.agg #[.bool z.neg,.slice a1 z.num.length a2,.slice a3 z.den.length a4]
 | 5=>∃ b,v=.agg #[.slice (some ⟨b,0,none⟩) n n,.bool z.neg,.slice a1 z.num.length a2,.slice a3 z.den.length a4]∧B≤b∧ag W b CC 25
 | 6=>∃ c,v=.pointer (some ⟨c,0,none⟩)∧B≤c∧ag W c #[.slice none 0 0,.bool false,.slice none 0 0,.slice none 0 0] 150
 | _=>True
theorem Ds {pa:Option Addr} {pc n xb B:Nat} {z:RR} {a1:Option Addr} {a2:Nat} {a3:Option Addr} {a4:Nat} {CC:Array Value} {j:Nat} {v:Value} {W W':World} (h:Kj pa pc n xb B z a1 a2 a3 a4 CC j v W) (xx:Ext W W'):Kj pa pc n xb B z a1 a2 a3 a4 CC j v W':=by
 match j,h with
 | 0,h=>exact h
 | 1,h=>exact h
 | 2,⟨b,h0,h1,h2⟩=>exact ⟨b,h0,h1,h2.ext xx⟩
 | 3,h=>exact h
 | 4,h=>exact h
 | 5,⟨b,h0,h1,h2⟩=>exact ⟨b,h0,h1,h2.ext xx⟩
 | 6,⟨c,h0,h1,h2⟩=>exact ⟨c,h0,h1,h2.ext xx⟩
 | _+7,_=>trivial
def Kk (qb b n k B:Nat) (z:RR) (j:Nat) (v:Value) (W:World):Prop:=
 match j with
 | 0=>v=.pointer (some ⟨qb,0,none⟩)
 | 1=>v=.slice (some ⟨b,0,none⟩) n n
 | 2=>v=.int .i64 (k:Nat)
 | 3=>∃ s1 s2 s3 s4,v=.agg #[.bool z.neg,.slice s1 z.num.length s2,.slice s3 z.den.length s4]∧cD B W (.slice s1 z.num.length s2) z.num∧cD B W (.slice s3 z.den.length s4) z.den
 | _=>True
theorem Dt {qb b n k B:Nat} {z:RR} {j:Nat} {v:Value} {W W':World} (h:Kk qb b n k B z j v W) (xx:Ext W W'):Kk qb b n k B z j v W':=by
 match j,h with
 | 0,h=>exact h
 | 1,h=>exact h
 | 2,h=>exact h
 | 3,⟨s1,s2,s3,s4,h0,h1,h2⟩=>exact ⟨s1,s2,s3,s4,h0,h1.ext xx,h2.ext xx⟩
 | _+4,_=>trivial
def Du (qb b n ob tn An:Nat) (x f y:RR) (r q:RR × Int) (B:Nat) (j:Nat) (v:Value) (W:World):Prop:=
 match j with
 | 0=>v=.pointer (some ⟨qb,0,none⟩)
 | 1=>v=.slice (some ⟨b,0,none⟩) n n
 | 2=>v=.pointer (some ⟨ob,0,none⟩)
 | 3=>v=.int .i64 (tn:Nat)
 | 4=>v=.pointer (some ⟨qb,0,none⟩)
 | 5=>v=.slice (some ⟨b,0,none⟩) n n
 | 6=>v=.pointer (some ⟨ob,0,none⟩)
 | 7=>v=.int .i64 (tn:Nat)
 | 8=>v=.pointer (some ⟨b,tn*3,none⟩)
 | 9=>∃ s1 s2 s3 s4,v=.agg #[.bool x.neg,.slice s1 x.num.length s2,.slice s3 x.den.length s4]∧bh W (.agg #[.bool x.neg,.slice s1 x.num.length s2,.slice s3 x.den.length s4]) x
 | 10=>v=.pointer (some ⟨An,0,none⟩)
 | 11=>∃ s1 s2 s3 s4,v=.agg #[.bool f.neg,.slice s1 f.num.length s2,.slice s3 f.den.length s4]∧bh W (.agg #[.bool f.neg,.slice s1 f.num.length s2,.slice s3 f.den.length s4]) f
 | 12=>v=.pointer (some ⟨ob,1,none⟩)
 | 13=>∃ s1 s2 s3 s4,v=.agg #[.bool y.neg,.slice s1 y.num.length s2,.slice s3 y.den.length s4]∧bh W (.agg #[.bool y.neg,.slice s1 y.num.length s2,.slice s3 y.den.length s4]) y
 | 14=>∃ s1 s2 s3 s4,v=.tuple #[.agg #[.bool r.1.neg,.slice s1 r.1.num.length s2,.slice s3 r.1.den.length s4],.int .i64 r.2]∧bh W (.agg #[.bool r.1.neg,.slice s1 r.1.num.length s2,.slice s3 r.1.den.length s4]) r.1
 | 15=>∃ s1 s2 s3 s4,v=.agg #[.bool r.1.neg,.slice s1 r.1.num.length s2,.slice s3 r.1.den.length s4]∧bh W (.agg #[.bool r.1.neg,.slice s1 r.1.num.length s2,.slice s3 r.1.den.length s4]) r.1
 | 16=>v=.int .i64 r.2
 | 17=>r.2=0∧∃ s1 s2 s3 s4,v=.agg #[.bool r.1.neg,.slice s1 r.1.num.length s2,.slice s3 r.1.den.length s4]∧bh W (.agg #[.bool r.1.neg,.slice s1 r.1.num.length s2,.slice s3 r.1.den.length s4]) r.1
 | 18=>r.2=0∧∃ s1 s2 s3 s4,v=.tuple #[.agg #[.bool q.1.neg,.slice s1 q.1.num.length s2,.slice s3 q.1.den.length s4],.int .i64 q.2]∧cD B W (.slice s1 q.1.num.length s2) q.1.num∧cD B W (.slice s3 q.1.den.length s4) q.1.den
 | 19=>r.2=0∧∃ s1 s2 s3 s4,v=.agg #[.bool q.1.neg,.slice s1 q.1.num.length s2,.slice s3 q.1.den.length s4]∧cD B W (.slice s1 q.1.num.length s2) q.1.num∧cD B W (.slice s3 q.1.den.length s4) q.1.den
 | 20=>v=.int .i64 q.2
 | 21=>q.2=0∧∃ s1 s2 s3 s4,v=.agg #[.bool q.1.neg,.slice s1 q.1.num.length s2,.slice s3 q.1.den.length s4]∧cD B W (.slice s1 q.1.num.length s2) q.1.num∧cD B W (.slice s3 q.1.den.length s4) q.1.den
 | _=>True
theorem AH {qb b n ob tn An:Nat} {x f y:RR} {r q:RR × Int} {B:Nat} {j:Nat} {v:Value} {W W':World} (h:Du qb b n ob tn An x f y r q B j v W) (xx:Ext W W'):Du qb b n ob tn An x f y r q B j v W':=by
 match j,h with
 | 0,h=>exact h
 | 1,h=>exact h
 | 2,h=>exact h
 | 3,h=>exact h
 | 4,h=>exact h
 | 5,h=>exact h
 | 6,h=>exact h
 | 7,h=>exact h
 | 8,h=>exact h
 | 9,⟨s1,s2,s3,s4,h1,h2⟩=>exact ⟨s1,s2,s3,s4,h1,h2.ext xx⟩
 | 10,h=>exact h
 | 11,⟨s1,s2,s3,s4,h1,h2⟩=>exact ⟨s1,s2,s3,s4,h1,h2.ext xx⟩
 | 12,h=>exact h
 | 13,⟨s1,s2,s3,s4,h1,h2⟩=>exact ⟨s1,s2,s3,s4,h1,h2.ext xx⟩
 | 14,⟨s1,s2,s3,s4,h0,h1⟩=>exact ⟨s1,s2,s3,s4,h0,h1.ext xx⟩
 | 15,⟨s1,s2,s3,s4,h0,h1⟩=>exact ⟨s1,s2,s3,s4,h0,h1.ext xx⟩
 | 16,h=>exact h
 | 17,⟨h9,s1,s2,s3,s4,h0,h1⟩=>exact ⟨h9,s1,s2,s3,s4,h0,h1.ext xx⟩
 | 18,⟨h9,s1,s2,s3,s4,h0,h1,h2⟩=>exact ⟨h9,s1,s2,s3,s4,h0,h1.ext xx,h2.ext xx⟩
 | 19,⟨h9,s1,s2,s3,s4,h0,h1,h2⟩=>exact ⟨h9,s1,s2,s3,s4,h0,h1.ext xx,h2.ext xx⟩
 | 20,h=>exact h
 | 21,⟨h9,s1,s2,s3,s4,h0,h1,h2⟩=>exact ⟨h9,s1,s2,s3,s4,h0,h1.ext xx,h2.ext xx⟩
 | _+22,_=>trivial
theorem pY (mv pv:Value) (m:MD) (p:List Int) (w:World) (hm:eY w mv m) (hp:bj .i64 w pv p) (hlm:iY m) (hmd:fs m=0) (hcp:nP m p=0) :
  Calls Tryz.prog 92 #[mv,pv] w fun e w'=>ik w.heap.size w' e (aH m p).2 (aH m p).1∧Ext w w':=by
 have HM:=kI hm;have HP:=kI hp;have Am:=kI hlm;have mp:=kI hmd;have hcp2:=Gi (m:=m) (p:=p) hcp;have vI:=(bF hmd).2.2.1;have hn0:0 < p.length:=by rw [hcp2.1];exact Nat.pos_of_ne_zero (bF hmd).2.1
 have Kl:=kI hcp2.1;have Km:=kI hcp2.2;have HN0:=kI hn0;obtain ⟨n,hn⟩:=gN (p.length);have hn2:n≤200:=by rw [hn,hcp2.1];exact vI
 have HN:=kI hn;have xJ:=kI hn2;obtain ⟨m1,n1,m2,n2,m3,n3,rfl,hd,hs⟩:=hm;have HD:=kI hd;have HS:=kI hs;obtain ⟨pa,pc,rfl,hpc,hpm,-⟩:=hp.get;rw [← hn];clear hp hlm hmd hcp hcp2 vI hn0 hd hs hpc hpm hn;have HBAD:=kI (fun (W:World) (c:Int) (hc:c≠0) (h:(aH m p).2=c) (hx:Ext w W)=>(show ik w.heap.size W (.panicked [bk c]) (aH m p).2 (aH m p).1∧Ext w W from ⟨ik.bad hc h,hx⟩));have bb0:=((ag.new w #[.bool m.ah.neg,.slice m1 m.ah.num.length n1,.slice m2 m.ah.den.length n2,.slice m3 m.states.length n3] 28).alloc (.cells #[.slice none 0 0] 147));have bb1:=(ag.new (w.alloc (.cells #[.bool m.ah.neg,.slice m1 m.ah.num.length n1,.slice m2 m.ah.den.length n2,.slice m3 m.states.length n3] 28)) #[.slice none 0 0] 147);rw [World.size_alloc] at bb1;have x0:Ext w ((w.alloc (.cells #[.bool m.ah.neg,.slice m1 m.ah.num.length n1,.slice m2 m.ah.den.length n2,.slice m3 m.states.length n3] 28)).alloc (.cells #[.slice none 0 0] 147)):=(((Ext.refl w).alloc _).alloc _);have A0:=kI bb0;have A1:=kI bb1;have X:=kI x0;clear x0 bb0 bb1;have P6:=HP;have TD:=HS;have HD0:=HD;replace HM:=kI (HM.o.ext X.o);replace HP:=kI (HP.o.ext X.o);replace HD:=kI (HD.o.ext X.o);replace HS:=kI (HS.o.ext X.o);go_enter Tryz.func92,Tryz.ntmps92
 obtain ⟨aK,fA0,aJ⟩:=A0.o.q3;obtain ⟨aY,aZ,lA1⟩:=A1.o.q3;go_wp2_with fail;clear aK fA0 aJ aY aZ lA1;obtain ⟨w1,hw1⟩:=gN (((w.alloc (.cells #[.bool m.ah.neg,.slice m1 m.ah.num.length n1,.slice m2 m.ah.den.length n2,.slice m3 m.states.length n3] 28)).alloc (.cells #[.slice none 0 0] 147)));rw [← hw1] at HM HP HD HS A0 A1 X ⊢;clear hw1;obtain ⟨An,hAn⟩:=gN (w.heap.size);rw [← hAn] at A0 A1 ⊢;have MF:=kI hAn;clear hAn;go_loopw [16] (fun i wr=>∃ (k:Nat) (bs:Nat→Nat) (v:Value),k≤n∧i=.int .i64 (k:Nat)∧(∀ s,s < k→(fC m p s).2=0)∧ag wr An #[.bool m.ah.neg,.slice m1 m.ah.num.length n1,.slice m2 m.ah.den.length n2,.slice m3 m.states.length n3] 28∧ag wr (An+1) #[v] 147∧ET m p n w.heap.size wr v k bs∧(∀ s,s < k→w.heap.size≤bs s∧bs s < wr.heap.size)∧(∀ s t,s < k→t < k→bs s=bs t→s=t)∧Ext w wr) (fun i _=>n - (intOf i).toNat)
 case atStart=>exact ⟨0,fun _=>0,.slice none 0 0,Nat.zero_le _,rfl,fun s h=>by omega,A0.o,A1.o,aD.nil _ _ _ _ _,fun s h=>by omega,fun s t h=>by omega,X.o⟩
 case round=>
  obtain ⟨wi,hwi⟩:=gN (wr);subst hwi;obtain ⟨k,bs,lv,hk,rfl,hz,ha0,ha1,hq,hbs,hinj,hx⟩:=hrel;obtain ⟨la,P9,rfl,-,-,-⟩:=aD.wI hq;have ZI:=kI hz;have MU:=kI ha0;have Yp:=kI ha1;have QI:=kI hq;have MW:=kI hbs;have Yq:=kI hinj;have XI:=kI hx;clear hz ha0 ha1 hq hbs hinj hx;by_cases hlt:k < n
  ·have fb:=kI hlt;have hkn:k < m.states.length:=by rw [← Kl.o,← HN.o];exact hlt
   obtain ⟨pb,po,rfl,g0,g1⟩:=yY (P6.o.ext XI.o) (i:=k) QZ;obtain ⟨hv0,hv1⟩:=Km.o k hkn;obtain ⟨an,han⟩:∃ n:Nat,p.getD k 0=(n:Int):=⟨(p.getD k 0).toNat,by omega⟩;rw [han] at g1 hv1;obtain ⟨sb,so,ai,ci,rfl,UV,Yr,s2⟩:=TD.o.at hkn;have s0:=Nat.lt_of_lt_of_le UV XI.o.size;have s1:=(XI.o.cell (p:=⟨sb,so+k,none⟩) UV).trans Yr;clear UV Yr;have Kn:an < (m.states.getD k []).length:=Z
   have UW:(m.states.getD k []).length≤6:=(gB ((bF mp.o).2.2.2 k hkn)).2.1;obtain ⟨ab,ao,c1,c2,c3,c4,c5,c6,rfl,na,Ys,v4⟩:=s2.at Kn;obtain ⟨w0,w1',w2',w3',Iy⟩:=na;have v0:=Nat.lt_of_lt_of_le w0 XI.o.size;have v1:=(XI.o.cell (p:=⟨ab,ao+an*4,none⟩) w0).trans w1';have v2:=(XI.o.cell (p:=⟨ab,ao+an*4+1,none⟩) w0).trans w2';have v3:=(XI.o.cell (p:=⟨ab,ao+an*4+2,none⟩) w0).trans w3';have v30:=(XI.o.cell (p:=⟨ab,ao+an*4+3,none⟩) w0).trans Ys;clear w0 w1' w2' w3' Ys;have hact:(m.states.getD k []).getD an dA=cJ m p k:=by unfold cJ;rw [han,Int.toNat_natCast];rfl
   have hav:=tz mp.o hkn Kn;rw [show m.act k an=cJ m p k by unfold cJ;rw [han,Int.toNat_natCast]] at hav;rw [hact] at v1 v2 v3 v30 v4 Iy;obtain ⟨al,hal⟩:=gN ((m.states.getD k []).length);rw [← hal] at s1 UW Kn;obtain ⟨z,hz⟩:=gN ((cJ m p k).cost);obtain ⟨os,hos⟩:=gN ((cJ m p k).next);rw [← hz] at v1 v2 v3 Iy;rw [← hos] at v30 v4;have HZ:=kI hz;have ze:=kI hos;have Yt:=kI hav;have VRD:=kI Iy;have ORD:=kI v4;have q1:(k:Int) < (n:Int):=Z
   have q2:(0:Int)≤(k:Int):=Z
   have q3:(k:Int) < (m.states.length:Int):=Z
   have q4:(0:Int)≤(an:Int):=Z
   have q5:(an:Int) < (al:Int):=Z
   have a0c:=MU.o.cell;have a0l:=MU.o.lt;clear s2 v4 Iy hact hav hal hz hos hv0 hv1 han;go_wp2_with fail;clear a0c a0l g0 g1 s0 s1 v0 v1 v2 v3 v30 q3 q4 q5;have bx0:=ag.new wi #[.bool z.neg,.slice c1 z.num.length c2,.slice c3 z.den.length c4,.slice c5 os.length c6] 83;have hx:Ext wi (wi.alloc (.cells #[.bool z.neg,.slice c1 z.num.length c2,.slice c3 z.den.length c4,.slice c5 os.length c6] 83)):=(Ext.refl _).alloc _;obtain ⟨xb,hxb⟩:=gN (wi.heap.size);obtain ⟨w2,hw2⟩:=gN (wi.alloc (.cells #[.bool z.neg,.slice c1 z.num.length c2,.slice c3 z.den.length c4,.slice c5 os.length c6] 83));rw [← hxb,← hw2] at bx0;rw [← hw2] at hx;rw [← hxb,← hw2];have BX:=kI bx0;have X2:=kI hx;clear bx0 hx hxb hw2;obtain ⟨CC,xL⟩:=gN (madeCells #[Value.bool false,.slice none 0 0,.slice none 0 0] (n*3));have oJ:=kI xL;clear xL;have Ck:=xJ.o;have X:=kI (Ext.refl w2);refine aI 7 (Kj (some ⟨pb,po,none⟩) pc n xb w2.heap.size z c1 c2 c3 c4 CC) ax ax ax (fun _ _ _ _ h x=>Ds h x) ?_ ?_
   ·refine ⟨?_,?_,?_,?_,?_,?_,?_,trivial⟩
    ·intro a W hW af hB hD K hK;have aQ:=kI af;clear af;have b1:=hB 1 rfl;simp only [sB] at b1;go_simp;exact hK _ _ (Ext.refl _) rfl
    ·intro a W hW af hB hD K hK;have aQ:=kI af;clear af;obtain ⟨v29,e29,Dc⟩:=aE (hD 0 _ 29 rfl rfl ax);obtain rfl:=Dc;go_simp;exact hK _ _ (Ext.refl _) rfl
    ·intro a W hW af hB hD K hK;have aQ:=kI af;clear af;obtain ⟨v30,e30,h30⟩:=aE (hD 1 _ 30 rfl rfl ax);obtain rfl:=h30;have hr:=pB W n Tryz.underlying148 Tryz.fH Z Z;simp only [show (Value.agg #[.bool false,.slice none 0 0,.slice none 0 0]).cells=#[.bool false,.slice none 0 0,.slice none 0 0] from rfl] at hr;rw [← oJ.o] at hr;go_simp;(try simp only [hr,Result.andThen]);exact hK _ _ ((Ext.refl _).alloc _) ⟨_,rfl,hW.size,ag.new _ _ _⟩
    ·intro a W hW af hB hD K hK;have aQ:=kI af;clear af;have b8:=hB 8 rfl;simp only [sB] at b8;go_simp;exact hK _ _ (Ext.refl _) rfl
    ·intro a W hW af hB hD K hK;have aQ:=kI af;clear af;obtain ⟨v32,e32,h32⟩:=aE (hD 3 _ 32 rfl rfl ax);obtain rfl:=h32;have q9:=(BX.o.ext hW).cell;have l9:=(BX.o.ext hW).lt;go_simp;exact hK _ _ (Ext.refl _) rfl
    ·intro a W hW af hB hD K hK;have aQ:=kI af;clear af;obtain ⟨v31,e31,h31⟩:=aE (hD 2 _ 31 rfl rfl ax);obtain ⟨b9,rfl,hb1,hb2⟩:=h31;obtain ⟨v33,e33,Gu⟩:=aE (hD 4 _ 33 rfl rfl ax);obtain rfl:=Gu;go_simp;exact hK _ _ (Ext.refl _) ⟨_,rfl,hb1,hb2⟩
    ·intro a W hW af hB hD K hK;have aQ:=kI af;clear af;go_simp;exact hK _ _ ((Ext.refl _).alloc _) ⟨_,rfl,hW.size,ag.new _ _ _⟩
   intro w3 hx;simp only [cW,List.take_succ_cons,List.take_zero,List.drop_succ_cons,List.drop_zero];rintro u0 - u1 - u2 - u3 - u4 - u5 h5 u6 h6;obtain ⟨b,rfl,hb,RB⟩:=h5;obtain ⟨qb,rfl,Yu,QB⟩:=h6;simp only [Act.put,List.setIfInBounds_toArray,List.set_cons_zero,List.set_cons_succ];have x0:=QB.cell;have x1':=QB.free;have x2':=QB.lt;go_wp2_with fail;clear x0 x1' x2';obtain ⟨w4,hw4⟩:=gN ((((w3.setCell ⟨qb,0,none⟩ (.slice (some ⟨b,0,none⟩) n n)).setCell ⟨qb,1,none⟩ (.bool z.neg)).setCell ⟨qb,2,none⟩ (.slice c1 z.num.length c2)).setCell ⟨qb,3,none⟩ (.slice c3 z.den.length c4));have hbq:b≠qb:=RB.ne QB ap;have hqq:ag w4 qb #[.slice (some ⟨b,0,none⟩) n n,.bool z.neg,.slice c1 z.num.length c2,.slice c3 z.den.length c4] 150:=by rw [hw4];exact (((QB.set 0 _).set 1 _).set 2 _).set 3 _
   have hrb:ag w4 b CC 25:=by
    rw [hw4];exact (((RB.setOther (a:=⟨qb,0,none⟩) hbq _).setOther (a:=⟨qb,1,none⟩) hbq _).setOther (a:=⟨qb,2,none⟩) hbq _).setOther (a:=⟨qb,3,none⟩) hbq _
   have hx4:Ext w2 w4:=by rw [hw4];exact Below.setCell (Below.setCell (Below.setCell (Below.setCell hx au _) au _) au _) au _
   have hfr:fV w4 w.heap.size b n (fun _=>zR):=by rw [oJ.o] at hrb;exact fV.new hrb
   rw [← hw4];have QQ:=kI hqq;have FR:=kI hfr;have X4:=kI (X2.o.trans hx4);have Yv:=kI (BX.o.ext hx4);have BW:Hid (wi.heap.size≤b):=kI (Nat.le_trans X2.o.size hb);have QW:Hid (wi.heap.size≤qb∧b≠qb):=kI ⟨Nat.le_trans X2.o.size Yu,hbq⟩;clear hw4 hbq hqq hrb hx4 hfr RB QB hb Yu hx;go_wp2_with fail;replace X:=kI (Ext.refl w4);refine aI 4 (Kk qb b n k w.heap.size (rep ((1:Int):Rat))) ax ax ax (fun _ _ _ _ h x=>Dt h x) ?_ ?_
   ·refine ⟨?_,?_,?_,?_,trivial⟩
    ·intro a W hW af hB hD K hK;have aQ:=kI af;clear af;have b9:=hB 9 rfl;simp only [sB] at b9;go_simp;exact hK _ _ (Ext.refl _) rfl
    ·intro a W hW af hB hD K hK;have aQ:=kI af;clear af;obtain ⟨v35,e35,h35⟩:=aE (hD 0 _ 35 rfl rfl ax);obtain rfl:=h35;have q9:=(QQ.o.ext hW).cell;have l9:=(QQ.o.ext hW).lt;go_simp;exact hK _ _ (Ext.refl _) rfl
    ·intro a W hW af hB hD K hK;have aQ:=kI af;clear af;have b6:=hB 6 rfl;simp only [sB] at b6;go_simp;exact hK _ _ (Ext.refl _) rfl
    ·intro a W hW af hB hD K hK;have aQ:=kI af;clear af;go_simp;refine (eV 1 W ap ap).mono ?_;rintro e w9 ⟨⟨v,rfl,nn⟩,hx⟩;obtain ⟨t1,t2,t3,t4,rfl⟩:=nn.shape;obtain ⟨hs1,hs2⟩:=nn.sf (B:=w.heap.size) (Nat.le_trans XI.o.size (Nat.le_trans X4.o.size hW.size));exact hK _ _ hx ⟨_,_,_,_,rfl,hs1,hs2⟩
   intro w5 hx;simp only [cW,List.take_succ_cons,List.take_zero,List.drop_succ_cons,List.drop_zero];rintro u0 - u1 h1 u2 h2 u3 h3;obtain rfl:=h1;obtain rfl:=h2;obtain ⟨r1,r2,r3,r4,rfl,S1,S2⟩:=h3;simp only [Act.put,List.setIfInBounds_toArray,List.set_cons_zero,List.set_cons_succ];obtain ⟨one,hone⟩:=gN (rep ((1:Int):Rat));rw [← hone] at S1 S2 ⊢;have Gv:=kI hone;replace S1:=kI S1;replace S2:=kI S2;have Ko:=kI (FR.o.ext hx);have Yw:=kI (QQ.o.ext hx);have X5:=kI (X4.o.trans hx);have RU:=kI (Yv.o.ext hx);clear hone hx;obtain ⟨g1,g2,g3,g4,MN,MO,MP,-⟩:=Ko.o.at (j:=k) fb.o;have f0:=Ko.o.free;have fl:=Ko.o.lt;have bx0:=RU.o.cell;have bx1:=RU.o.lt;obtain ⟨ab0,hrc,-,-⟩:=id Ko.o;have hxn:xb≠b:=RU.o.ne hrc ap;have UX:=Ne.symm hxn;clear hrc;go_wp2_with fail;clear MN MO MP f0 fl bx0 bx1 hxn UX;obtain ⟨w6,hw6⟩:=gN (((w5.setCell ⟨b,k*3,none⟩ (.bool one.neg)).setCell ⟨b,k*3+1,none⟩ (.slice r1 one.num.length r2)).setCell ⟨b,k*3+2,none⟩ (.slice r3 one.den.length r4));have hfr:fV w6 w.heap.size b n (eH m.ah os k 0).1:=by
    have h:=Ko.o.set (a:=k) (r:=one) fb.o S1.o S2.o;rw [← hw6] at h;refine h.congr (fun i hi=>?_);show (if i=k then one else zR)=cN (fun _=>zR) k (rep ((1:Int):Rat)) i;rw [← Gv.o];rfl
   have hko:ft b w5 w6:=by rw [hw6];exact (((ft.ext (Ext.refl _)).set _ _).set _ _).set _ _
   have hno:=Ko.o.Us;have hqq:ag w6 qb #[.slice (some ⟨b,0,none⟩) n n,.bool z.neg,.slice c1 z.num.length c2,.slice c3 z.den.length c4] 150:=hko.blk Yw.o (Ne.symm QW.o.2);have hbw:w.heap.size≤b:=Nat.le_trans XI.o.size BW.o;have hxw:Ext w w6:=Below.trans (XI.o.trans X5.o) ((gH.of (X:=fun i=>i=b) hko rfl).below (XI.o.trans X5.o).size (fun i e=>by rw [e];exact hbw));have Qb:ft b wi w6:=(ft.ext X5.o).trans hko;rw [← hw6];have FR6:=kI hfr;have Yx:=kI hqq;have Yy:=kI hxw;have K6:=kI Qb;have RM:=kI hbw;clear hw6 hfr hko hno hqq hbw hxw Qb S1 S2 Gv Yw Ko QQ FR X4 X2 Yv RU BX X;have hol:=(fW Yt.o).2.2.1;rw [← ze.o] at hol;have HOL:=kI hol;go_loopw [43] (fun i wr=>∃ (i2:Nat) (r:Nat→RR),i2≤os.length∧i=.int .i64 (i2:Nat)∧eH m.ah os k i2=(r,0)∧fV wr w.heap.size b n r∧ft b w6 wr) (fun i _=>os.length - (intOf i).toNat)
   case atStart=>exact ⟨0,_,Nat.zero_le _,rfl,rfl,FR6.o,ft.ext (Ext.refl _)⟩
   case round=>
    obtain ⟨wj,Cz⟩:=gN (wr);subst Cz;obtain ⟨i,r,hi,rfl,hr,hf,hkp⟩:=hrel;have RK:=kI hr;have FJ:=kI hf;have KJ:=kI hkp;have XJ:Hid (Ext w wj):=kI (Below.trans Yy.o ((gH.of (X:=fun i=>i=b) hkp rfl).below Yy.o.size (fun i e=>by rw [e];exact RM.o)));clear hr hf hkp;by_cases hil:i < os.length
    ·have Yz:=kI hil;obtain ⟨ob,oo,o1,o2,o3,o4,rfl,v0,v1,v2,v3,v4,v5⟩:=(ORD.o.ext XJ.o).at hil;have hov:=tx (fW Yt.o).2.2.2.1 (os.getD i dO) (by rw [ze.o,List.getD_eq_getElem?_getD,List.getElem?_eq_getElem (by rw [← ze.o];exact hil)];exact List.getElem_mem _);have hlo:aC (os.getD i dO).2:=by rw [ze.o];exact (Am.o.2 k _).2 i
     have hst:=AG RK.o;obtain ⟨O,hO⟩:=gN (os.getD i dO);rw [← hO] at v1 v2 v3 v4 v5 hov hlo hst;obtain ⟨ot,op⟩:=O;dsimp only at v1 v2 v3 v4 v5 hov hlo hst;obtain ⟨tn,rfl⟩:∃ n:Nat,ot=(n:Int):=⟨ot.toNat,by omega⟩;rw [Int.toNat_natCast] at hst;have htn:tn < n:=by rw [HN.o,Kl.o];omega
     have HST:=kI hst;have YA:=kI htn;have Gb:=kI hlo;have V5:=kI v5;have q3:(0:Int)≤(i:Int):=Z
     have q4:(i:Int) < (os.length:Int):=Z
     have q5:(i:Int) < 64:=Z
     have q6:(tn:Int) < (n:Int):=Z
     have q7:(0:Int)≤(tn:Int):=Z
     clear hov hlo hst hO v5;go_wp2_with fail;clear v0 v1 v2 v3 v4;have UY:=ag.new wj #[.int .i64 (tn:Nat),.bool op.neg,.slice o1 op.num.length o2,.slice o3 op.den.length o4] 80;have hx:Ext wj (wj.alloc (.cells #[.int .i64 (tn:Nat),.bool op.neg,.slice o1 op.num.length o2,.slice o3 op.den.length o4] 80)):=(Ext.refl _).alloc _;obtain ⟨pb2,Kp⟩:=gN (wj.heap.size);obtain ⟨wo,hwo⟩:=gN (wj.alloc (.cells #[.int .i64 (tn:Nat),.bool op.neg,.slice o1 op.num.length o2,.slice o3 op.den.length o4] 80));rw [← Kp,← hwo] at UY;rw [← hwo] at hx;rw [← Kp,← hwo];have BO:=kI UY;have XO:=kI (XJ.o.trans hx);have FO:=kI (FJ.o.ext hx);have V5O:=kI (V5.o.ext hx);have XJO:=kI hx;have QO:Hid (ag wo qb #[.slice (some ⟨b,0,none⟩) n n,.bool z.neg,.slice c1 z.num.length c2,.slice c3 z.den.length c4] 150):=kI ((KJ.o.blk Yx.o (Ne.symm QW.o.2)).ext hx);have YB:Hid (ag wo An #[.bool m.ah.neg,.slice m1 m.ah.num.length n1,.slice m2 m.ah.den.length n2,.slice (some ⟨sb,so,none⟩) m.states.length n3] 28):=kI ((KJ.o.blk (K6.o.blk MU.o (by have:=MU.o.lt;have:=BW.o;omega)) (by have:=MU.o.lt;have:=BW.o;omega)).ext hx);have DO:Hid (bh wo (.agg #[.bool m.ah.neg,.slice m1 m.ah.num.length n1,.slice m2 m.ah.den.length n2]) m.ah):=kI (HD0.o.ext XO.o);obtain ⟨x1,x2,x3,x4,x00,x01,J0,Gn⟩:=FO.o.at (j:=tn) YA.o;have hxl:aC (r tn):=by have:=jP m.ah os k i tn;rw [RK.o] at this;exact this
     obtain ⟨x,hxx⟩:=gN (r tn);rw [← hxx] at x00 x01 J0 Gn hxl;have XS:Hid (b < wo.heap.size∧wo.cell? ⟨b,tn*3,none⟩=some (.bool x.neg)∧wo.cell? ⟨b,tn*3+1,none⟩=some (.slice x1 x.num.length x2)∧wo.cell? ⟨b,tn*3+2,none⟩=some (.slice x3 x.den.length x4)∧bh wo (.agg #[.bool x.neg,.slice x1 x.num.length x2,.slice x3 x.den.length x4]) x):=kI ⟨FO.o.lt,x00,x01,J0,Gn⟩;have BT:=kI hxx;have Gk:=kI hxl;obtain ⟨R,hR⟩:=gN (mulR m.ah op);have hml:aC R.1:=by rw [hR];exact fh _ _
     have HR:=kI hR;have JI:=kI hml;have ES:Hid (∀ (c:Int) (W:World),c≠0→(gg x m.ah op).2=c→Ext wo W→ik w.heap.size W (.panicked [bk c]) (aH m p).2 (aH m p).1∧Ext w W):=kI (fun c W hc h hxw=>HBAD.o W c hc (by
      have e1:(eH m.ah os k (i+1)).2=c:=by rw [HST.o,← BT.o,if_pos IM];exact h
      have e2:(fC m p k).2=c:=by unfold fC;rw [← ze.o];exact vH e1 hc Yz.o
      rw [xY (by rw [← HN.o];exact fb.o) ZI.o e2 hc]) (XO.o.trans hxw))
     clear UY hx Kp hwo x00 x01 J0 Gn hxx hxl hR hml;have X:=kI (Ext.refl wo);refine aI 22 (Du qb b n pb2 tn An x m.ah op R (bR x R.1) w.heap.size) ax ax ax (fun _ _ _ _ h x=>AH h x) ?_ ?_
     ·refine ⟨?_,?_,?_,?_,?_,?_,?_,?_,?_,?_,?_,?_,?_,?_,?_,?_,?_,?_,?_,?_,?_,?_,trivial⟩
      ·intro a W hW af hB hD K hK;have aQ:=kI af;clear af;have b9:=hB 9 rfl;simp only [sB] at b9;go_simp;exact hK _ _ (Ext.refl _) rfl
      ·intro a W hW af hB hD K hK;have aQ:=kI af;clear af;obtain ⟨v47,e47,h47⟩:=aE (hD 0 _ 47 rfl rfl ax);obtain rfl:=h47;have q9:=(QO.o.ext hW).cell;have l9:=(QO.o.ext hW).lt;go_simp;exact hK _ _ (Ext.refl _) rfl
      ·intro a W hW af hB hD K hK;have aQ:=kI af;clear af;have b11:=hB 11 rfl;simp only [sB] at b11;go_simp;exact hK _ _ (Ext.refl _) rfl
      ·intro a W hW af hB hD K hK;have aQ:=kI af;clear af;obtain ⟨v49,e49,h49⟩:=aE (hD 2 _ 49 rfl rfl ax);obtain rfl:=h49;have q9:=(BO.o.ext hW).cell;have l9:=(BO.o.ext hW).lt;go_simp;exact hK _ _ (Ext.refl _) rfl
      ·intro a W hW af hB hD K hK;have aQ:=kI af;clear af;have b9:=hB 9 rfl;simp only [sB] at b9;go_simp;exact hK _ _ (Ext.refl _) rfl
      ·intro a W hW af hB hD K hK;have aQ:=kI af;clear af;obtain ⟨v51,e51,UZ⟩:=aE (hD 4 _ 51 rfl rfl ax);obtain rfl:=UZ;have q9:=(QO.o.ext hW).cell;have l9:=(QO.o.ext hW).lt;go_simp;exact hK _ _ (Ext.refl _) rfl
      ·intro a W hW af hB hD K hK;have aQ:=kI af;clear af;have b11:=hB 11 rfl;simp only [sB] at b11;go_simp;exact hK _ _ (Ext.refl _) rfl
      ·intro a W hW af hB hD K hK;have aQ:=kI af;clear af;obtain ⟨v53,e53,U0⟩:=aE (hD 6 _ 53 rfl rfl ax);obtain rfl:=U0;have q9:=(BO.o.ext hW).cell;have l9:=(BO.o.ext hW).lt;go_simp;exact hK _ _ (Ext.refl _) rfl
      ·intro a W hW af hB hD K hK;have aQ:=kI af;clear af;obtain ⟨v52,e52,U1⟩:=aE (hD 5 _ 52 rfl rfl ax);obtain rfl:=U1;obtain ⟨v54,e54,U2⟩:=aE (hD 7 _ 54 rfl rfl ax);obtain rfl:=U2;go_simp;exact hK _ _ (Ext.refl _) rfl
      ·intro a W hW af hB hD K hK;have aQ:=kI af;clear af;obtain ⟨v55,e55,U3⟩:=aE (hD 8 _ 55 rfl rfl ax);obtain rfl:=U3;have m0:=(hW.cell (p:=⟨b,tn*3,none⟩) XS.o.1).trans XS.o.2.1;have m1:=(hW.cell (p:=⟨b,tn*3+1,none⟩) XS.o.1).trans XS.o.2.2.1;have m2:=(hW.cell (p:=⟨b,tn*3+2,none⟩) XS.o.1).trans XS.o.2.2.2.1;have ml:=Nat.lt_of_lt_of_le XS.o.1 hW.size;go_simp;exact hK _ _ (Ext.refl _) ⟨_,_,_,_,rfl,XS.o.2.2.2.2.ext hW⟩
      ·intro a W hW af hB hD K hK;have aQ:=kI af;clear af;have b2:=hB 2 rfl;simp only [sB] at b2;go_simp;exact hK _ _ (Ext.refl _) rfl
      ·intro a W hW af hB hD K hK;have aQ:=kI af;clear af;obtain ⟨v57,e57,h57⟩:=aE (hD 10 _ 57 rfl rfl ax);obtain rfl:=h57;have q9:=(YB.o.ext hW).cell;have l9:=(YB.o.ext hW).lt;go_simp;exact hK _ _ (Ext.refl _) ⟨_,_,_,_,rfl,DO.o.ext hW⟩
      ·intro a W hW af hB hD K hK;have aQ:=kI af;clear af;have b11:=hB 11 rfl;simp only [sB] at b11;go_simp;exact hK _ _ (Ext.refl _) rfl
      ·intro a W hW af hB hD K hK;have aQ:=kI af;clear af;obtain ⟨v59,e59,h59⟩:=aE (hD 12 _ 59 rfl rfl ax);obtain rfl:=h59;have q9:=(BO.o.ext hW).cell;have l9:=(BO.o.ext hW).lt;go_simp;exact hK _ _ (Ext.refl _) ⟨_,_,_,_,rfl,V5O.o.ext hW⟩
      ·intro a W hW af hB hD K hK;have aQ:=kI af;clear af;obtain ⟨v58,e58,U5⟩:=aE (hD 11 _ 58 rfl rfl ax);obtain ⟨x91,fp,x93,fq,rfl,qT⟩:=U5;obtain ⟨v60,e60,h60⟩:=aE (hD 13 _ 60 rfl rfl ax);obtain ⟨y91,Gp,y93,Gq,rfl,qU⟩:=h60;go_simp;have hmu:=fg _ _ m.ah op W qT qU Am.o.1 Gb.o;rw [← HR.o] at hmu;refine hmu.mono ?_;rintro e w9 ⟨⟨v,rfl,nn⟩,hx⟩;obtain ⟨t1,t2,t3,t4,rfl⟩:=nn.shape;exact hK _ _ hx ⟨_,_,_,_,rfl,nn.rd⟩
      ·intro a W hW af hB hD K hK;have aQ:=kI af;clear af;obtain ⟨v61,e61,Qd⟩:=aE (hD 14 _ 61 rfl rfl ax);obtain ⟨x91,fp,x93,fq,rfl,xq⟩:=Qd;go_simp;exact hK _ _ (Ext.refl _) ⟨_,_,_,_,rfl,xq⟩
      ·intro a W hW af hB hD K hK;have aQ:=kI af;clear af;obtain ⟨v61,e61,Qd⟩:=aE (hD 14 _ 61 rfl rfl ax);obtain ⟨x91,fp,x93,fq,rfl,xq⟩:=Qd;go_simp;exact hK _ _ (Ext.refl _) rfl
      ·intro a W hW af hB hD K hK;have aQ:=kI af;clear af;obtain ⟨v62,e62,U6⟩:=aE (hD 15 _ 62 rfl rfl ax);obtain ⟨x91,fp,x93,fq,rfl,xq⟩:=U6;obtain ⟨v63,e63,h63⟩:=aE (hD 16 _ 63 rfl rfl ax);obtain rfl:=h63;go_simp;by_cases hpe:R.2=0
       ·rw [hpe];refine (bO _ _ _ _ _ _ _ W).mono ?_;rintro e w9 ⟨rfl,hx⟩;exact hK _ _ hx ⟨hpe,_,_,_,_,rfl,xq.ext hx⟩
       ·refine (bu _ _ _ _ _ _ _ _ rfl hpe W).mono ?_;rintro e w9 ⟨rfl,hx⟩;(try simp +zetaDelta only [Exit.then,Exit.inBlock]);exact aF aQ.o (ES.o _ _ hpe QT (hW.trans hx))
      ·intro a W hW af hB hD K hK;have aQ:=kI af;clear af;obtain ⟨v56,e56,U7⟩:=aE (hD 9 _ 56 rfl rfl ax);obtain ⟨x91,fp,x93,fq,rfl,qT⟩:=U7;obtain ⟨v64,e64,h64⟩:=aE (hD 17 _ 64 rfl rfl ax);obtain ⟨hpe,y91,Gp,y93,Gq,rfl,qU⟩:=h64;go_simp;refine (gw _ _ x R.1 W qT qU Gk.o JI.o).mono ?_;rintro e w9 ⟨⟨v,rfl,nn⟩,hx⟩;obtain ⟨t1,t2,t3,t4,rfl⟩:=nn.shape;obtain ⟨hs1,hs2⟩:=nn.sf (B:=w.heap.size) (Nat.le_trans XO.o.size hW.size);exact hK _ _ hx ⟨hpe,_,_,_,_,rfl,hs1,hs2⟩
      ·intro a W hW af hB hD K hK;have aQ:=kI af;clear af;obtain ⟨v65,e65,h65⟩:=aE (hD 18 _ 65 rfl rfl ax);obtain ⟨uf,x91,fp,x93,fq,rfl,xq,xr⟩:=h65;go_simp;exact hK _ _ (Ext.refl _) ⟨uf,_,_,_,_,rfl,xq,xr⟩
      ·intro a W hW af hB hD K hK;have aQ:=kI af;clear af;obtain ⟨v65,e65,h65⟩:=aE (hD 18 _ 65 rfl rfl ax);obtain ⟨uf,x91,fp,x93,fq,rfl,xq,xr⟩:=h65;go_simp;exact hK _ _ (Ext.refl _) rfl
      ·intro a W hW af hB hD K hK;have aQ:=kI af;clear af;obtain ⟨v66,e66,UO⟩:=aE (hD 19 _ 66 rfl rfl ax);obtain ⟨uf,x91,fp,x93,fq,rfl,xq,xr⟩:=UO;obtain ⟨v67,Yl,PS⟩:=aE (hD 20 _ 67 rfl rfl ax);obtain rfl:=PS;go_simp;obtain ⟨c,hc⟩:=gN ((bR x R.1).2);rw [← hc];by_cases hpe:c=0
       ·subst hpe;refine (bO _ _ _ _ _ _ _ W).mono ?_;rintro e w9 ⟨rfl,hx⟩;exact hK _ _ hx ⟨hc.symm,_,_,_,_,rfl,xq.ext hx,xr.ext hx⟩
       ·refine (bu _ _ _ _ _ _ _ _ rfl hpe W).mono ?_;rintro e w9 ⟨rfl,hx⟩;(try simp +zetaDelta only [Exit.then,Exit.inBlock]);exact aF aQ.o (ES.o _ _ hpe QR (hW.trans hx))
     intro w7 hx;simp only [cW,List.take_succ_cons,List.take_zero,List.drop_succ_cons,List.drop_zero];rintro u0 - u1 h1 u2 - u3 h3 u4 - u5 - u6 - u7 - u8 - u9 - u10 - u11 - u12 - u13 - u14 - u15 - u16 - RO h17 RP - UL - u20 - u21 h21;obtain rfl:=h1;obtain rfl:=h3;obtain ⟨hp1,-⟩:=h17;obtain ⟨hp2,r1,r2,r3,r4,rfl,S1,S2⟩:=h21;simp only [Act.put,List.setIfInBounds_toArray,List.set_cons_zero,List.set_cons_succ];replace S1:=kI S1;replace S2:=kI S2;have hst:gg x m.ah op=bR x R.1:=oQ (by rw [← HR.o];exact Prod.ext rfl hp1);obtain ⟨rr,hrr⟩:=gN ((bR x R.1).1);rw [← hrr] at S1 S2 ⊢;have NX:Hid (eH m.ah os k (i+1)=(cN r tn rr,0)):=kI (by rw [HST.o,← BT.o,hst,if_neg (fun h=>h hp2),hrr]);have F7:=kI (FO.o.ext hx);have X7:=kI (XJO.o.trans hx);clear hst hrr hp1 hp2 hx;obtain ⟨g1,g2,g3,g4,MN,MO,MP,-⟩:=F7.o.at (j:=tn) htn;have f0:=F7.o.free;have fl:=F7.o.lt;go_wp2_with fail;clear MN MO MP f0 fl;obtain ⟨w8,hw8⟩:=gN (((w7.setCell ⟨b,tn*3,none⟩ (.bool rr.neg)).setCell ⟨b,tn*3+1,none⟩ (.slice r1 rr.num.length r2)).setCell ⟨b,tn*3+2,none⟩ (.slice r3 rr.den.length r4));have hfr:fV w8 w.heap.size b n (cN r tn rr):=by
      have h:=F7.o.set (a:=tn) (r:=rr) YA.o S1.o S2.o;rw [← hw8] at h;exact h.congr (fun i hi=>rfl)
     have hkk:ft b w6 w8:=by rw [hw8];exact (((KJ.o.trans (ft.ext X7.o)).set _ _).set _ _).set _ _
     rw [← hw8];clear hw8;go_roundw
     case rel=>exact ⟨i+1,_,Yz.o,by go_num,NX.o,hfr,hkk⟩
     case measure=>first|(simp [intOf];done)|(simp [intOf];omega)
    ·obtain rfl:i=os.length:=Z
     have q3:¬ ((os.length:Int) < (os.length:Int)):=Z
     have Dv:Ext wi wj:=(gH.of (X:=fun i=>i=b) (K6.o.trans KJ.o) rfl).below (Nat.le_refl _) (fun i e=>by rw [e];exact BW.o);have EQ:Hid (fC m p k=(r,0)):=kI (by unfold fC;rw [← ze.o];exact RK.o);have QJ:=kI (KJ.o.blk Yx.o (Ne.symm QW.o.2));have A0J:=kI (MU.o.ext Dv);have RV:=kI (Yp.o.ext Dv);have OJ:=kI (ET.ext QI.o Dv);have hel:Bs m p n w.heap.size wj [.slice (some ⟨b,0,none⟩) n n,.bool z.neg,.slice c1 z.num.length c2,.slice c3 z.den.length c4] (k,b):=by
      obtain ⟨vn,vd,e,h1,h2⟩:=VRD.o;injection e with e
      simp only [Array.mk.injEq,List.cons.injEq,and_true,true_and] at e;obtain ⟨rfl,rfl⟩:=e;refine ⟨c1,c2,c3,c4,by rw [← HZ.o],by rw [EQ.o];exact FJ.o,?_,?_⟩
      ·rw [← HZ.o];exact ku.ext (ku.old h1 (Nat.le_refl _)) XJ.o
      ·rw [← HZ.o];exact ku.ext (ku.old h2 (Nat.le_refl _)) XJ.o
     have U8:=kI hel;have hlen:((List.range k).map fun s=>(s,bs s)).length=k:=by rw [List.length_map,List.length_range]
     have HLEN:=kI hlen;have XIJ:=kI Dv;have hz1:w.heap.size≤wj.heap.size:=XJ.o.size;have a0:=RV.o.cell;have a1':=RV.o.free;have a2':=RV.o.lt;have t0:=QJ.o.cell;have t1:=QJ.o.lt;clear Dv hel hlen hi hil;go_wp2_with (at_builtin;(refine eC (El:=Bs m p n w.heap.size) (l:=(List.range k).map fun s=>(s,bs s)) wj rfl _ _ 147 rfl w.heap.size 150 (.agg #[.slice none 0 0,.bool false,.slice none 0 0,.slice none 0 0]) 4 80 Tryz.underlying147 Tryz.PZ rfl ap (Bs.keeps ap ap) _ OJ.o (by first|rfl|(rw [HLEN.o];rfl)) [.slice (some ⟨b,0,none⟩) n n,.bool z.neg,.slice c1 z.num.length c2,.slice c3 z.den.length c4] rfl mQ (k,b) U8.o (by first|rfl|simp) (by have:=HLEN.o;have:=xJ.o;have:=fb.o;omega) (by have:=HLEN.o;have:=xJ.o;have:=fb.o;omega) hz1 ?_))
     intro g cap2 w9 hown2 hk2;clear a0 a1' a2' t0 t1;have O9:=kI hown2;have K9:=kI hk2;have A09:=kI (A0J.o.keeps hk2 ap);have Kr:=kI (RV.o.keeps hk2 ap);have X9:=kI (Below.trans XJ.o (hk2.below hz1));have a0:=Kr.o.cell;have a1':=Kr.o.free;have a2':=Kr.o.lt;clear hown2 hk2;go_wp2_with fail;clear a0 a1' a2';obtain ⟨sv,hsv⟩:=gN (Value.slice (some ⟨g,0,none⟩) (k+1) cap2);obtain ⟨wf,hwf⟩:=gN (w9.setCell ⟨An+1,0,none⟩ sv);have Qe:Keeps 0 147 w9 wf:=by rw [hwf];exact bf Kr.o 0 _
     have f0:=A09.o.keeps Qe ap;have f1:ag wf (An+1) #[sv] 147:=by rw [hwf];exact Kr.o.set 0 _
     have f2:ET m p n w.heap.size wf sv (k+1) (cN bs k b):=by
      have h:aD 150 4 (Bs m p n w.heap.size) w.heap.size wf sv (((List.range k).map fun s=>(s,bs s)) ++ [(k,b)]):=by
       rw [hsv];exact aD.pR O9.o Qe ap (fun _ _ e=>by
        obtain ⟨a1,c1,a2,c2,e1,e2,e3,e4⟩:=e;exact ⟨a1,c1,a2,c2,e1,e2.keeps Qe ap ap,e3.keeps (PX Kr.o hwf X9.o MF.o) ap,e4.keeps (PX Kr.o hwf X9.o MF.o) ap⟩)
      have e:(List.range (k+1)).map (fun s=>(s,cN bs k b s))=((List.range k).map fun s=>(s,bs s)) ++ [(k,b)]:=by
       rw [List.range_succ,List.map_append];congr 1
       ·refine List.map_congr_left (fun s hs=>?_);rw [cG (by have:=List.mem_range.1 hs;omega)]
       ·simp [bL]
      show aD _ _ _ _ _ _ _;rw [e];exact h
     have hsz:wj.heap.size≤wf.heap.size:=Nat.le_trans K9.o.size Qe.size;have f3:∀ s,s < k+1→w.heap.size≤cN bs k b s∧cN bs k b s < wf.heap.size:=fun s hs=>by
      by_cases e:s=k
      ·subst e;rw [bL];exact ⟨RM.o,Nat.lt_of_lt_of_le FJ.o.lt hsz⟩
      ·rw [cG e];have:=MW.o s Z;exact ⟨this.1,by have:=XIJ.o.size;omega⟩
     have f4:∀ s t,s < k+1→t < k+1→cN bs k b s=cN bs k b t→s=t:=fun s t hs ht he=>by
      by_cases e:s=k
      ·by_cases e2:t=k
       ·omega
       ·rw [e,bL,cG e2] at he;have:=MW.o t Z;have:=BW.o;omega
      ·by_cases e2:t=k
       ·rw [e2,bL,cG e] at he;have:=MW.o s Z;have:=BW.o;omega
       ·rw [cG e,cG e2] at he;exact Yq.o s t Z Z he
     have f5:Ext w wf:=by rw [hwf];exact Below.setCell X9.o (by have:=MF.o;dsimp only;omega) _
     have f6:∀ s,s < k+1→(fC m p s).2=0:=fun s hs=>by
      by_cases e:s=k
      ·rw [e,EQ.o]
      ·exact ZI.o s Z
     rw [← hsv,← hwf];clear hsv hwf Qe hsz;go_roundw
     case rel=>exact ⟨k+1,_,sv,fb.o,by go_num,f6,f0,f1,f2,f3,f4,f5⟩
     case measure=>first|(simp [intOf];done)|(simp [intOf];omega)
  ·obtain rfl:k=n:=Z
   have q1:¬ ((k:Int) < (k:Int)):=Z
   obtain ⟨CC,xL⟩:=gN (madeCells #[Value.bool false,.slice none 0 0,.slice none 0 0] (k*3));have oJ:=kI xL;have Ck:=xJ.o;clear xL hlt;go_wp2_with (at_make;(refine ij rfl _ _ rfl k rfl rfl Tryz.underlying29 Tryz.fH Z Z CC (by exact oJ.o.symm) ?_))
   have g0:=((ag.new wi CC 25).alloc (.cells #[.slice (some ⟨wi.heap.size,0,none⟩) k k] 29)).alloc (.cells #[.func (.func 144) #[] #[.pointer (some ⟨An+1,0,none⟩),.pointer (some ⟨wi.heap.size+1+1,0,none⟩),.pointer (some ⟨wi.heap.size+1,0,none⟩)]] 151);have g1:=(ag.new (wi.alloc (.cells CC 25)) #[.slice (some ⟨wi.heap.size,0,none⟩) k k] 29).alloc (.cells #[.func (.func 144) #[] #[.pointer (some ⟨An+1,0,none⟩),.pointer (some ⟨wi.heap.size+1+1,0,none⟩),.pointer (some ⟨wi.heap.size+1,0,none⟩)]] 151);have g2:=ag.new ((wi.alloc (.cells CC 25)).alloc (.cells #[.slice (some ⟨wi.heap.size,0,none⟩) k k] 29)) #[.func (.func 144) #[] #[.pointer (some ⟨An+1,0,none⟩),.pointer (some ⟨wi.heap.size+1+1,0,none⟩),.pointer (some ⟨wi.heap.size+1,0,none⟩)]] 151;have hx:Ext wi (((wi.alloc (.cells CC 25)).alloc (.cells #[.slice (some ⟨wi.heap.size,0,none⟩) k k] 29)).alloc (.cells #[.func (.func 144) #[] #[.pointer (some ⟨An+1,0,none⟩),.pointer (some ⟨wi.heap.size+1+1,0,none⟩),.pointer (some ⟨wi.heap.size+1,0,none⟩)]] 151)):=(((Ext.refl wi).alloc _).alloc _).alloc _;rw [World.size_alloc] at g1;rw [World.size_alloc,World.size_alloc] at g2;obtain ⟨wC,YC⟩:=gN (((wi.alloc (.cells CC 25)).alloc (.cells #[.slice (some ⟨wi.heap.size,0,none⟩) k k] 29)).alloc (.cells #[.func (.func 144) #[] #[.pointer (some ⟨An+1,0,none⟩),.pointer (some ⟨wi.heap.size+1+1,0,none⟩),.pointer (some ⟨wi.heap.size+1,0,none⟩)]] 151));rw [← YC] at g0 g1 g2 hx ⊢;obtain ⟨Rb,hRb⟩:=gN (wi.heap.size+1+1);rw [← hRb] at g2 ⊢;obtain ⟨Vb,YD⟩:=gN (wi.heap.size+1);rw [← YD] at g1 g2 ⊢;obtain ⟨V,hV⟩:=gN (wi.heap.size);have RW:w.heap.size≤V:=by rw [hV];exact XI.o.size
   have hne:∀ s,s < k→V≠bs s:=fun s hs=>by have:=MW.o s hs;omega
   rw [← hV] at g0 g1;have hlen:((List.range k).map fun s=>(s,bs s)).length=k:=by simp
   have hq0:=ET.ext QI.o hx;rw [hlen] at hq0;have hk0:0 < k:=by rw [HN.o];exact HN0.o
   have hlb:=Yp.o.ext hx;rw [hlen] at hlb;obtain ⟨L,hLa⟩:∃ L,la=some ⟨L,0,none⟩:=by
    obtain ⟨a,cap,e0,_,_,hr⟩:=aD.wI hq0;injection e0 with e1 _ _
    obtain ⟨b,h,e3,_⟩:=hr 0 (0,bs 0) (by rw [List.getElem?_map,List.getElem?_range hk0];rfl);exact ⟨b,by rw [e1,e3]⟩
   subst hLa;obtain ⟨heq,hcap⟩:=ET.eqB hq0 hk0 (fun s hs=>(MW.o s hs).1) Yq.o (fun s i=>jP _ _ _ _ _) (fun s=>(Am.o.2 s _).1);have hva:fV wC w.heap.size V k (fun _=>zR):=by rw [oJ.o] at g0;exact fV.new g0
   have Dq:kA wC w.heap.size (An+1) Rb Vb L V k P9 bs (mB m p):=⟨hlb,g2,g1,heq,hva,fun i=>aT,hne,RW,hcap,Nat.le_trans XI.o.size hx.size⟩;have RD:=kI Dq;have XC:=kI (XI.o.trans hx);have VW:=kI RW;have BW9:Hid (∀ i,mD L V k bs i→w.heap.size≤i):=kI (fun i hi=>by
    rcases hi with e|e|⟨s,hs,e⟩
    ·rw [e];exact heq.base
    ·rw [e];exact RW
    ·rw [e];exact (MW.o s hs).1)
   have hcr:=Dp w.heap.size (An+1) Rb Vb L V k P9 bs Ck k 0 (mB m p) wC (Nat.zero_add k) Dq;rw [show ((0:Nat):Int)=0 from rfl] at hcr;clear g0 g1 g2 hx YC hRb YD hV RW hne hlen hq0 hlb heq hcap hva Dq;refine hcr.mono ?_;rintro e w2 ⟨he,hk2⟩;obtain ⟨P2,hP2⟩:=gN (bY k k 0 (mB m p));rw [← hP2] at he;obtain ⟨y2,c2⟩:=P2;dsimp only at he;have HP2:=kI hP2.symm;have X2:=kI (Below.trans XC.o (hk2.below XC.o.size BW9.o));clear hk2 hP2 hcr;by_cases hz:c2=0
   rotate_left
   ·obtain rfl:=he.pN hz;(try simp +zetaDelta only [Exit.then,Exit.inBlock]);exact aF rfl (HBAD.o _ _ hz (by rw [xZ (by rw [← HN.o];exact ZI.o) (c:=c2) (by rw [← HN.o,HP2.o]) hz]) X2.o)
   subst hz;obtain ⟨rfl,hr2⟩:=he.pM;have R2:=kI hr2;have l0:=hr2.vb.cell;have l2:=hr2.vb.lt;clear he hr2;go_wp2_with fail;have hso:aH m p=((List.range k).map y2.V,0):=by rw [Dr (by rw [← HN.o];exact ZI.o) (by rw [← HN.o,HP2.o]),← HN.o,HP2.o]
   have ho:=R2.o.va.own VW.o Z;go_ret;exact ⟨ik.ok (by rw [hso]) (by rw [hso];exact ho),X2.o⟩
end Go.Proofs.YtnnjbaijcaiohaaGreat
