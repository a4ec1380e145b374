/- Walks and lemmas. -/
import Derived.Test.YtnnjbaijcaiohaaGreatSxA20
import Derived.Test.YtnnjbaijcaiohaaGreatSxA13
import Derived.Laws.EntriesVeiled
set_option linter.unusedVariables false
set_option linter.unusedSimpArgs false
set_option maxRecDepth 100000
set_option maxHeartbeats 16000000
namespace Go.Proofs.YtnnjbaijcaiohaaGreat
open Go.RowKit
def Ak (m:MD) (p:List Int) (n B:Nat) (W:World) (h:List Value) (y:Nat × Nat):Prop:=∃ a1 c1 a2 c2,h=[.slice (some ⟨y.2,0,none⟩) n n,.bool (bl m p y.1).cost.neg,.slice a1 (bl m p y.1).cost.num.length c1,.slice a2 (bl m p y.1).cost.den.length c2]∧
 fH W B y.2 n (dY m p y.1).1∧jX B W (.slice a1 (bl m p y.1).cost.num.length c1) (bl m p y.1).cost.num∧jX B W (.slice a2 (bl m p y.1).cost.den.length c2) (bl m p y.1).cost.den
theorem Ak.keeps {m:MD} {p:List Int} {n B:Nat} {t:TypeId} (h1:25≠t) (h2:157≠t) (w w':World) (h:List Value) (y:Nat × Nat) (e:Ak m p n B w h y) (k:Keeps B t w w'):Ak m p n B w' h y:=by
 obtain ⟨a1,c1,a2,c2,e1,e2,e3,e4⟩:=e;exact ⟨a1,c1,a2,c2,e1,e2.keeps k h1 h2,e3.keeps k h2,e4.keeps k h2⟩
theorem Ak.ext {m:MD} {p:List Int} {n B:Nat} {w w':World} {h:List Value} {y:Nat × Nat} (e:Ak m p n B w h y) (x:Ext w w'):Ak m p n B w' h y:=by
 obtain ⟨a1,c1,a2,c2,e1,e2,e3,e4⟩:=e;exact ⟨a1,c1,a2,c2,e1,e2.ext x,jX.ext e3 x,jX.ext e4 x⟩
abbrev Dj (m:MD) (p:List Int) (n B:Nat) (w:World) (v:Value) (k:Nat) (bs:Nat→Nat):Prop:=ay 150 4 (Ak m p n B) B w v ((List.range k).map fun s=>(s,bs s))
theorem Dj.ext {m:MD} {p:List Int} {n B k:Nat} {bs:Nat→Nat} {w w':World} {v:Value} (h:Dj m p n B w v k bs) (x:Ext w w'):Dj m p n B w' v k bs:=ay.ext h x (fun _ _ e=>e.ext x)
theorem Dj.YZ {m:MD} {p:List Int} {n B k:Nat} {bs:Nat→Nat} {w:World} {L c:Nat} (h:Dj m p n B w (.slice (some ⟨L,0,none⟩) k c) k bs) (hk:0 < k) (hle:∀ s,s < k→B≤bs s) (hinj:∀ s t,s < k→t < k→bs s=bs t→s=t) (hlm:∀ s i,au ((dY m p s).1 i)) (hls:∀ s,au (bl m p s).cost) :
  rj w B L n k bs (fun s=>(dY m p s).1) (fun s=>(bl m p s).cost)∧k≤c∧c≤9223372036854775807:=by
 obtain ⟨a,cap,e0,hc1,hc2,hr⟩:=ay.vi h;have hlen:((List.range k).map fun s=>(s,bs s)).length=k:=by simp
 rw [hlen] at e0 hc1;injection e0 with e1 _ e2
 subst e2;have hat:∀ s,s < k→∃ h,L < w.heap.size∧B≤L∧(∀ j,j < 4→w.cell? ⟨L,s*4+j,none⟩=h[j]?)∧Ak m p n B w h (s,bs s):=fun s hs=>by
  obtain ⟨b,h,e3,e4,e5,e6,e7,e8⟩:=hr s (s,bs s) (by rw [List.getElem?_map,List.getElem?_range hs];rfl);rw [← e1] at e3;injection e3 with e3
  injection e3 with e3 _ _
  subst e3;exact ⟨h,e5,e4,e7,e8⟩
 obtain ⟨hs0,hown,_⟩:=h;rcases hown.2 with ⟨h0,_⟩|⟨g,cap,cur,e3,hg,hblk,hcap,hmax,hsz,_⟩
 ·cases h0
 ·injection e3 with e3 _ e4
  injection e3 with e3
  injection e3 with e3 _ _
  subst e3;subst e4;refine ⟨⟨⟨cur,hblk,by omega,fun s hs=>?_⟩,fun s hs=>?_,hle,hinj,hlm,hls,hg⟩,hc1,hc2⟩
  ·obtain ⟨h,k1,k2,k3,a1,c1,a2,c2,k4,k5,k6,k7⟩:=hat s hs;subst k4;have q0:=k3 0 (by decide);have q1:=k3 1 (by decide);have q2:=k3 2 (by decide);have q3:=k3 3 (by decide);have hb:af w L cur 150:=hblk;rw [hb.cell] at q0 q1 q2 q3;exact ⟨q0,a1,c1,a2,c2,q1,q2,q3,k6,k7⟩
  ·obtain ⟨h,k1,k2,k3,a1,c1,a2,c2,k4,k5,k6,k7⟩:=hat s hs;exact k5
theorem MS {w w9 wf:World} {An:Nat} {c:Array Value} {t:TypeId} {sv:Value} (h:af w9 (An+1) c t) (hw:wf=w9.setCell ⟨An+1,0,none⟩ sv) (_:Ext w w9) (hA:An=w.heap.size):Keeps w.heap.size t w9 wf:=by
 rw [hw];exact (ak h 0 sv).mono (by omega)
theorem jw (d:RR) (l:List Out) (s:Nat):∀ (k i:Nat),au ((di d l s k).1 i)
 | 0,i=>by
  unfold di;dsimp only;by_cases e:i=s
  ·subst e;rw [aW];exact cJ _
  ·rw [bS e];exact aM
 | k+1,i=>by
  unfold di;split
  ·exact jw d l s k i
  ·split
   ·exact jw d l s k i
   ·dsimp only;by_cases e:i=(l.getD k dO).1.toNat
    ·rw [e,aW];exact sK _ _ _
    ·rw [bS e];exact jw d l s k i
theorem uB {d:RR} {l:List Out} {s j:Nat} {c:Int} (h:(di d l s j).2=c) (hc:c≠0):∀ {k:Nat},j≤k→(di d l s k).2=c
 | 0,hk=>by obtain rfl:j=0:=(by omega);exact h
 | k+1,hk=>by
  by_cases e:j=k+1
  ·subst e;exact h
  ·have:=uB h hc (k:=k) (by omega);unfold di;rw [if_pos (by rw [this];exact hc)];exact this
theorem zE {d:RR} {l:List Out} {s j:Nat} {r:Nat→RR} (h:di d l s j=(r,0)):di d l s (j+1)=if (fh (r (l.getD j dO).1.toNat) d (l.getD j dO).2).2≠0 then (r,(fh (r (l.getD j dO).1.toNat) d (l.getD j dO).2).2)
  else (bU r (l.getD j dO).1.toNat (fh (r (l.getD j dO).1.toNat) d (l.getD j dO).2).1,0):=by
 show (if (di d l s j).2≠0 then di d l s j else _)=_;rw [h,if_neg (fun h=>h rfl)]
theorem wJ {m:MD} {p:List Int} {s:Nat} {c:Int} (hs:s < p.length) (h0:∀ i,i < s→(dY m p i).2=0) (h:(dY m p s).2=c) (hc:c≠0):ax m p=([],c):=by
 have e:bF (fun s=>(dY m p s).2) p.length=c:=(dv (f:=fun s=>(dY m p s).2) h0 (by rw [h];exact hc) hs).trans h;unfold ax;rw [e,if_pos hc]
theorem wK {m:MD} {p:List Int} {c:Int} (h0:∀ i,i < p.length→(dY m p i).2=0) (h:(bG p.length p.length 0 (js m p)).2=c) (hc:c≠0):ax m p=([],c):=by
 have e:bF (fun s=>(dY m p s).2) p.length=0:=bE h0;unfold ax;rw [e,if_neg (fun h=>h rfl),h,if_pos hc]
theorem Ck {m:MD} {p:List Int} (h0:∀ i,i < p.length→(dY m p i).2=0) (h:(bG p.length p.length 0 (js m p)).2=0):ax m p=((List.range p.length).map (bG p.length p.length 0 (js m p)).1.V,0):=by
 have e:bF (fun s=>(dY m p s).2) p.length=0:=bE h0;unfold ax;rw [e,if_neg (fun h=>h rfl),h,if_neg (fun h=>h rfl)]
theorem Tryz.MT:(Tryz.prog.info? 150).map (fun i=>(i.zero,i.size,i.bytes))=some (some (.agg #[.slice none 0 0,.bool false,.slice none 0 0,.slice none 0 0]),4,80):=by kernel_rfl
def IY (pa:Option Addr) (pc n xb B:Nat) (z:RR) (a1:Option Addr) (a2:Nat) (a3:Option Addr) (a4:Nat) (CC:Array Value) (j:Nat) (v:Value) (W:World):Prop:=
 match j with
 | 0=>v=.slice pa n pc
 | 1=>v=.int .i64 (n:Nat)
 | 2=>∃ b,v=.slice (some ⟨b,0,none⟩) n n∧B≤b∧af W b CC 25
 | 3=>v=.pointer (some ⟨xb,0,none⟩)
 | 4=>v=.agg #[.bool z.neg,.slice a1 z.num.length a2,.slice a3 z.den.length a4]
 | 5=>∃ b,v=.agg #[.slice (some ⟨b,0,none⟩) n n,.bool z.neg,.slice a1 z.num.length a2,.slice a3 z.den.length a4]∧B≤b∧af W b CC 25
 | 6=>∃ c,v=.pointer (some ⟨c,0,none⟩)∧B≤c∧af W c #[.slice none 0 0,.bool false,.slice none 0 0,.slice none 0 0] 150
 | _=>True
theorem Cl {pa:Option Addr} {pc n xb B:Nat} {z:RR} {a1:Option Addr} {a2:Nat} {a3:Option Addr} {a4:Nat} {CC:Array Value} {j:Nat} {v:Value} {W W':World} (h:IY pa pc n xb B z a1 a2 a3 a4 CC j v W) (xx:Ext W W'):IY pa pc n xb B z a1 a2 a3 a4 CC j v W':=by
 match j,h with
 | 0,h=>exact h
 | 1,h=>exact h
 | 2,⟨b,h0,h1,h2⟩=>exact ⟨b,h0,h1,h2.ext xx⟩
 | 3,h=>exact h
 | 4,h=>exact h
 | 5,⟨b,h0,h1,h2⟩=>exact ⟨b,h0,h1,h2.ext xx⟩
 | 6,⟨c,h0,h1,h2⟩=>exact ⟨c,h0,h1,h2.ext xx⟩
 | _+7,_=>trivial
def I1 (qb b n k B:Nat) (z:RR) (j:Nat) (v:Value) (W:World):Prop:=
 match j with
 | 0=>v=.pointer (some ⟨qb,0,none⟩)
 | 1=>v=.slice (some ⟨b,0,none⟩) n n
 | 2=>v=.int .i64 (k:Nat)
 | 3=>∃ s1 s2 s3 s4,v=.agg #[.bool z.neg,.slice s1 z.num.length s2,.slice s3 z.den.length s4]∧cA B W (.slice s1 z.num.length s2) z.num∧cA B W (.slice s3 z.den.length s4) z.den
 | _=>True
theorem Cm {qb b n k B:Nat} {z:RR} {j:Nat} {v:Value} {W W':World} (h:I1 qb b n k B z j v W) (xx:Ext W W'):I1 qb b n k B z j v W':=by
 match j,h with
 | 0,h=>exact h
 | 1,h=>exact h
 | 2,h=>exact h
 | 3,⟨s1,s2,s3,s4,h0,h1,h2⟩=>exact ⟨s1,s2,s3,s4,h0,h1.ext xx,h2.ext xx⟩
 | _+4,_=>trivial
def Cn (qb b n ob tn An:Nat) (x f y:RR) (r q:RR × Int) (B:Nat) (j:Nat) (v:Value) (W:World):Prop:=
 match j with
 | 0=>v=.pointer (some ⟨qb,0,none⟩)
 | 1=>v=.slice (some ⟨b,0,none⟩) n n
 | 2=>v=.pointer (some ⟨ob,0,none⟩)
 | 3=>v=.int .i64 (tn:Nat)
 | 4=>v=.pointer (some ⟨qb,0,none⟩)
 | 5=>v=.slice (some ⟨b,0,none⟩) n n
 | 6=>v=.pointer (some ⟨ob,0,none⟩)
 | 7=>v=.int .i64 (tn:Nat)
 | 8=>v=.pointer (some ⟨b,tn*3,none⟩)
 | 9=>∃ s1 s2 s3 s4,v=.agg #[.bool x.neg,.slice s1 x.num.length s2,.slice s3 x.den.length s4]∧aX W (.agg #[.bool x.neg,.slice s1 x.num.length s2,.slice s3 x.den.length s4]) x
 | 10=>v=.pointer (some ⟨An,0,none⟩)
 | 11=>∃ s1 s2 s3 s4,v=.agg #[.bool f.neg,.slice s1 f.num.length s2,.slice s3 f.den.length s4]∧aX W (.agg #[.bool f.neg,.slice s1 f.num.length s2,.slice s3 f.den.length s4]) f
 | 12=>v=.pointer (some ⟨ob,1,none⟩)
 | 13=>∃ s1 s2 s3 s4,v=.agg #[.bool y.neg,.slice s1 y.num.length s2,.slice s3 y.den.length s4]∧aX W (.agg #[.bool y.neg,.slice s1 y.num.length s2,.slice s3 y.den.length s4]) y
 | 14=>∃ s1 s2 s3 s4,v=.tuple #[.agg #[.bool r.1.neg,.slice s1 r.1.num.length s2,.slice s3 r.1.den.length s4],.int .i64 r.2]∧aX W (.agg #[.bool r.1.neg,.slice s1 r.1.num.length s2,.slice s3 r.1.den.length s4]) r.1
 | 15=>∃ s1 s2 s3 s4,v=.agg #[.bool r.1.neg,.slice s1 r.1.num.length s2,.slice s3 r.1.den.length s4]∧aX W (.agg #[.bool r.1.neg,.slice s1 r.1.num.length s2,.slice s3 r.1.den.length s4]) r.1
 | 16=>v=.int .i64 r.2
 | 17=>r.2=0∧∃ s1 s2 s3 s4,v=.agg #[.bool r.1.neg,.slice s1 r.1.num.length s2,.slice s3 r.1.den.length s4]∧aX W (.agg #[.bool r.1.neg,.slice s1 r.1.num.length s2,.slice s3 r.1.den.length s4]) r.1
 | 18=>r.2=0∧∃ s1 s2 s3 s4,v=.tuple #[.agg #[.bool q.1.neg,.slice s1 q.1.num.length s2,.slice s3 q.1.den.length s4],.int .i64 q.2]∧cA B W (.slice s1 q.1.num.length s2) q.1.num∧cA B W (.slice s3 q.1.den.length s4) q.1.den
 | 19=>r.2=0∧∃ s1 s2 s3 s4,v=.agg #[.bool q.1.neg,.slice s1 q.1.num.length s2,.slice s3 q.1.den.length s4]∧cA B W (.slice s1 q.1.num.length s2) q.1.num∧cA B W (.slice s3 q.1.den.length s4) q.1.den
 | 20=>v=.int .i64 q.2
 | 21=>q.2=0∧∃ s1 s2 s3 s4,v=.agg #[.bool q.1.neg,.slice s1 q.1.num.length s2,.slice s3 q.1.den.length s4]∧cA B W (.slice s1 q.1.num.length s2) q.1.num∧cA B W (.slice s3 q.1.den.length s4) q.1.den
 | _=>True
theorem zF {qb b n ob tn An:Nat} {x f y:RR} {r q:RR × Int} {B:Nat} {j:Nat} {v:Value} {W W':World} (h:Cn qb b n ob tn An x f y r q B j v W) (xx:Ext W W'):Cn qb b n ob tn An x f y r q B j v W':=by
 match j,h with
 | 0,h=>exact h
 | 1,h=>exact h
 | 2,h=>exact h
 | 3,h=>exact h
 | 4,h=>exact h
 | 5,h=>exact h
 | 6,h=>exact h
 | 7,h=>exact h
 | 8,h=>exact h
 | 9,⟨s1,s2,s3,s4,h1,h2⟩=>exact ⟨s1,s2,s3,s4,h1,h2.ext xx⟩
 | 10,h=>exact h
 | 11,⟨s1,s2,s3,s4,h1,h2⟩=>exact ⟨s1,s2,s3,s4,h1,h2.ext xx⟩
 | 12,h=>exact h
 | 13,⟨s1,s2,s3,s4,h1,h2⟩=>exact ⟨s1,s2,s3,s4,h1,h2.ext xx⟩
 | 14,⟨s1,s2,s3,s4,h0,h1⟩=>exact ⟨s1,s2,s3,s4,h0,h1.ext xx⟩
 | 15,⟨s1,s2,s3,s4,h0,h1⟩=>exact ⟨s1,s2,s3,s4,h0,h1.ext xx⟩
 | 16,h=>exact h
 | 17,⟨h9,s1,s2,s3,s4,h0,h1⟩=>exact ⟨h9,s1,s2,s3,s4,h0,h1.ext xx⟩
 | 18,⟨h9,s1,s2,s3,s4,h0,h1,h2⟩=>exact ⟨h9,s1,s2,s3,s4,h0,h1.ext xx,h2.ext xx⟩
 | 19,⟨h9,s1,s2,s3,s4,h0,h1,h2⟩=>exact ⟨h9,s1,s2,s3,s4,h0,h1.ext xx,h2.ext xx⟩
 | 20,h=>exact h
 | 21,⟨h9,s1,s2,s3,s4,h0,h1,h2⟩=>exact ⟨h9,s1,s2,s3,s4,h0,h1.ext xx,h2.ext xx⟩
 | _+22,_=>trivial
theorem pj (mv pv:Value) (m:MD) (p:List Int) (w:World) (hm:eK w mv m) (hp:aV .i64 w pv p) (hlm:iO m) (hmd:ew m=0) (hcp:kD m p=0) :
  Calls Tryz.prog 92 #[mv,pv] w fun e w'=>gV w.heap.size w' e (ax m p).2 (ax m p).1∧Ext w w':=by
 have HM:=kI hm;have HP:=kI hp;have wg:=kI hlm;have lu:=kI hmd;have hcp2:=ES (m:=m) (p:=p) hcp;have uC:=(bu hmd).2.2.1;have hn0:0 < p.length:=by rw [hcp2.1];exact Nat.pos_of_ne_zero (bu hmd).2.1
 have I2:=kI hcp2.1;have I3:=kI hcp2.2;have Y0:=kI hn0;obtain ⟨n,hn⟩:=gN (p.length);have hn2:n≤200:=by rw [hn,hcp2.1];exact uC
 have HN:=kI hn;have vU:=kI hn2;obtain ⟨m1,n1,m2,n2,m3,n3,rfl,hd,hs⟩:=hm;have HD:=kI hd;have HS:=kI hs;obtain ⟨pa,pc,rfl,hpc,hpm,-⟩:=hp.get;rw [← hn];clear hp hlm hmd hcp hcp2 uC hn0 hd hs hpc hpm hn;have HBAD:=kI (fun (W:World) (c:Int) (hc:c≠0) (h:(ax m p).2=c) (hx:Ext w W)=>(show gV w.heap.size W (.panicked [aY c]) (ax m p).2 (ax m p).1∧Ext w W from ⟨gV.bad hc h,hx⟩));have bb0:=((af.new w #[.bool m.ag.neg,.slice m1 m.ag.num.length n1,.slice m2 m.ag.den.length n2,.slice m3 m.states.length n3] 28).alloc (.cells #[.slice none 0 0] 147));have bb1:=(af.new (w.alloc (.cells #[.bool m.ag.neg,.slice m1 m.ag.num.length n1,.slice m2 m.ag.den.length n2,.slice m3 m.states.length n3] 28)) #[.slice none 0 0] 147);rw [World.size_alloc] at bb1;have x0:Ext w ((w.alloc (.cells #[.bool m.ag.neg,.slice m1 m.ag.num.length n1,.slice m2 m.ag.den.length n2,.slice m3 m.states.length n3] 28)).alloc (.cells #[.slice none 0 0] 147)):=(((Ext.refl w).alloc _).alloc _);have A0:=kI bb0;have A1:=kI bb1;have X:=kI x0;clear x0 bb0 bb1;have MU:=HP;have Qj:=HS;have HD0:=HD;replace HM:=kI (HM.o.ext X.o);replace HP:=kI (HP.o.ext X.o);replace HD:=kI (HD.o.ext X.o);replace HS:=kI (HS.o.ext X.o);go_enter Tryz.func92,Tryz.ntmps92
 obtain ⟨aE,fA0,aC⟩:=A0.o.q3;obtain ⟨aQ,aR,lA1⟩:=A1.o.q3;go_wp2_with fail;clear aE fA0 aC aQ aR lA1;obtain ⟨w1,hw1⟩:=gN (((w.alloc (.cells #[.bool m.ag.neg,.slice m1 m.ag.num.length n1,.slice m2 m.ag.den.length n2,.slice m3 m.states.length n3] 28)).alloc (.cells #[.slice none 0 0] 147)));rw [← hw1] at HM HP HD HS A0 A1 X ⊢;clear hw1;obtain ⟨An,hAn⟩:=gN (w.heap.size);rw [← hAn] at A0 A1 ⊢;have Ki:=kI hAn;clear hAn;go_loopw [16] (fun i wr=>∃ (k:Nat) (bs:Nat→Nat) (v:Value),k≤n∧i=.int .i64 (k:Nat)∧(∀ s,s < k→(dY m p s).2=0)∧af wr An #[.bool m.ag.neg,.slice m1 m.ag.num.length n1,.slice m2 m.ag.den.length n2,.slice m3 m.states.length n3] 28∧af wr (An+1) #[v] 147∧Dj m p n w.heap.size wr v k bs∧(∀ s,s < k→w.heap.size≤bs s∧bs s < wr.heap.size)∧(∀ s t,s < k→t < k→bs s=bs t→s=t)∧Ext w wr) (fun i _=>n - (intOf i).toNat)
 case atStart=>exact ⟨0,fun _=>0,.slice none 0 0,Nat.zero_le _,rfl,fun s h=>by omega,A0.o,A1.o,ay.nil _ _ _ _ _,fun s h=>by omega,fun s t h=>by omega,X.o⟩
 case round=>
  obtain ⟨wi,hwi⟩:=gN (wr);subst hwi;obtain ⟨k,bs,lv,hk,rfl,hz,ha0,ha1,hq,hbs,hinj,hx⟩:=hrel;obtain ⟨la,MW,rfl,-,-,-⟩:=ay.vi hq;have ZI:=kI hz;have Ky:=kI ha0;have UQ:=kI ha1;have QI:=kI hq;have KD:=kI hbs;have US:=kI hinj;have XI:=kI hx;clear hz ha0 ha1 hq hbs hinj hx;by_cases hlt:k < n
  ·have dQ:=kI hlt;have hkn:k < m.states.length:=by rw [← I2.o,← HN.o];exact hlt
   obtain ⟨pb,po,rfl,g0,g1⟩:=xS (MU.o.ext XI.o) (i:=k) (by rw [← HN.o];exact hlt);obtain ⟨hv0,hv1⟩:=I3.o k hkn;obtain ⟨an,han⟩:∃ n:Nat,p.getD k 0=(n:Int):=⟨(p.getD k 0).toNat,by omega⟩;rw [han] at g1 hv1;obtain ⟨sb,so,ai,ci,rfl,RV,UT,s2⟩:=Qj.o.at hkn;have s0:=Nat.lt_of_lt_of_le RV XI.o.size;have s1:=(XI.o.cell (p:=⟨sb,so+k,none⟩) RV).trans UT;clear RV UT;have I4:an < (m.states.getD k []).length:=by omega
   have RW:(m.states.getD k []).length≤6:=(gd ((bu lu.o).2.2.2 k hkn)).2.1;obtain ⟨ab,ao,c1,c2,c3,c4,c5,c6,rfl,na,UU,v4⟩:=s2.at I4;obtain ⟨w0,w1',w2',w3',Gx⟩:=na;have v0:=Nat.lt_of_lt_of_le w0 XI.o.size;have v1:=(XI.o.cell (p:=⟨ab,ao+an*4,none⟩) w0).trans w1';have v2:=(XI.o.cell (p:=⟨ab,ao+an*4+1,none⟩) w0).trans w2';have v3:=(XI.o.cell (p:=⟨ab,ao+an*4+2,none⟩) w0).trans w3';have v30:=(XI.o.cell (p:=⟨ab,ao+an*4+3,none⟩) w0).trans UU;clear w0 w1' w2' w3' UU;have hact:(m.states.getD k []).getD an dA=bl m p k:=by unfold bl;rw [han,Int.toNat_natCast];rfl
   have hav:=mt lu.o hkn I4;rw [show m.act k an=bl m p k by unfold bl;rw [han,Int.toNat_natCast]] at hav;rw [hact] at v1 v2 v3 v30 v4 Gx;obtain ⟨al,hal⟩:=gN ((m.states.getD k []).length);rw [← hal] at s1 RW I4;obtain ⟨z,hz⟩:=gN ((bl m p k).cost);obtain ⟨os,hos⟩:=gN ((bl m p k).next);rw [← hz] at v1 v2 v3 Gx;rw [← hos] at v30 v4;have HZ:=kI hz;have xU:=kI hos;have UV:=kI hav;have Y1:=kI Gx;have Y2:=kI v4;have q1:(k:Int) < (n:Int):=by omega
   have q2:(0:Int)≤(k:Int):=by omega
   have q3:(k:Int) < (m.states.length:Int):=by omega
   have q4:(0:Int)≤(an:Int):=by omega
   have q5:(an:Int) < (al:Int):=by omega
   have Y3:=Ky.o.cell;have Y4:=Ky.o.lt;clear s2 v4 Gx hact hav hal hz hos hv0 hv1 han;go_wp2_with fail;clear Y3 Y4 g0 g1 s0 s1 v0 v1 v2 v3 v30 q3 q4 q5;have bx0:=af.new wi #[.bool z.neg,.slice c1 z.num.length c2,.slice c3 z.den.length c4,.slice c5 os.length c6] 83;have hx:Ext wi (wi.alloc (.cells #[.bool z.neg,.slice c1 z.num.length c2,.slice c3 z.den.length c4,.slice c5 os.length c6] 83)):=(Ext.refl _).alloc _;obtain ⟨xb,hxb⟩:=gN (wi.heap.size);obtain ⟨w2,hw2⟩:=gN (wi.alloc (.cells #[.bool z.neg,.slice c1 z.num.length c2,.slice c3 z.den.length c4,.slice c5 os.length c6] 83));rw [← hxb,← hw2] at bx0;rw [← hw2] at hx;rw [← hxb,← hw2];have BX:=kI bx0;have X2:=kI hx;clear bx0 hx hxb hw2;obtain ⟨CC,vX⟩:=gN (madeCells #[Value.bool false,.slice none 0 0,.slice none 0 0] (n*3));have nL:=kI vX;clear vX;have AT:=vU.o;have X:=kI (Ext.refl w2);refine aD 7 (IY (some ⟨pb,po,none⟩) pc n xb w2.heap.size z c1 c2 c3 c4 CC) (by kernel_rfl) (by kernel_rfl) (by kernel_rfl) (fun _ _ _ _ h x=>Cl h x) ?_ ?_
   ·refine ⟨?_,?_,?_,?_,?_,?_,?_,trivial⟩
    ·intro a W hW Z hB hD K hK;have aJ:=kI Z;clear Z;have b1:=hB 1 rfl;simp only [sB] at b1;go_simp;exact hK _ _ (Ext.refl _) rfl
    ·intro a W hW Z hB hD K hK;have aJ:=kI Z;clear Z;obtain ⟨v29,e29,BT⟩:=az (hD 0 _ 29 rfl rfl (by kernel_rfl));obtain rfl:=BT;go_simp;exact hK _ _ (Ext.refl _) rfl
    ·intro a W hW Z hB hD K hK;have aJ:=kI Z;clear Z;obtain ⟨v30,e30,h30⟩:=az (hD 1 _ 30 rfl rfl (by kernel_rfl));obtain rfl:=h30;have hr:=oL W n Tryz.underlying148 Tryz.fU (by omega) (by omega);simp only [show (Value.agg #[.bool false,.slice none 0 0,.slice none 0 0]).cells=#[.bool false,.slice none 0 0,.slice none 0 0] from rfl] at hr;rw [← nL.o] at hr;go_simp;(try simp only [hr,Result.andThen]);exact hK _ _ ((Ext.refl _).alloc _) ⟨_,rfl,hW.size,af.new _ _ _⟩
    ·intro a W hW Z hB hD K hK;have aJ:=kI Z;clear Z;have b8:=hB 8 rfl;simp only [sB] at b8;go_simp;exact hK _ _ (Ext.refl _) rfl
    ·intro a W hW Z hB hD K hK;have aJ:=kI Z;clear Z;obtain ⟨v32,e32,h32⟩:=az (hD 3 _ 32 rfl rfl (by kernel_rfl));obtain rfl:=h32;have q9:=(BX.o.ext hW).cell;have l9:=(BX.o.ext hW).lt;go_simp;exact hK _ _ (Ext.refl _) rfl
    ·intro a W hW Z hB hD K hK;have aJ:=kI Z;clear Z;obtain ⟨v31,e31,h31⟩:=az (hD 2 _ 31 rfl rfl (by kernel_rfl));obtain ⟨b9,rfl,hb1,hb2⟩:=h31;obtain ⟨v33,e33,Fb⟩:=az (hD 4 _ 33 rfl rfl (by kernel_rfl));obtain rfl:=Fb;go_simp;exact hK _ _ (Ext.refl _) ⟨_,rfl,hb1,hb2⟩
    ·intro a W hW Z hB hD K hK;have aJ:=kI Z;clear Z;go_simp;exact hK _ _ ((Ext.refl _).alloc _) ⟨_,rfl,hW.size,af.new _ _ _⟩
   intro w3 hx;simp only [cX,List.take_succ_cons,List.take_zero,List.drop_succ_cons,List.drop_zero];rintro u0 - u1 - u2 - u3 - u4 - u5 h5 u6 h6;obtain ⟨b,rfl,hb,RB⟩:=h5;obtain ⟨qb,rfl,UW,QB⟩:=h6;simp only [Act.put,List.setIfInBounds_toArray,List.set_cons_zero,List.set_cons_succ];have x0:=QB.cell;have x1':=QB.free;have x2':=QB.lt;go_wp2_with fail;clear x0 x1' x2';obtain ⟨w4,hw4⟩:=gN ((((w3.setCell ⟨qb,0,none⟩ (.slice (some ⟨b,0,none⟩) n n)).setCell ⟨qb,1,none⟩ (.bool z.neg)).setCell ⟨qb,2,none⟩ (.slice c1 z.num.length c2)).setCell ⟨qb,3,none⟩ (.slice c3 z.den.length c4));have hbq:b≠qb:=RB.ne QB (by decide);have hqq:af w4 qb #[.slice (some ⟨b,0,none⟩) n n,.bool z.neg,.slice c1 z.num.length c2,.slice c3 z.den.length c4] 150:=by rw [hw4];exact (((QB.set 0 _).set 1 _).set 2 _).set 3 _
   have hrb:af w4 b CC 25:=by
    rw [hw4];exact (((RB.setOther (a:=⟨qb,0,none⟩) hbq _).setOther (a:=⟨qb,1,none⟩) hbq _).setOther (a:=⟨qb,2,none⟩) hbq _).setOther (a:=⟨qb,3,none⟩) hbq _
   have hx4:Ext w2 w4:=by rw [hw4];exact Below.setCell (Below.setCell (Below.setCell (Below.setCell hx (by dsimp only;omega) _) (by dsimp only;omega) _) (by dsimp only;omega) _) (by dsimp only;omega) _
   have hfr:fH w4 w.heap.size b n (fun _=>zR):=by rw [nL.o] at hrb;exact fH.new hrb
   rw [← hw4];have QQ:=kI hqq;have FR:=kI hfr;have X4:=kI (X2.o.trans hx4);have UX:=kI (BX.o.ext hx4);have BW:Hid (wi.heap.size≤b):=kI (Nat.le_trans X2.o.size hb);have QW:Hid (wi.heap.size≤qb∧b≠qb):=kI ⟨Nat.le_trans X2.o.size UW,hbq⟩;clear hw4 hbq hqq hrb hx4 hfr RB QB hb UW hx;go_wp2_with fail;replace X:=kI (Ext.refl w4);refine aD 4 (I1 qb b n k w.heap.size (rep ((1:Int):Rat))) (by kernel_rfl) (by kernel_rfl) (by kernel_rfl) (fun _ _ _ _ h x=>Cm h x) ?_ ?_
   ·refine ⟨?_,?_,?_,?_,trivial⟩
    ·intro a W hW Z hB hD K hK;have aJ:=kI Z;clear Z;have b9:=hB 9 rfl;simp only [sB] at b9;go_simp;exact hK _ _ (Ext.refl _) rfl
    ·intro a W hW Z hB hD K hK;have aJ:=kI Z;clear Z;obtain ⟨v35,e35,h35⟩:=az (hD 0 _ 35 rfl rfl (by kernel_rfl));obtain rfl:=h35;have q9:=(QQ.o.ext hW).cell;have l9:=(QQ.o.ext hW).lt;go_simp;exact hK _ _ (Ext.refl _) rfl
    ·intro a W hW Z hB hD K hK;have aJ:=kI Z;clear Z;have b6:=hB 6 rfl;simp only [sB] at b6;go_simp;exact hK _ _ (Ext.refl _) rfl
    ·intro a W hW Z hB hD K hK;have aJ:=kI Z;clear Z;go_simp;refine (eI 1 W (by decide) (by decide)).mono ?_;rintro e w9 ⟨⟨v,rfl,nn⟩,hx⟩;obtain ⟨t1,t2,t3,t4,rfl⟩:=nn.shape;obtain ⟨hs1,hs2⟩:=nn.sf (B:=w.heap.size) (Nat.le_trans XI.o.size (Nat.le_trans X4.o.size hW.size));exact hK _ _ hx ⟨_,_,_,_,rfl,hs1,hs2⟩
   intro w5 hx;simp only [cX,List.take_succ_cons,List.take_zero,List.drop_succ_cons,List.drop_zero];rintro u0 - u1 h1 u2 h2 u3 h3;obtain rfl:=h1;obtain rfl:=h2;obtain ⟨r1,r2,r3,r4,rfl,S1,S2⟩:=h3;simp only [Act.put,List.setIfInBounds_toArray,List.set_cons_zero,List.set_cons_succ];obtain ⟨one,hone⟩:=gN (rep ((1:Int):Rat));rw [← hone] at S1 S2 ⊢;have Fc:=kI hone;replace S1:=kI S1;replace S2:=kI S2;have I5:=kI (FR.o.ext hx);have UY:=kI (QQ.o.ext hx);have X5:=kI (X4.o.trans hx);have Ow:=kI (UX.o.ext hx);clear hone hx;obtain ⟨g1,g2,g3,g4,Kr,Ks,Kt,-⟩:=I5.o.at (j:=k) dQ.o;have f0:=I5.o.free;have fl:=I5.o.lt;have bx0:=Ow.o.cell;have bx1:=Ow.o.lt;obtain ⟨Y7,hrc,-,-⟩:=id I5.o;have hxn:xb≠b:=Ow.o.ne hrc (by decide);have RZ:=Ne.symm hxn;clear hrc;go_wp2_with fail;clear Kr Ks Kt f0 fl bx0 bx1 hxn RZ;obtain ⟨w6,hw6⟩:=gN (((w5.setCell ⟨b,k*3,none⟩ (.bool one.neg)).setCell ⟨b,k*3+1,none⟩ (.slice r1 one.num.length r2)).setCell ⟨b,k*3+2,none⟩ (.slice r3 one.den.length r4));have hfr:fH w6 w.heap.size b n (di m.ag os k 0).1:=by
    have h:=I5.o.set (a:=k) (r:=one) dQ.o S1.o S2.o;rw [← hw6] at h;refine h.congr (fun i hi=>?_);show (if i=k then one else zR)=bU (fun _=>zR) k (rep ((1:Int):Rat)) i;rw [← Fc.o];rfl
   have hko:fg b w5 w6:=by rw [hw6];exact (((fg.ext (Ext.refl _)).set _ _).set _ _).set _ _
   have hno:=I5.o.Rj;have hqq:af w6 qb #[.slice (some ⟨b,0,none⟩) n n,.bool z.neg,.slice c1 z.num.length c2,.slice c3 z.den.length c4] 150:=hko.blk UY.o (Ne.symm QW.o.2);have hbw:w.heap.size≤b:=Nat.le_trans XI.o.size BW.o;have hxw:Ext w w6:=Below.trans (XI.o.trans X5.o) ((gm.of (X:=fun i=>i=b) hko rfl).below (XI.o.trans X5.o).size (fun i e=>by rw [e];exact hbw));have MX:fg b wi w6:=(fg.ext X5.o).trans hko;rw [← hw6];have Y8:=kI hfr;have UZ:=kI hqq;have U0:=kI hxw;have K6:=kI MX;have Oo:=kI hbw;clear hw6 hfr hko hno hqq hbw hxw MX S1 S2 Fc UY I5 QQ FR X4 X2 UX Ow BX X;have hol:=(eL UV.o).2.2.1;rw [← xU.o] at hol;have HOL:=kI hol;go_loopw [43] (fun i wr=>∃ (i2:Nat) (r:Nat→RR),i2≤os.length∧i=.int .i64 (i2:Nat)∧di m.ag os k i2=(r,0)∧fH wr w.heap.size b n r∧fg b w6 wr) (fun i _=>os.length - (intOf i).toNat)
   case atStart=>exact ⟨0,_,Nat.zero_le _,rfl,rfl,Y8.o,fg.ext (Ext.refl _)⟩
   case round=>
    obtain ⟨wj,Bg⟩:=gN (wr);subst Bg;obtain ⟨i,r,hi,rfl,hr,hf,hkp⟩:=hrel;have RK:=kI hr;have FJ:=kI hf;have KJ:=kI hkp;have XJ:Hid (Ext w wj):=kI (Below.trans U0.o ((gm.of (X:=fun i=>i=b) hkp rfl).below U0.o.size (fun i e=>by rw [e];exact Oo.o)));clear hr hf hkp;by_cases hil:i < os.length
    ·have U1:=kI hil;obtain ⟨ob,oo,o1,o2,o3,o4,rfl,v0,v1,v2,v3,v4,v5⟩:=(Y2.o.ext XJ.o).at hil;have hov:=sG (eL UV.o).2.2.2.1 (os.getD i dO) (by rw [xU.o,List.getD_eq_getElem?_getD,List.getElem?_eq_getElem (by rw [← xU.o];exact hil)];exact List.getElem_mem _);have hlo:au (os.getD i dO).2:=by rw [xU.o];exact (wg.o.2 k _).2 i
     have hst:=zE RK.o;obtain ⟨O,hO⟩:=gN (os.getD i dO);rw [← hO] at v1 v2 v3 v4 v5 hov hlo hst;obtain ⟨ot,op⟩:=O;dsimp only at v1 v2 v3 v4 v5 hov hlo hst;obtain ⟨tn,rfl⟩:∃ n:Nat,ot=(n:Int):=⟨ot.toNat,by omega⟩;rw [Int.toNat_natCast] at hst;have htn:tn < n:=by rw [HN.o,I2.o];omega
     have HST:=kI hst;have U2:=kI htn;have EF:=kI hlo;have V5:=kI v5;have q3:(0:Int)≤(i:Int):=by omega
     have q4:(i:Int) < (os.length:Int):=by omega
     have q5:(i:Int) < 64:=by omega
     have q6:(tn:Int) < (n:Int):=by omega
     have q7:(0:Int)≤(tn:Int):=by omega
     clear hov hlo hst hO v5;go_wp2_with fail;clear v0 v1 v2 v3 v4;have R0:=af.new wj #[.int .i64 (tn:Nat),.bool op.neg,.slice o1 op.num.length o2,.slice o3 op.den.length o4] 80;have hx:Ext wj (wj.alloc (.cells #[.int .i64 (tn:Nat),.bool op.neg,.slice o1 op.num.length o2,.slice o3 op.den.length o4] 80)):=(Ext.refl _).alloc _;obtain ⟨Y9,I6⟩:=gN (wj.heap.size);obtain ⟨wo,hwo⟩:=gN (wj.alloc (.cells #[.int .i64 (tn:Nat),.bool op.neg,.slice o1 op.num.length o2,.slice o3 op.den.length o4] 80));rw [← I6,← hwo] at R0;rw [← hwo] at hx;rw [← I6,← hwo];have BO:=kI R0;have XO:=kI (XJ.o.trans hx);have FO:=kI (FJ.o.ext hx);have Za:=kI (V5.o.ext hx);have Zb:=kI hx;have QO:Hid (af wo qb #[.slice (some ⟨b,0,none⟩) n n,.bool z.neg,.slice c1 z.num.length c2,.slice c3 z.den.length c4] 150):=kI ((KJ.o.blk UZ.o (Ne.symm QW.o.2)).ext hx);have U3:Hid (af wo An #[.bool m.ag.neg,.slice m1 m.ag.num.length n1,.slice m2 m.ag.den.length n2,.slice (some ⟨sb,so,none⟩) m.states.length n3] 28):=kI ((KJ.o.blk (K6.o.blk Ky.o (by have:=Ky.o.lt;have:=BW.o;omega)) (by have:=Ky.o.lt;have:=BW.o;omega)).ext hx);have DO:Hid (aX wo (.agg #[.bool m.ag.neg,.slice m1 m.ag.num.length n1,.slice m2 m.ag.den.length n2]) m.ag):=kI (HD0.o.ext XO.o);obtain ⟨x1,x2,x3,x4,x00,x01,IE,EX⟩:=FO.o.at (j:=tn) U2.o;have hxl:au (r tn):=by have:=jw m.ag os k i tn;rw [RK.o] at this;exact this
     obtain ⟨x,hxx⟩:=gN (r tn);rw [← hxx] at x00 x01 IE EX hxl;have XS:Hid (b < wo.heap.size∧wo.cell? ⟨b,tn*3,none⟩=some (.bool x.neg)∧wo.cell? ⟨b,tn*3+1,none⟩=some (.slice x1 x.num.length x2)∧wo.cell? ⟨b,tn*3+2,none⟩=some (.slice x3 x.den.length x4)∧aX wo (.agg #[.bool x.neg,.slice x1 x.num.length x2,.slice x3 x.den.length x4]) x):=kI ⟨FO.o.lt,x00,x01,IE,EX⟩;have AB:=kI hxx;have EU:=kI hxl;obtain ⟨R,hR⟩:=gN (mulR m.ag op);have hml:au R.1:=by rw [hR];exact fW _ _
     have HR:=kI hR;have Io:=kI hml;have Di:Hid (∀ (c:Int) (W:World),c≠0→(fh x m.ag op).2=c→Ext wo W→gV w.heap.size W (.panicked [aY c]) (ax m p).2 (ax m p).1∧Ext w W):=kI (fun c W hc h hxw=>HBAD.o W c hc (by
      have e1:(di m.ag os k (i+1)).2=c:=by rw [HST.o,← AB.o,if_pos (by rw [h];exact hc)];exact h
      have e2:(dY m p k).2=c:=by unfold dY;rw [← xU.o];exact uB e1 hc U1.o
      rw [wJ (by rw [← HN.o];exact dQ.o) ZI.o e2 hc]) (XO.o.trans hxw))
     clear R0 hx I6 hwo x00 x01 IE EX hxx hxl hR hml;have X:=kI (Ext.refl wo);refine aD 22 (Cn qb b n Y9 tn An x m.ag op R (bR x R.1) w.heap.size) (by kernel_rfl) (by kernel_rfl) (by kernel_rfl) (fun _ _ _ _ h x=>zF h x) ?_ ?_
     ·refine ⟨?_,?_,?_,?_,?_,?_,?_,?_,?_,?_,?_,?_,?_,?_,?_,?_,?_,?_,?_,?_,?_,?_,trivial⟩
      ·intro a W hW Z hB hD K hK;have aJ:=kI Z;clear Z;have b9:=hB 9 rfl;simp only [sB] at b9;go_simp;exact hK _ _ (Ext.refl _) rfl
      ·intro a W hW Z hB hD K hK;have aJ:=kI Z;clear Z;obtain ⟨v47,e47,h47⟩:=az (hD 0 _ 47 rfl rfl (by kernel_rfl));obtain rfl:=h47;have q9:=(QO.o.ext hW).cell;have l9:=(QO.o.ext hW).lt;go_simp;exact hK _ _ (Ext.refl _) rfl
      ·intro a W hW Z hB hD K hK;have aJ:=kI Z;clear Z;have b11:=hB 11 rfl;simp only [sB] at b11;go_simp;exact hK _ _ (Ext.refl _) rfl
      ·intro a W hW Z hB hD K hK;have aJ:=kI Z;clear Z;obtain ⟨v49,e49,Zc⟩:=az (hD 2 _ 49 rfl rfl (by kernel_rfl));obtain rfl:=Zc;have q9:=(BO.o.ext hW).cell;have l9:=(BO.o.ext hW).lt;go_simp;exact hK _ _ (Ext.refl _) rfl
      ·intro a W hW Z hB hD K hK;have aJ:=kI Z;clear Z;have b9:=hB 9 rfl;simp only [sB] at b9;go_simp;exact hK _ _ (Ext.refl _) rfl
      ·intro a W hW Z hB hD K hK;have aJ:=kI Z;clear Z;obtain ⟨v51,e51,Sa⟩:=az (hD 4 _ 51 rfl rfl (by kernel_rfl));obtain rfl:=Sa;have q9:=(QO.o.ext hW).cell;have l9:=(QO.o.ext hW).lt;go_simp;exact hK _ _ (Ext.refl _) rfl
      ·intro a W hW Z hB hD K hK;have aJ:=kI Z;clear Z;have b11:=hB 11 rfl;simp only [sB] at b11;go_simp;exact hK _ _ (Ext.refl _) rfl
      ·intro a W hW Z hB hD K hK;have aJ:=kI Z;clear Z;obtain ⟨v53,e53,Sb⟩:=az (hD 6 _ 53 rfl rfl (by kernel_rfl));obtain rfl:=Sb;have q9:=(BO.o.ext hW).cell;have l9:=(BO.o.ext hW).lt;go_simp;exact hK _ _ (Ext.refl _) rfl
      ·intro a W hW Z hB hD K hK;have aJ:=kI Z;clear Z;obtain ⟨v52,e52,Sc⟩:=az (hD 5 _ 52 rfl rfl (by kernel_rfl));obtain rfl:=Sc;obtain ⟨v54,e54,Sd⟩:=az (hD 7 _ 54 rfl rfl (by kernel_rfl));obtain rfl:=Sd;go_simp;exact hK _ _ (Ext.refl _) rfl
      ·intro a W hW Z hB hD K hK;have aJ:=kI Z;clear Z;obtain ⟨v55,e55,Se⟩:=az (hD 8 _ 55 rfl rfl (by kernel_rfl));obtain rfl:=Se;have m0:=(hW.cell (p:=⟨b,tn*3,none⟩) XS.o.1).trans XS.o.2.1;have m1:=(hW.cell (p:=⟨b,tn*3+1,none⟩) XS.o.1).trans XS.o.2.2.1;have m2:=(hW.cell (p:=⟨b,tn*3+2,none⟩) XS.o.1).trans XS.o.2.2.2.1;have ml:=Nat.lt_of_lt_of_le XS.o.1 hW.size;go_simp;exact hK _ _ (Ext.refl _) ⟨_,_,_,_,rfl,XS.o.2.2.2.2.ext hW⟩
      ·intro a W hW Z hB hD K hK;have aJ:=kI Z;clear Z;have b2:=hB 2 rfl;simp only [sB] at b2;go_simp;exact hK _ _ (Ext.refl _) rfl
      ·intro a W hW Z hB hD K hK;have aJ:=kI Z;clear Z;obtain ⟨v57,e57,h57⟩:=az (hD 10 _ 57 rfl rfl (by kernel_rfl));obtain rfl:=h57;have q9:=(U3.o.ext hW).cell;have l9:=(U3.o.ext hW).lt;go_simp;exact hK _ _ (Ext.refl _) ⟨_,_,_,_,rfl,DO.o.ext hW⟩
      ·intro a W hW Z hB hD K hK;have aJ:=kI Z;clear Z;have b11:=hB 11 rfl;simp only [sB] at b11;go_simp;exact hK _ _ (Ext.refl _) rfl
      ·intro a W hW Z hB hD K hK;have aJ:=kI Z;clear Z;obtain ⟨v59,e59,Zd⟩:=az (hD 12 _ 59 rfl rfl (by kernel_rfl));obtain rfl:=Zd;have q9:=(BO.o.ext hW).cell;have l9:=(BO.o.ext hW).lt;go_simp;exact hK _ _ (Ext.refl _) ⟨_,_,_,_,rfl,Za.o.ext hW⟩
      ·intro a W hW Z hB hD K hK;have aJ:=kI Z;clear Z;obtain ⟨v58,e58,Sf⟩:=az (hD 11 _ 58 rfl rfl (by kernel_rfl));obtain ⟨x91,eZ,x93,fb,rfl,qi⟩:=Sf;obtain ⟨v60,e60,h60⟩:=az (hD 13 _ 60 rfl rfl (by kernel_rfl));obtain ⟨y91,EY,y93,EZ,rfl,qj⟩:=h60;go_simp;have hmu:=fT _ _ m.ag op W qi qj wg.o.1 EF.o;rw [← HR.o] at hmu;refine hmu.mono ?_;rintro e w9 ⟨⟨v,rfl,nn⟩,hx⟩;obtain ⟨t1,t2,t3,t4,rfl⟩:=nn.shape;exact hK _ _ hx ⟨_,_,_,_,rfl,nn.rd⟩
      ·intro a W hW Z hB hD K hK;have aJ:=kI Z;clear Z;obtain ⟨v61,e61,MY⟩:=az (hD 14 _ 61 rfl rfl (by kernel_rfl));obtain ⟨x91,eZ,x93,fb,rfl,xq⟩:=MY;go_simp;exact hK _ _ (Ext.refl _) ⟨_,_,_,_,rfl,xq⟩
      ·intro a W hW Z hB hD K hK;have aJ:=kI Z;clear Z;obtain ⟨v61,e61,MY⟩:=az (hD 14 _ 61 rfl rfl (by kernel_rfl));obtain ⟨x91,eZ,x93,fb,rfl,xq⟩:=MY;go_simp;exact hK _ _ (Ext.refl _) rfl
      ·intro a W hW Z hB hD K hK;have aJ:=kI Z;clear Z;obtain ⟨v62,e62,Sg⟩:=az (hD 15 _ 62 rfl rfl (by kernel_rfl));obtain ⟨x91,eZ,x93,fb,rfl,xq⟩:=Sg;obtain ⟨v63,e63,h63⟩:=az (hD 16 _ 63 rfl rfl (by kernel_rfl));obtain rfl:=h63;go_simp;by_cases hpe:R.2=0
       ·rw [hpe];refine (bI _ _ _ _ _ _ _ W).mono ?_;rintro e w9 ⟨rfl,hx⟩;exact hK _ _ hx ⟨hpe,_,_,_,_,rfl,xq.ext hx⟩
       ·refine (bp _ _ _ _ _ _ _ _ rfl hpe W).mono ?_;rintro e w9 ⟨rfl,hx⟩;(try simp +zetaDelta only [Exit.then,Exit.inBlock]);exact aA aJ.o (Di.o _ _ hpe (by rw [nR (c:=R.2) (by rw [HR.o]) hpe]) (hW.trans hx))
      ·intro a W hW Z hB hD K hK;have aJ:=kI Z;clear Z;obtain ⟨v56,e56,Sh⟩:=az (hD 9 _ 56 rfl rfl (by kernel_rfl));obtain ⟨x91,eZ,x93,fb,rfl,qi⟩:=Sh;obtain ⟨v64,e64,h64⟩:=az (hD 17 _ 64 rfl rfl (by kernel_rfl));obtain ⟨hpe,y91,EY,y93,EZ,rfl,qj⟩:=h64;go_simp;refine (gZ _ _ x R.1 W qi qj EU.o Io.o).mono ?_;rintro e w9 ⟨⟨v,rfl,nn⟩,hx⟩;obtain ⟨t1,t2,t3,t4,rfl⟩:=nn.shape;obtain ⟨hs1,hs2⟩:=nn.sf (B:=w.heap.size) (Nat.le_trans XO.o.size hW.size);exact hK _ _ hx ⟨hpe,_,_,_,_,rfl,hs1,hs2⟩
      ·intro a W hW Z hB hD K hK;have aJ:=kI Z;clear Z;obtain ⟨v65,e65,h65⟩:=az (hD 18 _ 65 rfl rfl (by kernel_rfl));obtain ⟨qp,x91,eZ,x93,fb,rfl,xq,xr⟩:=h65;go_simp;exact hK _ _ (Ext.refl _) ⟨qp,_,_,_,_,rfl,xq,xr⟩
      ·intro a W hW Z hB hD K hK;have aJ:=kI Z;clear Z;obtain ⟨v65,e65,h65⟩:=az (hD 18 _ 65 rfl rfl (by kernel_rfl));obtain ⟨qp,x91,eZ,x93,fb,rfl,xq,xr⟩:=h65;go_simp;exact hK _ _ (Ext.refl _) rfl
      ·intro a W hW Z hB hD K hK;have aJ:=kI Z;clear Z;obtain ⟨v66,Yq,RJ⟩:=az (hD 19 _ 66 rfl rfl (by kernel_rfl));obtain ⟨qp,x91,eZ,x93,fb,rfl,xq,xr⟩:=RJ;obtain ⟨v67,UN,MO⟩:=az (hD 20 _ 67 rfl rfl (by kernel_rfl));obtain rfl:=MO;go_simp;obtain ⟨c,hc⟩:=gN ((bR x R.1).2);rw [← hc];by_cases hpe:c=0
       ·subst hpe;refine (bI _ _ _ _ _ _ _ W).mono ?_;rintro e w9 ⟨rfl,hx⟩;exact hK _ _ hx ⟨hc.symm,_,_,_,_,rfl,xq.ext hx,xr.ext hx⟩
       ·refine (bp _ _ _ _ _ _ _ _ rfl hpe W).mono ?_;rintro e w9 ⟨rfl,hx⟩;(try simp +zetaDelta only [Exit.then,Exit.inBlock]);exact aA aJ.o (Di.o _ _ hpe (by rw [jr (p:=R.1) (by rw [← HR.o];exact Prod.ext rfl qp)];exact hc.symm) (hW.trans hx))
     intro w7 hx;simp only [cX,List.take_succ_cons,List.take_zero,List.drop_succ_cons,List.drop_zero];rintro u0 - u1 h1 u2 - u3 h3 u4 - u5 - u6 - u7 - u8 - u9 - u10 - u11 - u12 - u13 - u14 - u15 - u16 - Ot h17 Ou - RF - u20 - u21 h21;obtain rfl:=h1;obtain rfl:=h3;obtain ⟨hp1,-⟩:=h17;obtain ⟨hp2,r1,r2,r3,r4,rfl,S1,S2⟩:=h21;simp only [Act.put,List.setIfInBounds_toArray,List.set_cons_zero,List.set_cons_succ];replace S1:=kI S1;replace S2:=kI S2;have hst:fh x m.ag op=bR x R.1:=jr (by rw [← HR.o];exact Prod.ext rfl hp1);obtain ⟨rr,hrr⟩:=gN ((bR x R.1).1);rw [← hrr] at S1 S2 ⊢;have NX:Hid (di m.ag os k (i+1)=(bU r tn rr,0)):=kI (by rw [HST.o,← AB.o,hst,if_neg (fun h=>h hp2),hrr]);have F7:=kI (FO.o.ext hx);have X7:=kI (Zb.o.trans hx);clear hst hrr hp1 hp2 hx;obtain ⟨g1,g2,g3,g4,Kr,Ks,Kt,-⟩:=F7.o.at (j:=tn) htn;have f0:=F7.o.free;have fl:=F7.o.lt;go_wp2_with fail;clear Kr Ks Kt f0 fl;obtain ⟨w8,hw8⟩:=gN (((w7.setCell ⟨b,tn*3,none⟩ (.bool rr.neg)).setCell ⟨b,tn*3+1,none⟩ (.slice r1 rr.num.length r2)).setCell ⟨b,tn*3+2,none⟩ (.slice r3 rr.den.length r4));have hfr:fH w8 w.heap.size b n (bU r tn rr):=by
      have h:=F7.o.set (a:=tn) (r:=rr) U2.o S1.o S2.o;rw [← hw8] at h;exact h.congr (fun i hi=>rfl)
     have hkk:fg b w6 w8:=by rw [hw8];exact (((KJ.o.trans (fg.ext X7.o)).set _ _).set _ _).set _ _
     rw [← hw8];clear hw8;go_roundw
     case rel=>exact ⟨i+1,_,U1.o,by go_num,NX.o,hfr,hkk⟩
     case measure=>first|(simp [intOf];done)|(simp [intOf];omega)
    ·obtain rfl:i=os.length:=by omega
     have q3:¬ ((os.length:Int) < (os.length:Int)):=by omega
     have Co:Ext wi wj:=(gm.of (X:=fun i=>i=b) (K6.o.trans KJ.o) rfl).below (Nat.le_refl _) (fun i e=>by rw [e];exact BW.o);have EQ:Hid (dY m p k=(r,0)):=kI (by unfold dY;rw [← xU.o];exact RK.o);have QJ:=kI (KJ.o.blk UZ.o (Ne.symm QW.o.2));have Ze:=kI (Ky.o.ext Co);have Ox:=kI (UQ.o.ext Co);have OJ:=kI (Dj.ext QI.o Co);have hel:Ak m p n w.heap.size wj [.slice (some ⟨b,0,none⟩) n n,.bool z.neg,.slice c1 z.num.length c2,.slice c3 z.den.length c4] (k,b):=by
      obtain ⟨vn,vd,e,h1,h2⟩:=Y1.o;injection e with e
      simp only [Array.mk.injEq,List.cons.injEq,and_true,true_and] at e;obtain ⟨rfl,rfl⟩:=e;refine ⟨c1,c2,c3,c4,by rw [← HZ.o],by rw [EQ.o];exact FJ.o,?_,?_⟩
      ·rw [← HZ.o];exact jX.ext (jX.old h1 (Nat.le_refl _)) XJ.o
      ·rw [← HZ.o];exact jX.ext (jX.old h2 (Nat.le_refl _)) XJ.o
     have Si:=kI hel;have hlen:((List.range k).map fun s=>(s,bs s)).length=k:=by rw [List.length_map,List.length_range]
     have HLEN:=kI hlen;have Zf:=kI Co;have hz1:w.heap.size≤wj.heap.size:=XJ.o.size;have a0:=Ox.o.cell;have a1':=Ox.o.free;have a2':=Ox.o.lt;have t0:=QJ.o.cell;have t1:=QJ.o.lt;clear Co hel hlen hi hil;go_wp2_with (at_builtin;(refine gD (El:=Ak m p n w.heap.size) (l:=(List.range k).map fun s=>(s,bs s)) wj rfl _ _ 147 rfl w.heap.size 150 (.agg #[.slice none 0 0,.bool false,.slice none 0 0,.slice none 0 0]) 4 80 Tryz.underlying147 Tryz.MT rfl (by decide) (Ak.keeps (by decide) (by decide)) _ OJ.o (by first|rfl|(rw [HLEN.o];rfl)) [.slice (some ⟨b,0,none⟩) n n,.bool z.neg,.slice c1 z.num.length c2,.slice c3 z.den.length c4] rfl (by simp [Value.oneCell']) (k,b) Si.o (by first|rfl|simp) (by have:=HLEN.o;have:=vU.o;have:=dQ.o;omega) (by have:=HLEN.o;have:=vU.o;have:=dQ.o;omega) hz1 ?_))
     intro g cap2 w9 hown2 hk2;clear a0 a1' a2' t0 t1;have O9:=kI hown2;have K9:=kI hk2;have Zg:=kI (Ze.o.keeps hk2 (by decide));have I7:=kI (Ox.o.keeps hk2 (by decide));have X9:=kI (Below.trans XJ.o (hk2.below hz1));have a0:=I7.o.cell;have a1':=I7.o.free;have a2':=I7.o.lt;clear hown2 hk2;go_wp2_with fail;clear a0 a1' a2';obtain ⟨sv,hsv⟩:=gN (Value.slice (some ⟨g,0,none⟩) (k+1) cap2);obtain ⟨wf,hwf⟩:=gN (w9.setCell ⟨An+1,0,none⟩ sv);have MZ:Keeps 0 147 w9 wf:=by rw [hwf];exact aT I7.o 0 _
     have f0:=Zg.o.keeps MZ (by decide);have f1:af wf (An+1) #[sv] 147:=by rw [hwf];exact I7.o.set 0 _
     have f2:Dj m p n w.heap.size wf sv (k+1) (bU bs k b):=by
      have h:ay 150 4 (Ak m p n w.heap.size) w.heap.size wf sv (((List.range k).map fun s=>(s,bs s)) ++ [(k,b)]):=by
       rw [hsv];exact ay.o5 O9.o MZ (by decide) (fun _ _ e=>by
        obtain ⟨a1,c1,a2,c2,e1,e2,e3,e4⟩:=e;exact ⟨a1,c1,a2,c2,e1,e2.keeps MZ (by decide) (by decide),e3.keeps (MS I7.o hwf X9.o Ki.o) (by decide),e4.keeps (MS I7.o hwf X9.o Ki.o) (by decide)⟩)
      have e:(List.range (k+1)).map (fun s=>(s,bU bs k b s))=((List.range k).map fun s=>(s,bs s)) ++ [(k,b)]:=by
       rw [List.range_succ,List.map_append];congr 1
       ·refine List.map_congr_left (fun s hs=>?_);rw [bS (by have:=List.mem_range.1 hs;omega)]
       ·simp [aW]
      show ay _ _ _ _ _ _ _;rw [e];exact h
     have hsz:wj.heap.size≤wf.heap.size:=Nat.le_trans K9.o.size MZ.size;have f3:∀ s,s < k+1→w.heap.size≤bU bs k b s∧bU bs k b s < wf.heap.size:=fun s hs=>by
      by_cases e:s=k
      ·subst e;rw [aW];exact ⟨Oo.o,Nat.lt_of_lt_of_le FJ.o.lt hsz⟩
      ·rw [bS e];have:=KD.o s (by omega);exact ⟨this.1,by have:=Zf.o.size;omega⟩
     have f4:∀ s t,s < k+1→t < k+1→bU bs k b s=bU bs k b t→s=t:=fun s t hs ht he=>by
      by_cases e:s=k
      ·by_cases e2:t=k
       ·omega
       ·rw [e,aW,bS e2] at he;have:=KD.o t (by omega);have:=BW.o;omega
      ·by_cases e2:t=k
       ·rw [e2,aW,bS e] at he;have:=KD.o s (by omega);have:=BW.o;omega
       ·rw [bS e,bS e2] at he;exact US.o s t (by omega) (by omega) he
     have f5:Ext w wf:=by rw [hwf];exact Below.setCell X9.o (by have:=Ki.o;dsimp only;omega) _
     have f6:∀ s,s < k+1→(dY m p s).2=0:=fun s hs=>by
      by_cases e:s=k
      ·rw [e,EQ.o]
      ·exact ZI.o s (by omega)
     rw [← hsv,← hwf];clear hsv hwf MZ hsz;go_roundw
     case rel=>exact ⟨k+1,_,sv,dQ.o,by go_num,f6,f0,f1,f2,f3,f4,f5⟩
     case measure=>first|(simp [intOf];done)|(simp [intOf];omega)
  ·obtain rfl:k=n:=by omega
   have q1:¬ ((k:Int) < (k:Int)):=by omega
   obtain ⟨CC,vX⟩:=gN (madeCells #[Value.bool false,.slice none 0 0,.slice none 0 0] (k*3));have nL:=kI vX;have AT:=vU.o;clear vX hlt;go_wp2_with (at_make;(refine gU rfl _ _ rfl k rfl rfl Tryz.underlying29 Tryz.fU (by omega) (by omega) CC (by exact nL.o.symm) ?_))
   have g0:=((af.new wi CC 25).alloc (.cells #[.slice (some ⟨wi.heap.size,0,none⟩) k k] 29)).alloc (.cells #[.func (.func 144) #[] #[.pointer (some ⟨An+1,0,none⟩),.pointer (some ⟨wi.heap.size+1+1,0,none⟩),.pointer (some ⟨wi.heap.size+1,0,none⟩)]] 151);have g1:=(af.new (wi.alloc (.cells CC 25)) #[.slice (some ⟨wi.heap.size,0,none⟩) k k] 29).alloc (.cells #[.func (.func 144) #[] #[.pointer (some ⟨An+1,0,none⟩),.pointer (some ⟨wi.heap.size+1+1,0,none⟩),.pointer (some ⟨wi.heap.size+1,0,none⟩)]] 151);have g2:=af.new ((wi.alloc (.cells CC 25)).alloc (.cells #[.slice (some ⟨wi.heap.size,0,none⟩) k k] 29)) #[.func (.func 144) #[] #[.pointer (some ⟨An+1,0,none⟩),.pointer (some ⟨wi.heap.size+1+1,0,none⟩),.pointer (some ⟨wi.heap.size+1,0,none⟩)]] 151;have hx:Ext wi (((wi.alloc (.cells CC 25)).alloc (.cells #[.slice (some ⟨wi.heap.size,0,none⟩) k k] 29)).alloc (.cells #[.func (.func 144) #[] #[.pointer (some ⟨An+1,0,none⟩),.pointer (some ⟨wi.heap.size+1+1,0,none⟩),.pointer (some ⟨wi.heap.size+1,0,none⟩)]] 151)):=(((Ext.refl wi).alloc _).alloc _).alloc _;rw [World.size_alloc] at g1;rw [World.size_alloc,World.size_alloc] at g2;obtain ⟨wC,U5⟩:=gN (((wi.alloc (.cells CC 25)).alloc (.cells #[.slice (some ⟨wi.heap.size,0,none⟩) k k] 29)).alloc (.cells #[.func (.func 144) #[] #[.pointer (some ⟨An+1,0,none⟩),.pointer (some ⟨wi.heap.size+1+1,0,none⟩),.pointer (some ⟨wi.heap.size+1,0,none⟩)]] 151));rw [← U5] at g0 g1 g2 hx ⊢;obtain ⟨Rb,hRb⟩:=gN (wi.heap.size+1+1);rw [← hRb] at g2 ⊢;obtain ⟨Vb,U6⟩:=gN (wi.heap.size+1);rw [← U6] at g1 g2 ⊢;obtain ⟨V,hV⟩:=gN (wi.heap.size);have Oy:w.heap.size≤V:=by rw [hV];exact XI.o.size
   have hne:∀ s,s < k→V≠bs s:=fun s hs=>by have:=KD.o s hs;omega
   rw [← hV] at g0 g1;have hlen:((List.range k).map fun s=>(s,bs s)).length=k:=by simp
   have hq0:=Dj.ext QI.o hx;rw [hlen] at hq0;have hk0:0 < k:=by rw [HN.o];exact Y0.o
   have hlb:=UQ.o.ext hx;rw [hlen] at hlb;obtain ⟨L,hLa⟩:∃ L,la=some ⟨L,0,none⟩:=by
    obtain ⟨a,cap,e0,_,_,hr⟩:=ay.vi hq0;injection e0 with e1 _ _
    obtain ⟨b,h,e3,_⟩:=hr 0 (0,bs 0) (by rw [List.getElem?_map,List.getElem?_range hk0];rfl);exact ⟨b,by rw [e1,e3]⟩
   subst hLa;obtain ⟨heq,hcap⟩:=Dj.YZ hq0 hk0 (fun s hs=>(KD.o s hs).1) US.o (fun s i=>jw _ _ _ _ _) (fun s=>(wg.o.2 s _).1);have hva:fH wC w.heap.size V k (fun _=>zR):=by rw [nL.o] at g0;exact fH.new g0
   have Cj:j0 wC w.heap.size (An+1) Rb Vb L V k MW bs (js m p):=⟨hlb,g2,g1,heq,hva,fun i=>aM,hne,Oy,hcap,Nat.le_trans XI.o.size hx.size⟩;have RD:=kI Cj;have XC:=kI (XI.o.trans hx);have VW:=kI Oy;have Zh:Hid (∀ i,lL L V k bs i→w.heap.size≤i):=kI (fun i hi=>by
    rcases hi with e|e|⟨s,hs,e⟩
    ·rw [e];exact heq.base
    ·rw [e];exact Oy
    ·rw [e];exact (KD.o s hs).1)
   have hcr:=Ci w.heap.size (An+1) Rb Vb L V k MW bs AT k 0 (js m p) wC (Nat.zero_add k) Cj;rw [show ((0:Nat):Int)=0 from rfl] at hcr;clear g0 g1 g2 hx U5 hRb U6 hV Oy hne hlen hq0 hlb heq hcap hva Cj;refine hcr.mono ?_;rintro e w2 ⟨he,hk2⟩;obtain ⟨P2,hP2⟩:=gN (bG k k 0 (js m p));rw [← hP2] at he;obtain ⟨y2,c2⟩:=P2;dsimp only at he;have HP2:=kI hP2.symm;have X2:=kI (Below.trans XC.o (hk2.below XC.o.size Zh.o));clear hk2 hP2 hcr;by_cases hz:c2=0
   rotate_left
   ·obtain rfl:=he.oX hz;(try simp +zetaDelta only [Exit.then,Exit.inBlock]);exact aA rfl (HBAD.o _ _ hz (by rw [wK (by rw [← HN.o];exact ZI.o) (c:=c2) (by rw [← HN.o,HP2.o]) hz]) X2.o)
   subst hz;obtain ⟨rfl,hr2⟩:=he.oW;have R2:=kI hr2;have l0:=hr2.vb.cell;have l2:=hr2.vb.lt;clear he hr2;go_wp2_with fail;have hso:ax m p=((List.range k).map y2.V,0):=by rw [Ck (by rw [← HN.o];exact ZI.o) (by rw [← HN.o,HP2.o]),← HN.o,HP2.o]
   have ho:=R2.o.va.own VW.o (by omega);go_ret;exact ⟨gV.ok (by rw [hso]) (by rw [hso];exact ho),X2.o⟩
end Go.Proofs.YtnnjbaijcaiohaaGreat
