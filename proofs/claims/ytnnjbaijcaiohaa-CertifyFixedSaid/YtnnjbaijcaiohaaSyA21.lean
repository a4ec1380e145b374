/- Walks and lemmas. -/
import Derived.Test.YtnnjbaijcaiohaaSyA20
import Derived.Test.YtnnjbaijcaiohaaSyA13
import Derived.Laws.EntriesVeiled
set_option linter.unusedVariables false
set_option linter.unusedSimpArgs false
set_option maxRecDepth 100000
set_option maxHeartbeats 16000000
namespace Go.Proofs.Ytnnjbaijcaiohaa
open Go.RowKit
def ElQ (m:MD) (p:List Int) (n B:Nat) (W:World) (h:List Value) (y:Nat × Nat):Prop:=∃ a1 c1 a2 c2,h=[.slice (some ⟨y.2,0,none⟩) n n,.bool (polX m p y.1).cost.neg,.slice a1 (polX m p y.1).cost.num.length c1,.slice a2 (polX m p y.1).cost.den.length c2]∧
 FrN W B y.2 n (eqnS m p y.1).1∧SfU B W (.slice a1 (polX m p y.1).cost.num.length c1) (polX m p y.1).cost.num∧SfU B W (.slice a2 (polX m p y.1).cost.den.length c2) (polX m p y.1).cost.den
theorem ElQ.keeps {m:MD} {p:List Int} {n B:Nat} {t:TypeId} (h1:25≠t) (h2:102≠t) (w w':World) (h:List Value) (y:Nat × Nat) (e:ElQ m p n B w h y) (k:Keeps B t w w'):ElQ m p n B w' h y:=by
 obtain ⟨a1,c1,a2,c2,e1,e2,e3,e4⟩:=e;exact ⟨a1,c1,a2,c2,e1,e2.keeps k h1 h2,e3.keeps k h2,e4.keeps k h2⟩
theorem ElQ.ext {m:MD} {p:List Int} {n B:Nat} {w w':World} {h:List Value} {y:Nat × Nat} (e:ElQ m p n B w h y) (x:Ext w w'):ElQ m p n B w' h y:=by
 obtain ⟨a1,c1,a2,c2,e1,e2,e3,e4⟩:=e;exact ⟨a1,c1,a2,c2,e1,e2.ext x,SfU.ext e3 x,SfU.ext e4 x⟩
abbrev OwQ (m:MD) (p:List Int) (n B:Nat) (w:World) (v:Value) (k:Nat) (bs:Nat→Nat):Prop:=OwRow 92 4 (ElQ m p n B) B w v ((List.range k).map fun s=>(s,bs s))
theorem OwQ.ext {m:MD} {p:List Int} {n B k:Nat} {bs:Nat→Nat} {w w':World} {v:Value} (h:OwQ m p n B w v k bs) (x:Ext w w'):OwQ m p n B w' v k bs:=OwRow.ext h x (fun _ _ e=>e.ext x)
theorem OwQ.eqB {m:MD} {p:List Int} {n B k:Nat} {bs:Nat→Nat} {w:World} {L c:Nat} (h:OwQ m p n B w (.slice (some ⟨L,0,none⟩) k c) k bs) (hk:0 < k) (hle:∀ s,s < k→B≤bs s) (hinj:∀ s t,s < k→t < k→bs s=bs t→s=t) (hlm:∀ s i,LimR ((eqnS m p s).1 i)) (hls:∀ s,LimR (polX m p s).cost) :
  EqB w B L n k bs (fun s=>(eqnS m p s).1) (fun s=>(polX m p s).cost)∧k≤c∧c≤9223372036854775807:=by
 obtain ⟨a,cap,e0,hc1,hc2,hr⟩:=OwRow.rdN h;have hlen:((List.range k).map fun s=>(s,bs s)).length=k:=by simp
 rw [hlen] at e0 hc1;injection e0 with e1 _ e2
 subst e2;have hat:∀ s,s < k→∃ h,L < w.heap.size∧B≤L∧(∀ j,j < 4→w.cell? ⟨L,s*4+j,none⟩=h[j]?)∧ElQ m p n B w h (s,bs s):=fun s hs=>by
  obtain ⟨b,h,e3,e4,e5,e6,e7,e8⟩:=hr s (s,bs s) (by rw [List.getElem?_map,List.getElem?_range hs];rfl);rw [← e1] at e3;injection e3 with e3
  injection e3 with e3 _ _
  subst e3;exact ⟨h,e5,e4,e7,e8⟩
 obtain ⟨hs0,hown,_⟩:=h;rcases hown.2 with ⟨h0,_⟩|⟨g,cap,cur,e3,hg,hblk,hcap,hmax,hsz,_⟩
 ·cases h0
 ·injection e3 with e3 _ e4
  injection e3 with e3
  injection e3 with e3 _ _
  subst e3;subst e4;refine ⟨⟨⟨cur,hblk,by omega,fun s hs=>?_⟩,fun s hs=>?_,hle,hinj,hlm,hls,hg⟩,hc1,hc2⟩
  ·obtain ⟨h,k1,k2,k3,a1,c1,a2,c2,k4,k5,k6,k7⟩:=hat s hs;subst k4;have q0:=k3 0 (by decide);have q1:=k3 1 (by decide);have q2:=k3 2 (by decide);have q3:=k3 3 (by decide);have hb:Blk w L cur 92:=hblk;rw [hb.cell] at q0 q1 q2 q3;exact ⟨q0,a1,c1,a2,c2,q1,q2,q3,k6,k7⟩
  ·obtain ⟨h,k1,k2,k3,a1,c1,a2,c2,k4,k5,k6,k7⟩:=hat s hs;exact k5
theorem hkfB {w w9 wf:World} {An:Nat} {c:Array Value} {t:TypeId} {sv:Value} (h:Blk w9 (An+1) c t) (hw:wf=w9.setCell ⟨An+1,0,none⟩ sv) (_:Ext w w9) (hA:An=w.heap.size):Keeps w.heap.size t w9 wf:=by
 rw [hw];exact (keepsR h 0 sv).mono (by omega)
theorem rowK_lim (d:RR) (l:List Out) (s:Nat):∀ (k i:Nat),LimR ((rowK d l s k).1 i)
 | 0,i=>by
  unfold rowK;dsimp only;by_cases e:i=s
  ·subst e;rw [updF_same];exact limR_rep _
  ·rw [updF_ne e];exact zR_lim
 | k+1,i=>by
  unfold rowK;split
  ·exact rowK_lim d l s k i
  ·split
   ·exact rowK_lim d l s k i
   ·dsimp only;by_cases e:i=(l.getD k dO).1.toNat
    ·rw [e,updF_same];exact stp_lim _ _ _
    ·rw [updF_ne e];exact rowK_lim d l s k i
theorem rowK_bad {d:RR} {l:List Out} {s j:Nat} {c:Int} (h:(rowK d l s j).2=c) (hc:c≠0):∀ {k:Nat},j≤k→(rowK d l s k).2=c
 | 0,hk=>by obtain rfl:j=0:=(by omega);exact h
 | k+1,hk=>by
  by_cases e:j=k+1
  ·subst e;exact h
  ·have:=rowK_bad h hc (k:=k) (by omega);unfold rowK;rw [if_pos (by rw [this];exact hc)];exact this
theorem rowK_step {d:RR} {l:List Out} {s j:Nat} {r:Nat→RR} (h:rowK d l s j=(r,0)):rowK d l s (j+1)=if (stp (r (l.getD j dO).1.toNat) d (l.getD j dO).2).2≠0 then (r,(stp (r (l.getD j dO).1.toNat) d (l.getD j dO).2).2)
  else (updF r (l.getD j dO).1.toNat (stp (r (l.getD j dO).1.toNat) d (l.getD j dO).2).1,0):=by
 show (if (rowK d l s j).2≠0 then rowK d l s j else _)=_;rw [h,if_neg (fun h=>h rfl)]
theorem solve_bad1 {m:MD} {p:List Int} {s:Nat} {c:Int} (hs:s < p.length) (h0:∀ i,i < s→(eqnS m p i).2=0) (h:(eqnS m p s).2=c) (hc:c≠0):solveS m p=([],c):=by
 have e:frstE (fun s=>(eqnS m p s).2) p.length=c:=(frstE_at (f:=fun s=>(eqnS m p s).2) h0 (by rw [h];exact hc) hs).trans h;unfold solveS;rw [e,if_pos hc]
theorem solve_bad2 {m:MD} {p:List Int} {c:Int} (h0:∀ i,i < p.length→(eqnS m p i).2=0) (h:(redS p.length p.length 0 (sysS m p)).2=c) (hc:c≠0):solveS m p=([],c):=by
 have e:frstE (fun s=>(eqnS m p s).2) p.length=0:=frstE_zero h0;unfold solveS;rw [e,if_neg (fun h=>h rfl),h,if_pos hc]
theorem solve_ok {m:MD} {p:List Int} (h0:∀ i,i < p.length→(eqnS m p i).2=0) (h:(redS p.length p.length 0 (sysS m p)).2=0):solveS m p=((List.range p.length).map (redS p.length p.length 0 (sysS m p)).1.V,0):=by
 have e:frstE (fun s=>(eqnS m p s).2) p.length=0:=frstE_zero h0;unfold solveS;rw [e,if_neg (fun h=>h rfl),h,if_neg (fun h=>h rfl)]
theorem Try.infoQ:(Try.prog.info? 92).map (fun i=>(i.zero,i.size,i.bytes))=some (some (.agg #[.slice none 0 0,.bool false,.slice none 0 0,.slice none 0 0]),4,80):=by kernel_rfl
def ce6J (pa:Option Addr) (pc n xb B:Nat) (z:RR) (a1:Option Addr) (a2:Nat) (a3:Option Addr) (a4:Nat) (CC:Array Value) (j:Nat) (v:Value) (W:World):Prop:=
 match j with
 | 0=>v=.slice pa n pc
 | 1=>v=.int .i64 (n:Nat)
 | 2=>∃ b,v=.slice (some ⟨b,0,none⟩) n n∧B≤b∧Blk W b CC 25
 | 3=>v=.pointer (some ⟨xb,0,none⟩)
 | 4=>v=.agg #[.bool z.neg,.slice a1 z.num.length a2,.slice a3 z.den.length a4]
 | 5=>∃ b,v=.agg #[.slice (some ⟨b,0,none⟩) n n,.bool z.neg,.slice a1 z.num.length a2,.slice a3 z.den.length a4]∧B≤b∧Blk W b CC 25
 | 6=>∃ c,v=.pointer (some ⟨c,0,none⟩)∧B≤c∧Blk W c #[.slice none 0 0,.bool false,.slice none 0 0,.slice none 0 0] 92
 | _=>True
theorem ce6J_ext {pa:Option Addr} {pc n xb B:Nat} {z:RR} {a1:Option Addr} {a2:Nat} {a3:Option Addr} {a4:Nat} {CC:Array Value} {j:Nat} {v:Value} {W W':World} (h:ce6J pa pc n xb B z a1 a2 a3 a4 CC j v W) (xx:Ext W W'):ce6J pa pc n xb B z a1 a2 a3 a4 CC j v W':=by
 match j,h with
 | 0,h=>exact h
 | 1,h=>exact h
 | 2,⟨b,h0,h1,h2⟩=>exact ⟨b,h0,h1,h2.ext xx⟩
 | 3,h=>exact h
 | 4,h=>exact h
 | 5,⟨b,h0,h1,h2⟩=>exact ⟨b,h0,h1,h2.ext xx⟩
 | 6,⟨c,h0,h1,h2⟩=>exact ⟨c,h0,h1,h2.ext xx⟩
 | _+7,_=>trivial
def ce7J (qb b n k B:Nat) (z:RR) (j:Nat) (v:Value) (W:World):Prop:=
 match j with
 | 0=>v=.pointer (some ⟨qb,0,none⟩)
 | 1=>v=.slice (some ⟨b,0,none⟩) n n
 | 2=>v=.int .i64 (k:Nat)
 | 3=>∃ s1 s2 s3 s4,v=.agg #[.bool z.neg,.slice s1 z.num.length s2,.slice s3 z.den.length s4]∧SfW B W (.slice s1 z.num.length s2) z.num∧SfW B W (.slice s3 z.den.length s4) z.den
 | _=>True
theorem ce7J_ext {qb b n k B:Nat} {z:RR} {j:Nat} {v:Value} {W W':World} (h:ce7J qb b n k B z j v W) (xx:Ext W W'):ce7J qb b n k B z j v W':=by
 match j,h with
 | 0,h=>exact h
 | 1,h=>exact h
 | 2,h=>exact h
 | 3,⟨s1,s2,s3,s4,h0,h1,h2⟩=>exact ⟨s1,s2,s3,s4,h0,h1.ext xx,h2.ext xx⟩
 | _+4,_=>trivial
def ce11J (qb b n ob tn An:Nat) (x f y:RR) (r q:RR × Int) (B:Nat) (j:Nat) (v:Value) (W:World):Prop:=
 match j with
 | 0=>v=.pointer (some ⟨qb,0,none⟩)
 | 1=>v=.slice (some ⟨b,0,none⟩) n n
 | 2=>v=.pointer (some ⟨ob,0,none⟩)
 | 3=>v=.int .i64 (tn:Nat)
 | 4=>v=.pointer (some ⟨qb,0,none⟩)
 | 5=>v=.slice (some ⟨b,0,none⟩) n n
 | 6=>v=.pointer (some ⟨ob,0,none⟩)
 | 7=>v=.int .i64 (tn:Nat)
 | 8=>v=.pointer (some ⟨b,tn*3,none⟩)
 | 9=>∃ s1 s2 s3 s4,v=.agg #[.bool x.neg,.slice s1 x.num.length s2,.slice s3 x.den.length s4]∧RdR W (.agg #[.bool x.neg,.slice s1 x.num.length s2,.slice s3 x.den.length s4]) x
 | 10=>v=.pointer (some ⟨An,0,none⟩)
 | 11=>∃ s1 s2 s3 s4,v=.agg #[.bool f.neg,.slice s1 f.num.length s2,.slice s3 f.den.length s4]∧RdR W (.agg #[.bool f.neg,.slice s1 f.num.length s2,.slice s3 f.den.length s4]) f
 | 12=>v=.pointer (some ⟨ob,1,none⟩)
 | 13=>∃ s1 s2 s3 s4,v=.agg #[.bool y.neg,.slice s1 y.num.length s2,.slice s3 y.den.length s4]∧RdR W (.agg #[.bool y.neg,.slice s1 y.num.length s2,.slice s3 y.den.length s4]) y
 | 14=>∃ s1 s2 s3 s4,v=.tuple #[.agg #[.bool r.1.neg,.slice s1 r.1.num.length s2,.slice s3 r.1.den.length s4],.int .i64 r.2]∧RdR W (.agg #[.bool r.1.neg,.slice s1 r.1.num.length s2,.slice s3 r.1.den.length s4]) r.1
 | 15=>∃ s1 s2 s3 s4,v=.agg #[.bool r.1.neg,.slice s1 r.1.num.length s2,.slice s3 r.1.den.length s4]∧RdR W (.agg #[.bool r.1.neg,.slice s1 r.1.num.length s2,.slice s3 r.1.den.length s4]) r.1
 | 16=>v=.int .i64 r.2
 | 17=>r.2=0∧∃ s1 s2 s3 s4,v=.agg #[.bool r.1.neg,.slice s1 r.1.num.length s2,.slice s3 r.1.den.length s4]∧RdR W (.agg #[.bool r.1.neg,.slice s1 r.1.num.length s2,.slice s3 r.1.den.length s4]) r.1
 | 18=>r.2=0∧∃ s1 s2 s3 s4,v=.tuple #[.agg #[.bool q.1.neg,.slice s1 q.1.num.length s2,.slice s3 q.1.den.length s4],.int .i64 q.2]∧SfW B W (.slice s1 q.1.num.length s2) q.1.num∧SfW B W (.slice s3 q.1.den.length s4) q.1.den
 | 19=>r.2=0∧∃ s1 s2 s3 s4,v=.agg #[.bool q.1.neg,.slice s1 q.1.num.length s2,.slice s3 q.1.den.length s4]∧SfW B W (.slice s1 q.1.num.length s2) q.1.num∧SfW B W (.slice s3 q.1.den.length s4) q.1.den
 | 20=>v=.int .i64 q.2
 | 21=>q.2=0∧∃ s1 s2 s3 s4,v=.agg #[.bool q.1.neg,.slice s1 q.1.num.length s2,.slice s3 q.1.den.length s4]∧SfW B W (.slice s1 q.1.num.length s2) q.1.num∧SfW B W (.slice s3 q.1.den.length s4) q.1.den
 | _=>True
theorem ce11J_ext {qb b n ob tn An:Nat} {x f y:RR} {r q:RR × Int} {B:Nat} {j:Nat} {v:Value} {W W':World} (h:ce11J qb b n ob tn An x f y r q B j v W) (xx:Ext W W'):ce11J qb b n ob tn An x f y r q B j v W':=by
 match j,h with
 | 0,h=>exact h
 | 1,h=>exact h
 | 2,h=>exact h
 | 3,h=>exact h
 | 4,h=>exact h
 | 5,h=>exact h
 | 6,h=>exact h
 | 7,h=>exact h
 | 8,h=>exact h
 | 9,⟨s1,s2,s3,s4,h1,h2⟩=>exact ⟨s1,s2,s3,s4,h1,h2.ext xx⟩
 | 10,h=>exact h
 | 11,⟨s1,s2,s3,s4,h1,h2⟩=>exact ⟨s1,s2,s3,s4,h1,h2.ext xx⟩
 | 12,h=>exact h
 | 13,⟨s1,s2,s3,s4,h1,h2⟩=>exact ⟨s1,s2,s3,s4,h1,h2.ext xx⟩
 | 14,⟨s1,s2,s3,s4,h0,h1⟩=>exact ⟨s1,s2,s3,s4,h0,h1.ext xx⟩
 | 15,⟨s1,s2,s3,s4,h0,h1⟩=>exact ⟨s1,s2,s3,s4,h0,h1.ext xx⟩
 | 16,h=>exact h
 | 17,⟨h9,s1,s2,s3,s4,h0,h1⟩=>exact ⟨h9,s1,s2,s3,s4,h0,h1.ext xx⟩
 | 18,⟨h9,s1,s2,s3,s4,h0,h1,h2⟩=>exact ⟨h9,s1,s2,s3,s4,h0,h1.ext xx,h2.ext xx⟩
 | 19,⟨h9,s1,s2,s3,s4,h0,h1,h2⟩=>exact ⟨h9,s1,s2,s3,s4,h0,h1.ext xx,h2.ext xx⟩
 | 20,h=>exact h
 | 21,⟨h9,s1,s2,s3,s4,h0,h1,h2⟩=>exact ⟨h9,s1,s2,s3,s4,h0,h1.ext xx,h2.ext xx⟩
 | _+22,_=>trivial
theorem csolve_any (mv pv:Value) (m:MD) (p:List Int) (w:World) (hm:RdM w mv m) (hp:RdI .i64 w pv p) (hlm:LimM m) (hmd:mdE m=0) (hcp:cpE m p=0) :
  Calls Try.prog 21 #[mv,pv] w fun e w'=>EndN w.heap.size w' e (solveS m p).2 (solveS m p).1∧Ext w w':=by
 have HM:=kI hm;have HP:=kI hp;have HLM:=kI hlm;have HMD:=kI hmd;have hcp2:=chE1_ok (m:=m) (p:=p) hcp;have hn200:=(md_valid hmd).2.2.1;have hn0:0 < p.length:=by rw [hcp2.1];exact Nat.pos_of_ne_zero (md_valid hmd).2.1
 have HPN:=kI hcp2.1;have HPV:=kI hcp2.2;have HN0:=kI hn0;obtain ⟨n,hn⟩:=gN (p.length);have hn2:n≤200:=by rw [hn,hcp2.1];exact hn200
 have HN:=kI hn;have HN2:=kI hn2;obtain ⟨m1,n1,m2,n2,m3,n3,rfl,hd,hs⟩:=hm;have HD:=kI hd;have HS:=kI hs;obtain ⟨pa,pc,rfl,hpc,hpm,-⟩:=hp.get;rw [← hn];clear hp hlm hmd hcp hcp2 hn200 hn0 hd hs hpc hpm hn;have HBAD:=kI (fun (W:World) (c:Int) (hc:c≠0) (h:(solveS m p).2=c) (hx:Ext w W)=>(show EndN w.heap.size W (.panicked [errP c]) (solveS m p).2 (solveS m p).1∧Ext w W from ⟨EndN.bad hc h,hx⟩));have bb0:=((Blk.new w #[.bool m.disc.neg,.slice m1 m.disc.num.length n1,.slice m2 m.disc.den.length n2,.slice m3 m.states.length n3] 28).alloc (.cells #[.slice none 0 0] 89));have bb1:=(Blk.new (w.alloc (.cells #[.bool m.disc.neg,.slice m1 m.disc.num.length n1,.slice m2 m.disc.den.length n2,.slice m3 m.states.length n3] 28)) #[.slice none 0 0] 89);rw [World.size_alloc] at bb1;have x0:Ext w ((w.alloc (.cells #[.bool m.disc.neg,.slice m1 m.disc.num.length n1,.slice m2 m.disc.den.length n2,.slice m3 m.states.length n3] 28)).alloc (.cells #[.slice none 0 0] 89)):=(((Ext.refl w).alloc _).alloc _);have A0:=kI bb0;have A1:=kI bb1;have X:=kI x0;clear x0 bb0 bb1;have HP0:=HP;have HS0:=HS;have HD0:=HD;replace HM:=kI (HM.o.ext X.o);replace HP:=kI (HP.o.ext X.o);replace HD:=kI (HD.o.ext X.o);replace HS:=kI (HS.o.ext X.o);go_enter Try.func21,Try.ntmps21
 obtain ⟨qA0,fA0,lA0⟩:=A0.o.q3;obtain ⟨qA1,fA1,lA1⟩:=A1.o.q3;go_wp2_with fail;clear qA0 fA0 lA0 qA1 fA1 lA1;obtain ⟨w1,hw1⟩:=gN (((w.alloc (.cells #[.bool m.disc.neg,.slice m1 m.disc.num.length n1,.slice m2 m.disc.den.length n2,.slice m3 m.states.length n3] 28)).alloc (.cells #[.slice none 0 0] 89)));rw [← hw1] at HM HP HD HS A0 A1 X ⊢;clear hw1;obtain ⟨An,hAn⟩:=gN (w.heap.size);rw [← hAn] at A0 A1 ⊢;have HAN:=kI hAn;clear hAn;go_loopw [16] (fun i wr=>∃ (k:Nat) (bs:Nat→Nat) (v:Value),k≤n∧i=.int .i64 (k:Nat)∧(∀ s,s < k→(eqnS m p s).2=0)∧Blk wr An #[.bool m.disc.neg,.slice m1 m.disc.num.length n1,.slice m2 m.disc.den.length n2,.slice m3 m.states.length n3] 28∧Blk wr (An+1) #[v] 89∧OwQ m p n w.heap.size wr v k bs∧(∀ s,s < k→w.heap.size≤bs s∧bs s < wr.heap.size)∧(∀ s t,s < k→t < k→bs s=bs t→s=t)∧Ext w wr) (fun i _=>n - (intOf i).toNat)
 case atStart=>exact ⟨0,fun _=>0,.slice none 0 0,Nat.zero_le _,rfl,fun s h=>by omega,A0.o,A1.o,OwRow.nil _ _ _ _ _,fun s h=>by omega,fun s t h=>by omega,X.o⟩
 case round=>
  obtain ⟨wi,hwi⟩:=gN (wr);subst hwi;obtain ⟨k,bs,lv,hk,rfl,hz,ha0,ha1,hq,hbs,hinj,hx⟩:=hrel;obtain ⟨la,lcap,rfl,-,-,-⟩:=OwRow.rdN hq;have ZI:=kI hz;have A0I:=kI ha0;have A1I:=kI ha1;have QI:=kI hq;have BSI:=kI hbs;have INJ:=kI hinj;have XI:=kI hx;clear hz ha0 ha1 hq hbs hinj hx;by_cases hlt:k < n
  ·have HLT:=kI hlt;have hkn:k < m.states.length:=by rw [← HPN.o,← HN.o];exact hlt
   obtain ⟨pb,po,rfl,g0,g1⟩:=rdI_at0 (HP0.o.ext XI.o) (i:=k) (by rw [← HN.o];exact hlt);obtain ⟨hv0,hv1⟩:=HPV.o k hkn;obtain ⟨an,han⟩:∃ n:Nat,p.getD k 0=(n:Int):=⟨(p.getD k 0).toNat,by omega⟩;rw [han] at g1 hv1;obtain ⟨sb,so,ai,ci,rfl,s00,s01,s2⟩:=HS0.o.at hkn;have s0:=Nat.lt_of_lt_of_le s00 XI.o.size;have s1:=(XI.o.cell (p:=⟨sb,so+k,none⟩) s00).trans s01;clear s00 s01;have han2:an < (m.states.getD k []).length:=by omega
   have hal9:(m.states.getD k []).length≤6:=(st_valid ((md_valid HMD.o).2.2.2 k hkn)).2.1;obtain ⟨ab,ao,c1,c2,c3,c4,c5,c6,rfl,na,w30,v4⟩:=s2.at han2;obtain ⟨w0,w1',w2',w3',vrd⟩:=na;have v0:=Nat.lt_of_lt_of_le w0 XI.o.size;have v1:=(XI.o.cell (p:=⟨ab,ao+an*4,none⟩) w0).trans w1';have v2:=(XI.o.cell (p:=⟨ab,ao+an*4+1,none⟩) w0).trans w2';have v3:=(XI.o.cell (p:=⟨ab,ao+an*4+2,none⟩) w0).trans w3';have v30:=(XI.o.cell (p:=⟨ab,ao+an*4+3,none⟩) w0).trans w30;clear w0 w1' w2' w3' w30;have hact:(m.states.getD k []).getD an dA=polX m p k:=by unfold polX;rw [han,Int.toNat_natCast];rfl
   have hav:=md_act HMD.o hkn han2;rw [show m.act k an=polX m p k by unfold polX;rw [han,Int.toNat_natCast]] at hav;rw [hact] at v1 v2 v3 v30 v4 vrd;obtain ⟨al,hal⟩:=gN ((m.states.getD k []).length);rw [← hal] at s1 hal9 han2;obtain ⟨z,hz⟩:=gN ((polX m p k).cost);obtain ⟨os,hos⟩:=gN ((polX m p k).next);rw [← hz] at v1 v2 v3 vrd;rw [← hos] at v30 v4;have HZ:=kI hz;have HOS:=kI hos;have HAV:=kI hav;have VRD:=kI vrd;have ORD:=kI v4;have q1:(k:Int) < (n:Int):=by omega
   have q2:(0:Int)≤(k:Int):=by omega
   have q3:(k:Int) < (m.states.length:Int):=by omega
   have q4:(0:Int)≤(an:Int):=by omega
   have q5:(an:Int) < (al:Int):=by omega
   have a0c:=A0I.o.cell;have a0l:=A0I.o.lt;clear s2 v4 vrd hact hav hal hz hos hv0 hv1 han;go_wp2_with fail;clear a0c a0l g0 g1 s0 s1 v0 v1 v2 v3 v30 q3 q4 q5;have bx0:=Blk.new wi #[.bool z.neg,.slice c1 z.num.length c2,.slice c3 z.den.length c4,.slice c5 os.length c6] 68;have hx:Ext wi (wi.alloc (.cells #[.bool z.neg,.slice c1 z.num.length c2,.slice c3 z.den.length c4,.slice c5 os.length c6] 68)):=(Ext.refl _).alloc _;obtain ⟨xb,hxb⟩:=gN (wi.heap.size);obtain ⟨w2,hw2⟩:=gN (wi.alloc (.cells #[.bool z.neg,.slice c1 z.num.length c2,.slice c3 z.den.length c4,.slice c5 os.length c6] 68));rw [← hxb,← hw2] at bx0;rw [← hw2] at hx;rw [← hxb,← hw2];have BX:=kI bx0;have X2:=kI hx;clear bx0 hx hxb hw2;obtain ⟨CC,hCC⟩:=gN (madeCells #[Value.bool false,.slice none 0 0,.slice none 0 0] (n*3));have HCC:=kI hCC;clear hCC;have hn9:=HN2.o;have X:=kI (Ext.refl w2);refine wp_region_eachP_tail 7 (ce6J (some ⟨pb,po,none⟩) pc n xb w2.heap.size z c1 c2 c3 c4 CC) (by kernel_rfl) (by kernel_rfl) (by kernel_rfl) (fun _ _ _ _ h x=>ce6J_ext h x) ?_ ?_
   ·refine ⟨?_,?_,?_,?_,?_,?_,?_,trivial⟩
    ·intro a W hW hdf0 hB hD K hK;have HDF:=kI hdf0;clear hdf0;have b1:=hB 1 rfl;simp only [sB] at b1;go_simp;exact hK _ _ (Ext.refl _) rfl
    ·intro a W hW hdf0 hB hD K hK;have HDF:=kI hdf0;clear hdf0;obtain ⟨v29,e29,h29⟩:=dpE (hD 0 _ 29 rfl rfl (by kernel_rfl));obtain rfl:=h29;go_simp;exact hK _ _ (Ext.refl _) rfl
    ·intro a W hW hdf0 hB hD K hK;have HDF:=kI hdf0;clear hdf0;obtain ⟨v30,e30,h30⟩:=dpE (hD 1 _ 30 rfl rfl (by kernel_rfl));obtain rfl:=h30;have hr:=make_run W n Try.underlying90 Try.infoR (by omega) (by omega);simp only [show (Value.agg #[.bool false,.slice none 0 0,.slice none 0 0]).cells=#[.bool false,.slice none 0 0,.slice none 0 0] from rfl] at hr;rw [← HCC.o] at hr;go_simp;(try simp only [hr,Result.andThen]);exact hK _ _ ((Ext.refl _).alloc _) ⟨_,rfl,hW.size,Blk.new _ _ _⟩
    ·intro a W hW hdf0 hB hD K hK;have HDF:=kI hdf0;clear hdf0;have b8:=hB 8 rfl;simp only [sB] at b8;go_simp;exact hK _ _ (Ext.refl _) rfl
    ·intro a W hW hdf0 hB hD K hK;have HDF:=kI hdf0;clear hdf0;obtain ⟨v32,e32,h32⟩:=dpE (hD 3 _ 32 rfl rfl (by kernel_rfl));obtain rfl:=h32;have q9:=(BX.o.ext hW).cell;have l9:=(BX.o.ext hW).lt;go_simp;exact hK _ _ (Ext.refl _) rfl
    ·intro a W hW hdf0 hB hD K hK;have HDF:=kI hdf0;clear hdf0;obtain ⟨v31,e31,h31⟩:=dpE (hD 2 _ 31 rfl rfl (by kernel_rfl));obtain ⟨b9,rfl,hb1,hb2⟩:=h31;obtain ⟨v33,e33,h33⟩:=dpE (hD 4 _ 33 rfl rfl (by kernel_rfl));obtain rfl:=h33;go_simp;exact hK _ _ (Ext.refl _) ⟨_,rfl,hb1,hb2⟩
    ·intro a W hW hdf0 hB hD K hK;have HDF:=kI hdf0;clear hdf0;go_simp;exact hK _ _ ((Ext.refl _).alloc _) ⟨_,rfl,hW.size,Blk.new _ _ _⟩
   intro w3 hx;simp only [Vals,List.take_succ_cons,List.take_zero,List.drop_succ_cons,List.drop_zero];rintro u0 - u1 - u2 - u3 - u4 - u5 h5 u6 h6;obtain ⟨b,rfl,hb,RB⟩:=h5;obtain ⟨qb,rfl,hqb,QB⟩:=h6;simp only [Act.put,List.setIfInBounds_toArray,List.set_cons_zero,List.set_cons_succ];have x0:=QB.cell;have x1':=QB.free;have x2':=QB.lt;go_wp2_with fail;clear x0 x1' x2';obtain ⟨w4,hw4⟩:=gN ((((w3.setCell ⟨qb,0,none⟩ (.slice (some ⟨b,0,none⟩) n n)).setCell ⟨qb,1,none⟩ (.bool z.neg)).setCell ⟨qb,2,none⟩ (.slice c1 z.num.length c2)).setCell ⟨qb,3,none⟩ (.slice c3 z.den.length c4));have hbq:b≠qb:=RB.ne QB (by decide);have hqq:Blk w4 qb #[.slice (some ⟨b,0,none⟩) n n,.bool z.neg,.slice c1 z.num.length c2,.slice c3 z.den.length c4] 92:=by rw [hw4];exact (((QB.set 0 _).set 1 _).set 2 _).set 3 _
   have hrb:Blk w4 b CC 25:=by
    rw [hw4];exact (((RB.setOther (a:=⟨qb,0,none⟩) hbq _).setOther (a:=⟨qb,1,none⟩) hbq _).setOther (a:=⟨qb,2,none⟩) hbq _).setOther (a:=⟨qb,3,none⟩) hbq _
   have hx4:Ext w2 w4:=by rw [hw4];exact Below.setCell (Below.setCell (Below.setCell (Below.setCell hx (by dsimp only;omega) _) (by dsimp only;omega) _) (by dsimp only;omega) _) (by dsimp only;omega) _
   have hfr:FrN w4 w.heap.size b n (fun _=>zR):=by rw [HCC.o] at hrb;exact FrN.new hrb
   rw [← hw4];have QQ:=kI hqq;have FR:=kI hfr;have X4:=kI (X2.o.trans hx4);have BX4:=kI (BX.o.ext hx4);have BW:Hid (wi.heap.size≤b):=kI (Nat.le_trans X2.o.size hb);have QW:Hid (wi.heap.size≤qb∧b≠qb):=kI ⟨Nat.le_trans X2.o.size hqb,hbq⟩;clear hw4 hbq hqq hrb hx4 hfr RB QB hb hqb hx;go_wp2_with fail;replace X:=kI (Ext.refl w4);refine wp_region_eachP_tail 4 (ce7J qb b n k w.heap.size (rep ((1:Int):Rat))) (by kernel_rfl) (by kernel_rfl) (by kernel_rfl) (fun _ _ _ _ h x=>ce7J_ext h x) ?_ ?_
   ·refine ⟨?_,?_,?_,?_,trivial⟩
    ·intro a W hW hdf0 hB hD K hK;have HDF:=kI hdf0;clear hdf0;have b9:=hB 9 rfl;simp only [sB] at b9;go_simp;exact hK _ _ (Ext.refl _) rfl
    ·intro a W hW hdf0 hB hD K hK;have HDF:=kI hdf0;clear hdf0;obtain ⟨v35,e35,h35⟩:=dpE (hD 0 _ 35 rfl rfl (by kernel_rfl));obtain rfl:=h35;have q9:=(QQ.o.ext hW).cell;have l9:=(QQ.o.ext hW).lt;go_simp;exact hK _ _ (Ext.refl _) rfl
    ·intro a W hW hdf0 hB hD K hK;have HDF:=kI hdf0;clear hdf0;have b6:=hB 6 rfl;simp only [sB] at b6;go_simp;exact hK _ _ (Ext.refl _) rfl
    ·intro a W hW hdf0 hB hD K hK;have HDF:=kI hdf0;clear hdf0;go_simp;refine (fromR_any 1 W (by decide) (by decide)).mono ?_;rintro e w9 ⟨⟨v,rfl,nn⟩,hx⟩;obtain ⟨t1,t2,t3,t4,rfl⟩:=nn.shape;obtain ⟨hs1,hs2⟩:=nn.sf (B:=w.heap.size) (Nat.le_trans XI.o.size (Nat.le_trans X4.o.size hW.size));exact hK _ _ hx ⟨_,_,_,_,rfl,hs1,hs2⟩
   intro w5 hx;simp only [Vals,List.take_succ_cons,List.take_zero,List.drop_succ_cons,List.drop_zero];rintro u0 - u1 h1 u2 h2 u3 h3;obtain rfl:=h1;obtain rfl:=h2;obtain ⟨r1,r2,r3,r4,rfl,S1,S2⟩:=h3;simp only [Act.put,List.setIfInBounds_toArray,List.set_cons_zero,List.set_cons_succ];obtain ⟨one,hone⟩:=gN (rep ((1:Int):Rat));rw [← hone] at S1 S2 ⊢;have HONE:=kI hone;replace S1:=kI S1;replace S2:=kI S2;have FR5:=kI (FR.o.ext hx);have QQ5:=kI (QQ.o.ext hx);have X5:=kI (X4.o.trans hx);have BX5:=kI (BX4.o.ext hx);clear hone hx;obtain ⟨g1,g2,g3,g4,y00,y01,y02,-⟩:=FR5.o.at (j:=k) HLT.o;have f0:=FR5.o.free;have fl:=FR5.o.lt;have bx0:=BX5.o.cell;have bx1:=BX5.o.lt;obtain ⟨rcur,hrc,-,-⟩:=id FR5.o;have hxn:xb≠b:=BX5.o.ne hrc (by decide);have hxn':=Ne.symm hxn;clear hrc;go_wp2_with fail;clear y00 y01 y02 f0 fl bx0 bx1 hxn hxn';obtain ⟨w6,hw6⟩:=gN (((w5.setCell ⟨b,k*3,none⟩ (.bool one.neg)).setCell ⟨b,k*3+1,none⟩ (.slice r1 one.num.length r2)).setCell ⟨b,k*3+2,none⟩ (.slice r3 one.den.length r4));have hfr:FrN w6 w.heap.size b n (rowK m.disc os k 0).1:=by
    have h:=FR5.o.set (a:=k) (r:=one) HLT.o S1.o S2.o;rw [← hw6] at h;refine h.congr (fun i hi=>?_);show (if i=k then one else zR)=updF (fun _=>zR) k (rep ((1:Int):Rat)) i;rw [← HONE.o];rfl
   have hko:KpO b w5 w6:=by rw [hw6];exact (((KpO.ext (Ext.refl _)).set _ _).set _ _).set _ _
   have hno:=FR5.o.noU;have hqq:Blk w6 qb #[.slice (some ⟨b,0,none⟩) n n,.bool z.neg,.slice c1 z.num.length c2,.slice c3 z.den.length c4] 92:=hko.blk QQ5.o (Ne.symm QW.o.2);have hbw:w.heap.size≤b:=Nat.le_trans XI.o.size BW.o;have hxw:Ext w w6:=Below.trans (XI.o.trans X5.o) ((KpX.of (X:=fun i=>i=b) hko rfl).below (XI.o.trans X5.o).size (fun i e=>by rw [e];exact hbw));have hwi6:KpO b wi w6:=(KpO.ext X5.o).trans hko;rw [← hw6];have FR6:=kI hfr;have QQ6:=kI hqq;have XW6:=kI hxw;have K6:=kI hwi6;have HBW:=kI hbw;clear hw6 hfr hko hno hqq hbw hxw hwi6 S1 S2 HONE QQ5 FR5 QQ FR X4 X2 BX4 BX5 BX X;have hol:=(act_valid HAV.o).2.2.1;rw [← HOS.o] at hol;have HOL:=kI hol;go_loopw [43] (fun i wr=>∃ (i2:Nat) (r:Nat→RR),i2≤os.length∧i=.int .i64 (i2:Nat)∧rowK m.disc os k i2=(r,0)∧FrN wr w.heap.size b n r∧KpO b w6 wr) (fun i _=>os.length - (intOf i).toNat)
   case atStart=>exact ⟨0,_,Nat.zero_le _,rfl,rfl,FR6.o,KpO.ext (Ext.refl _)⟩
   case round=>
    obtain ⟨wj,hwj⟩:=gN (wr);subst hwj;obtain ⟨i,r,hi,rfl,hr,hf,hkp⟩:=hrel;have RK:=kI hr;have FJ:=kI hf;have KJ:=kI hkp;have XJ:Hid (Ext w wj):=kI (Below.trans XW6.o ((KpX.of (X:=fun i=>i=b) hkp rfl).below XW6.o.size (fun i e=>by rw [e];exact HBW.o)));clear hr hf hkp;by_cases hil:i < os.length
    ·have HIL:=kI hil;obtain ⟨ob,oo,o1,o2,o3,o4,rfl,v0,v1,v2,v3,v4,v5⟩:=(ORD.o.ext XJ.o).at hil;have hov:=out_mem (act_valid HAV.o).2.2.2.1 (os.getD i dO) (by rw [HOS.o,List.getD_eq_getElem?_getD,List.getElem?_eq_getElem (by rw [← HOS.o];exact hil)];exact List.getElem_mem _);have hlo:LimR (os.getD i dO).2:=by rw [HOS.o];exact (HLM.o.2 k _).2 i
     have hst:=rowK_step RK.o;obtain ⟨O,hO⟩:=gN (os.getD i dO);rw [← hO] at v1 v2 v3 v4 v5 hov hlo hst;obtain ⟨ot,op⟩:=O;dsimp only at v1 v2 v3 v4 v5 hov hlo hst;obtain ⟨tn,rfl⟩:∃ n:Nat,ot=(n:Int):=⟨ot.toNat,by omega⟩;rw [Int.toNat_natCast] at hst;have htn:tn < n:=by rw [HN.o,HPN.o];omega
     have HST:=kI hst;have HTN:=kI htn;have HLO:=kI hlo;have V5:=kI v5;have q3:(0:Int)≤(i:Int):=by omega
     have q4:(i:Int) < (os.length:Int):=by omega
     have q5:(i:Int) < 64:=by omega
     have q6:(tn:Int) < (n:Int):=by omega
     have q7:(0:Int)≤(tn:Int):=by omega
     clear hov hlo hst hO v5;go_wp2_with fail;clear v0 v1 v2 v3 v4;have bo0:=Blk.new wj #[.int .i64 (tn:Nat),.bool op.neg,.slice o1 op.num.length o2,.slice o3 op.den.length o4] 79;have hx:Ext wj (wj.alloc (.cells #[.int .i64 (tn:Nat),.bool op.neg,.slice o1 op.num.length o2,.slice o3 op.den.length o4] 79)):=(Ext.refl _).alloc _;obtain ⟨pb2,hpb2⟩:=gN (wj.heap.size);obtain ⟨wo,hwo⟩:=gN (wj.alloc (.cells #[.int .i64 (tn:Nat),.bool op.neg,.slice o1 op.num.length o2,.slice o3 op.den.length o4] 79));rw [← hpb2,← hwo] at bo0;rw [← hwo] at hx;rw [← hpb2,← hwo];have BO:=kI bo0;have XO:=kI (XJ.o.trans hx);have FO:=kI (FJ.o.ext hx);have V5O:=kI (V5.o.ext hx);have XJO:=kI hx;have QO:Hid (Blk wo qb #[.slice (some ⟨b,0,none⟩) n n,.bool z.neg,.slice c1 z.num.length c2,.slice c3 z.den.length c4] 92):=kI ((KJ.o.blk QQ6.o (Ne.symm QW.o.2)).ext hx);have A0O:Hid (Blk wo An #[.bool m.disc.neg,.slice m1 m.disc.num.length n1,.slice m2 m.disc.den.length n2,.slice (some ⟨sb,so,none⟩) m.states.length n3] 28):=kI ((KJ.o.blk (K6.o.blk A0I.o (by have:=A0I.o.lt;have:=BW.o;omega)) (by have:=A0I.o.lt;have:=BW.o;omega)).ext hx);have DO:Hid (RdR wo (.agg #[.bool m.disc.neg,.slice m1 m.disc.num.length n1,.slice m2 m.disc.den.length n2]) m.disc):=kI (HD0.o.ext XO.o);obtain ⟨x1,x2,x3,x4,x00,x01,x02,xrd⟩:=FO.o.at (j:=tn) HTN.o;have hxl:LimR (r tn):=by have:=rowK_lim m.disc os k i tn;rw [RK.o] at this;exact this
     obtain ⟨x,hxx⟩:=gN (r tn);rw [← hxx] at x00 x01 x02 xrd hxl;have XS:Hid (b < wo.heap.size∧wo.cell? ⟨b,tn*3,none⟩=some (.bool x.neg)∧wo.cell? ⟨b,tn*3+1,none⟩=some (.slice x1 x.num.length x2)∧wo.cell? ⟨b,tn*3+2,none⟩=some (.slice x3 x.den.length x4)∧RdR wo (.agg #[.bool x.neg,.slice x1 x.num.length x2,.slice x3 x.den.length x4]) x):=kI ⟨FO.o.lt,x00,x01,x02,xrd⟩;have HXX:=kI hxx;have HXL:=kI hxl;obtain ⟨R,hR⟩:=gN (mulR m.disc op);have hml:LimR R.1:=by rw [hR];exact mulR_lim _ _
     have HR:=kI hR;have HML:=kI hml;have PAN:Hid (∀ (c:Int) (W:World),c≠0→(stp x m.disc op).2=c→Ext wo W→EndN w.heap.size W (.panicked [errP c]) (solveS m p).2 (solveS m p).1∧Ext w W):=kI (fun c W hc h hxw=>HBAD.o W c hc (by
      have e1:(rowK m.disc os k (i+1)).2=c:=by rw [HST.o,← HXX.o,if_pos (by rw [h];exact hc)];exact h
      have e2:(eqnS m p k).2=c:=by unfold eqnS;rw [← HOS.o];exact rowK_bad e1 hc HIL.o
      rw [solve_bad1 (by rw [← HN.o];exact HLT.o) ZI.o e2 hc]) (XO.o.trans hxw))
     clear bo0 hx hpb2 hwo x00 x01 x02 xrd hxx hxl hR hml;have X:=kI (Ext.refl wo);refine wp_region_eachP_tail 22 (ce11J qb b n pb2 tn An x m.disc op R (subR x R.1) w.heap.size) (by kernel_rfl) (by kernel_rfl) (by kernel_rfl) (fun _ _ _ _ h x=>ce11J_ext h x) ?_ ?_
     ·refine ⟨?_,?_,?_,?_,?_,?_,?_,?_,?_,?_,?_,?_,?_,?_,?_,?_,?_,?_,?_,?_,?_,?_,trivial⟩
      ·intro a W hW hdf0 hB hD K hK;have HDF:=kI hdf0;clear hdf0;have b9:=hB 9 rfl;simp only [sB] at b9;go_simp;exact hK _ _ (Ext.refl _) rfl
      ·intro a W hW hdf0 hB hD K hK;have HDF:=kI hdf0;clear hdf0;obtain ⟨v47,e47,h47⟩:=dpE (hD 0 _ 47 rfl rfl (by kernel_rfl));obtain rfl:=h47;have q9:=(QO.o.ext hW).cell;have l9:=(QO.o.ext hW).lt;go_simp;exact hK _ _ (Ext.refl _) rfl
      ·intro a W hW hdf0 hB hD K hK;have HDF:=kI hdf0;clear hdf0;have b11:=hB 11 rfl;simp only [sB] at b11;go_simp;exact hK _ _ (Ext.refl _) rfl
      ·intro a W hW hdf0 hB hD K hK;have HDF:=kI hdf0;clear hdf0;obtain ⟨v49,e49,h49⟩:=dpE (hD 2 _ 49 rfl rfl (by kernel_rfl));obtain rfl:=h49;have q9:=(BO.o.ext hW).cell;have l9:=(BO.o.ext hW).lt;go_simp;exact hK _ _ (Ext.refl _) rfl
      ·intro a W hW hdf0 hB hD K hK;have HDF:=kI hdf0;clear hdf0;have b9:=hB 9 rfl;simp only [sB] at b9;go_simp;exact hK _ _ (Ext.refl _) rfl
      ·intro a W hW hdf0 hB hD K hK;have HDF:=kI hdf0;clear hdf0;obtain ⟨v51,e51,h51⟩:=dpE (hD 4 _ 51 rfl rfl (by kernel_rfl));obtain rfl:=h51;have q9:=(QO.o.ext hW).cell;have l9:=(QO.o.ext hW).lt;go_simp;exact hK _ _ (Ext.refl _) rfl
      ·intro a W hW hdf0 hB hD K hK;have HDF:=kI hdf0;clear hdf0;have b11:=hB 11 rfl;simp only [sB] at b11;go_simp;exact hK _ _ (Ext.refl _) rfl
      ·intro a W hW hdf0 hB hD K hK;have HDF:=kI hdf0;clear hdf0;obtain ⟨v53,e53,h53⟩:=dpE (hD 6 _ 53 rfl rfl (by kernel_rfl));obtain rfl:=h53;have q9:=(BO.o.ext hW).cell;have l9:=(BO.o.ext hW).lt;go_simp;exact hK _ _ (Ext.refl _) rfl
      ·intro a W hW hdf0 hB hD K hK;have HDF:=kI hdf0;clear hdf0;obtain ⟨v52,e52,h52⟩:=dpE (hD 5 _ 52 rfl rfl (by kernel_rfl));obtain rfl:=h52;obtain ⟨v54,e54,h54⟩:=dpE (hD 7 _ 54 rfl rfl (by kernel_rfl));obtain rfl:=h54;go_simp;exact hK _ _ (Ext.refl _) rfl
      ·intro a W hW hdf0 hB hD K hK;have HDF:=kI hdf0;clear hdf0;obtain ⟨v55,e55,h55⟩:=dpE (hD 8 _ 55 rfl rfl (by kernel_rfl));obtain rfl:=h55;have m0:=(hW.cell (p:=⟨b,tn*3,none⟩) XS.o.1).trans XS.o.2.1;have m1:=(hW.cell (p:=⟨b,tn*3+1,none⟩) XS.o.1).trans XS.o.2.2.1;have m2:=(hW.cell (p:=⟨b,tn*3+2,none⟩) XS.o.1).trans XS.o.2.2.2.1;have ml:=Nat.lt_of_lt_of_le XS.o.1 hW.size;go_simp;exact hK _ _ (Ext.refl _) ⟨_,_,_,_,rfl,XS.o.2.2.2.2.ext hW⟩
      ·intro a W hW hdf0 hB hD K hK;have HDF:=kI hdf0;clear hdf0;have b2:=hB 2 rfl;simp only [sB] at b2;go_simp;exact hK _ _ (Ext.refl _) rfl
      ·intro a W hW hdf0 hB hD K hK;have HDF:=kI hdf0;clear hdf0;obtain ⟨v57,e57,h57⟩:=dpE (hD 10 _ 57 rfl rfl (by kernel_rfl));obtain rfl:=h57;have q9:=(A0O.o.ext hW).cell;have l9:=(A0O.o.ext hW).lt;go_simp;exact hK _ _ (Ext.refl _) ⟨_,_,_,_,rfl,DO.o.ext hW⟩
      ·intro a W hW hdf0 hB hD K hK;have HDF:=kI hdf0;clear hdf0;have b11:=hB 11 rfl;simp only [sB] at b11;go_simp;exact hK _ _ (Ext.refl _) rfl
      ·intro a W hW hdf0 hB hD K hK;have HDF:=kI hdf0;clear hdf0;obtain ⟨v59,e59,h59⟩:=dpE (hD 12 _ 59 rfl rfl (by kernel_rfl));obtain rfl:=h59;have q9:=(BO.o.ext hW).cell;have l9:=(BO.o.ext hW).lt;go_simp;exact hK _ _ (Ext.refl _) ⟨_,_,_,_,rfl,V5O.o.ext hW⟩
      ·intro a W hW hdf0 hB hD K hK;have HDF:=kI hdf0;clear hdf0;obtain ⟨v58,e58,h58⟩:=dpE (hD 11 _ 58 rfl rfl (by kernel_rfl));obtain ⟨x91,x92,x93,x94,rfl,x9h⟩:=h58;obtain ⟨v60,e60,h60⟩:=dpE (hD 13 _ 60 rfl rfl (by kernel_rfl));obtain ⟨y91,y92,y93,y94,rfl,y9h⟩:=h60;go_simp;have hmu:=mulR_any _ _ m.disc op W x9h y9h HLM.o.1 HLO.o;rw [← HR.o] at hmu;refine hmu.mono ?_;rintro e w9 ⟨⟨v,rfl,nn⟩,hx⟩;obtain ⟨t1,t2,t3,t4,rfl⟩:=nn.shape;exact hK _ _ hx ⟨_,_,_,_,rfl,nn.rd⟩
      ·intro a W hW hdf0 hB hD K hK;have HDF:=kI hdf0;clear hdf0;obtain ⟨v61,e61,h61⟩:=dpE (hD 14 _ 61 rfl rfl (by kernel_rfl));obtain ⟨x91,x92,x93,x94,rfl,xq⟩:=h61;go_simp;exact hK _ _ (Ext.refl _) ⟨_,_,_,_,rfl,xq⟩
      ·intro a W hW hdf0 hB hD K hK;have HDF:=kI hdf0;clear hdf0;obtain ⟨v61,e61,h61⟩:=dpE (hD 14 _ 61 rfl rfl (by kernel_rfl));obtain ⟨x91,x92,x93,x94,rfl,xq⟩:=h61;go_simp;exact hK _ _ (Ext.refl _) rfl
      ·intro a W hW hdf0 hB hD K hK;have HDF:=kI hdf0;clear hdf0;obtain ⟨v62,e62,h62⟩:=dpE (hD 15 _ 62 rfl rfl (by kernel_rfl));obtain ⟨x91,x92,x93,x94,rfl,xq⟩:=h62;obtain ⟨v63,e63,h63⟩:=dpE (hD 16 _ 63 rfl rfl (by kernel_rfl));obtain rfl:=h63;go_simp;by_cases hpe:R.2=0
       ·rw [hpe];refine (cmust_ok _ _ _ _ _ _ _ W).mono ?_;rintro e w9 ⟨rfl,hx⟩;exact hK _ _ hx ⟨hpe,_,_,_,_,rfl,xq.ext hx⟩
       ·refine (cmust_bad _ _ _ _ _ _ _ _ rfl hpe W).mono ?_;rintro e w9 ⟨rfl,hx⟩;(try simp +zetaDelta only [Exit.then,Exit.inBlock]);exact bodyPost_panic HDF.o (PAN.o _ _ hpe (by rw [stp_bad (c:=R.2) (by rw [HR.o]) hpe]) (hW.trans hx))
      ·intro a W hW hdf0 hB hD K hK;have HDF:=kI hdf0;clear hdf0;obtain ⟨v56,e56,h56⟩:=dpE (hD 9 _ 56 rfl rfl (by kernel_rfl));obtain ⟨x91,x92,x93,x94,rfl,x9h⟩:=h56;obtain ⟨v64,e64,h64⟩:=dpE (hD 17 _ 64 rfl rfl (by kernel_rfl));obtain ⟨hpe,y91,y92,y93,y94,rfl,y9h⟩:=h64;go_simp;refine (subR_any _ _ x R.1 W x9h y9h HXL.o HML.o).mono ?_;rintro e w9 ⟨⟨v,rfl,nn⟩,hx⟩;obtain ⟨t1,t2,t3,t4,rfl⟩:=nn.shape;obtain ⟨hs1,hs2⟩:=nn.sf (B:=w.heap.size) (Nat.le_trans XO.o.size hW.size);exact hK _ _ hx ⟨hpe,_,_,_,_,rfl,hs1,hs2⟩
      ·intro a W hW hdf0 hB hD K hK;have HDF:=kI hdf0;clear hdf0;obtain ⟨v65,e65,h65⟩:=dpE (hD 18 _ 65 rfl rfl (by kernel_rfl));obtain ⟨h99,x91,x92,x93,x94,rfl,xq,xr⟩:=h65;go_simp;exact hK _ _ (Ext.refl _) ⟨h99,_,_,_,_,rfl,xq,xr⟩
      ·intro a W hW hdf0 hB hD K hK;have HDF:=kI hdf0;clear hdf0;obtain ⟨v65,e65,h65⟩:=dpE (hD 18 _ 65 rfl rfl (by kernel_rfl));obtain ⟨h99,x91,x92,x93,x94,rfl,xq,xr⟩:=h65;go_simp;exact hK _ _ (Ext.refl _) rfl
      ·intro a W hW hdf0 hB hD K hK;have HDF:=kI hdf0;clear hdf0;obtain ⟨v66,e66,h66⟩:=dpE (hD 19 _ 66 rfl rfl (by kernel_rfl));obtain ⟨h99,x91,x92,x93,x94,rfl,xq,xr⟩:=h66;obtain ⟨v67,e67,h67⟩:=dpE (hD 20 _ 67 rfl rfl (by kernel_rfl));obtain rfl:=h67;go_simp;obtain ⟨c,hc⟩:=gN ((subR x R.1).2);rw [← hc];by_cases hpe:c=0
       ·subst hpe;refine (cmust_ok _ _ _ _ _ _ _ W).mono ?_;rintro e w9 ⟨rfl,hx⟩;exact hK _ _ hx ⟨hc.symm,_,_,_,_,rfl,xq.ext hx,xr.ext hx⟩
       ·refine (cmust_bad _ _ _ _ _ _ _ _ rfl hpe W).mono ?_;rintro e w9 ⟨rfl,hx⟩;(try simp +zetaDelta only [Exit.then,Exit.inBlock]);exact bodyPost_panic HDF.o (PAN.o _ _ hpe (by rw [stp_ok (p:=R.1) (by rw [← HR.o];exact Prod.ext rfl h99)];exact hc.symm) (hW.trans hx))
     intro w7 hx;simp only [Vals,List.take_succ_cons,List.take_zero,List.drop_succ_cons,List.drop_zero];rintro u0 - u1 h1 u2 - u3 h3 u4 - u5 - u6 - u7 - u8 - u9 - u10 - u11 - u12 - u13 - u14 - u15 - u16 - u17 h17 u18 - u19 - u20 - u21 h21;obtain rfl:=h1;obtain rfl:=h3;obtain ⟨hp1,-⟩:=h17;obtain ⟨hp2,r1,r2,r3,r4,rfl,S1,S2⟩:=h21;simp only [Act.put,List.setIfInBounds_toArray,List.set_cons_zero,List.set_cons_succ];replace S1:=kI S1;replace S2:=kI S2;have hst:stp x m.disc op=subR x R.1:=stp_ok (by rw [← HR.o];exact Prod.ext rfl hp1);obtain ⟨rr,hrr⟩:=gN ((subR x R.1).1);rw [← hrr] at S1 S2 ⊢;have NX:Hid (rowK m.disc os k (i+1)=(updF r tn rr,0)):=kI (by rw [HST.o,← HXX.o,hst,if_neg (fun h=>h hp2),hrr]);have F7:=kI (FO.o.ext hx);have X7:=kI (XJO.o.trans hx);clear hst hrr hp1 hp2 hx;obtain ⟨g1,g2,g3,g4,y00,y01,y02,-⟩:=F7.o.at (j:=tn) htn;have f0:=F7.o.free;have fl:=F7.o.lt;go_wp2_with fail;clear y00 y01 y02 f0 fl;obtain ⟨w8,hw8⟩:=gN (((w7.setCell ⟨b,tn*3,none⟩ (.bool rr.neg)).setCell ⟨b,tn*3+1,none⟩ (.slice r1 rr.num.length r2)).setCell ⟨b,tn*3+2,none⟩ (.slice r3 rr.den.length r4));have hfr:FrN w8 w.heap.size b n (updF r tn rr):=by
      have h:=F7.o.set (a:=tn) (r:=rr) HTN.o S1.o S2.o;rw [← hw8] at h;exact h.congr (fun i hi=>rfl)
     have hkk:KpO b w6 w8:=by rw [hw8];exact (((KJ.o.trans (KpO.ext X7.o)).set _ _).set _ _).set _ _
     rw [← hw8];clear hw8;go_roundw
     case rel=>exact ⟨i+1,_,HIL.o,by go_num,NX.o,hfr,hkk⟩
     case measure=>first|(simp [intOf];done)|(simp [intOf];omega)
    ·obtain rfl:i=os.length:=by omega
     have q3:¬ ((os.length:Int) < (os.length:Int)):=by omega
     have hxij:Ext wi wj:=(KpX.of (X:=fun i=>i=b) (K6.o.trans KJ.o) rfl).below (Nat.le_refl _) (fun i e=>by rw [e];exact BW.o);have EQ:Hid (eqnS m p k=(r,0)):=kI (by unfold eqnS;rw [← HOS.o];exact RK.o);have QJ:=kI (KJ.o.blk QQ6.o (Ne.symm QW.o.2));have A0J:=kI (A0I.o.ext hxij);have A1J:=kI (A1I.o.ext hxij);have OJ:=kI (OwQ.ext QI.o hxij);have hel:ElQ m p n w.heap.size wj [.slice (some ⟨b,0,none⟩) n n,.bool z.neg,.slice c1 z.num.length c2,.slice c3 z.den.length c4] (k,b):=by
      obtain ⟨vn,vd,e,h1,h2⟩:=VRD.o;injection e with e
      simp only [Array.mk.injEq,List.cons.injEq,and_true,true_and] at e;obtain ⟨rfl,rfl⟩:=e;refine ⟨c1,c2,c3,c4,by rw [← HZ.o],by rw [EQ.o];exact FJ.o,?_,?_⟩
      ·rw [← HZ.o];exact SfU.ext (SfU.old h1 (Nat.le_refl _)) XJ.o
      ·rw [← HZ.o];exact SfU.ext (SfU.old h2 (Nat.le_refl _)) XJ.o
     have HEL:=kI hel;have hlen:((List.range k).map fun s=>(s,bs s)).length=k:=by rw [List.length_map,List.length_range]
     have HLEN:=kI hlen;have XIJ:=kI hxij;have hz1:w.heap.size≤wj.heap.size:=XJ.o.size;have a0:=A1J.o.cell;have a1':=A1J.o.free;have a2':=A1J.o.lt;have t0:=QJ.o.cell;have t1:=QJ.o.lt;clear hxij hel hlen hi hil;go_wp2_with (at_builtin;(refine wpList_append_row (El:=ElQ m p n w.heap.size) (l:=(List.range k).map fun s=>(s,bs s)) wj rfl _ _ 89 rfl w.heap.size 92 (.agg #[.slice none 0 0,.bool false,.slice none 0 0,.slice none 0 0]) 4 80 Try.underlying89 Try.infoQ rfl (by decide) (ElQ.keeps (by decide) (by decide)) _ OJ.o (by first|rfl|(rw [HLEN.o];rfl)) [.slice (some ⟨b,0,none⟩) n n,.bool z.neg,.slice c1 z.num.length c2,.slice c3 z.den.length c4] rfl (by simp [Value.oneCell']) (k,b) HEL.o (by first|rfl|simp) (by have:=HLEN.o;have:=HN2.o;have:=HLT.o;omega) (by have:=HLEN.o;have:=HN2.o;have:=HLT.o;omega) hz1 ?_))
     intro g cap2 w9 hown2 hk2;clear a0 a1' a2' t0 t1;have O9:=kI hown2;have K9:=kI hk2;have A09:=kI (A0J.o.keeps hk2 (by decide));have A19:=kI (A1J.o.keeps hk2 (by decide));have X9:=kI (Below.trans XJ.o (hk2.below hz1));have a0:=A19.o.cell;have a1':=A19.o.free;have a2':=A19.o.lt;clear hown2 hk2;go_wp2_with fail;clear a0 a1' a2';obtain ⟨sv,hsv⟩:=gN (Value.slice (some ⟨g,0,none⟩) (k+1) cap2);obtain ⟨wf,hwf⟩:=gN (w9.setCell ⟨An+1,0,none⟩ sv);have hkf:Keeps 0 89 w9 wf:=by rw [hwf];exact keeps_setC A19.o 0 _
     have f0:=A09.o.keeps hkf (by decide);have f1:Blk wf (An+1) #[sv] 89:=by rw [hwf];exact A19.o.set 0 _
     have f2:OwQ m p n w.heap.size wf sv (k+1) (updF bs k b):=by
      have h:OwRow 92 4 (ElQ m p n w.heap.size) w.heap.size wf sv (((List.range k).map fun s=>(s,bs s)) ++ [(k,b)]):=by
       rw [hsv];exact OwRow.keepsG O9.o hkf (by decide) (fun _ _ e=>by
        obtain ⟨a1,c1,a2,c2,e1,e2,e3,e4⟩:=e;exact ⟨a1,c1,a2,c2,e1,e2.keeps hkf (by decide) (by decide),e3.keeps (hkfB A19.o hwf X9.o HAN.o) (by decide),e4.keeps (hkfB A19.o hwf X9.o HAN.o) (by decide)⟩)
      have e:(List.range (k+1)).map (fun s=>(s,updF bs k b s))=((List.range k).map fun s=>(s,bs s)) ++ [(k,b)]:=by
       rw [List.range_succ,List.map_append];congr 1
       ·refine List.map_congr_left (fun s hs=>?_);rw [updF_ne (by have:=List.mem_range.1 hs;omega)]
       ·simp [updF_same]
      show OwRow _ _ _ _ _ _ _;rw [e];exact h
     have hsz:wj.heap.size≤wf.heap.size:=Nat.le_trans K9.o.size hkf.size;have f3:∀ s,s < k+1→w.heap.size≤updF bs k b s∧updF bs k b s < wf.heap.size:=fun s hs=>by
      by_cases e:s=k
      ·subst e;rw [updF_same];exact ⟨HBW.o,Nat.lt_of_lt_of_le FJ.o.lt hsz⟩
      ·rw [updF_ne e];have:=BSI.o s (by omega);exact ⟨this.1,by have:=XIJ.o.size;omega⟩
     have f4:∀ s t,s < k+1→t < k+1→updF bs k b s=updF bs k b t→s=t:=fun s t hs ht he=>by
      by_cases e:s=k
      ·by_cases e2:t=k
       ·omega
       ·rw [e,updF_same,updF_ne e2] at he;have:=BSI.o t (by omega);have:=BW.o;omega
      ·by_cases e2:t=k
       ·rw [e2,updF_same,updF_ne e] at he;have:=BSI.o s (by omega);have:=BW.o;omega
       ·rw [updF_ne e,updF_ne e2] at he;exact INJ.o s t (by omega) (by omega) he
     have f5:Ext w wf:=by rw [hwf];exact Below.setCell X9.o (by have:=HAN.o;dsimp only;omega) _
     have f6:∀ s,s < k+1→(eqnS m p s).2=0:=fun s hs=>by
      by_cases e:s=k
      ·rw [e,EQ.o]
      ·exact ZI.o s (by omega)
     rw [← hsv,← hwf];clear hsv hwf hkf hsz;go_roundw
     case rel=>exact ⟨k+1,_,sv,HLT.o,by go_num,f6,f0,f1,f2,f3,f4,f5⟩
     case measure=>first|(simp [intOf];done)|(simp [intOf];omega)
  ·obtain rfl:k=n:=by omega
   have q1:¬ ((k:Int) < (k:Int)):=by omega
   obtain ⟨CC,hCC⟩:=gN (madeCells #[Value.bool false,.slice none 0 0,.slice none 0 0] (k*3));have HCC:=kI hCC;have hn9:=HN2.o;clear hCC hlt;go_wp2_with (at_make;(refine wpList_make_t rfl _ _ rfl k rfl rfl Try.underlying32 Try.infoR (by omega) (by omega) CC (by exact HCC.o.symm) ?_))
   have g0:=((Blk.new wi CC 25).alloc (.cells #[.slice (some ⟨wi.heap.size,0,none⟩) k k] 32)).alloc (.cells #[.func (.func 46) #[] #[.pointer (some ⟨An+1,0,none⟩),.pointer (some ⟨wi.heap.size+1+1,0,none⟩),.pointer (some ⟨wi.heap.size+1,0,none⟩)]] 93);have g1:=(Blk.new (wi.alloc (.cells CC 25)) #[.slice (some ⟨wi.heap.size,0,none⟩) k k] 32).alloc (.cells #[.func (.func 46) #[] #[.pointer (some ⟨An+1,0,none⟩),.pointer (some ⟨wi.heap.size+1+1,0,none⟩),.pointer (some ⟨wi.heap.size+1,0,none⟩)]] 93);have g2:=Blk.new ((wi.alloc (.cells CC 25)).alloc (.cells #[.slice (some ⟨wi.heap.size,0,none⟩) k k] 32)) #[.func (.func 46) #[] #[.pointer (some ⟨An+1,0,none⟩),.pointer (some ⟨wi.heap.size+1+1,0,none⟩),.pointer (some ⟨wi.heap.size+1,0,none⟩)]] 93;have hx:Ext wi (((wi.alloc (.cells CC 25)).alloc (.cells #[.slice (some ⟨wi.heap.size,0,none⟩) k k] 32)).alloc (.cells #[.func (.func 46) #[] #[.pointer (some ⟨An+1,0,none⟩),.pointer (some ⟨wi.heap.size+1+1,0,none⟩),.pointer (some ⟨wi.heap.size+1,0,none⟩)]] 93)):=(((Ext.refl wi).alloc _).alloc _).alloc _;rw [World.size_alloc] at g1;rw [World.size_alloc,World.size_alloc] at g2;obtain ⟨wC,hwC⟩:=gN (((wi.alloc (.cells CC 25)).alloc (.cells #[.slice (some ⟨wi.heap.size,0,none⟩) k k] 32)).alloc (.cells #[.func (.func 46) #[] #[.pointer (some ⟨An+1,0,none⟩),.pointer (some ⟨wi.heap.size+1+1,0,none⟩),.pointer (some ⟨wi.heap.size+1,0,none⟩)]] 93));rw [← hwC] at g0 g1 g2 hx ⊢;obtain ⟨Rb,hRb⟩:=gN (wi.heap.size+1+1);rw [← hRb] at g2 ⊢;obtain ⟨Vb,hVb⟩:=gN (wi.heap.size+1);rw [← hVb] at g1 g2 ⊢;obtain ⟨V,hV⟩:=gN (wi.heap.size);have hVw:w.heap.size≤V:=by rw [hV];exact XI.o.size
   have hne:∀ s,s < k→V≠bs s:=fun s hs=>by have:=BSI.o s hs;omega
   rw [← hV] at g0 g1;have hlen:((List.range k).map fun s=>(s,bs s)).length=k:=by simp
   have hq0:=OwQ.ext QI.o hx;rw [hlen] at hq0;have hk0:0 < k:=by rw [HN.o];exact HN0.o
   have hlb:=A1I.o.ext hx;rw [hlen] at hlb;obtain ⟨L,hLa⟩:∃ L,la=some ⟨L,0,none⟩:=by
    obtain ⟨a,cap,e0,_,_,hr⟩:=OwRow.rdN hq0;injection e0 with e1 _ _
    obtain ⟨b,h,e3,_⟩:=hr 0 (0,bs 0) (by rw [List.getElem?_map,List.getElem?_range hk0];rfl);exact ⟨b,by rw [e1,e3]⟩
   subst hLa;obtain ⟨heq,hcap⟩:=OwQ.eqB hq0 hk0 (fun s hs=>(BSI.o s hs).1) INJ.o (fun s i=>rowK_lim _ _ _ _ _) (fun s=>(HLM.o.2 s _).1);have hva:FrN wC w.heap.size V k (fun _=>zR):=by rw [HCC.o] at g0;exact FrN.new g0
   have hred:RedI wC w.heap.size (An+1) Rb Vb L V k lcap bs (sysS m p):=⟨hlb,g2,g1,heq,hva,fun i=>zR_lim,hne,hVw,hcap,Nat.le_trans XI.o.size hx.size⟩;have RD:=kI hred;have XC:=kI (XI.o.trans hx);have VW:=kI hVw;have BW9:Hid (∀ i,RedX L V k bs i→w.heap.size≤i):=kI (fun i hi=>by
    rcases hi with e|e|⟨s,hs,e⟩
    ·rw [e];exact heq.base
    ·rw [e];exact hVw
    ·rw [e];exact (BSI.o s hs).1)
   have hcr:=cred_any w.heap.size (An+1) Rb Vb L V k lcap bs hn9 k 0 (sysS m p) wC (Nat.zero_add k) hred;rw [show ((0:Nat):Int)=0 from rfl] at hcr;clear g0 g1 g2 hx hwC hRb hVb hV hVw hne hlen hq0 hlb heq hcap hva hred;refine hcr.mono ?_;rintro e w2 ⟨he,hk2⟩;obtain ⟨P2,hP2⟩:=gN (redS k k 0 (sysS m p));rw [← hP2] at he;obtain ⟨y2,c2⟩:=P2;dsimp only at he;have HP2:=kI hP2.symm;have X2:=kI (Below.trans XC.o (hk2.below XC.o.size BW9.o));clear hk2 hP2 hcr;by_cases hz:c2=0
   rotate_left
   ·obtain rfl:=he.getE hz;(try simp +zetaDelta only [Exit.then,Exit.inBlock]);exact bodyPost_panic rfl (HBAD.o _ _ hz (by rw [solve_bad2 (by rw [← HN.o];exact ZI.o) (c:=c2) (by rw [← HN.o,HP2.o]) hz]) X2.o)
   subst hz;obtain ⟨rfl,hr2⟩:=he.get0;have R2:=kI hr2;have l0:=hr2.vb.cell;have l2:=hr2.vb.lt;clear he hr2;go_wp2_with fail;have hso:solveS m p=((List.range k).map y2.V,0):=by rw [solve_ok (by rw [← HN.o];exact ZI.o) (by rw [← HN.o,HP2.o]),← HN.o,HP2.o]
   have ho:=R2.o.va.own VW.o (by omega);go_ret;exact ⟨EndN.ok (by rw [hso]) (by rw [hso];exact ho),X2.o⟩
end Go.Proofs.Ytnnjbaijcaiohaa
