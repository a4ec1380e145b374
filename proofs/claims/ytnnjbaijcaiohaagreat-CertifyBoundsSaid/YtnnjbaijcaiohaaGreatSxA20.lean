/- Walks and lemmas. -/
import Derived.Test.YtnnjbaijcaiohaaGreatSxA19
set_option linter.unusedVariables false
set_option linter.unusedSimpArgs false
set_option maxRecDepth 100000
set_option maxHeartbeats 16000000
namespace Go.Proofs.YtnnjbaijcaiohaaGreat
open Go.RowKit
theorem uy (n s t:Nat) (y:Sys):eY n s t y=if (bD (y.M t s) (y.M s s)).2≠0 then (y,(bD (y.M t s) (y.M s s)).2)
  else if Gw n (y.M t) (bD (y.M t s) (y.M s s)).1 (y.M s) (y.S t) (y.S s)≠0 then (y,Gw n (y.M t) (bD (y.M t s) (y.M s s)).1 (y.M s) (y.S t) (y.S s))
  else (⟨bU y.M t (iH (y.M t) (bD (y.M t s) (y.M s s)).1 (y.M s) n),bU y.S t (fh (y.S t) (bD (y.M t s) (y.M s s)).1 (y.S s)).1,y.V⟩,0):=by
 unfold eY Gw;by_cases h1:(bD (y.M t s) (y.M s s)).2=0
 ·by_cases h2:nm (y.M t) (bD (y.M t s) (y.M s s)).1 (y.M s) n=0
  ·simp [h1,h2]
  ·simp [h1,h2]
 ·simp [h1]
theorem uz {n s:Nat} {y:Sys} {j:Nat} {c:Int} (h:(bV n s y j).2=c) (hc:c≠0):∀ {k:Nat},j≤k→(bV n s y k).2=c
 | 0,hk=>by obtain rfl:j=0:=(by omega);exact h
 | k+1,hk=>by
  by_cases e:j=k+1
  ·subst e;exact h
  ·have:=uz h hc (k:=k) (by omega);unfold bV;rw [if_pos (by rw [this];exact hc)];exact this
theorem rk {n s:Nat} {y:Sys} {j:Nat} (h:(bV n s y j).2=0):bV n s y (j+1)=eY n s (s+1+j) (bV n s y j).1:=by
 show (if (bV n s y j).2≠0 then bV n s y j else eY n s (s+1+j) (bV n s y j).1)=_;rw [if_neg (fun k=>k h)]
theorem uA {s:Nat} {y:Sys} {j:Nat} {c:Int} (h:(cT s y j).2=c) (hc:c≠0):∀ {k:Nat},j≤k→(cT s y k).2=c
 | 0,hk=>by obtain rfl:j=0:=(by omega);exact h
 | k+1,hk=>by
  by_cases e:j=k+1
  ·subst e;exact h
  ·have:=uA h hc (k:=k) (by omega);unfold cT;rw [if_pos (by rw [this];exact hc)];exact this
theorem zA {s:Nat} {y:Sys} {j:Nat} (h:(cT s y j).2=0):cT s y (j+1)=fh (cT s y j).1 (y.M s (s+1+j)) (y.V (s+1+j)):=by
 show (if (cT s y j).2≠0 then cT s y j else _)=_;rw [if_neg (fun k=>k h)]
theorem ph (a b:RR):au (bD a b).1:=by
 unfold bD;by_cases h:b.num=[]
 ·rw [if_pos h];unfold iS;split
  ·exact aM
  ·exact aM
 ·rw [if_neg h];exact lh a b _
theorem pi {s:Nat} {y:Sys} (h:∀ s,au (y.S s)):∀ j,au (cT s y j).1
 | 0=>h s
 | j+1=>by
  unfold cT;split
  ·exact pi h j
  ·exact sK _ _ _
theorem Cb {n k s:Nat} {y:Sys} {c:Int} (h:(bV n s y (n - (s+1))).2=c) (hc:c≠0):(bG n (k+1) s y).2=c:=by
 unfold bG;rw [if_pos (by rw [h];exact hc)];exact h
theorem Cc {n k s:Nat} {y y1:Sys} {c:Int} (h1:bV n s y (n - (s+1))=(y1,0)) (h:(bG n k (s+1) y1).2=c) (hc:c≠0):(bG n (k+1) s y).2=c:=by
 unfold bG;rw [h1,if_neg (fun h=>h rfl),if_pos (by rw [h];exact hc)];exact h
theorem Cd {n k s:Nat} {y y1 y2:Sys} {c:Int} (h1:bV n s y (n - (s+1))=(y1,0)) (h2:bG n k (s+1) y1=(y2,0)) (h:(cT s y2 (n - (s+1))).2=c) (hc:c≠0):(bG n (k+1) s y).2=c:=by
 unfold bG;rw [h1,if_neg (fun h=>h rfl),h2,if_neg (fun h=>h rfl),if_pos (by rw [h];exact hc)];exact h
theorem Ce {n k s:Nat} {y y1 y2:Sys} {a:RR} {c:Int} (h1:bV n s y (n - (s+1))=(y1,0)) (h2:bG n k (s+1) y1=(y2,0)) (h3:cT s y2 (n - (s+1))=(a,0)) (h:(bD a (y2.M s s)).2=c) (hc:c≠0):(bG n (k+1) s y).2=c:=by
 unfold bG;rw [h1,if_neg (fun h=>h rfl),h2,if_neg (fun h=>h rfl),h3,if_neg (fun h=>h rfl),if_pos (by rw [h];exact hc)];exact h
theorem IN {n k s:Nat} {y y1 y2:Sys} {a d:RR} (h1:bV n s y (n - (s+1))=(y1,0)) (h2:bG n k (s+1) y1=(y2,0)) (h3:cT s y2 (n - (s+1))=(a,0)) (h:bD a (y2.M s s)=(d,0)):bG n (k+1) s y=(⟨y2.M,y2.S,bU y2.V s d⟩,0):=by
 unfold bG;rw [h1,if_neg (fun h=>h rfl),h2,if_neg (fun h=>h rfl),h3,if_neg (fun h=>h rfl),h,if_neg (fun h=>h rfl)]
theorem cA.UK {X:Nat→Prop} {B:Nat} {W W':World} {v:Value} {l:List Int} (h:cA B W v l) (k:gm X W W') (hk:∀ (p:Nat) (c:Array Value),af W p c 157→af W' p c 157):cA B W' v l:=by
 obtain ⟨⟨a,cap,rfl,h1,h2,h3⟩,h4⟩:=h;refine ⟨⟨a,cap,rfl,h1,h2,fun i hi=>?_⟩,h4.imp id fun ⟨g,c,cur,e,hb,hs,hB⟩=>⟨g,c,cur,e,hk g cur hb,hs,hB⟩⟩;obtain ⟨b,off,e1,e2,e3,e4⟩:=h3 i hi;rcases e4 with e4|⟨cur,e4⟩
 ·omega
 ·have hb:=hk b cur e4;refine ⟨b,off,e1,hb.lt,?_,.inr ⟨cur,hb⟩⟩;rw [← e3,hb.cell,e4.cell]
structure j0 (W:World) (B Lb Rb Vb L V n cap:Nat) (bs:Nat→Nat) (y:Sys):Prop where
 lb:af W Lb #[.slice (some ⟨L,0,none⟩) n cap] 147
 rb:af W Rb #[.func (.func 144) #[] #[.pointer (some ⟨Lb,0,none⟩),.pointer (some ⟨Rb,0,none⟩),.pointer (some ⟨Vb,0,none⟩)]] 151
 vb:af W Vb #[.slice (some ⟨V,0,none⟩) n n] 29
 eq:rj W B L n n bs y.M y.S
 va:fH W B V n y.V
 Fa:∀ i,au (y.V i)
 ne:∀ s,s < n→V≠bs s
 base:B≤V
 cap:n≤cap∧cap≤9223372036854775807
 size:B≤W.heap.size
def lL (L V n:Nat) (bs:Nat→Nat) (i:Nat):Prop:=i=L∨i=V∨∃ s,s < n∧i=bs s
theorem j0.ext {W W':World} {B Lb Rb Vb L V n cap:Nat} {bs:Nat→Nat} {y:Sys} (h:j0 W B Lb Rb Vb L V n cap bs y) (x:Ext W W'):j0 W' B Lb Rb Vb L V n cap bs y:=
 ⟨h.lb.ext x,h.rb.ext x,h.vb.ext x,h.eq.ext x,h.va.ext x,h.Fa,h.ne,h.base,h.cap,Nat.le_trans h.size x.size⟩
theorem j0.Yd {W:World} {B Lb Rb Vb L V n cap:Nat} {bs:Nat→Nat} {y:Sys} (h:j0 W B Lb Rb Vb L V n cap bs y):¬ lL L V n bs Lb∧¬ lL L V n bs Rb∧¬ lL L V n bs Vb:=by
 obtain ⟨⟨cur,hL,_⟩,hrow,_⟩:=h.eq;obtain ⟨vc,hV,_⟩:=h.va;have hh:∀ (p:Nat) (c:Array Value) (t:TypeId),af W p c t→t≠150→t≠25→¬ lL L V n bs p:=fun p c t hp h1 h2 hx=>by
  rcases hx with e|e|⟨s,hs,e⟩
  ·exact hp.ne hL h1 e
  ·exact hp.ne hV h2 e
  ·obtain ⟨rc,hR,_⟩:=hrow s hs;exact hp.ne hR h2 e
 exact ⟨hh _ _ _ h.lb (by decide) (by decide),hh _ _ _ h.rb (by decide) (by decide),hh _ _ _ h.vb (by decide) (by decide)⟩
theorem j0.elim {W W':World} {B Lb Rb Vb L V n cap:Nat} {bs:Nat→Nat} {y:Sys} (h:j0 W B Lb Rb Vb L V n cap bs y) {t:Nat} (ht:t < n) {M:Nat→Nat→RR} {S:Nat→RR} (he:rj W' B L n n bs M S) (k:gm (fun i=>i=L∨i=bs t) W W'):j0 W' B Lb Rb Vb L V n cap bs ⟨M,S,y.V⟩:=by
 obtain ⟨n1,n2,n3⟩:=h.Yd;have hsub:∀ i,(i=L∨i=bs t)→lL L V n bs i:=fun i hi=>hi.elim .inl (fun e=>.inr (.inr ⟨t,ht,e⟩));have k2:=k.mono hsub;refine ⟨k2.blk h.lb n1,k2.blk h.rb n2,k2.blk h.vb n3,he,?_,h.Fa,h.ne,h.base,h.cap,Nat.le_trans h.size k.zero.size⟩;obtain ⟨cur,h1,h2,h3⟩:=h.va;obtain ⟨⟨lc,hL,_⟩,hrow,hle,_⟩:=h.eq;have Ye:V≠L:=h1.ne hL (by decide);have hk:∀ (p:Nat) (c:Array Value),af W p c 157→af W' p c 157:=fun p c hp=>k2.blk hp (fun hx=>by
  rcases hx with e|e|⟨s,hs,e⟩
  ·exact hp.ne hL (by decide) e
  ·exact hp.ne h1 (by decide) e
  ·obtain ⟨rc,hR,_⟩:=hrow s hs;exact hp.ne hR (by decide) e)
 refine ⟨cur,k.blk h1 (fun e=>e.elim Ye (h.ne t ht)),h2,fun j hj=>?_⟩;obtain ⟨a1,c1,a2,c2,e1,e2,e3,e4,e5⟩:=h3 j hj;exact ⟨a1,c1,a2,c2,e1,e2,e3,e4.UK k hk,e5.UK k hk⟩
theorem j0.IP {W:World} {B Lb Rb Vb L V n cap:Nat} {bs:Nat→Nat} {y:Sys} (h:j0 W B Lb Rb Vb L V n cap bs y) {s:Nat} (hs:s < n) {r:RR} (hr:au r) {a1:Option Addr} {c1:Nat} {a2:Option Addr} {c2:Nat} (s1:cA B W (.slice a1 r.num.length c1) r.num) (s2:cA B W (.slice a2 r.den.length c2) r.den) :
  j0 (((W.setCell ⟨V,s*3,none⟩ (.bool r.neg)).setCell ⟨V,s*3+1,none⟩ (.slice a1 r.num.length c1)).setCell ⟨V,s*3+2,none⟩ (.slice a2 r.den.length c2)) B Lb Rb Vb L V n cap bs ⟨y.M,y.S,bU y.V s r⟩:=by
 obtain ⟨cur,hV,-,-⟩:=h.va;have hko:fg V W (((W.setCell ⟨V,s*3,none⟩ (.bool r.neg)).setCell ⟨V,s*3+1,none⟩ (.slice a1 r.num.length c1)).setCell ⟨V,s*3+2,none⟩ (.slice a2 r.den.length c2)):=(((fg.ext (Ext.refl _)).set _ _).set _ _).set _ _;have hk:=hko.BU hV h.base;refine ⟨h.lb.keeps hk (by decide),h.rb.keeps hk (by decide),h.vb.keeps hk (by decide),?_,(h.va.set hs s1 s2).congr (fun i hi=>rfl),fun i=>?_,h.ne,h.base,h.cap,Nat.le_trans h.size hko.zero.size⟩
 ·obtain ⟨⟨lc,h1,h2,h3⟩,h4,h5,h6,h7,h8,h9⟩:=h.eq;exact ⟨⟨lc,h1.keeps hk (by decide),h2,fun t ht=>by obtain ⟨g0,a1,c1,a2,c2,g1,g2,g3,g4,g5⟩:=h3 t ht;exact ⟨g0,a1,c1,a2,c2,g1,g2,g3,g4.keeps hk (by decide),g5.keeps hk (by decide)⟩⟩,fun t ht=>(h4 t ht).Mx hko (Ne.symm (h.ne t ht)) hV,h5,h6,h7,h8,h9⟩
 ·by_cases e:i=s
  ·subst e;show au (bU y.V i r i);rw [aW];exact hr
  ·show au (bU y.V s r i);rw [bS e];exact h.Fa i
def IQ (L n cap t s bt bs:Nat) (a d z:RR) (r:RR × Int) (j:Nat) (v:Value) (W:World):Prop:=
 match j with
 | 0=>v=.slice (some ⟨L,0,none⟩) n cap
 | 1=>v=.int .i64 (t:Nat)
 | 2=>v=.pointer (some ⟨L,t*4,none⟩)
 | 3=>v=.slice (some ⟨L,0,none⟩) n cap
 | 4=>v=.int .i64 (t:Nat)
 | 5=>v=.pointer (some ⟨L,t*4,none⟩)
 | 6=>v=.pointer (some ⟨L,t*4,none⟩)
 | 7=>v=.slice (some ⟨bt,0,none⟩) n n
 | 8=>v=.int .i64 (s:Nat)
 | 9=>v=.pointer (some ⟨bt,s*3,none⟩)
 | 10=>∃ s1 s2 s3 s4,v=.agg #[.bool a.neg,.slice s1 a.num.length s2,.slice s3 a.den.length s4]∧aX W (.agg #[.bool a.neg,.slice s1 a.num.length s2,.slice s3 a.den.length s4]) a
 | 11=>v=.slice (some ⟨L,0,none⟩) n cap
 | 12=>v=.int .i64 (s:Nat)
 | 13=>v=.pointer (some ⟨L,s*4,none⟩)
 | 14=>v=.pointer (some ⟨L,s*4,none⟩)
 | 15=>v=.slice (some ⟨bs,0,none⟩) n n
 | 16=>v=.int .i64 (s:Nat)
 | 17=>v=.pointer (some ⟨bs,s*3,none⟩)
 | 18=>∃ s1 s2 s3 s4,v=.agg #[.bool d.neg,.slice s1 d.num.length s2,.slice s3 d.den.length s4]∧aX W (.agg #[.bool d.neg,.slice s1 d.num.length s2,.slice s3 d.den.length s4]) d
 | 19=>∃ s1 s2 s3 s4,v=.tuple #[.agg #[.bool r.1.neg,.slice s1 r.1.num.length s2,.slice s3 r.1.den.length s4],.int .i64 r.2]∧aX W (.agg #[.bool r.1.neg,.slice s1 r.1.num.length s2,.slice s3 r.1.den.length s4]) r.1
 | 20=>∃ s1 s2 s3 s4,v=.agg #[.bool r.1.neg,.slice s1 r.1.num.length s2,.slice s3 r.1.den.length s4]∧aX W (.agg #[.bool r.1.neg,.slice s1 r.1.num.length s2,.slice s3 r.1.den.length s4]) r.1
 | 21=>v=.int .i64 r.2
 | 22=>r.2=0∧∃ s1 s2 s3 s4,v=.agg #[.bool r.1.neg,.slice s1 r.1.num.length s2,.slice s3 r.1.den.length s4]∧aX W (.agg #[.bool r.1.neg,.slice s1 r.1.num.length s2,.slice s3 r.1.den.length s4]) r.1
 | 23=>v=.slice (some ⟨L,0,none⟩) n cap
 | 24=>v=.int .i64 (s:Nat)
 | 25=>v=.pointer (some ⟨L,s*4,none⟩)
 | 26=>∃ s1 s2 s3 s4,v=.agg #[.slice (some ⟨bs,0,none⟩) n n,.bool z.neg,.slice s1 z.num.length s2,.slice s3 z.den.length s4]∧aX W (.agg #[.bool z.neg,.slice s1 z.num.length s2,.slice s3 z.den.length s4]) z
 | _=>True
theorem Cf {L n cap t s bt bs:Nat} {a d z:RR} {r:RR × Int} {j:Nat} {v:Value} {W W':World} (h:IQ L n cap t s bt bs a d z r j v W) (xx:Ext W W'):IQ L n cap t s bt bs a d z r j v W':=by
 match j,h with
 | 0,h=>exact h
 | 1,h=>exact h
 | 2,h=>exact h
 | 3,h=>exact h
 | 4,h=>exact h
 | 5,h=>exact h
 | 6,h=>exact h
 | 7,h=>exact h
 | 8,h=>exact h
 | 9,h=>exact h
 | 10,⟨s1,s2,s3,s4,h1,h2⟩=>exact ⟨s1,s2,s3,s4,h1,h2.ext xx⟩
 | 11,h=>exact h
 | 12,h=>exact h
 | 13,h=>exact h
 | 14,h=>exact h
 | 15,h=>exact h
 | 16,h=>exact h
 | 17,h=>exact h
 | 18,⟨s1,s2,s3,s4,h1,h2⟩=>exact ⟨s1,s2,s3,s4,h1,h2.ext xx⟩
 | 19,⟨s1,s2,s3,s4,h0,h1⟩=>exact ⟨s1,s2,s3,s4,h0,h1.ext xx⟩
 | 20,⟨s1,s2,s3,s4,h0,h1⟩=>exact ⟨s1,s2,s3,s4,h0,h1.ext xx⟩
 | 21,h=>exact h
 | 22,⟨h9,s1,s2,s3,s4,h0,h1⟩=>exact ⟨h9,s1,s2,s3,s4,h0,h1.ext xx⟩
 | 23,h=>exact h
 | 24,h=>exact h
 | 25,h=>exact h
 | 26,⟨s1,s2,s3,s4,h1,h2⟩=>exact ⟨s1,s2,s3,s4,h1,h2.ext xx⟩
 | _+27,_=>trivial
def Cg (L V n cap t s bs:Nat) (x f y:RR) (r q:RR × Int) (B:Nat) (j:Nat) (v:Value) (W:World):Prop:=
 match j with
 | 0=>∃ s1 s2 s3 s4,v=.agg #[.bool x.neg,.slice s1 x.num.length s2,.slice s3 x.den.length s4]∧aX W (.agg #[.bool x.neg,.slice s1 x.num.length s2,.slice s3 x.den.length s4]) x
 | 1=>v=.slice (some ⟨L,0,none⟩) n cap
 | 2=>v=.int .i64 (s:Nat)
 | 3=>v=.pointer (some ⟨L,s*4,none⟩)
 | 4=>v=.pointer (some ⟨L,s*4,none⟩)
 | 5=>v=.slice (some ⟨bs,0,none⟩) n n
 | 6=>v=.int .i64 (t:Nat)
 | 7=>v=.pointer (some ⟨bs,t*3,none⟩)
 | 8=>∃ s1 s2 s3 s4,v=.agg #[.bool f.neg,.slice s1 f.num.length s2,.slice s3 f.den.length s4]∧aX W (.agg #[.bool f.neg,.slice s1 f.num.length s2,.slice s3 f.den.length s4]) f
 | 9=>v=.slice (some ⟨V,0,none⟩) n n
 | 10=>v=.int .i64 (t:Nat)
 | 11=>v=.pointer (some ⟨V,t*3,none⟩)
 | 12=>∃ s1 s2 s3 s4,v=.agg #[.bool y.neg,.slice s1 y.num.length s2,.slice s3 y.den.length s4]∧aX W (.agg #[.bool y.neg,.slice s1 y.num.length s2,.slice s3 y.den.length s4]) y
 | 13=>∃ s1 s2 s3 s4,v=.tuple #[.agg #[.bool r.1.neg,.slice s1 r.1.num.length s2,.slice s3 r.1.den.length s4],.int .i64 r.2]∧aX W (.agg #[.bool r.1.neg,.slice s1 r.1.num.length s2,.slice s3 r.1.den.length s4]) r.1
 | 14=>∃ s1 s2 s3 s4,v=.agg #[.bool r.1.neg,.slice s1 r.1.num.length s2,.slice s3 r.1.den.length s4]∧aX W (.agg #[.bool r.1.neg,.slice s1 r.1.num.length s2,.slice s3 r.1.den.length s4]) r.1
 | 15=>v=.int .i64 r.2
 | 16=>r.2=0∧∃ s1 s2 s3 s4,v=.agg #[.bool r.1.neg,.slice s1 r.1.num.length s2,.slice s3 r.1.den.length s4]∧aX W (.agg #[.bool r.1.neg,.slice s1 r.1.num.length s2,.slice s3 r.1.den.length s4]) r.1
 | 17=>r.2=0∧∃ s1 s2 s3 s4,v=.tuple #[.agg #[.bool q.1.neg,.slice s1 q.1.num.length s2,.slice s3 q.1.den.length s4],.int .i64 q.2]∧cA B W (.slice s1 q.1.num.length s2) q.1.num∧cA B W (.slice s3 q.1.den.length s4) q.1.den
 | 18=>r.2=0∧∃ s1 s2 s3 s4,v=.agg #[.bool q.1.neg,.slice s1 q.1.num.length s2,.slice s3 q.1.den.length s4]∧cA B W (.slice s1 q.1.num.length s2) q.1.num∧cA B W (.slice s3 q.1.den.length s4) q.1.den
 | 19=>v=.int .i64 q.2
 | 20=>q.2=0∧∃ s1 s2 s3 s4,v=.agg #[.bool q.1.neg,.slice s1 q.1.num.length s2,.slice s3 q.1.den.length s4]∧cA B W (.slice s1 q.1.num.length s2) q.1.num∧cA B W (.slice s3 q.1.den.length s4) q.1.den
 | _=>True
theorem zB {L V n cap t s bs:Nat} {x f y:RR} {r q:RR × Int} {B:Nat} {j:Nat} {v:Value} {W W':World} (h:Cg L V n cap t s bs x f y r q B j v W) (xx:Ext W W'):Cg L V n cap t s bs x f y r q B j v W':=by
 match j,h with
 | 0,⟨s1,s2,s3,s4,h1,h2⟩=>exact ⟨s1,s2,s3,s4,h1,h2.ext xx⟩
 | 1,h=>exact h
 | 2,h=>exact h
 | 3,h=>exact h
 | 4,h=>exact h
 | 5,h=>exact h
 | 6,h=>exact h
 | 7,h=>exact h
 | 8,⟨s1,s2,s3,s4,h1,h2⟩=>exact ⟨s1,s2,s3,s4,h1,h2.ext xx⟩
 | 9,h=>exact h
 | 10,h=>exact h
 | 11,h=>exact h
 | 12,⟨s1,s2,s3,s4,h1,h2⟩=>exact ⟨s1,s2,s3,s4,h1,h2.ext xx⟩
 | 13,⟨s1,s2,s3,s4,h0,h1⟩=>exact ⟨s1,s2,s3,s4,h0,h1.ext xx⟩
 | 14,⟨s1,s2,s3,s4,h0,h1⟩=>exact ⟨s1,s2,s3,s4,h0,h1.ext xx⟩
 | 15,h=>exact h
 | 16,⟨h9,s1,s2,s3,s4,h0,h1⟩=>exact ⟨h9,s1,s2,s3,s4,h0,h1.ext xx⟩
 | 17,⟨h9,s1,s2,s3,s4,h0,h1,h2⟩=>exact ⟨h9,s1,s2,s3,s4,h0,h1.ext xx,h2.ext xx⟩
 | 18,⟨h9,s1,s2,s3,s4,h0,h1,h2⟩=>exact ⟨h9,s1,s2,s3,s4,h0,h1.ext xx,h2.ext xx⟩
 | 19,h=>exact h
 | 20,⟨h9,s1,s2,s3,s4,h0,h1,h2⟩=>exact ⟨h9,s1,s2,s3,s4,h0,h1.ext xx,h2.ext xx⟩
 | _+21,_=>trivial
def Ch (L V n cap s bs:Nat) (x d:RR) (r:RR × Int) (B:Nat) (j:Nat) (v:Value) (W:World):Prop:=
 match j with
 | 0=>v=.slice (some ⟨V,0,none⟩) n n
 | 1=>v=.int .i64 (s:Nat)
 | 2=>∃ s1 s2 s3 s4,v=.agg #[.bool x.neg,.slice s1 x.num.length s2,.slice s3 x.den.length s4]∧aX W (.agg #[.bool x.neg,.slice s1 x.num.length s2,.slice s3 x.den.length s4]) x
 | 3=>v=.slice (some ⟨L,0,none⟩) n cap
 | 4=>v=.int .i64 (s:Nat)
 | 5=>v=.pointer (some ⟨L,s*4,none⟩)
 | 6=>v=.pointer (some ⟨L,s*4,none⟩)
 | 7=>v=.slice (some ⟨bs,0,none⟩) n n
 | 8=>v=.int .i64 (s:Nat)
 | 9=>v=.pointer (some ⟨bs,s*3,none⟩)
 | 10=>∃ s1 s2 s3 s4,v=.agg #[.bool d.neg,.slice s1 d.num.length s2,.slice s3 d.den.length s4]∧aX W (.agg #[.bool d.neg,.slice s1 d.num.length s2,.slice s3 d.den.length s4]) d
 | 11=>∃ s1 s2 s3 s4,v=.tuple #[.agg #[.bool r.1.neg,.slice s1 r.1.num.length s2,.slice s3 r.1.den.length s4],.int .i64 r.2]∧cA B W (.slice s1 r.1.num.length s2) r.1.num∧cA B W (.slice s3 r.1.den.length s4) r.1.den
 | 12=>∃ s1 s2 s3 s4,v=.agg #[.bool r.1.neg,.slice s1 r.1.num.length s2,.slice s3 r.1.den.length s4]∧cA B W (.slice s1 r.1.num.length s2) r.1.num∧cA B W (.slice s3 r.1.den.length s4) r.1.den
 | 13=>v=.int .i64 r.2
 | 14=>r.2=0∧∃ s1 s2 s3 s4,v=.agg #[.bool r.1.neg,.slice s1 r.1.num.length s2,.slice s3 r.1.den.length s4]∧cA B W (.slice s1 r.1.num.length s2) r.1.num∧cA B W (.slice s3 r.1.den.length s4) r.1.den
 | _=>True
theorem zD {L V n cap s bs:Nat} {x d:RR} {r:RR × Int} {B:Nat} {j:Nat} {v:Value} {W W':World} (h:Ch L V n cap s bs x d r B j v W) (xx:Ext W W'):Ch L V n cap s bs x d r B j v W':=by
 match j,h with
 | 0,h=>exact h
 | 1,h=>exact h
 | 2,⟨s1,s2,s3,s4,h1,h2⟩=>exact ⟨s1,s2,s3,s4,h1,h2.ext xx⟩
 | 3,h=>exact h
 | 4,h=>exact h
 | 5,h=>exact h
 | 6,h=>exact h
 | 7,h=>exact h
 | 8,h=>exact h
 | 9,h=>exact h
 | 10,⟨s1,s2,s3,s4,h1,h2⟩=>exact ⟨s1,s2,s3,s4,h1,h2.ext xx⟩
 | 11,⟨s1,s2,s3,s4,h0,h1,h2⟩=>exact ⟨s1,s2,s3,s4,h0,h1.ext xx,h2.ext xx⟩
 | 12,⟨s1,s2,s3,s4,h0,h1,h2⟩=>exact ⟨s1,s2,s3,s4,h0,h1.ext xx,h2.ext xx⟩
 | 13,h=>exact h
 | 14,⟨h9,s1,s2,s3,s4,h0,h1,h2⟩=>exact ⟨h9,s1,s2,s3,s4,h0,h1.ext xx,h2.ext xx⟩
 | _+15,_=>trivial
theorem Ci (B Lb Rb Vb L V n cap:Nat) (bs:Nat→Nat) (hn:n≤200):∀ (k s:Nat) (y:Sys) (w:World),s+k=n→j0 w B Lb Rb Vb L V n cap bs y→
  Calls Tryz.prog 144 #[.int .i64 (s:Nat),.pointer (some ⟨Lb,0,none⟩),.pointer (some ⟨Rb,0,none⟩),.pointer (some ⟨Vb,0,none⟩)] w fun e w'=>dZ e (bG n k s y).2 (j0 w' B Lb Rb Vb L V n cap bs (bG n k s y).1)∧gm (lL L V n bs) w w':=by
 intro k;induction k with
 | zero=>
  intro s y w hs h;have HI:=kI h;have l0:=h.lb.cell;have l2:=h.lb.lt;have q1:((s:Int) == (n:Int))=true:=by simp;omega
  have q2:(s:Int)=(n:Int):=by omega
  clear h;go_enter Tryz.func144,Tryz.ntmps144
  go_wp2_with fail;(try simp only [Exit.inBlock,Exit.then]);refine bodyPost_ret (results_none rfl _ _ _) rfl ?_;exact ⟨dZ.ok rfl HI.o,gm.ext (Ext.refl _)⟩
 | succ k ih=>
  intro s y w hs h;have IH:=kI ih;have HI:=kI h;have Oq:Hid (s < n):=kI (by omega);have Ku:=kI hs;clear ih h;have l0:=HI.o.lb.cell;have l2:=HI.o.lb.lt;have q1:((s:Int) == (n:Int))=false:=by simp;omega
  have q2:¬ (s:Int)=(n:Int):=by omega
  have q3:(s:Int) < 200:=by omega
  go_enter Tryz.func144,Tryz.ntmps144
  go_wp2_with fail;clear l0 l2 q1 q2;have hK0:n - (s+1)=k:=by omega
  have MF:=kI hK0;clear hK0;go_loopw [5] (fun i wr=>∃ (j:Nat) (y1:Sys),j≤k∧i=.int .i64 ((s+1+j:Nat):Int)∧bV n s y j=(y1,0)∧j0 wr B Lb Rb Vb L V n cap bs y1∧gm (lL L V n bs) w wr) (fun i _=>n - (intOf i).toNat)
  case atStart=>exact ⟨0,y,Nat.zero_le _,by simp,rfl,HI.o,gm.ext (Ext.refl _)⟩
  case round=>
   obtain ⟨wi,hwi⟩:=gN (wr);subst hwi;obtain ⟨j,y1,hj,rfl,hf,hr,hkp⟩:=hrel;have RI:=kI hr;have FI:=kI hf;have KI:=kI hkp;obtain ⟨t,ht⟩:=gN (s+1+j);rw [← ht];have HT:=kI ht;have l0:=RI.o.lb.cell;have l2:=RI.o.lb.lt;clear hr hf hkp;by_cases hlt:t < n
   ·have dQ:=kI hlt;have hsn:=Oq.o;have q4:(t:Int) < (n:Int):=by omega
    have q5:(0:Int)≤(t:Int):=by omega
    have q6:(0:Int)≤(s:Int):=by omega
    have q7:(s:Int) < (n:Int):=by omega
    have hts:s≠t:=by omega
    clear ht;go_wp2_with fail;obtain ⟨x1,x2,x3,x4,xl,xc0,jo,Rn,Ro,-⟩:=RI.o.eq.at hlt;obtain ⟨z1,z2,z3,z4,zl,Dh,Kv,Kw,Kx,IR⟩:=RI.o.eq.at hsn;obtain ⟨a1,a2,a3,a4,Rs,Rt,Ru,Rv⟩:=(RI.o.eq.row t hlt).at (j:=s) hsn;obtain ⟨d1,d2,d3,d4,Rw,Rx,Ry,Rz⟩:=(RI.o.eq.row s hsn).at (j:=s) hsn;obtain ⟨a,ha⟩:=gN (y1.M t s);obtain ⟨d,hd⟩:=gN (y1.M s s);obtain ⟨zz,hz⟩:=gN (y1.S s);rw [← ha] at Rs Rt Ru Rv;rw [← hd] at Rw Rx Ry Rz;rw [← hz] at Kv Kw Kx IR;have TC:Hid (L < wi.heap.size∧wi.cell? ⟨L,t*4,none⟩=some (.slice (some ⟨bs t,0,none⟩) n n)):=kI ⟨xl,xc0⟩;have SC:Hid (wi.cell? ⟨L,s*4,none⟩=some (.slice (some ⟨bs s,0,none⟩) n n)∧wi.cell? ⟨L,s*4+1,none⟩=some (.bool zz.neg)∧wi.cell? ⟨L,s*4+2,none⟩=some (.slice z1 zz.num.length z2)∧wi.cell? ⟨L,s*4+3,none⟩=some (.slice z3 zz.den.length z4)∧aX wi (.agg #[.bool zz.neg,.slice z1 zz.num.length z2,.slice z3 zz.den.length z4]) zz):=kI ⟨Dh,Kv,Kw,Kx,IR⟩;have AC:Hid (bs t < wi.heap.size∧wi.cell? ⟨bs t,s*3,none⟩=some (.bool a.neg)∧wi.cell? ⟨bs t,s*3+1,none⟩=some (.slice a1 a.num.length a2)∧wi.cell? ⟨bs t,s*3+2,none⟩=some (.slice a3 a.den.length a4)∧aX wi (.agg #[.bool a.neg,.slice a1 a.num.length a2,.slice a3 a.den.length a4]) a):=kI ⟨(RI.o.eq.row t hlt).lt,Rs,Rt,Ru,Rv⟩;have DC:Hid (bs s < wi.heap.size∧wi.cell? ⟨bs s,s*3,none⟩=some (.bool d.neg)∧wi.cell? ⟨bs s,s*3+1,none⟩=some (.slice d1 d.num.length d2)∧wi.cell? ⟨bs s,s*3+2,none⟩=some (.slice d3 d.den.length d4)∧aX wi (.agg #[.bool d.neg,.slice d1 d.num.length d2,.slice d3 d.den.length d4]) d):=kI ⟨(RI.o.eq.row s hsn).lt,Rw,Rx,Ry,Rz⟩;have hal:au a:=by rw [ha];exact RI.o.eq.wI t s
    have hdl:au d:=by rw [hd];exact RI.o.eq.wI s s
    have HA:=kI ha;have HD:=kI hd;have HZ:=kI hz;have ER:=kI hal;have Im:=kI hdl;obtain ⟨R,hR⟩:=gN (bD a d);have hrl:au R.1:=by rw [hR];exact ph _ _
    have HR:=kI hR;have Da:=kI hrl;have JK:Hid (j+1≤n - (s+1)):=kI (by rw [MF.o];have:=HT.o;have:=dQ.o;have:=Ku.o;omega);have Di:Hid (∀ c,c≠0→(eY n s t y1).2=c→(bG n (k+1) s y).2=c):=kI (fun c hc h=>Cb (uz (j:=j+1) (by rw [rk (by rw [FI.o]),FI.o,← HT.o];exact h) hc JK.o) hc);clear xl xc0 jo Rn Ro zl Dh Kv Kw Kx IR Rs Rt Ru Rv Rw Rx Ry Rz ha hd hz hal hdl hR hrl l0 l2;have X:=kI (Ext.refl wi);refine aD 27 (IQ L n cap t s (bs t) (bs s) a d zz R) (by kernel_rfl) (by kernel_rfl) (by kernel_rfl) (fun _ _ _ _ h x=>Cf h x) ?_ ?_
    ·refine ⟨?_,?_,?_,?_,?_,?_,?_,?_,?_,?_,?_,?_,?_,?_,?_,?_,?_,?_,?_,?_,?_,?_,?_,?_,?_,?_,?_,trivial⟩
     ·intro a W hW Z hB hD K hK;have aJ:=kI Z;clear Z;have b1:=hB 1 rfl;simp only [sB] at b1;have q9:=(RI.o.lb.ext hW).cell;have l9:=(RI.o.lb.ext hW).lt;go_simp;exact hK _ _ (Ext.refl _) rfl
     ·intro a W hW Z hB hD K hK;have aJ:=kI Z;clear Z;have b5:=hB 5 rfl;simp only [sB] at b5;go_simp;exact hK _ _ (Ext.refl _) rfl
     ·intro a W hW Z hB hD K hK;have aJ:=kI Z;clear Z;obtain ⟨v20,e20,h20⟩:=az (hD 0 _ 20 rfl rfl (by kernel_rfl));obtain rfl:=h20;obtain ⟨v21,e21,h21⟩:=az (hD 1 _ 21 rfl rfl (by kernel_rfl));obtain rfl:=h21;go_simp;exact hK _ _ (Ext.refl _) rfl
     ·intro a W hW Z hB hD K hK;have aJ:=kI Z;clear Z;have b1:=hB 1 rfl;simp only [sB] at b1;have q9:=(RI.o.lb.ext hW).cell;have l9:=(RI.o.lb.ext hW).lt;go_simp;exact hK _ _ (Ext.refl _) rfl
     ·intro a W hW Z hB hD K hK;have aJ:=kI Z;clear Z;have b5:=hB 5 rfl;simp only [sB] at b5;go_simp;exact hK _ _ (Ext.refl _) rfl
     ·intro a W hW Z hB hD K hK;have aJ:=kI Z;clear Z;obtain ⟨v23,e23,h23⟩:=az (hD 3 _ 23 rfl rfl (by kernel_rfl));obtain rfl:=h23;obtain ⟨v24,e24,qS⟩:=az (hD 4 _ 24 rfl rfl (by kernel_rfl));obtain rfl:=qS;go_simp;exact hK _ _ (Ext.refl _) rfl
     ·intro a W hW Z hB hD K hK;have aJ:=kI Z;clear Z;obtain ⟨v25,e25,Bd⟩:=az (hD 5 _ 25 rfl rfl (by kernel_rfl));obtain rfl:=Bd;go_simp;exact hK _ _ (Ext.refl _) rfl
     ·intro a W hW Z hB hD K hK;have aJ:=kI Z;clear Z;obtain ⟨v26,e26,zx⟩:=az (hD 6 _ 26 rfl rfl (by kernel_rfl));obtain rfl:=zx;have m0:=(hW.cell (p:=⟨L,t*4,none⟩) TC.o.1).trans TC.o.2;have ml:=Nat.lt_of_lt_of_le TC.o.1 hW.size;go_simp;exact hK _ _ (Ext.refl _) rfl
     ·intro a W hW Z hB hD K hK;have aJ:=kI Z;clear Z;have b0:=hB 0 rfl;simp only [sB] at b0;go_simp;exact hK _ _ (Ext.refl _) rfl
     ·intro a W hW Z hB hD K hK;have aJ:=kI Z;clear Z;obtain ⟨v27,e27,h27⟩:=az (hD 7 _ 27 rfl rfl (by kernel_rfl));obtain rfl:=h27;obtain ⟨v28,e28,h28⟩:=az (hD 8 _ 28 rfl rfl (by kernel_rfl));obtain rfl:=h28;go_simp;exact hK _ _ (Ext.refl _) rfl
     ·intro a W hW Z hB hD K hK;have aJ:=kI Z;clear Z;obtain ⟨v29,e29,BT⟩:=az (hD 9 _ 29 rfl rfl (by kernel_rfl));obtain rfl:=BT;have m0:=(hW.cell (p:=⟨bs t,s*3,none⟩) AC.o.1).trans AC.o.2.1;have m1:=(hW.cell (p:=⟨bs t,s*3+1,none⟩) AC.o.1).trans AC.o.2.2.1;have m2:=(hW.cell (p:=⟨bs t,s*3+2,none⟩) AC.o.1).trans AC.o.2.2.2.1;have ml:=Nat.lt_of_lt_of_le AC.o.1 hW.size;go_simp;exact hK _ _ (Ext.refl _) ⟨_,_,_,_,rfl,AC.o.2.2.2.2.ext hW⟩
     ·intro a W hW Z hB hD K hK;have aJ:=kI Z;clear Z;have b1:=hB 1 rfl;simp only [sB] at b1;have q9:=(RI.o.lb.ext hW).cell;have l9:=(RI.o.lb.ext hW).lt;go_simp;exact hK _ _ (Ext.refl _) rfl
     ·intro a W hW Z hB hD K hK;have aJ:=kI Z;clear Z;have b0:=hB 0 rfl;simp only [sB] at b0;go_simp;exact hK _ _ (Ext.refl _) rfl
     ·intro a W hW Z hB hD K hK;have aJ:=kI Z;clear Z;obtain ⟨v31,e31,h31⟩:=az (hD 11 _ 31 rfl rfl (by kernel_rfl));obtain rfl:=h31;obtain ⟨v32,e32,h32⟩:=az (hD 12 _ 32 rfl rfl (by kernel_rfl));obtain rfl:=h32;go_simp;exact hK _ _ (Ext.refl _) rfl
     ·intro a W hW Z hB hD K hK;have aJ:=kI Z;clear Z;obtain ⟨v33,e33,Fb⟩:=az (hD 13 _ 33 rfl rfl (by kernel_rfl));obtain rfl:=Fb;go_simp;exact hK _ _ (Ext.refl _) rfl
     ·intro a W hW Z hB hD K hK;have aJ:=kI Z;clear Z;obtain ⟨v34,e34,IS⟩:=az (hD 14 _ 34 rfl rfl (by kernel_rfl));obtain rfl:=IS;have m0:=(hW.cell (p:=⟨L,s*4,none⟩) TC.o.1).trans SC.o.1;have ml:=Nat.lt_of_lt_of_le TC.o.1 hW.size;go_simp;exact hK _ _ (Ext.refl _) rfl
     ·intro a W hW Z hB hD K hK;have aJ:=kI Z;clear Z;have b0:=hB 0 rfl;simp only [sB] at b0;go_simp;exact hK _ _ (Ext.refl _) rfl
     ·intro a W hW Z hB hD K hK;have aJ:=kI Z;clear Z;obtain ⟨v35,e35,h35⟩:=az (hD 15 _ 35 rfl rfl (by kernel_rfl));obtain rfl:=h35;obtain ⟨v36,e36,MG⟩:=az (hD 16 _ 36 rfl rfl (by kernel_rfl));obtain rfl:=MG;go_simp;exact hK _ _ (Ext.refl _) rfl
     ·intro a W hW Z hB hD K hK;have aJ:=kI Z;clear Z;obtain ⟨v37,e37,h37⟩:=az (hD 17 _ 37 rfl rfl (by kernel_rfl));obtain rfl:=h37;have m0:=(hW.cell (p:=⟨bs s,s*3,none⟩) DC.o.1).trans DC.o.2.1;have m1:=(hW.cell (p:=⟨bs s,s*3+1,none⟩) DC.o.1).trans DC.o.2.2.1;have m2:=(hW.cell (p:=⟨bs s,s*3+2,none⟩) DC.o.1).trans DC.o.2.2.2.1;have ml:=Nat.lt_of_lt_of_le DC.o.1 hW.size;go_simp;exact hK _ _ (Ext.refl _) ⟨_,_,_,_,rfl,DC.o.2.2.2.2.ext hW⟩
     ·intro a W hW Z hB hD K hK;have aJ:=kI Z;clear Z;obtain ⟨v30,e30,h30⟩:=az (hD 10 _ 30 rfl rfl (by kernel_rfl));obtain ⟨x91,eZ,x93,fb,rfl,qi⟩:=h30;obtain ⟨v38,e38,h38⟩:=az (hD 18 _ 38 rfl rfl (by kernel_rfl));obtain ⟨y91,EY,y93,EZ,rfl,qj⟩:=h38;go_simp;have hmu:=oI _ _ _ _ W qi qj ER.o Im.o;rw [← HR.o] at hmu;refine hmu.mono ?_;rintro e w9 ⟨⟨v,rfl,nn⟩,hx⟩;obtain ⟨t1,t2,t3,t4,rfl⟩:=nn.shape;exact hK _ _ hx ⟨_,_,_,_,rfl,nn.rd⟩
     ·intro a W hW Z hB hD K hK;have aJ:=kI Z;clear Z;obtain ⟨v39,e39,MH⟩:=az (hD 19 _ 39 rfl rfl (by kernel_rfl));obtain ⟨x91,eZ,x93,fb,rfl,xq⟩:=MH;go_simp;exact hK _ _ (Ext.refl _) ⟨_,_,_,_,rfl,xq⟩
     ·intro a W hW Z hB hD K hK;have aJ:=kI Z;clear Z;obtain ⟨v39,e39,MH⟩:=az (hD 19 _ 39 rfl rfl (by kernel_rfl));obtain ⟨x91,eZ,x93,fb,rfl,xq⟩:=MH;go_simp;exact hK _ _ (Ext.refl _) rfl
     ·intro a W hW Z hB hD K hK;have aJ:=kI Z;clear Z;obtain ⟨v40,e40,RC⟩:=az (hD 20 _ 40 rfl rfl (by kernel_rfl));obtain ⟨x91,eZ,x93,fb,rfl,xq⟩:=RC;obtain ⟨v41,e41,RE⟩:=az (hD 21 _ 41 rfl rfl (by kernel_rfl));obtain rfl:=RE;go_simp;by_cases hpe:R.2=0
      ·rw [hpe];refine (bI _ _ _ _ _ _ _ W).mono ?_;rintro e w9 ⟨rfl,hx⟩;exact hK _ _ hx ⟨hpe,_,_,_,_,rfl,xq.ext hx⟩
      ·refine (bp _ _ _ _ _ _ _ _ rfl hpe W).mono ?_;rintro e w9 ⟨rfl,hx⟩;(try simp +zetaDelta only [Exit.then,Exit.inBlock]);exact aA aJ.o ⟨dZ.bad hpe (Di.o _ hpe (by rw [uy,← HA.o,← HD.o,← HR.o,if_pos hpe])),KI.o.trans (gm.ext (hW.trans hx))⟩
     ·intro a W hW Z hB hD K hK;have aJ:=kI Z;clear Z;have b1:=hB 1 rfl;simp only [sB] at b1;have q9:=(RI.o.lb.ext hW).cell;have l9:=(RI.o.lb.ext hW).lt;go_simp;exact hK _ _ (Ext.refl _) rfl
     ·intro a W hW Z hB hD K hK;have aJ:=kI Z;clear Z;have b0:=hB 0 rfl;simp only [sB] at b0;go_simp;exact hK _ _ (Ext.refl _) rfl
     ·intro a W hW Z hB hD K hK;have aJ:=kI Z;clear Z;obtain ⟨v43,e43,h43⟩:=az (hD 23 _ 43 rfl rfl (by kernel_rfl));obtain rfl:=h43;obtain ⟨v44,e44,Yf⟩:=az (hD 24 _ 44 rfl rfl (by kernel_rfl));obtain rfl:=Yf;go_simp;exact hK _ _ (Ext.refl _) rfl
     ·intro a W hW Z hB hD K hK;have aJ:=kI Z;clear Z;obtain ⟨v45,e45,h45⟩:=az (hD 25 _ 45 rfl rfl (by kernel_rfl));obtain rfl:=h45;have m0:=(hW.cell (p:=⟨L,s*4,none⟩) TC.o.1).trans SC.o.1;have m1:=(hW.cell (p:=⟨L,s*4+1,none⟩) TC.o.1).trans SC.o.2.1;have m2:=(hW.cell (p:=⟨L,s*4+2,none⟩) TC.o.1).trans SC.o.2.2.1;have m3:=(hW.cell (p:=⟨L,s*4+3,none⟩) TC.o.1).trans SC.o.2.2.2.1;have ml:=Nat.lt_of_lt_of_le TC.o.1 hW.size;go_simp;exact hK _ _ (Ext.refl _) ⟨_,_,_,_,rfl,SC.o.2.2.2.2.ext hW⟩
    intro w5 hx;simp only [cX,List.take_succ_cons,List.take_zero,List.drop_succ_cons,List.drop_zero];rintro u0 - u1 - u2 h2 u3 - u4 - u5 - u6 - u7 - u8 - u9 - u10 - u11 - u12 - u13 - u14 - u15 - u16 - Ot - Ou - RF - u20 - u21 - u22 h22 u23 - u24 - u25 - u26 zx;obtain rfl:=h2;obtain ⟨hp1,v1,v2,v3,v4,rfl,HF⟩:=h22;obtain ⟨v5,v6,v7,v8,rfl,UL⟩:=zx;simp only [Act.put,List.setIfInBounds_toArray,List.set_cons_zero,List.set_cons_succ];have P1:=kI hp1;have Yg:=kI HF;have Yh:=kI UL;have X5:=kI hx;have R5:=kI (RI.o.ext hx);clear hp1 HF UL hx;go_wp2_with fail;obtain ⟨ce,hce⟩:=gN (Gw n (y1.M t) R.1 (y1.M s) (y1.S t) (y1.S s));have hel:=zy L t s n B n bs y1.M y1.S R.1 _ w5 R5.o.eq dQ.o Oq.o hts Yg.o Da.o (by omega) R5.o.size v5 v6 v7 v8 (by rw [← HZ.o];exact Yh.o);rw [← HZ.o] at hel;refine hel.mono ?_;rintro e w6 ⟨he,hk⟩;rw [HZ.o,← hce] at he;have K6:Hid (gm (lL L V n bs) w w6):=kI ((KI.o.trans (gm.ext X5.o)).trans (hk.mono (fun i hi=>hi.elim Or.inl (fun e=>Or.inr (Or.inr ⟨t,dQ.o,e⟩)))));have hst1:eY n s t y1=if ce≠0 then (y1,ce) else (⟨bU y1.M t (iH (y1.M t) R.1 (y1.M s) n),bU y1.S t (fh (y1.S t) R.1 (y1.S s)).1,y1.V⟩,0):=by
     rw [uy,← HA.o,← HD.o,← HR.o,if_neg (fun h=>h P1.o),← hce]
    have ST1:=kI hst1;clear hel hce hst1;by_cases hz:ce=0
    rotate_left
    ·obtain rfl:=he.oX hz;(try simp +zetaDelta only [Exit.then,Exit.inBlock]);exact aA rfl ⟨dZ.bad hz (Di.o _ hz (by rw [ST1.o,if_pos hz])),K6.o⟩
    subst hz;obtain ⟨rfl,heq⟩:=he.oW;have R6:=kI (R5.o.elim dQ.o heq hk);have Yi:Hid (bV n s y (j+1)=(⟨bU y1.M t (iH (y1.M t) R.1 (y1.M s) n),bU y1.S t (fh (y1.S t) R.1 (y1.S s)).1,y1.V⟩,0)):=kI (by rw [rk (by rw [FI.o]),FI.o,← HT.o,ST1.o,if_neg (fun h=>h rfl)]);clear he heq hk;go_wp2_with fail;go_roundw
    case rel=>exact ⟨j+1,_,by have:=HT.o;have:=dQ.o;have:=Ku.o;omega,by rw [HT.o];go_num,Yi.o,R6.o,K6.o⟩
    case measure=>first|(simp [intOf];done)|(simp [intOf];omega)
   ·have hje:j=k:=by have:=Ku.o;omega
    subst hje;have q4:¬ (t:Int) < (n:Int):=by omega
    have F1:Hid (bV n s y (n - (s+1))=(y1,0)):=kI (by rw [MF.o];exact FI.o);have Yj:=RI.o.rb.cell;have Yk:=RI.o.rb.lt;clear ht;go_wp2_with fail;clear Yj Yk q4 l0 l2;have hih:=IH.o (s+1) y1 wi (by have:=Ku.o;omega) RI.o;rw [show ((s+1:Nat):Int)=(s:Int)+1 from by omega] at hih;refine hih.mono ?_;clear hih;rintro e w3 ⟨he,hk⟩;obtain ⟨P2,hP2⟩:=gN (bG n j (s+1) y1);rw [← hP2] at he;obtain ⟨y2,c2⟩:=P2;dsimp only at he;have K3:Hid (gm (lL L V n bs) w w3):=kI (KI.o.trans hk);have HP2:=kI hP2.symm;clear hk hP2;by_cases hz:c2=0
    rotate_left
    ·obtain rfl:=he.oX hz;(try simp +zetaDelta only [Exit.then,Exit.inBlock]);exact aA rfl ⟨dZ.bad hz (Cc F1.o (by rw [HP2.o]) hz),K3.o⟩
    subst hz;obtain ⟨rfl,hr3⟩:=he.oW;have R3:=kI hr3;clear he hr3;have hsn:=Oq.o;have q6:(0:Int)≤(s:Int):=by omega
    have q7:(s:Int) < (n:Int):=by omega
    obtain ⟨z1,z2,z3,z4,zl,Dh,Kv,Kw,Kx,IR⟩:=R3.o.eq.at hsn;obtain ⟨zz,hzz⟩:=gN (y2.S s);rw [← hzz] at Kv Kw Kx IR;have Rr:=kI hzz;have Yl:=kI IR;have l0:=R3.o.lb.cell;have l2:=R3.o.lb.lt;clear hzz IR;go_wp2_with fail;clear l0 l2 zl Dh Kv Kw Kx;have RG:=af.new w3 #[.bool zz.neg,.slice z1 zz.num.length z2,.slice z3 zz.den.length z4] 25;have hx:Ext w3 (w3.alloc (.cells #[.bool zz.neg,.slice z1 zz.num.length z2,.slice z3 zz.den.length z4] 25)):=(Ext.refl _).alloc _;obtain ⟨sb,hsb⟩:=gN (w3.heap.size);obtain ⟨w4,hw4⟩:=gN (w3.alloc (.cells #[.bool zz.neg,.slice z1 zz.num.length z2,.slice z3 zz.den.length z4] 25));rw [← hsb,← hw4] at RG;rw [← hw4] at hx;rw [← hsb,← hw4];have R4:=kI (R3.o.ext hx);have K4:Hid (gm (lL L V n bs) w w4):=kI (K3.o.trans (gm.ext hx));have SM:Hid (mn w4 sb 25 (y2.S s)):=kI (by rw [← Rr.o];exact ⟨_,_,_,_,RG,Yl.o.ext hx⟩);have Ym:Hid (w3.heap.size≤sb):=kI (by rw [hsb];exact Nat.le_refl _);have X4:=kI hx;clear RG hx hsb hw4;go_loopw [7] (fun i wr=>∃ (i2:Nat) (acc:RR),i2≤j∧i=.int .i64 ((s+1+i2:Nat):Int)∧cT s y2 i2=(acc,0)∧mn wr sb 25 acc∧Ext w3 wr) (fun i _=>n - (intOf i).toNat)
    case atStart=>exact ⟨0,y2.S s,Nat.zero_le _,by simp,rfl,SM.o,X4.o⟩
    case round=>
     obtain ⟨wk,hwk⟩:=gN (wr);subst hwk;obtain ⟨i2,acc,hi2,rfl,hb,hsm,hxk⟩:=hrel;have SI:=kI hsm;have BI:=kI hb;have XI:=kI hxk;have RK:=kI (R3.o.ext hxk);obtain ⟨t,ht⟩:=gN (s+1+i2);rw [← ht];have HT2:=kI ht;have l0:=RK.o.lb.cell;have l2:=RK.o.lb.lt;clear hb hsm hxk;by_cases hlt:t < n
     ·have dQ:=kI hlt;have q4:(t:Int) < (n:Int):=by omega
      have q5:(0:Int)≤(t:Int):=by omega
      have q8:(t:Int) < 200:=by omega
      have JK:Hid (i2+1≤j):=kI (by have:=MF.o;have:=Ku.o;omega);clear ht;go_wp2_with fail;obtain ⟨z1',z2',z3',Yo,zl,Dh,-,-,-,-⟩:=RK.o.eq.at hsn;obtain ⟨m1,m2,m3,m4,IT,IU,IV,IX⟩:=(RK.o.eq.row s hsn).at (j:=t) hlt;obtain ⟨v1,v2,v3,v4,MI,MJ,ML,Gx⟩:=RK.o.va.at (j:=t) hlt;obtain ⟨f,hf⟩:=gN (y2.M s t);obtain ⟨x,hxx⟩:=gN (y2.V t);rw [← hf] at IT IU IV IX;rw [← hxx] at MI MJ ML Gx;have SC:Hid (L < wk.heap.size∧wk.cell? ⟨L,s*4,none⟩=some (.slice (some ⟨bs s,0,none⟩) n n)):=kI ⟨zl,Dh⟩;have MC:Hid (bs s < wk.heap.size∧wk.cell? ⟨bs s,t*3,none⟩=some (.bool f.neg)∧wk.cell? ⟨bs s,t*3+1,none⟩=some (.slice m1 f.num.length m2)∧wk.cell? ⟨bs s,t*3+2,none⟩=some (.slice m3 f.den.length m4)∧aX wk (.agg #[.bool f.neg,.slice m1 f.num.length m2,.slice m3 f.den.length m4]) f):=kI ⟨(RK.o.eq.row s hsn).lt,IT,IU,IV,IX⟩;have VC:Hid (V < wk.heap.size∧wk.cell? ⟨V,t*3,none⟩=some (.bool x.neg)∧wk.cell? ⟨V,t*3+1,none⟩=some (.slice v1 x.num.length v2)∧wk.cell? ⟨V,t*3+2,none⟩=some (.slice v3 x.den.length v4)∧aX wk (.agg #[.bool x.neg,.slice v1 x.num.length v2,.slice v3 x.den.length v4]) x):=kI ⟨RK.o.va.lt,MI,MJ,ML,Gx⟩;obtain ⟨s1,s2,s3,s4,MM,MN⟩:=SI.o;have SK:=kI MM;have SR:=kI MN;have hfl:au f:=by rw [hf];exact RK.o.eq.wI s t
      have hxl:au x:=by rw [hxx];exact RK.o.Fa t
      have hal:au acc:=by have:=pi (s:=s) RK.o.eq.E0 i2;rw [BI.o] at this;exact this
      have Yp:=kI hf;have AB:=kI hxx;have RH:=kI hfl;have EU:=kI hxl;have ER:=kI hal;obtain ⟨R,hR⟩:=gN (mulR f x);have hrl:au R.1:=by rw [hR];exact fW _ _
      have HR:=kI hR;have Da:=kI hrl;have UM:Hid (cT s y2 (i2+1)=fh acc f x):=kI (by rw [zA (by rw [BI.o]),BI.o,← HT2.o,← Yp.o,← AB.o]);have Di:Hid (∀ c,c≠0→(fh acc f x).2=c→(bG n (j+1) s y).2=c):=kI (fun c hc h=>Cd F1.o HP2.o (uA (j:=i2+1) (by rw [UM.o];exact h) hc (by rw [MF.o];exact JK.o)) hc);have KE:Hid (∀ W,Ext wk W→gm (lL L V n bs) w W):=kI (fun W h=>K3.o.trans (gm.ext (XI.o.trans h)));clear zl Dh IT IU IV IX MI MJ ML Gx MM MN hf hxx hfl hxl hal hR hrl l0 l2;have X:=kI (Ext.refl wk);refine aD 21 (Cg L V n cap t s (bs s) acc f x R (bR acc R.1) B) (by kernel_rfl) (by kernel_rfl) (by kernel_rfl) (fun _ _ _ _ h x=>zB h x) ?_ ?_
      ·refine ⟨?_,?_,?_,?_,?_,?_,?_,?_,?_,?_,?_,?_,?_,?_,?_,?_,?_,?_,?_,?_,?_,trivial⟩
       ·intro a W hW Z hB hD K hK;have aJ:=kI Z;clear Z;have b6:=hB 6 rfl;simp only [sB] at b6;have q9:=(SK.o.ext hW).cell;have l9:=(SK.o.ext hW).lt;go_simp;exact hK _ _ (Ext.refl _) ⟨_,_,_,_,rfl,SR.o.ext hW⟩
       ·intro a W hW Z hB hD K hK;have aJ:=kI Z;clear Z;have b1:=hB 1 rfl;simp only [sB] at b1;have q9:=(RK.o.lb.ext hW).cell;have l9:=(RK.o.lb.ext hW).lt;go_simp;exact hK _ _ (Ext.refl _) rfl
       ·intro a W hW Z hB hD K hK;have aJ:=kI Z;clear Z;have b0:=hB 0 rfl;simp only [sB] at b0;go_simp;exact hK _ _ (Ext.refl _) rfl
       ·intro a W hW Z hB hD K hK;have aJ:=kI Z;clear Z;obtain ⟨v66,Yq,RJ⟩:=az (hD 1 _ 66 rfl rfl (by kernel_rfl));obtain rfl:=RJ;obtain ⟨v67,UN,MO⟩:=az (hD 2 _ 67 rfl rfl (by kernel_rfl));obtain rfl:=MO;go_simp;exact hK _ _ (Ext.refl _) rfl
       ·intro a W hW Z hB hD K hK;have aJ:=kI Z;clear Z;obtain ⟨v68,Yr,h68⟩:=az (hD 3 _ 68 rfl rfl (by kernel_rfl));obtain rfl:=h68;go_simp;exact hK _ _ (Ext.refl _) rfl
       ·intro a W hW Z hB hD K hK;have aJ:=kI Z;clear Z;obtain ⟨v69,Ys,RM⟩:=az (hD 4 _ 69 rfl rfl (by kernel_rfl));obtain rfl:=RM;have m0:=(hW.cell (p:=⟨L,s*4,none⟩) SC.o.1).trans SC.o.2;have ml:=Nat.lt_of_lt_of_le SC.o.1 hW.size;go_simp;exact hK _ _ (Ext.refl _) rfl
       ·intro a W hW Z hB hD K hK;have aJ:=kI Z;clear Z;have b7:=hB 7 rfl;simp only [sB] at b7;go_simp;exact hK _ _ (Ext.refl _) rfl
       ·intro a W hW Z hB hD K hK;have aJ:=kI Z;clear Z;obtain ⟨v70,Yt,MP⟩:=az (hD 5 _ 70 rfl rfl (by kernel_rfl));obtain rfl:=MP;obtain ⟨v71,UO,MQ⟩:=az (hD 6 _ 71 rfl rfl (by kernel_rfl));obtain rfl:=MQ;go_simp;exact hK _ _ (Ext.refl _) rfl
       ·intro a W hW Z hB hD K hK;have aJ:=kI Z;clear Z;obtain ⟨v72,Yu,h72⟩:=az (hD 7 _ 72 rfl rfl (by kernel_rfl));obtain rfl:=h72;have m0:=(hW.cell (p:=⟨bs s,t*3,none⟩) MC.o.1).trans MC.o.2.1;have m1:=(hW.cell (p:=⟨bs s,t*3+1,none⟩) MC.o.1).trans MC.o.2.2.1;have m2:=(hW.cell (p:=⟨bs s,t*3+2,none⟩) MC.o.1).trans MC.o.2.2.2.1;have ml:=Nat.lt_of_lt_of_le MC.o.1 hW.size;go_simp;exact hK _ _ (Ext.refl _) ⟨_,_,_,_,rfl,MC.o.2.2.2.2.ext hW⟩
       ·intro a W hW Z hB hD K hK;have aJ:=kI Z;clear Z;have b3:=hB 3 rfl;simp only [sB] at b3;have q9:=(RK.o.vb.ext hW).cell;have l9:=(RK.o.vb.ext hW).lt;go_simp;exact hK _ _ (Ext.refl _) rfl
       ·intro a W hW Z hB hD K hK;have aJ:=kI Z;clear Z;have b7:=hB 7 rfl;simp only [sB] at b7;go_simp;exact hK _ _ (Ext.refl _) rfl
       ·intro a W hW Z hB hD K hK;have aJ:=kI Z;clear Z;obtain ⟨v74,e74,Yv⟩:=az (hD 9 _ 74 rfl rfl (by kernel_rfl));obtain rfl:=Yv;obtain ⟨v75,e75,Yw⟩:=az (hD 10 _ 75 rfl rfl (by kernel_rfl));obtain rfl:=Yw;go_simp;exact hK _ _ (Ext.refl _) rfl
       ·intro a W hW Z hB hD K hK;have aJ:=kI Z;clear Z;obtain ⟨v76,e76,Yx⟩:=az (hD 11 _ 76 rfl rfl (by kernel_rfl));obtain rfl:=Yx;have m0:=(hW.cell (p:=⟨V,t*3,none⟩) VC.o.1).trans VC.o.2.1;have m1:=(hW.cell (p:=⟨V,t*3+1,none⟩) VC.o.1).trans VC.o.2.2.1;have m2:=(hW.cell (p:=⟨V,t*3+2,none⟩) VC.o.1).trans VC.o.2.2.2.1;have ml:=Nat.lt_of_lt_of_le VC.o.1 hW.size;go_simp;exact hK _ _ (Ext.refl _) ⟨_,_,_,_,rfl,VC.o.2.2.2.2.ext hW⟩
       ·intro a W hW Z hB hD K hK;have aJ:=kI Z;clear Z;obtain ⟨v73,Yy,RN⟩:=az (hD 8 _ 73 rfl rfl (by kernel_rfl));obtain ⟨x91,eZ,x93,fb,rfl,qi⟩:=RN;obtain ⟨v77,e77,Yz⟩:=az (hD 12 _ 77 rfl rfl (by kernel_rfl));obtain ⟨y91,EY,y93,EZ,rfl,qj⟩:=Yz;go_simp;have hmu:=fT _ _ f x W qi qj RH.o EU.o;rw [← HR.o] at hmu;refine hmu.mono ?_;rintro e w9 ⟨⟨v,rfl,nn⟩,hx⟩;obtain ⟨t1,t2,t3,t4,rfl⟩:=nn.shape;exact hK _ _ hx ⟨_,_,_,_,rfl,nn.rd⟩
       ·intro a W hW Z hB hD K hK;have aJ:=kI Z;clear Z;obtain ⟨v78,YA,RO⟩:=az (hD 13 _ 78 rfl rfl (by kernel_rfl));obtain ⟨x91,eZ,x93,fb,rfl,xq⟩:=RO;go_simp;exact hK _ _ (Ext.refl _) ⟨_,_,_,_,rfl,xq⟩
       ·intro a W hW Z hB hD K hK;have aJ:=kI Z;clear Z;obtain ⟨v78,YA,RO⟩:=az (hD 13 _ 78 rfl rfl (by kernel_rfl));obtain ⟨x91,eZ,x93,fb,rfl,xq⟩:=RO;go_simp;exact hK _ _ (Ext.refl _) rfl
       ·intro a W hW Z hB hD K hK;have aJ:=kI Z;clear Z;obtain ⟨v79,e79,YB⟩:=az (hD 14 _ 79 rfl rfl (by kernel_rfl));obtain ⟨x91,eZ,x93,fb,rfl,xq⟩:=YB;obtain ⟨v80,YC,h80⟩:=az (hD 15 _ 80 rfl rfl (by kernel_rfl));obtain rfl:=h80;go_simp;by_cases hpe:R.2=0
        ·rw [hpe];refine (bI _ _ _ _ _ _ _ W).mono ?_;rintro e w9 ⟨rfl,hx⟩;exact hK _ _ hx ⟨hpe,_,_,_,_,rfl,xq.ext hx⟩
        ·refine (bp _ _ _ _ _ _ _ _ rfl hpe W).mono ?_;rintro e w9 ⟨rfl,hx⟩;(try simp +zetaDelta only [Exit.then,Exit.inBlock]);exact aA aJ.o ⟨dZ.bad hpe (Di.o _ hpe (by rw [nR (c:=R.2) (by rw [HR.o]) hpe])),KE.o _ (hW.trans hx)⟩
       ·intro a W hW Z hB hD K hK;have aJ:=kI Z;clear Z;obtain ⟨v65,e65,h65⟩:=az (hD 0 _ 65 rfl rfl (by kernel_rfl));obtain ⟨x91,eZ,x93,fb,rfl,qi⟩:=h65;obtain ⟨v81,YD,RP⟩:=az (hD 16 _ 81 rfl rfl (by kernel_rfl));obtain ⟨hpe,y91,EY,y93,EZ,rfl,qj⟩:=RP;go_simp;refine (gZ _ _ acc R.1 W qi qj ER.o Da.o).mono ?_;rintro e w9 ⟨⟨v,rfl,nn⟩,hx⟩;obtain ⟨t1,t2,t3,t4,rfl⟩:=nn.shape;obtain ⟨hs1,hs2⟩:=nn.sf (B:=B) (Nat.le_trans RK.o.size hW.size);exact hK _ _ hx ⟨hpe,_,_,_,_,rfl,hs1,hs2⟩
       ·intro a W hW Z hB hD K hK;have aJ:=kI Z;clear Z;obtain ⟨v82,UP,MR⟩:=az (hD 17 _ 82 rfl rfl (by kernel_rfl));obtain ⟨qp,x91,eZ,x93,fb,rfl,xq,xr⟩:=MR;go_simp;exact hK _ _ (Ext.refl _) ⟨qp,_,_,_,_,rfl,xq,xr⟩
       ·intro a W hW Z hB hD K hK;have aJ:=kI Z;clear Z;obtain ⟨v82,UP,MR⟩:=az (hD 17 _ 82 rfl rfl (by kernel_rfl));obtain ⟨qp,x91,eZ,x93,fb,rfl,xq,xr⟩:=MR;go_simp;exact hK _ _ (Ext.refl _) rfl
       ·intro a W hW Z hB hD K hK;have aJ:=kI Z;clear Z;obtain ⟨v83,YE,RT⟩:=az (hD 18 _ 83 rfl rfl (by kernel_rfl));obtain ⟨qp,x91,eZ,x93,fb,rfl,xq,xr⟩:=RT;obtain ⟨v84,YF,h84⟩:=az (hD 19 _ 84 rfl rfl (by kernel_rfl));obtain rfl:=h84;go_simp;obtain ⟨c,hc⟩:=gN ((bR acc R.1).2);rw [← hc];by_cases hpe:c=0
        ·subst hpe;refine (bI _ _ _ _ _ _ _ W).mono ?_;rintro e w9 ⟨rfl,hx⟩;exact hK _ _ hx ⟨hc.symm,_,_,_,_,rfl,xq.ext hx,xr.ext hx⟩
        ·refine (bp _ _ _ _ _ _ _ _ rfl hpe W).mono ?_;rintro e w9 ⟨rfl,hx⟩;(try simp +zetaDelta only [Exit.then,Exit.inBlock]);exact aA aJ.o ⟨dZ.bad hpe (Di.o _ hpe (by rw [jr (p:=R.1) (by rw [← HR.o];exact Prod.ext rfl qp)];exact hc.symm)),KE.o _ (hW.trans hx)⟩
      intro w5 hx;simp only [cX,List.take_succ_cons,List.take_zero,List.drop_succ_cons,List.drop_zero];rintro u0 - u1 - u2 - u3 - u4 - u5 - u6 - u7 - u8 - u9 - u10 - u11 - u12 - u13 - u14 - u15 - u16 h16 Ot - Ou - RF - u20 h20;obtain ⟨hp1,-⟩:=h16;obtain ⟨hp2,r1,r2,r3,r4,rfl,S1,S2⟩:=h20;simp only [Act.put,List.setIfInBounds_toArray,List.set_cons_zero,List.set_cons_succ];have P1:=kI hp1;have P2:=kI hp2;have XQ:=kI hx;have hst:fh acc f x=bR acc R.1:=jr (by rw [← HR.o];exact Prod.ext rfl P1.o);obtain ⟨rr,hrr⟩:=gN ((bR acc R.1).1);rw [← hrr] at S1 S2 ⊢;have NX:Hid (cT s y2 (i2+1)=(rr,0)):=kI (by rw [UM.o,hst,hrr];exact Prod.ext rfl P2.o);have YG:Hid (aX w5 (.agg #[.bool rr.neg,.slice r1 rr.num.length r2,.slice r3 rr.den.length r4]) rr):=kI ⟨_,_,rfl,S1.rd,S2.rd⟩;have YH:Hid (mn w5 sb 25 acc):=kI (SI.o.ext hx);clear hp1 hp2 hx hst hrr S1 S2;have YJ:=(SK.o.ext XQ.o).cell;have YK:=(SK.o.ext XQ.o).free;have YM:=(SK.o.ext XQ.o).lt;go_wp2_with fail;clear YJ YK YM;obtain ⟨mL,fp⟩:=gN (((w5.setCell ⟨sb,0,none⟩ (.bool rr.neg)).setCell ⟨sb,1,none⟩ (.slice r1 rr.num.length r2)).setCell ⟨sb,2,none⟩ (.slice r3 rr.den.length r4));have hsm:mn mL sb 25 rr:=by rw [fp];exact YH.o.put YG.o
      have kw:Ext w3 mL:=by rw [fp];exact jf (o:=0) (XI.o.trans XQ.o) Ym.o
      rw [← fp];clear fp;go_roundw
      case rel=>exact ⟨i2+1,rr,JK.o,by rw [HT2.o];go_num,NX.o,hsm,kw⟩
      case measure=>first|(simp [intOf];done)|(simp [intOf];omega)
     ·have hje:i2=j:=by have:=Ku.o;omega
      subst hje;have q4:¬ (t:Int) < (n:Int):=by omega
      have B1:Hid (cT s y2 (n - (s+1))=(acc,0)):=kI (by rw [MF.o];exact BI.o);clear ht;go_wp2_with fail;clear q4 l0 l2;obtain ⟨z1',z2',z3',Yo,zl,Dh,-,-,-,-⟩:=RK.o.eq.at hsn;obtain ⟨m1,m2,m3,m4,IT,IU,IV,IX⟩:=(RK.o.eq.row s hsn).at (j:=s) hsn;obtain ⟨d,hd⟩:=gN (y2.M s s);rw [← hd] at IT IU IV IX;have SC:Hid (L < wk.heap.size∧wk.cell? ⟨L,s*4,none⟩=some (.slice (some ⟨bs s,0,none⟩) n n)):=kI ⟨zl,Dh⟩;have MC:Hid (bs s < wk.heap.size∧wk.cell? ⟨bs s,s*3,none⟩=some (.bool d.neg)∧wk.cell? ⟨bs s,s*3+1,none⟩=some (.slice m1 d.num.length m2)∧wk.cell? ⟨bs s,s*3+2,none⟩=some (.slice m3 d.den.length m4)∧aX wk (.agg #[.bool d.neg,.slice m1 d.num.length m2,.slice m3 d.den.length m4]) d):=kI ⟨(RK.o.eq.row s hsn).lt,IT,IU,IV,IX⟩;obtain ⟨s1,s2,s3,s4,MM,MN⟩:=SI.o;have SK:=kI MM;have SR:=kI MN;have hdl:au d:=by rw [hd];exact RK.o.eq.wI s s
      have hal:au acc:=by have:=pi (s:=s) RK.o.eq.E0 i2;rw [BI.o] at this;exact this
      have HD:=kI hd;have Im:=kI hdl;have ER:=kI hal;have KE:Hid (∀ W,Ext wk W→gm (lL L V n bs) w W):=kI (fun W h=>K3.o.trans (gm.ext (XI.o.trans h)));obtain ⟨R,hR⟩:=gN (bD acc d);have hrl:au R.1:=by rw [hR];exact ph _ _
      have HR:=kI hR;have Da:=kI hrl;have Di:Hid (∀ c,c≠0→R.2=c→(bG n (i2+1) s y).2=c):=kI (fun c hc h=>Ce F1.o HP2.o B1.o (by rw [← HD.o,← HR.o];exact h) hc);clear zl Dh IT IU IV IX MM MN hd hdl hal hR hrl;have X:=kI (Ext.refl wk);refine aD 15 (Ch L V n cap s (bs s) acc d R B) (by kernel_rfl) (by kernel_rfl) (by kernel_rfl) (fun _ _ _ _ h x=>zD h x) ?_ ?_
      ·refine ⟨?_,?_,?_,?_,?_,?_,?_,?_,?_,?_,?_,?_,?_,?_,?_,trivial⟩
       ·intro a W hW Z hB hD K hK;have aJ:=kI Z;clear Z;have b3:=hB 3 rfl;simp only [sB] at b3;have q9:=(RK.o.vb.ext hW).cell;have l9:=(RK.o.vb.ext hW).lt;go_simp;exact hK _ _ (Ext.refl _) rfl
       ·intro a W hW Z hB hD K hK;have aJ:=kI Z;clear Z;have b0:=hB 0 rfl;simp only [sB] at b0;go_simp;exact hK _ _ (Ext.refl _) rfl
       ·intro a W hW Z hB hD K hK;have aJ:=kI Z;clear Z;have b6:=hB 6 rfl;simp only [sB] at b6;have q9:=(SK.o.ext hW).cell;have l9:=(SK.o.ext hW).lt;go_simp;exact hK _ _ (Ext.refl _) ⟨_,_,_,_,rfl,SR.o.ext hW⟩
       ·intro a W hW Z hB hD K hK;have aJ:=kI Z;clear Z;have b1:=hB 1 rfl;simp only [sB] at b1;have q9:=(RK.o.lb.ext hW).cell;have l9:=(RK.o.lb.ext hW).lt;go_simp;exact hK _ _ (Ext.refl _) rfl
       ·intro a W hW Z hB hD K hK;have aJ:=kI Z;clear Z;have b0:=hB 0 rfl;simp only [sB] at b0;go_simp;exact hK _ _ (Ext.refl _) rfl
       ·intro a W hW Z hB hD K hK;have aJ:=kI Z;clear Z;obtain ⟨v89,e89,YN⟩:=az (hD 3 _ 89 rfl rfl (by kernel_rfl));obtain rfl:=YN;obtain ⟨v90,e90,YO⟩:=az (hD 4 _ 90 rfl rfl (by kernel_rfl));obtain rfl:=YO;go_simp;exact hK _ _ (Ext.refl _) rfl
       ·intro a W hW Z hB hD K hK;have aJ:=kI Z;clear Z;obtain ⟨v91,e91,YP⟩:=az (hD 5 _ 91 rfl rfl (by kernel_rfl));obtain rfl:=YP;go_simp;exact hK _ _ (Ext.refl _) rfl
       ·intro a W hW Z hB hD K hK;have aJ:=kI Z;clear Z;obtain ⟨Ov,e92,YQ⟩:=az (hD 6 _ 92 rfl rfl (by kernel_rfl));obtain rfl:=YQ;have m0:=(hW.cell (p:=⟨L,s*4,none⟩) SC.o.1).trans SC.o.2;have ml:=Nat.lt_of_lt_of_le SC.o.1 hW.size;go_simp;exact hK _ _ (Ext.refl _) rfl
       ·intro a W hW Z hB hD K hK;have aJ:=kI Z;clear Z;have b0:=hB 0 rfl;simp only [sB] at b0;go_simp;exact hK _ _ (Ext.refl _) rfl
       ·intro a W hW Z hB hD K hK;have aJ:=kI Z;clear Z;obtain ⟨v93,e93,YR⟩:=az (hD 7 _ 93 rfl rfl (by kernel_rfl));obtain rfl:=YR;obtain ⟨v94,e94,YT⟩:=az (hD 8 _ 94 rfl rfl (by kernel_rfl));obtain rfl:=YT;go_simp;exact hK _ _ (Ext.refl _) rfl
       ·intro a W hW Z hB hD K hK;have aJ:=kI Z;clear Z;obtain ⟨v95,e95,h95⟩:=az (hD 9 _ 95 rfl rfl (by kernel_rfl));obtain rfl:=h95;have m0:=(hW.cell (p:=⟨bs s,s*3,none⟩) MC.o.1).trans MC.o.2.1;have m1:=(hW.cell (p:=⟨bs s,s*3+1,none⟩) MC.o.1).trans MC.o.2.2.1;have m2:=(hW.cell (p:=⟨bs s,s*3+2,none⟩) MC.o.1).trans MC.o.2.2.2.1;have ml:=Nat.lt_of_lt_of_le MC.o.1 hW.size;go_simp;exact hK _ _ (Ext.refl _) ⟨_,_,_,_,rfl,MC.o.2.2.2.2.ext hW⟩
       ·intro a W hW Z hB hD K hK;have aJ:=kI Z;clear Z;obtain ⟨v88,e88,YU⟩:=az (hD 2 _ 88 rfl rfl (by kernel_rfl));obtain ⟨x91,eZ,x93,fb,rfl,qi⟩:=YU;obtain ⟨v96,e96,YV⟩:=az (hD 10 _ 96 rfl rfl (by kernel_rfl));obtain ⟨y91,EY,y93,EZ,rfl,qj⟩:=YV;go_simp;have hmu:=oI _ _ acc d W qi qj ER.o Im.o;rw [← HR.o] at hmu;refine hmu.mono ?_;rintro e w9 ⟨⟨v,rfl,nn⟩,hx⟩;obtain ⟨t1,t2,t3,t4,rfl⟩:=nn.shape;obtain ⟨hs1,hs2⟩:=nn.sf (B:=B) (Nat.le_trans RK.o.size hW.size);exact hK _ _ hx ⟨_,_,_,_,rfl,hs1,hs2⟩
       ·intro a W hW Z hB hD K hK;have aJ:=kI Z;clear Z;obtain ⟨YW,YX,h97⟩:=az (hD 11 _ 97 rfl rfl (by kernel_rfl));obtain ⟨x91,eZ,x93,fb,rfl,xq,xr⟩:=h97;go_simp;exact hK _ _ (Ext.refl _) ⟨_,_,_,_,rfl,xq,xr⟩
       ·intro a W hW Z hB hD K hK;have aJ:=kI Z;clear Z;obtain ⟨YW,YX,h97⟩:=az (hD 11 _ 97 rfl rfl (by kernel_rfl));obtain ⟨x91,eZ,x93,fb,rfl,xq,xr⟩:=h97;go_simp;exact hK _ _ (Ext.refl _) rfl
       ·intro a W hW Z hB hD K hK;have aJ:=kI Z;clear Z;obtain ⟨v98,e98,YY⟩:=az (hD 12 _ 98 rfl rfl (by kernel_rfl));obtain ⟨x91,eZ,x93,fb,rfl,xq,xr⟩:=YY;obtain ⟨v99,e99,qp⟩:=az (hD 13 _ 99 rfl rfl (by kernel_rfl));obtain rfl:=qp;go_simp;obtain ⟨c,hc⟩:=gN (R.2);rw [← hc];by_cases hpe:c=0
        ·subst hpe;refine (bI _ _ _ _ _ _ _ W).mono ?_;rintro e w9 ⟨rfl,hx⟩;exact hK _ _ hx ⟨hc.symm,_,_,_,_,rfl,xq.ext hx,xr.ext hx⟩
        ·refine (bp _ _ _ _ _ _ _ _ rfl hpe W).mono ?_;rintro e w9 ⟨rfl,hx⟩;(try simp +zetaDelta only [Exit.then,Exit.inBlock]);exact aA aJ.o ⟨dZ.bad hpe (Di.o _ hpe hc.symm),KE.o _ (hW.trans hx)⟩
      intro w5 hx;simp only [cX,List.take_succ_cons,List.take_zero,List.drop_succ_cons,List.drop_zero];rintro u0 h0 u1 h1 u2 - u3 - u4 - u5 - u6 - u7 - u8 - u9 - u10 - u11 - u12 - u13 - u14 Gv;obtain rfl:=h0;obtain rfl:=h1;obtain ⟨hp2,r1,r2,r3,r4,rfl,S1,S2⟩:=Gv;simp only [Act.put,List.setIfInBounds_toArray,List.set_cons_zero,List.set_cons_succ];have P2:=kI hp2;have XQ:=kI hx;replace S1:=kI S1;replace S2:=kI S2;obtain ⟨rr,re⟩:=R;have RQ:=kI (RK.o.ext hx);have KQ:=kI (KE.o _ hx);have RU:Hid (au rr):=Da;have DV:Hid (bD acc (y2.M s s)=(rr,0)):=kI (by rw [← HD.o,← HR.o];exact Prod.ext rfl P2.o);clear hp2 hx;obtain ⟨g1,g2,g3,g4,MI,MJ,ML,-⟩:=RQ.o.va.at (j:=s) hsn;have f0:=RQ.o.va.free;have fl:=RQ.o.va.lt;go_wp2_with fail;clear MI MJ ML f0 fl;obtain ⟨mL,fp⟩:=gN (((w5.setCell ⟨V,s*3,none⟩ (.bool rr.neg)).setCell ⟨V,s*3+1,none⟩ (.slice r1 rr.num.length r2)).setCell ⟨V,s*3+2,none⟩ (.slice r3 rr.den.length r4));have Cj:j0 mL B Lb Rb Vb L V n cap bs ⟨y2.M,y2.S,bU y2.V s rr⟩:=by rw [fp];exact RQ.o.IP Oq.o RU.o S1.o S2.o
      have hkk:gm (lL L V n bs) w mL:=by rw [fp];exact (((KQ.o.set (Or.inr (Or.inl rfl)) _ _).set (Or.inr (Or.inl rfl)) _ _).set (Or.inr (Or.inl rfl)) _ _)
      have E9:=IN (k:=i2) F1.o HP2.o B1.o DV.o;rw [← fp];clear fp;have E8:(bG n (i2+1) s y).2=0:=by rw [E9]
      have E7:(bG n (i2+1) s y).1=⟨y2.M,y2.S,bU y2.V s rr⟩:=by rw [E9]
      go_end0
      exact ⟨dZ.ok E8 (by rw [E7];exact Cj),hkk⟩
end Go.Proofs.YtnnjbaijcaiohaaGreat
