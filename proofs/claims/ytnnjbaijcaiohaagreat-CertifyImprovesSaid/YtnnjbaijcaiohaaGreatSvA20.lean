/- Walks and lemmas. -/
import Derived.Test.YtnnjbaijcaiohaaGreatSvA19
set_option linter.unusedVariables false
set_option linter.unusedSimpArgs false
set_option maxRecDepth 100000
set_option maxHeartbeats 16000000
namespace Go.Proofs.YtnnjbaijcaiohaaGreat
open Go.RowKit
theorem vE (n s t:Nat) (y:Sys):jM n s t y=if (bJ (y.M t s) (y.M s s)).2≠0 then (y,(bJ (y.M t s) (y.M s s)).2)
  else if Iw n (y.M t) (bJ (y.M t s) (y.M s s)).1 (y.M s) (y.S t) (y.S s)≠0 then (y,Iw n (y.M t) (bJ (y.M t s) (y.M s s)).1 (y.M s) (y.S t) (y.S s))
  else (⟨cN y.M t (iZ (y.M t) (bJ (y.M t s) (y.M s s)).1 (y.M s) n),cN y.S t (gg (y.S t) (bJ (y.M t s) (y.M s s)).1 (y.S s)).1,y.V⟩,0):=by
 unfold jM Iw;by_cases h1:(bJ (y.M t s) (y.M s s)).2=0
 ·by_cases h2:tE (y.M t) (bJ (y.M t s) (y.M s s)).1 (y.M s) n=0
  ·simp [h1,h2]
  ·simp [h1,h2]
 ·simp [h1]
theorem vF {n s:Nat} {y:Sys} {j:Nat} {c:Int} (h:(cI n s y j).2=c) (hc:c≠0):∀ {k:Nat},j≤k→(cI n s y k).2=c
 | 0,hk=>by obtain rfl:j=0:=Z;exact h
 | k+1,hk=>by
  by_cases e:j=k+1
  ·subst e;exact h
  ·have:=vF h hc (k:=k) Z;unfold cI;rw [if_pos (by rw [this];exact hc)];exact this
theorem si {n s:Nat} {y:Sys} {j:Nat} (h:(cI n s y j).2=0):cI n s y (j+1)=jM n s (s+1+j) (cI n s y j).1:=by
 show (if (cI n s y j).2≠0 then cI n s y j else jM n s (s+1+j) (cI n s y j).1)=_;rw [if_neg (fun k=>k h)]
theorem vG {s:Nat} {y:Sys} {j:Nat} {c:Int} (h:(dP s y j).2=c) (hc:c≠0):∀ {k:Nat},j≤k→(dP s y k).2=c
 | 0,hk=>by obtain rfl:j=0:=Z;exact h
 | k+1,hk=>by
  by_cases e:j=k+1
  ·subst e;exact h
  ·have:=vG h hc (k:=k) Z;unfold dP;rw [if_pos (by rw [this];exact hc)];exact this
theorem AD {s:Nat} {y:Sys} {j:Nat} (h:(dP s y j).2=0):dP s y (j+1)=gg (dP s y j).1 (y.M s (s+1+j)) (y.V (s+1+j)):=by
 show (if (dP s y j).2≠0 then dP s y j else _)=_;rw [if_neg (fun k=>k h)]
theorem mC (a b:RR):aC (bJ a b).1:=by
 unfold bJ;by_cases h:b.num=[]
 ·rw [if_pos h];unfold i9;split
  ·exact aT
  ·exact aT
 ·rw [if_neg h];exact mi a b _
theorem pX {s:Nat} {y:Sys} (h:∀ s,aC (y.S s)):∀ j,aC (dP s y j).1
 | 0=>h s
 | j+1=>by
  unfold dP;split
  ·exact pX h j
  ·exact tH _ _ _
theorem Dh {n k s:Nat} {y:Sys} {c:Int} (h:(cI n s y (n - (s+1))).2=c) (hc:c≠0):(bY n (k+1) s y).2=c:=by
 unfold bY;rw [if_pos IM];exact h
theorem Di {n k s:Nat} {y y1:Sys} {c:Int} (h1:cI n s y (n - (s+1))=(y1,0)) (h:(bY n k (s+1) y1).2=c) (hc:c≠0):(bY n (k+1) s y).2=c:=by
 unfold bY;rw [h1,if_neg (fun h=>h rfl),if_pos IM];exact h
theorem Dj {n k s:Nat} {y y1 y2:Sys} {c:Int} (h1:cI n s y (n - (s+1))=(y1,0)) (h2:bY n k (s+1) y1=(y2,0)) (h:(dP s y2 (n - (s+1))).2=c) (hc:c≠0):(bY n (k+1) s y).2=c:=by
 unfold bY;rw [h1,if_neg (fun h=>h rfl),h2,if_neg (fun h=>h rfl),if_pos IM];exact h
theorem Dk {n k s:Nat} {y y1 y2:Sys} {a:RR} {c:Int} (h1:cI n s y (n - (s+1))=(y1,0)) (h2:bY n k (s+1) y1=(y2,0)) (h3:dP s y2 (n - (s+1))=(a,0)) (h:(bJ a (y2.M s s)).2=c) (hc:c≠0):(bY n (k+1) s y).2=c:=by
 unfold bY;rw [h1,if_neg (fun h=>h rfl),h2,if_neg (fun h=>h rfl),h3,if_neg (fun h=>h rfl),if_pos IM];exact h
theorem J8 {n k s:Nat} {y y1 y2:Sys} {a d:RR} (h1:cI n s y (n - (s+1))=(y1,0)) (h2:bY n k (s+1) y1=(y2,0)) (h3:dP s y2 (n - (s+1))=(a,0)) (h:bJ a (y2.M s s)=(d,0)):bY n (k+1) s y=(⟨y2.M,y2.S,cN y2.V s d⟩,0):=by
 unfold bY;rw [h1,if_neg (fun h=>h rfl),h2,if_neg (fun h=>h rfl),h3,if_neg (fun h=>h rfl),h,if_neg (fun h=>h rfl)]
theorem cD.Yi {X:Nat→Prop} {B:Nat} {W W':World} {v:Value} {l:List Int} (h:cD B W v l) (k:gH X W W') (hk:∀ (p:Nat) (c:Array Value),ag W p c 157→ag W' p c 157):cD B W' v l:=by
 obtain ⟨⟨a,cap,rfl,h1,h2,h3⟩,h4⟩:=h;refine ⟨⟨a,cap,rfl,h1,h2,fun i hi=>?_⟩,h4.imp id fun ⟨g,c,cur,e,hb,hs,hB⟩=>⟨g,c,cur,e,hk g cur hb,hs,hB⟩⟩;obtain ⟨b,off,e1,e2,e3,e4⟩:=h3 i hi;rcases e4 with e4|⟨cur,e4⟩
 ·omega
 ·have hb:=hk b cur e4;refine ⟨b,off,e1,hb.lt,?_,.inr ⟨cur,hb⟩⟩;rw [← e3,hb.cell,e4.cell]
structure kA (W:World) (B Lb Rb Vb L V n cap:Nat) (bs:Nat→Nat) (y:Sys):Prop where
 lb:ag W Lb #[.slice (some ⟨L,0,none⟩) n cap] 147
 rb:ag W Rb #[.func (.func 144) #[] #[.pointer (some ⟨Lb,0,none⟩),.pointer (some ⟨Rb,0,none⟩),.pointer (some ⟨Vb,0,none⟩)]] 151
 vb:ag W Vb #[.slice (some ⟨V,0,none⟩) n n] 29
 eq:sh W B L n n bs y.M y.S
 va:fV W B V n y.V
 Gt:∀ i,aC (y.V i)
 ne:∀ s,s < n→V≠bs s
 base:B≤V
 cap:n≤cap∧cap≤9223372036854775807
 size:B≤W.heap.size
def mD (L V n:Nat) (bs:Nat→Nat) (i:Nat):Prop:=i=L∨i=V∨∃ s,s < n∧i=bs s
theorem kA.ext {W W':World} {B Lb Rb Vb L V n cap:Nat} {bs:Nat→Nat} {y:Sys} (h:kA W B Lb Rb Vb L V n cap bs y) (x:Ext W W'):kA W' B Lb Rb Vb L V n cap bs y:=
 ⟨h.lb.ext x,h.rb.ext x,h.vb.ext x,h.eq.ext x,h.va.ext x,h.Gt,h.ne,h.base,h.cap,Nat.le_trans h.size x.size⟩
theorem kA.noX {W:World} {B Lb Rb Vb L V n cap:Nat} {bs:Nat→Nat} {y:Sys} (h:kA W B Lb Rb Vb L V n cap bs y):¬ mD L V n bs Lb∧¬ mD L V n bs Rb∧¬ mD L V n bs Vb:=by
 obtain ⟨⟨cur,hL,_⟩,hrow,_⟩:=h.eq;obtain ⟨vc,hV,_⟩:=h.va;have hh:∀ (p:Nat) (c:Array Value) (t:TypeId),ag W p c t→t≠150→t≠25→¬ mD L V n bs p:=fun p c t hp h1 h2 hx=>by
  rcases hx with e|e|⟨s,hs,e⟩
  ·exact hp.ne hL h1 e
  ·exact hp.ne hV h2 e
  ·obtain ⟨rc,hR,_⟩:=hrow s hs;exact hp.ne hR h2 e
 exact ⟨hh _ _ _ h.lb ap ap,hh _ _ _ h.rb ap ap,hh _ _ _ h.vb ap ap⟩
theorem kA.elim {W W':World} {B Lb Rb Vb L V n cap:Nat} {bs:Nat→Nat} {y:Sys} (h:kA W B Lb Rb Vb L V n cap bs y) {t:Nat} (ht:t < n) {M:Nat→Nat→RR} {S:Nat→RR} (he:sh W' B L n n bs M S) (k:gH (fun i=>i=L∨i=bs t) W W'):kA W' B Lb Rb Vb L V n cap bs ⟨M,S,y.V⟩:=by
 obtain ⟨n1,n2,n3⟩:=h.noX;have hsub:∀ i,(i=L∨i=bs t)→mD L V n bs i:=fun i hi=>hi.elim .inl (fun e=>.inr (.inr ⟨t,ht,e⟩));have k2:=k.mono hsub;refine ⟨k2.blk h.lb n1,k2.blk h.rb n2,k2.blk h.vb n3,he,?_,h.Gt,h.ne,h.base,h.cap,Nat.le_trans h.size k.zero.size⟩;obtain ⟨cur,h1,h2,h3⟩:=h.va;obtain ⟨⟨lc,hL,_⟩,hrow,hle,_⟩:=h.eq;have hVL:V≠L:=h1.ne hL ap;have hk:∀ (p:Nat) (c:Array Value),ag W p c 157→ag W' p c 157:=fun p c hp=>k2.blk hp (fun hx=>by
  rcases hx with e|e|⟨s,hs,e⟩
  ·exact hp.ne hL ap e
  ·exact hp.ne h1 ap e
  ·obtain ⟨rc,hR,_⟩:=hrow s hs;exact hp.ne hR ap e)
 refine ⟨cur,k.blk h1 (fun e=>e.elim hVL (h.ne t ht)),h2,fun j hj=>?_⟩;obtain ⟨a1,c1,a2,c2,e1,e2,e3,e4,e5⟩:=h3 j hj;exact ⟨a1,c1,a2,c2,e1,e2,e3,e4.Yi k hk,e5.Yi k hk⟩
theorem kA.Ka {W:World} {B Lb Rb Vb L V n cap:Nat} {bs:Nat→Nat} {y:Sys} (h:kA W B Lb Rb Vb L V n cap bs y) {s:Nat} (hs:s < n) {r:RR} (hr:aC r) {a1:Option Addr} {c1:Nat} {a2:Option Addr} {c2:Nat} (s1:cD B W (.slice a1 r.num.length c1) r.num) (s2:cD B W (.slice a2 r.den.length c2) r.den) :
  kA (((W.setCell ⟨V,s*3,none⟩ (.bool r.neg)).setCell ⟨V,s*3+1,none⟩ (.slice a1 r.num.length c1)).setCell ⟨V,s*3+2,none⟩ (.slice a2 r.den.length c2)) B Lb Rb Vb L V n cap bs ⟨y.M,y.S,cN y.V s r⟩:=by
 obtain ⟨cur,hV,-,-⟩:=h.va;have hko:ft V W (((W.setCell ⟨V,s*3,none⟩ (.bool r.neg)).setCell ⟨V,s*3+1,none⟩ (.slice a1 r.num.length c1)).setCell ⟨V,s*3+2,none⟩ (.slice a2 r.den.length c2)):=(((ft.ext (Ext.refl _)).set _ _).set _ _).set _ _;have hk:=hko.Dd hV h.base;refine ⟨h.lb.keeps hk ap,h.rb.keeps hk ap,h.vb.keeps hk ap,?_,(h.va.set hs s1 s2).congr (fun i hi=>rfl),fun i=>?_,h.ne,h.base,h.cap,Nat.le_trans h.size hko.zero.size⟩
 ·obtain ⟨⟨lc,h1,h2,h3⟩,h4,h5,h6,h7,h8,h9⟩:=h.eq;exact ⟨⟨lc,h1.keeps hk ap,h2,fun t ht=>by obtain ⟨g0,a1,c1,a2,c2,g1,g2,g3,g4,g5⟩:=h3 t ht;exact ⟨g0,a1,c1,a2,c2,g1,g2,g3,g4.keeps hk ap,g5.keeps hk ap⟩⟩,fun t ht=>(h4 t ht).Px hko (Ne.symm (h.ne t ht)) hV,h5,h6,h7,h8,h9⟩
 ·by_cases e:i=s
  ·subst e;show aC (cN y.V i r i);rw [bL];exact hr
  ·show aC (cN y.V s r i);rw [cG e];exact h.Gt i
def Kb (L n cap t s bt bs:Nat) (a d z:RR) (r:RR × Int) (j:Nat) (v:Value) (W:World):Prop:=
 match j with
 | 0=>v=.slice (some ⟨L,0,none⟩) n cap
 | 1=>v=.int .i64 (t:Nat)
 | 2=>v=.pointer (some ⟨L,t*4,none⟩)
 | 3=>v=.slice (some ⟨L,0,none⟩) n cap
 | 4=>v=.int .i64 (t:Nat)
 | 5=>v=.pointer (some ⟨L,t*4,none⟩)
 | 6=>v=.pointer (some ⟨L,t*4,none⟩)
 | 7=>v=.slice (some ⟨bt,0,none⟩) n n
 | 8=>v=.int .i64 (s:Nat)
 | 9=>v=.pointer (some ⟨bt,s*3,none⟩)
 | 10=>∃ s1 s2 s3 s4,v=.agg #[.bool a.neg,.slice s1 a.num.length s2,.slice s3 a.den.length s4]∧bh W (.agg #[.bool a.neg,.slice s1 a.num.length s2,.slice s3 a.den.length s4]) a
 | 11=>v=.slice (some ⟨L,0,none⟩) n cap
 | 12=>v=.int .i64 (s:Nat)
 | 13=>v=.pointer (some ⟨L,s*4,none⟩)
 | 14=>v=.pointer (some ⟨L,s*4,none⟩)
 | 15=>v=.slice (some ⟨bs,0,none⟩) n n
 | 16=>v=.int .i64 (s:Nat)
 | 17=>v=.pointer (some ⟨bs,s*3,none⟩)
 | 18=>∃ s1 s2 s3 s4,v=.agg #[.bool d.neg,.slice s1 d.num.length s2,.slice s3 d.den.length s4]∧bh W (.agg #[.bool d.neg,.slice s1 d.num.length s2,.slice s3 d.den.length s4]) d
 | 19=>∃ s1 s2 s3 s4,v=.tuple #[.agg #[.bool r.1.neg,.slice s1 r.1.num.length s2,.slice s3 r.1.den.length s4],.int .i64 r.2]∧bh W (.agg #[.bool r.1.neg,.slice s1 r.1.num.length s2,.slice s3 r.1.den.length s4]) r.1
 | 20=>∃ s1 s2 s3 s4,v=.agg #[.bool r.1.neg,.slice s1 r.1.num.length s2,.slice s3 r.1.den.length s4]∧bh W (.agg #[.bool r.1.neg,.slice s1 r.1.num.length s2,.slice s3 r.1.den.length s4]) r.1
 | 21=>v=.int .i64 r.2
 | 22=>r.2=0∧∃ s1 s2 s3 s4,v=.agg #[.bool r.1.neg,.slice s1 r.1.num.length s2,.slice s3 r.1.den.length s4]∧bh W (.agg #[.bool r.1.neg,.slice s1 r.1.num.length s2,.slice s3 r.1.den.length s4]) r.1
 | 23=>v=.slice (some ⟨L,0,none⟩) n cap
 | 24=>v=.int .i64 (s:Nat)
 | 25=>v=.pointer (some ⟨L,s*4,none⟩)
 | 26=>∃ s1 s2 s3 s4,v=.agg #[.slice (some ⟨bs,0,none⟩) n n,.bool z.neg,.slice s1 z.num.length s2,.slice s3 z.den.length s4]∧bh W (.agg #[.bool z.neg,.slice s1 z.num.length s2,.slice s3 z.den.length s4]) z
 | _=>True
theorem Dl {L n cap t s bt bs:Nat} {a d z:RR} {r:RR × Int} {j:Nat} {v:Value} {W W':World} (h:Kb L n cap t s bt bs a d z r j v W) (xx:Ext W W'):Kb L n cap t s bt bs a d z r j v W':=by
 match j,h with
 | 0,h=>exact h
 | 1,h=>exact h
 | 2,h=>exact h
 | 3,h=>exact h
 | 4,h=>exact h
 | 5,h=>exact h
 | 6,h=>exact h
 | 7,h=>exact h
 | 8,h=>exact h
 | 9,h=>exact h
 | 10,⟨s1,s2,s3,s4,h1,h2⟩=>exact ⟨s1,s2,s3,s4,h1,h2.ext xx⟩
 | 11,h=>exact h
 | 12,h=>exact h
 | 13,h=>exact h
 | 14,h=>exact h
 | 15,h=>exact h
 | 16,h=>exact h
 | 17,h=>exact h
 | 18,⟨s1,s2,s3,s4,h1,h2⟩=>exact ⟨s1,s2,s3,s4,h1,h2.ext xx⟩
 | 19,⟨s1,s2,s3,s4,h0,h1⟩=>exact ⟨s1,s2,s3,s4,h0,h1.ext xx⟩
 | 20,⟨s1,s2,s3,s4,h0,h1⟩=>exact ⟨s1,s2,s3,s4,h0,h1.ext xx⟩
 | 21,h=>exact h
 | 22,⟨h9,s1,s2,s3,s4,h0,h1⟩=>exact ⟨h9,s1,s2,s3,s4,h0,h1.ext xx⟩
 | 23,h=>exact h
 | 24,h=>exact h
 | 25,h=>exact h
 | 26,⟨s1,s2,s3,s4,h1,h2⟩=>exact ⟨s1,s2,s3,s4,h1,h2.ext xx⟩
 | _+27,_=>trivial
def Dm (L V n cap t s bs:Nat) (x f y:RR) (r q:RR × Int) (B:Nat) (j:Nat) (v:Value) (W:World):Prop:=
 match j with
 | 0=>∃ s1 s2 s3 s4,v=.agg #[.bool x.neg,.slice s1 x.num.length s2,.slice s3 x.den.length s4]∧bh W (.agg #[.bool x.neg,.slice s1 x.num.length s2,.slice s3 x.den.length s4]) x
 | 1=>v=.slice (some ⟨L,0,none⟩) n cap
 | 2=>v=.int .i64 (s:Nat)
 | 3=>v=.pointer (some ⟨L,s*4,none⟩)
 | 4=>v=.pointer (some ⟨L,s*4,none⟩)
 | 5=>v=.slice (some ⟨bs,0,none⟩) n n
 | 6=>v=.int .i64 (t:Nat)
 | 7=>v=.pointer (some ⟨bs,t*3,none⟩)
 | 8=>∃ s1 s2 s3 s4,v=.agg #[.bool f.neg,.slice s1 f.num.length s2,.slice s3 f.den.length s4]∧bh W (.agg #[.bool f.neg,.slice s1 f.num.length s2,.slice s3 f.den.length s4]) f
 | 9=>v=.slice (some ⟨V,0,none⟩) n n
 | 10=>v=.int .i64 (t:Nat)
 | 11=>v=.pointer (some ⟨V,t*3,none⟩)
 | 12=>∃ s1 s2 s3 s4,v=.agg #[.bool y.neg,.slice s1 y.num.length s2,.slice s3 y.den.length s4]∧bh W (.agg #[.bool y.neg,.slice s1 y.num.length s2,.slice s3 y.den.length s4]) y
 | 13=>∃ s1 s2 s3 s4,v=.tuple #[.agg #[.bool r.1.neg,.slice s1 r.1.num.length s2,.slice s3 r.1.den.length s4],.int .i64 r.2]∧bh W (.agg #[.bool r.1.neg,.slice s1 r.1.num.length s2,.slice s3 r.1.den.length s4]) r.1
 | 14=>∃ s1 s2 s3 s4,v=.agg #[.bool r.1.neg,.slice s1 r.1.num.length s2,.slice s3 r.1.den.length s4]∧bh W (.agg #[.bool r.1.neg,.slice s1 r.1.num.length s2,.slice s3 r.1.den.length s4]) r.1
 | 15=>v=.int .i64 r.2
 | 16=>r.2=0∧∃ s1 s2 s3 s4,v=.agg #[.bool r.1.neg,.slice s1 r.1.num.length s2,.slice s3 r.1.den.length s4]∧bh W (.agg #[.bool r.1.neg,.slice s1 r.1.num.length s2,.slice s3 r.1.den.length s4]) r.1
 | 17=>r.2=0∧∃ s1 s2 s3 s4,v=.tuple #[.agg #[.bool q.1.neg,.slice s1 q.1.num.length s2,.slice s3 q.1.den.length s4],.int .i64 q.2]∧cD B W (.slice s1 q.1.num.length s2) q.1.num∧cD B W (.slice s3 q.1.den.length s4) q.1.den
 | 18=>r.2=0∧∃ s1 s2 s3 s4,v=.agg #[.bool q.1.neg,.slice s1 q.1.num.length s2,.slice s3 q.1.den.length s4]∧cD B W (.slice s1 q.1.num.length s2) q.1.num∧cD B W (.slice s3 q.1.den.length s4) q.1.den
 | 19=>v=.int .i64 q.2
 | 20=>q.2=0∧∃ s1 s2 s3 s4,v=.agg #[.bool q.1.neg,.slice s1 q.1.num.length s2,.slice s3 q.1.den.length s4]∧cD B W (.slice s1 q.1.num.length s2) q.1.num∧cD B W (.slice s3 q.1.den.length s4) q.1.den
 | _=>True
theorem AE {L V n cap t s bs:Nat} {x f y:RR} {r q:RR × Int} {B:Nat} {j:Nat} {v:Value} {W W':World} (h:Dm L V n cap t s bs x f y r q B j v W) (xx:Ext W W'):Dm L V n cap t s bs x f y r q B j v W':=by
 match j,h with
 | 0,⟨s1,s2,s3,s4,h1,h2⟩=>exact ⟨s1,s2,s3,s4,h1,h2.ext xx⟩
 | 1,h=>exact h
 | 2,h=>exact h
 | 3,h=>exact h
 | 4,h=>exact h
 | 5,h=>exact h
 | 6,h=>exact h
 | 7,h=>exact h
 | 8,⟨s1,s2,s3,s4,h1,h2⟩=>exact ⟨s1,s2,s3,s4,h1,h2.ext xx⟩
 | 9,h=>exact h
 | 10,h=>exact h
 | 11,h=>exact h
 | 12,⟨s1,s2,s3,s4,h1,h2⟩=>exact ⟨s1,s2,s3,s4,h1,h2.ext xx⟩
 | 13,⟨s1,s2,s3,s4,h0,h1⟩=>exact ⟨s1,s2,s3,s4,h0,h1.ext xx⟩
 | 14,⟨s1,s2,s3,s4,h0,h1⟩=>exact ⟨s1,s2,s3,s4,h0,h1.ext xx⟩
 | 15,h=>exact h
 | 16,⟨h9,s1,s2,s3,s4,h0,h1⟩=>exact ⟨h9,s1,s2,s3,s4,h0,h1.ext xx⟩
 | 17,⟨h9,s1,s2,s3,s4,h0,h1,h2⟩=>exact ⟨h9,s1,s2,s3,s4,h0,h1.ext xx,h2.ext xx⟩
 | 18,⟨h9,s1,s2,s3,s4,h0,h1,h2⟩=>exact ⟨h9,s1,s2,s3,s4,h0,h1.ext xx,h2.ext xx⟩
 | 19,h=>exact h
 | 20,⟨h9,s1,s2,s3,s4,h0,h1,h2⟩=>exact ⟨h9,s1,s2,s3,s4,h0,h1.ext xx,h2.ext xx⟩
 | _+21,_=>trivial
def Do (L V n cap s bs:Nat) (x d:RR) (r:RR × Int) (B:Nat) (j:Nat) (v:Value) (W:World):Prop:=
 match j with
 | 0=>v=.slice (some ⟨V,0,none⟩) n n
 | 1=>v=.int .i64 (s:Nat)
 | 2=>∃ s1 s2 s3 s4,v=.agg #[.bool x.neg,.slice s1 x.num.length s2,.slice s3 x.den.length s4]∧bh W (.agg #[.bool x.neg,.slice s1 x.num.length s2,.slice s3 x.den.length s4]) x
 | 3=>v=.slice (some ⟨L,0,none⟩) n cap
 | 4=>v=.int .i64 (s:Nat)
 | 5=>v=.pointer (some ⟨L,s*4,none⟩)
 | 6=>v=.pointer (some ⟨L,s*4,none⟩)
 | 7=>v=.slice (some ⟨bs,0,none⟩) n n
 | 8=>v=.int .i64 (s:Nat)
 | 9=>v=.pointer (some ⟨bs,s*3,none⟩)
 | 10=>∃ s1 s2 s3 s4,v=.agg #[.bool d.neg,.slice s1 d.num.length s2,.slice s3 d.den.length s4]∧bh W (.agg #[.bool d.neg,.slice s1 d.num.length s2,.slice s3 d.den.length s4]) d
 | 11=>∃ s1 s2 s3 s4,v=.tuple #[.agg #[.bool r.1.neg,.slice s1 r.1.num.length s2,.slice s3 r.1.den.length s4],.int .i64 r.2]∧cD B W (.slice s1 r.1.num.length s2) r.1.num∧cD B W (.slice s3 r.1.den.length s4) r.1.den
 | 12=>∃ s1 s2 s3 s4,v=.agg #[.bool r.1.neg,.slice s1 r.1.num.length s2,.slice s3 r.1.den.length s4]∧cD B W (.slice s1 r.1.num.length s2) r.1.num∧cD B W (.slice s3 r.1.den.length s4) r.1.den
 | 13=>v=.int .i64 r.2
 | 14=>r.2=0∧∃ s1 s2 s3 s4,v=.agg #[.bool r.1.neg,.slice s1 r.1.num.length s2,.slice s3 r.1.den.length s4]∧cD B W (.slice s1 r.1.num.length s2) r.1.num∧cD B W (.slice s3 r.1.den.length s4) r.1.den
 | _=>True
theorem AF {L V n cap s bs:Nat} {x d:RR} {r:RR × Int} {B:Nat} {j:Nat} {v:Value} {W W':World} (h:Do L V n cap s bs x d r B j v W) (xx:Ext W W'):Do L V n cap s bs x d r B j v W':=by
 match j,h with
 | 0,h=>exact h
 | 1,h=>exact h
 | 2,⟨s1,s2,s3,s4,h1,h2⟩=>exact ⟨s1,s2,s3,s4,h1,h2.ext xx⟩
 | 3,h=>exact h
 | 4,h=>exact h
 | 5,h=>exact h
 | 6,h=>exact h
 | 7,h=>exact h
 | 8,h=>exact h
 | 9,h=>exact h
 | 10,⟨s1,s2,s3,s4,h1,h2⟩=>exact ⟨s1,s2,s3,s4,h1,h2.ext xx⟩
 | 11,⟨s1,s2,s3,s4,h0,h1,h2⟩=>exact ⟨s1,s2,s3,s4,h0,h1.ext xx,h2.ext xx⟩
 | 12,⟨s1,s2,s3,s4,h0,h1,h2⟩=>exact ⟨s1,s2,s3,s4,h0,h1.ext xx,h2.ext xx⟩
 | 13,h=>exact h
 | 14,⟨h9,s1,s2,s3,s4,h0,h1,h2⟩=>exact ⟨h9,s1,s2,s3,s4,h0,h1.ext xx,h2.ext xx⟩
 | _+15,_=>trivial
theorem Dp (B Lb Rb Vb L V n cap:Nat) (bs:Nat→Nat) (hn:n≤200):∀ (k s:Nat) (y:Sys) (w:World),s+k=n→kA w B Lb Rb Vb L V n cap bs y→
  Calls Tryz.prog 144 #[.int .i64 (s:Nat),.pointer (some ⟨Lb,0,none⟩),.pointer (some ⟨Rb,0,none⟩),.pointer (some ⟨Vb,0,none⟩)] w fun e w'=>ew e (bY n k s y).2 (kA w' B Lb Rb Vb L V n cap bs (bY n k s y).1)∧gH (mD L V n bs) w w':=by
 intro k;induction k with
 | zero=>
  intro s y w hs h;have HI:=kI h;have l0:=h.lb.cell;have l2:=h.lb.lt;have q1:((s:Int) == (n:Int))=true:=by simp;omega
  have q2:(s:Int)=(n:Int):=Z
  clear h;go_enter Tryz.func144,Tryz.ntmps144
  go_wp2_with fail;(try simp only [Exit.inBlock,Exit.then]);refine bodyPost_ret (results_none rfl _ _ _) rfl ?_;exact ⟨ew.ok rfl HI.o,gH.ext (Ext.refl _)⟩
 | succ k ih=>
  intro s y w hs h;have IH:=kI ih;have HI:=kI h;have RN:Hid (s < n):=kI Z;have MQ:=kI hs;clear ih h;have l0:=HI.o.lb.cell;have l2:=HI.o.lb.lt;have q1:((s:Int) == (n:Int))=false:=by simp;omega
  have q2:¬ (s:Int)=(n:Int):=Z
  have q3:(s:Int) < 200:=Z
  go_enter Tryz.func144,Tryz.ntmps144
  go_wp2_with fail;clear l0 l2 q1 q2;have hK0:n - (s+1)=k:=Z
  have PF:=kI hK0;clear hK0;go_loopw [5] (fun i wr=>∃ (j:Nat) (y1:Sys),j≤k∧i=.int .i64 ((s+1+j:Nat):Int)∧cI n s y j=(y1,0)∧kA wr B Lb Rb Vb L V n cap bs y1∧gH (mD L V n bs) w wr) (fun i _=>n - (intOf i).toNat)
  case atStart=>exact ⟨0,y,Nat.zero_le _,by simp,rfl,HI.o,gH.ext (Ext.refl _)⟩
  case round=>
   obtain ⟨wi,hwi⟩:=gN (wr);subst hwi;obtain ⟨j,y1,hj,rfl,hf,hr,hkp⟩:=hrel;have RI:=kI hr;have FI:=kI hf;have KI:=kI hkp;obtain ⟨t,ht⟩:=gN (s+1+j);rw [← ht];have HT:=kI ht;have l0:=RI.o.lb.cell;have l2:=RI.o.lb.lt;clear hr hf hkp;by_cases hlt:t < n
   ·have fb:=kI hlt;have hsn:=RN.o;have q4:(t:Int) < (n:Int):=Z
    have q5:(0:Int)≤(t:Int):=Z
    have q6:(0:Int)≤(s:Int):=Z
    have q7:(s:Int) < (n:Int):=Z
    have hts:s≠t:=Z
    clear ht;go_wp2_with fail;obtain ⟨x1,x2,x3,x4,xl,xc0,jI,Uw,Ux,-⟩:=RI.o.eq.at hlt;obtain ⟨z1,z2,z3,z4,zl,ER,MR,MS,MT,Kc⟩:=RI.o.eq.at hsn;obtain ⟨a1,a2,a3,a4,UB,UC,UD,UE⟩:=(RI.o.eq.row t hlt).at (j:=s) hsn;obtain ⟨d1,d2,d3,d4,UF,UG,UH,UI⟩:=(RI.o.eq.row s hsn).at (j:=s) hsn;obtain ⟨a,ha⟩:=gN (y1.M t s);obtain ⟨d,hd⟩:=gN (y1.M s s);obtain ⟨zz,hz⟩:=gN (y1.S s);rw [← ha] at UB UC UD UE;rw [← hd] at UF UG UH UI;rw [← hz] at MR MS MT Kc;have TC:Hid (L < wi.heap.size∧wi.cell? ⟨L,t*4,none⟩=some (.slice (some ⟨bs t,0,none⟩) n n)):=kI ⟨xl,xc0⟩;have SC:Hid (wi.cell? ⟨L,s*4,none⟩=some (.slice (some ⟨bs s,0,none⟩) n n)∧wi.cell? ⟨L,s*4+1,none⟩=some (.bool zz.neg)∧wi.cell? ⟨L,s*4+2,none⟩=some (.slice z1 zz.num.length z2)∧wi.cell? ⟨L,s*4+3,none⟩=some (.slice z3 zz.den.length z4)∧bh wi (.agg #[.bool zz.neg,.slice z1 zz.num.length z2,.slice z3 zz.den.length z4]) zz):=kI ⟨ER,MR,MS,MT,Kc⟩;have AC:Hid (bs t < wi.heap.size∧wi.cell? ⟨bs t,s*3,none⟩=some (.bool a.neg)∧wi.cell? ⟨bs t,s*3+1,none⟩=some (.slice a1 a.num.length a2)∧wi.cell? ⟨bs t,s*3+2,none⟩=some (.slice a3 a.den.length a4)∧bh wi (.agg #[.bool a.neg,.slice a1 a.num.length a2,.slice a3 a.den.length a4]) a):=kI ⟨(RI.o.eq.row t hlt).lt,UB,UC,UD,UE⟩;have DC:Hid (bs s < wi.heap.size∧wi.cell? ⟨bs s,s*3,none⟩=some (.bool d.neg)∧wi.cell? ⟨bs s,s*3+1,none⟩=some (.slice d1 d.num.length d2)∧wi.cell? ⟨bs s,s*3+2,none⟩=some (.slice d3 d.den.length d4)∧bh wi (.agg #[.bool d.neg,.slice d1 d.num.length d2,.slice d3 d.den.length d4]) d):=kI ⟨(RI.o.eq.row s hsn).lt,UF,UG,UH,UI⟩;have hal:aC a:=by rw [ha];exact RI.o.eq.xX t s
    have hdl:aC d:=by rw [hd];exact RI.o.eq.xX s s
    have HA:=kI ha;have HD:=kI hd;have HZ:=kI hz;have Gh:=kI hal;have JG:=kI hdl;obtain ⟨R,hR⟩:=gN (bJ a d);have hrl:aC R.1:=by rw [hR];exact mC _ _
    have HR:=kI hR;have EF:=kI hrl;have JK:Hid (j+1≤n - (s+1)):=kI (by rw [PF.o];have:=HT.o;have:=fb.o;have:=MQ.o;omega);have ES:Hid (∀ c,c≠0→(jM n s t y1).2=c→(bY n (k+1) s y).2=c):=kI (fun c hc h=>Dh (vF (j:=j+1) (by rw [si (by rw [FI.o]),FI.o,← HT.o];exact h) hc JK.o) hc);clear xl xc0 jI Uw Ux zl ER MR MS MT Kc UB UC UD UE UF UG UH UI ha hd hz hal hdl hR hrl l0 l2;have X:=kI (Ext.refl wi);refine aI 27 (Kb L n cap t s (bs t) (bs s) a d zz R) ax ax ax (fun _ _ _ _ h x=>Dl h x) ?_ ?_
    ·refine ⟨?_,?_,?_,?_,?_,?_,?_,?_,?_,?_,?_,?_,?_,?_,?_,?_,?_,?_,?_,?_,?_,?_,?_,?_,?_,?_,?_,trivial⟩
     ·intro a W hW af hB hD K hK;have aQ:=kI af;clear af;have b1:=hB 1 rfl;simp only [sB] at b1;have q9:=(RI.o.lb.ext hW).cell;have l9:=(RI.o.lb.ext hW).lt;go_simp;exact hK _ _ (Ext.refl _) rfl
     ·intro a W hW af hB hD K hK;have aQ:=kI af;clear af;have b5:=hB 5 rfl;simp only [sB] at b5;go_simp;exact hK _ _ (Ext.refl _) rfl
     ·intro a W hW af hB hD K hK;have aQ:=kI af;clear af;obtain ⟨v20,e20,h20⟩:=aE (hD 0 _ 20 rfl rfl ax);obtain rfl:=h20;obtain ⟨v21,e21,h21⟩:=aE (hD 1 _ 21 rfl rfl ax);obtain rfl:=h21;go_simp;exact hK _ _ (Ext.refl _) rfl
     ·intro a W hW af hB hD K hK;have aQ:=kI af;clear af;have b1:=hB 1 rfl;simp only [sB] at b1;have q9:=(RI.o.lb.ext hW).cell;have l9:=(RI.o.lb.ext hW).lt;go_simp;exact hK _ _ (Ext.refl _) rfl
     ·intro a W hW af hB hD K hK;have aQ:=kI af;clear af;have b5:=hB 5 rfl;simp only [sB] at b5;go_simp;exact hK _ _ (Ext.refl _) rfl
     ·intro a W hW af hB hD K hK;have aQ:=kI af;clear af;obtain ⟨v23,e23,h23⟩:=aE (hD 3 _ 23 rfl rfl ax);obtain rfl:=h23;obtain ⟨v24,e24,rO⟩:=aE (hD 4 _ 24 rfl rfl ax);obtain rfl:=rO;go_simp;exact hK _ _ (Ext.refl _) rfl
     ·intro a W hW af hB hD K hK;have aQ:=kI af;clear af;obtain ⟨v25,e25,Cw⟩:=aE (hD 5 _ 25 rfl rfl ax);obtain rfl:=Cw;go_simp;exact hK _ _ (Ext.refl _) rfl
     ·intro a W hW af hB hD K hK;have aQ:=kI af;clear af;obtain ⟨v26,e26,AA⟩:=aE (hD 6 _ 26 rfl rfl ax);obtain rfl:=AA;have m0:=(hW.cell (p:=⟨L,t*4,none⟩) TC.o.1).trans TC.o.2;have ml:=Nat.lt_of_lt_of_le TC.o.1 hW.size;go_simp;exact hK _ _ (Ext.refl _) rfl
     ·intro a W hW af hB hD K hK;have aQ:=kI af;clear af;have b0:=hB 0 rfl;simp only [sB] at b0;go_simp;exact hK _ _ (Ext.refl _) rfl
     ·intro a W hW af hB hD K hK;have aQ:=kI af;clear af;obtain ⟨v27,e27,h27⟩:=aE (hD 7 _ 27 rfl rfl ax);obtain rfl:=h27;obtain ⟨v28,e28,h28⟩:=aE (hD 8 _ 28 rfl rfl ax);obtain rfl:=h28;go_simp;exact hK _ _ (Ext.refl _) rfl
     ·intro a W hW af hB hD K hK;have aQ:=kI af;clear af;obtain ⟨v29,e29,Dc⟩:=aE (hD 9 _ 29 rfl rfl ax);obtain rfl:=Dc;have m0:=(hW.cell (p:=⟨bs t,s*3,none⟩) AC.o.1).trans AC.o.2.1;have m1:=(hW.cell (p:=⟨bs t,s*3+1,none⟩) AC.o.1).trans AC.o.2.2.1;have m2:=(hW.cell (p:=⟨bs t,s*3+2,none⟩) AC.o.1).trans AC.o.2.2.2.1;have ml:=Nat.lt_of_lt_of_le AC.o.1 hW.size;go_simp;exact hK _ _ (Ext.refl _) ⟨_,_,_,_,rfl,AC.o.2.2.2.2.ext hW⟩
     ·intro a W hW af hB hD K hK;have aQ:=kI af;clear af;have b1:=hB 1 rfl;simp only [sB] at b1;have q9:=(RI.o.lb.ext hW).cell;have l9:=(RI.o.lb.ext hW).lt;go_simp;exact hK _ _ (Ext.refl _) rfl
     ·intro a W hW af hB hD K hK;have aQ:=kI af;clear af;have b0:=hB 0 rfl;simp only [sB] at b0;go_simp;exact hK _ _ (Ext.refl _) rfl
     ·intro a W hW af hB hD K hK;have aQ:=kI af;clear af;obtain ⟨v31,e31,h31⟩:=aE (hD 11 _ 31 rfl rfl ax);obtain rfl:=h31;obtain ⟨v32,e32,h32⟩:=aE (hD 12 _ 32 rfl rfl ax);obtain rfl:=h32;go_simp;exact hK _ _ (Ext.refl _) rfl
     ·intro a W hW af hB hD K hK;have aQ:=kI af;clear af;obtain ⟨v33,e33,Gu⟩:=aE (hD 13 _ 33 rfl rfl ax);obtain rfl:=Gu;go_simp;exact hK _ _ (Ext.refl _) rfl
     ·intro a W hW af hB hD K hK;have aQ:=kI af;clear af;obtain ⟨v34,e34,Ke⟩:=aE (hD 14 _ 34 rfl rfl ax);obtain rfl:=Ke;have m0:=(hW.cell (p:=⟨L,s*4,none⟩) TC.o.1).trans SC.o.1;have ml:=Nat.lt_of_lt_of_le TC.o.1 hW.size;go_simp;exact hK _ _ (Ext.refl _) rfl
     ·intro a W hW af hB hD K hK;have aQ:=kI af;clear af;have b0:=hB 0 rfl;simp only [sB] at b0;go_simp;exact hK _ _ (Ext.refl _) rfl
     ·intro a W hW af hB hD K hK;have aQ:=kI af;clear af;obtain ⟨v35,e35,h35⟩:=aE (hD 15 _ 35 rfl rfl ax);obtain rfl:=h35;obtain ⟨v36,e36,PH⟩:=aE (hD 16 _ 36 rfl rfl ax);obtain rfl:=PH;go_simp;exact hK _ _ (Ext.refl _) rfl
     ·intro a W hW af hB hD K hK;have aQ:=kI af;clear af;obtain ⟨v37,e37,h37⟩:=aE (hD 17 _ 37 rfl rfl ax);obtain rfl:=h37;have m0:=(hW.cell (p:=⟨bs s,s*3,none⟩) DC.o.1).trans DC.o.2.1;have m1:=(hW.cell (p:=⟨bs s,s*3+1,none⟩) DC.o.1).trans DC.o.2.2.1;have m2:=(hW.cell (p:=⟨bs s,s*3+2,none⟩) DC.o.1).trans DC.o.2.2.2.1;have ml:=Nat.lt_of_lt_of_le DC.o.1 hW.size;go_simp;exact hK _ _ (Ext.refl _) ⟨_,_,_,_,rfl,DC.o.2.2.2.2.ext hW⟩
     ·intro a W hW af hB hD K hK;have aQ:=kI af;clear af;obtain ⟨v30,e30,h30⟩:=aE (hD 10 _ 30 rfl rfl ax);obtain ⟨x91,fp,x93,fq,rfl,qT⟩:=h30;obtain ⟨v38,e38,h38⟩:=aE (hD 18 _ 38 rfl rfl ax);obtain ⟨y91,Gp,y93,Gq,rfl,qU⟩:=h38;go_simp;have hmu:=pw _ _ _ _ W qT qU Gh.o JG.o;rw [← HR.o] at hmu;refine hmu.mono ?_;rintro e w9 ⟨⟨v,rfl,nn⟩,hx⟩;obtain ⟨t1,t2,t3,t4,rfl⟩:=nn.shape;exact hK _ _ hx ⟨_,_,_,_,rfl,nn.rd⟩
     ·intro a W hW af hB hD K hK;have aQ:=kI af;clear af;obtain ⟨v39,e39,PI⟩:=aE (hD 19 _ 39 rfl rfl ax);obtain ⟨x91,fp,x93,fq,rfl,xq⟩:=PI;go_simp;exact hK _ _ (Ext.refl _) ⟨_,_,_,_,rfl,xq⟩
     ·intro a W hW af hB hD K hK;have aQ:=kI af;clear af;obtain ⟨v39,e39,PI⟩:=aE (hD 19 _ 39 rfl rfl ax);obtain ⟨x91,fp,x93,fq,rfl,xq⟩:=PI;go_simp;exact hK _ _ (Ext.refl _) rfl
     ·intro a W hW af hB hD K hK;have aQ:=kI af;clear af;obtain ⟨v40,e40,UJ⟩:=aE (hD 20 _ 40 rfl rfl ax);obtain ⟨x91,fp,x93,fq,rfl,xq⟩:=UJ;obtain ⟨v41,e41,UK⟩:=aE (hD 21 _ 41 rfl rfl ax);obtain rfl:=UK;go_simp;by_cases hpe:R.2=0
      ·rw [hpe];refine (bO _ _ _ _ _ _ _ W).mono ?_;rintro e w9 ⟨rfl,hx⟩;exact hK _ _ hx ⟨hpe,_,_,_,_,rfl,xq.ext hx⟩
      ·refine (bu _ _ _ _ _ _ _ _ rfl hpe W).mono ?_;rintro e w9 ⟨rfl,hx⟩;(try simp +zetaDelta only [Exit.then,Exit.inBlock]);exact aF aQ.o ⟨ew.bad hpe (ES.o _ hpe (by rw [vE,← HA.o,← HD.o,← HR.o,if_pos hpe])),KI.o.trans (gH.ext (hW.trans hx))⟩
     ·intro a W hW af hB hD K hK;have aQ:=kI af;clear af;have b1:=hB 1 rfl;simp only [sB] at b1;have q9:=(RI.o.lb.ext hW).cell;have l9:=(RI.o.lb.ext hW).lt;go_simp;exact hK _ _ (Ext.refl _) rfl
     ·intro a W hW af hB hD K hK;have aQ:=kI af;clear af;have b0:=hB 0 rfl;simp only [sB] at b0;go_simp;exact hK _ _ (Ext.refl _) rfl
     ·intro a W hW af hB hD K hK;have aQ:=kI af;clear af;obtain ⟨v43,e43,h43⟩:=aE (hD 23 _ 43 rfl rfl ax);obtain rfl:=h43;obtain ⟨v44,e44,h44⟩:=aE (hD 24 _ 44 rfl rfl ax);obtain rfl:=h44;go_simp;exact hK _ _ (Ext.refl _) rfl
     ·intro a W hW af hB hD K hK;have aQ:=kI af;clear af;obtain ⟨v45,e45,h45⟩:=aE (hD 25 _ 45 rfl rfl ax);obtain rfl:=h45;have m0:=(hW.cell (p:=⟨L,s*4,none⟩) TC.o.1).trans SC.o.1;have m1:=(hW.cell (p:=⟨L,s*4+1,none⟩) TC.o.1).trans SC.o.2.1;have m2:=(hW.cell (p:=⟨L,s*4+2,none⟩) TC.o.1).trans SC.o.2.2.1;have m3:=(hW.cell (p:=⟨L,s*4+3,none⟩) TC.o.1).trans SC.o.2.2.2.1;have ml:=Nat.lt_of_lt_of_le TC.o.1 hW.size;go_simp;exact hK _ _ (Ext.refl _) ⟨_,_,_,_,rfl,SC.o.2.2.2.2.ext hW⟩
    intro w5 hx;simp only [cW,List.take_succ_cons,List.take_zero,List.drop_succ_cons,List.drop_zero];rintro u0 - u1 - u2 h2 u3 - u4 - u5 - u6 - u7 - u8 - u9 - u10 - u11 - u12 - u13 - u14 - u15 - u16 - RO - RP - UL - u20 - u21 - u22 h22 u23 - u24 - u25 - u26 AA;obtain rfl:=h2;obtain ⟨hp1,v1,v2,v3,v4,rfl,HF⟩:=h22;obtain ⟨v5,v6,v7,v8,rfl,Yj⟩:=AA;simp only [Act.put,List.setIfInBounds_toArray,List.set_cons_zero,List.set_cons_succ];have P1:=kI hp1;have HF5:=kI HF;have HY5:=kI Yj;have X5:=kI hx;have R5:=kI (RI.o.ext hx);clear hp1 HF Yj hx;go_wp2_with fail;obtain ⟨ce,hce⟩:=gN (Iw n (y1.M t) R.1 (y1.M s) (y1.S t) (y1.S s));have hel:=AB L t s n B n bs y1.M y1.S R.1 _ w5 R5.o.eq fb.o RN.o hts HF5.o EF.o Z R5.o.size v5 v6 v7 v8 (by rw [← HZ.o];exact HY5.o);rw [← HZ.o] at hel;refine hel.mono ?_;rintro e w6 ⟨he,hk⟩;rw [HZ.o,← hce] at he;have K6:Hid (gH (mD L V n bs) w w6):=kI ((KI.o.trans (gH.ext X5.o)).trans (hk.mono (fun i hi=>hi.elim Or.inl (fun e=>Or.inr (Or.inr ⟨t,fb.o,e⟩)))));have hst1:jM n s t y1=if ce≠0 then (y1,ce) else (⟨cN y1.M t (iZ (y1.M t) R.1 (y1.M s) n),cN y1.S t (gg (y1.S t) R.1 (y1.S s)).1,y1.V⟩,0):=by
     rw [vE,← HA.o,← HD.o,← HR.o,if_neg (fun h=>h P1.o),← hce]
    have ST1:=kI hst1;clear hel hce hst1;by_cases hz:ce=0
    rotate_left
    ·obtain rfl:=he.pN hz;(try simp +zetaDelta only [Exit.then,Exit.inBlock]);exact aF rfl ⟨ew.bad hz (ES.o _ hz (by rw [ST1.o,if_pos hz])),K6.o⟩
    subst hz;obtain ⟨rfl,heq⟩:=he.pM;have R6:=kI (R5.o.elim fb.o heq hk);have FN6:Hid (cI n s y (j+1)=(⟨cN y1.M t (iZ (y1.M t) R.1 (y1.M s) n),cN y1.S t (gg (y1.S t) R.1 (y1.S s)).1,y1.V⟩,0)):=kI (by rw [si (by rw [FI.o]),FI.o,← HT.o,ST1.o,if_neg (fun h=>h rfl)]);clear he heq hk;go_wp2_with fail;go_roundw
    case rel=>exact ⟨j+1,_,by have:=HT.o;have:=fb.o;have:=MQ.o;omega,by rw [HT.o];go_num,FN6.o,R6.o,K6.o⟩
    case measure=>first|(simp [intOf];done)|(simp [intOf];omega)
   ·have hje:j=k:=by have:=MQ.o;omega
    subst hje;have q4:¬ (t:Int) < (n:Int):=Z
    have F1:Hid (cI n s y (n - (s+1))=(y1,0)):=kI (by rw [PF.o];exact FI.o);have rb0:=RI.o.rb.cell;have rb2:=RI.o.rb.lt;clear ht;go_wp2_with fail;clear rb0 rb2 q4 l0 l2;have hih:=IH.o (s+1) y1 wi (by have:=MQ.o;omega) RI.o;rw [show ((s+1:Nat):Int)=(s:Int)+1 from by omega] at hih;refine hih.mono ?_;clear hih;rintro e w3 ⟨he,hk⟩;obtain ⟨P2,hP2⟩:=gN (bY n j (s+1) y1);rw [← hP2] at he;obtain ⟨y2,c2⟩:=P2;dsimp only at he;have K3:Hid (gH (mD L V n bs) w w3):=kI (KI.o.trans hk);have HP2:=kI hP2.symm;clear hk hP2;by_cases hz:c2=0
    rotate_left
    ·obtain rfl:=he.pN hz;(try simp +zetaDelta only [Exit.then,Exit.inBlock]);exact aF rfl ⟨ew.bad hz (Di F1.o (by rw [HP2.o]) hz),K3.o⟩
    subst hz;obtain ⟨rfl,hr3⟩:=he.pM;have R3:=kI hr3;clear he hr3;have hsn:=RN.o;have q6:(0:Int)≤(s:Int):=Z
    have q7:(s:Int) < (n:Int):=Z
    obtain ⟨z1,z2,z3,z4,zl,ER,MR,MS,MT,Kc⟩:=R3.o.eq.at hsn;obtain ⟨zz,hzz⟩:=gN (y2.S s);rw [← hzz] at MR MS MT Kc;have UA:=kI hzz;have ZRD:=kI Kc;have l0:=R3.o.lb.cell;have l2:=R3.o.lb.lt;clear hzz Kc;go_wp2_with fail;clear l0 l2 zl ER MR MS MT;have UM:=ag.new w3 #[.bool zz.neg,.slice z1 zz.num.length z2,.slice z3 zz.den.length z4] 25;have hx:Ext w3 (w3.alloc (.cells #[.bool zz.neg,.slice z1 zz.num.length z2,.slice z3 zz.den.length z4] 25)):=(Ext.refl _).alloc _;obtain ⟨sb,hsb⟩:=gN (w3.heap.size);obtain ⟨w4,hw4⟩:=gN (w3.alloc (.cells #[.bool zz.neg,.slice z1 zz.num.length z2,.slice z3 zz.den.length z4] 25));rw [← hsb,← hw4] at UM;rw [← hw4] at hx;rw [← hsb,← hw4];have R4:=kI (R3.o.ext hx);have K4:Hid (gH (mD L V n bs) w w4):=kI (K3.o.trans (gH.ext hx));have SM:Hid (mZ w4 sb 25 (y2.S s)):=kI (by rw [← UA.o];exact ⟨_,_,_,_,UM,ZRD.o.ext hx⟩);have SBN:Hid (w3.heap.size≤sb):=kI (by rw [hsb];exact Nat.le_refl _);have X4:=kI hx;clear UM hx hsb hw4;go_loopw [7] (fun i wr=>∃ (i2:Nat) (acc:RR),i2≤j∧i=.int .i64 ((s+1+i2:Nat):Int)∧dP s y2 i2=(acc,0)∧mZ wr sb 25 acc∧Ext w3 wr) (fun i _=>n - (intOf i).toNat)
    case atStart=>exact ⟨0,y2.S s,Nat.zero_le _,by simp,rfl,SM.o,X4.o⟩
    case round=>
     obtain ⟨wk,hwk⟩:=gN (wr);subst hwk;obtain ⟨i2,acc,hi2,rfl,hb,hsm,hxk⟩:=hrel;have SI:=kI hsm;have BI:=kI hb;have XI:=kI hxk;have RK:=kI (R3.o.ext hxk);obtain ⟨t,ht⟩:=gN (s+1+i2);rw [← ht];have HT2:=kI ht;have l0:=RK.o.lb.cell;have l2:=RK.o.lb.lt;clear hb hsm hxk;by_cases hlt:t < n
     ·have fb:=kI hlt;have q4:(t:Int) < (n:Int):=Z
      have q5:(0:Int)≤(t:Int):=Z
      have q8:(t:Int) < 200:=Z
      have JK:Hid (i2+1≤j):=kI (by have:=PF.o;have:=MQ.o;omega);clear ht;go_wp2_with fail;obtain ⟨z1',z2',z3',z4',zl,ER,-,-,-,-⟩:=RK.o.eq.at hsn;obtain ⟨m1,m2,m3,m4,Kf,Kg,Kh,Ki⟩:=(RK.o.eq.row s hsn).at (j:=t) hlt;obtain ⟨v1,v2,v3,v4,PJ,PM,PP,Iy⟩:=RK.o.va.at (j:=t) hlt;obtain ⟨f,hf⟩:=gN (y2.M s t);obtain ⟨x,hxx⟩:=gN (y2.V t);rw [← hf] at Kf Kg Kh Ki;rw [← hxx] at PJ PM PP Iy;have SC:Hid (L < wk.heap.size∧wk.cell? ⟨L,s*4,none⟩=some (.slice (some ⟨bs s,0,none⟩) n n)):=kI ⟨zl,ER⟩;have MC:Hid (bs s < wk.heap.size∧wk.cell? ⟨bs s,t*3,none⟩=some (.bool f.neg)∧wk.cell? ⟨bs s,t*3+1,none⟩=some (.slice m1 f.num.length m2)∧wk.cell? ⟨bs s,t*3+2,none⟩=some (.slice m3 f.den.length m4)∧bh wk (.agg #[.bool f.neg,.slice m1 f.num.length m2,.slice m3 f.den.length m4]) f):=kI ⟨(RK.o.eq.row s hsn).lt,Kf,Kg,Kh,Ki⟩;have VC:Hid (V < wk.heap.size∧wk.cell? ⟨V,t*3,none⟩=some (.bool x.neg)∧wk.cell? ⟨V,t*3+1,none⟩=some (.slice v1 x.num.length v2)∧wk.cell? ⟨V,t*3+2,none⟩=some (.slice v3 x.den.length v4)∧bh wk (.agg #[.bool x.neg,.slice v1 x.num.length v2,.slice v3 x.den.length v4]) x):=kI ⟨RK.o.va.lt,PJ,PM,PP,Iy⟩;obtain ⟨s1,s2,s3,s4,PQ,PR⟩:=SI.o;have SK:=kI PQ;have SR:=kI PR;have hfl:aC f:=by rw [hf];exact RK.o.eq.xX s t
      have hxl:aC x:=by rw [hxx];exact RK.o.Gt t
      have hal:aC acc:=by have:=pX (s:=s) RK.o.eq.Gs i2;rw [BI.o] at this;exact this
      have HFF:=kI hf;have BT:=kI hxx;have UN:=kI hfl;have Gk:=kI hxl;have Gh:=kI hal;obtain ⟨R,hR⟩:=gN (mulR f x);have hrl:aC R.1:=by rw [hR];exact fh _ _
      have HR:=kI hR;have EF:=kI hrl;have Yk:Hid (dP s y2 (i2+1)=gg acc f x):=kI (by rw [AD (by rw [BI.o]),BI.o,← HT2.o,← HFF.o,← BT.o]);have ES:Hid (∀ c,c≠0→(gg acc f x).2=c→(bY n (j+1) s y).2=c):=kI (fun c hc h=>Dj F1.o HP2.o (vG (j:=i2+1) (by rw [Yk.o];exact h) hc (by rw [PF.o];exact JK.o)) hc);have KE:Hid (∀ W,Ext wk W→gH (mD L V n bs) w W):=kI (fun W h=>K3.o.trans (gH.ext (XI.o.trans h)));clear zl ER Kf Kg Kh Ki PJ PM PP Iy PQ PR hf hxx hfl hxl hal hR hrl l0 l2;have X:=kI (Ext.refl wk);refine aI 21 (Dm L V n cap t s (bs s) acc f x R (bR acc R.1) B) ax ax ax (fun _ _ _ _ h x=>AE h x) ?_ ?_
      ·refine ⟨?_,?_,?_,?_,?_,?_,?_,?_,?_,?_,?_,?_,?_,?_,?_,?_,?_,?_,?_,?_,?_,trivial⟩
       ·intro a W hW af hB hD K hK;have aQ:=kI af;clear af;have b6:=hB 6 rfl;simp only [sB] at b6;have q9:=(SK.o.ext hW).cell;have l9:=(SK.o.ext hW).lt;go_simp;exact hK _ _ (Ext.refl _) ⟨_,_,_,_,rfl,SR.o.ext hW⟩
       ·intro a W hW af hB hD K hK;have aQ:=kI af;clear af;have b1:=hB 1 rfl;simp only [sB] at b1;have q9:=(RK.o.lb.ext hW).cell;have l9:=(RK.o.lb.ext hW).lt;go_simp;exact hK _ _ (Ext.refl _) rfl
       ·intro a W hW af hB hD K hK;have aQ:=kI af;clear af;have b0:=hB 0 rfl;simp only [sB] at b0;go_simp;exact hK _ _ (Ext.refl _) rfl
       ·intro a W hW af hB hD K hK;have aQ:=kI af;clear af;obtain ⟨v66,e66,UO⟩:=aE (hD 1 _ 66 rfl rfl ax);obtain rfl:=UO;obtain ⟨v67,Yl,PS⟩:=aE (hD 2 _ 67 rfl rfl ax);obtain rfl:=PS;go_simp;exact hK _ _ (Ext.refl _) rfl
       ·intro a W hW af hB hD K hK;have aQ:=kI af;clear af;obtain ⟨v68,e68,h68⟩:=aE (hD 3 _ 68 rfl rfl ax);obtain rfl:=h68;go_simp;exact hK _ _ (Ext.refl _) rfl
       ·intro a W hW af hB hD K hK;have aQ:=kI af;clear af;obtain ⟨v69,e69,UP⟩:=aE (hD 4 _ 69 rfl rfl ax);obtain rfl:=UP;have m0:=(hW.cell (p:=⟨L,s*4,none⟩) SC.o.1).trans SC.o.2;have ml:=Nat.lt_of_lt_of_le SC.o.1 hW.size;go_simp;exact hK _ _ (Ext.refl _) rfl
       ·intro a W hW af hB hD K hK;have aQ:=kI af;clear af;have b7:=hB 7 rfl;simp only [sB] at b7;go_simp;exact hK _ _ (Ext.refl _) rfl
       ·intro a W hW af hB hD K hK;have aQ:=kI af;clear af;obtain ⟨v70,e70,PT⟩:=aE (hD 5 _ 70 rfl rfl ax);obtain rfl:=PT;obtain ⟨v71,Ym,PU⟩:=aE (hD 6 _ 71 rfl rfl ax);obtain rfl:=PU;go_simp;exact hK _ _ (Ext.refl _) rfl
       ·intro a W hW af hB hD K hK;have aQ:=kI af;clear af;obtain ⟨v72,e72,h72⟩:=aE (hD 7 _ 72 rfl rfl ax);obtain rfl:=h72;have m0:=(hW.cell (p:=⟨bs s,t*3,none⟩) MC.o.1).trans MC.o.2.1;have m1:=(hW.cell (p:=⟨bs s,t*3+1,none⟩) MC.o.1).trans MC.o.2.2.1;have m2:=(hW.cell (p:=⟨bs s,t*3+2,none⟩) MC.o.1).trans MC.o.2.2.2.1;have ml:=Nat.lt_of_lt_of_le MC.o.1 hW.size;go_simp;exact hK _ _ (Ext.refl _) ⟨_,_,_,_,rfl,MC.o.2.2.2.2.ext hW⟩
       ·intro a W hW af hB hD K hK;have aQ:=kI af;clear af;have b3:=hB 3 rfl;simp only [sB] at b3;have q9:=(RK.o.vb.ext hW).cell;have l9:=(RK.o.vb.ext hW).lt;go_simp;exact hK _ _ (Ext.refl _) rfl
       ·intro a W hW af hB hD K hK;have aQ:=kI af;clear af;have b7:=hB 7 rfl;simp only [sB] at b7;go_simp;exact hK _ _ (Ext.refl _) rfl
       ·intro a W hW af hB hD K hK;have aQ:=kI af;clear af;obtain ⟨v74,e74,h74⟩:=aE (hD 9 _ 74 rfl rfl ax);obtain rfl:=h74;obtain ⟨v75,e75,h75⟩:=aE (hD 10 _ 75 rfl rfl ax);obtain rfl:=h75;go_simp;exact hK _ _ (Ext.refl _) rfl
       ·intro a W hW af hB hD K hK;have aQ:=kI af;clear af;obtain ⟨v76,e76,h76⟩:=aE (hD 11 _ 76 rfl rfl ax);obtain rfl:=h76;have m0:=(hW.cell (p:=⟨V,t*3,none⟩) VC.o.1).trans VC.o.2.1;have m1:=(hW.cell (p:=⟨V,t*3+1,none⟩) VC.o.1).trans VC.o.2.2.1;have m2:=(hW.cell (p:=⟨V,t*3+2,none⟩) VC.o.1).trans VC.o.2.2.2.1;have ml:=Nat.lt_of_lt_of_le VC.o.1 hW.size;go_simp;exact hK _ _ (Ext.refl _) ⟨_,_,_,_,rfl,VC.o.2.2.2.2.ext hW⟩
       ·intro a W hW af hB hD K hK;have aQ:=kI af;clear af;obtain ⟨v73,e73,UQ⟩:=aE (hD 8 _ 73 rfl rfl ax);obtain ⟨x91,fp,x93,fq,rfl,qT⟩:=UQ;obtain ⟨v77,e77,h77⟩:=aE (hD 12 _ 77 rfl rfl ax);obtain ⟨y91,Gp,y93,Gq,rfl,qU⟩:=h77;go_simp;have hmu:=fg _ _ f x W qT qU UN.o Gk.o;rw [← HR.o] at hmu;refine hmu.mono ?_;rintro e w9 ⟨⟨v,rfl,nn⟩,hx⟩;obtain ⟨t1,t2,t3,t4,rfl⟩:=nn.shape;exact hK _ _ hx ⟨_,_,_,_,rfl,nn.rd⟩
       ·intro a W hW af hB hD K hK;have aQ:=kI af;clear af;obtain ⟨v78,e78,UR⟩:=aE (hD 13 _ 78 rfl rfl ax);obtain ⟨x91,fp,x93,fq,rfl,xq⟩:=UR;go_simp;exact hK _ _ (Ext.refl _) ⟨_,_,_,_,rfl,xq⟩
       ·intro a W hW af hB hD K hK;have aQ:=kI af;clear af;obtain ⟨v78,e78,UR⟩:=aE (hD 13 _ 78 rfl rfl ax);obtain ⟨x91,fp,x93,fq,rfl,xq⟩:=UR;go_simp;exact hK _ _ (Ext.refl _) rfl
       ·intro a W hW af hB hD K hK;have aQ:=kI af;clear af;obtain ⟨v79,e79,h79⟩:=aE (hD 14 _ 79 rfl rfl ax);obtain ⟨x91,fp,x93,fq,rfl,xq⟩:=h79;obtain ⟨v80,e80,h80⟩:=aE (hD 15 _ 80 rfl rfl ax);obtain rfl:=h80;go_simp;by_cases hpe:R.2=0
        ·rw [hpe];refine (bO _ _ _ _ _ _ _ W).mono ?_;rintro e w9 ⟨rfl,hx⟩;exact hK _ _ hx ⟨hpe,_,_,_,_,rfl,xq.ext hx⟩
        ·refine (bu _ _ _ _ _ _ _ _ rfl hpe W).mono ?_;rintro e w9 ⟨rfl,hx⟩;(try simp +zetaDelta only [Exit.then,Exit.inBlock]);exact aF aQ.o ⟨ew.bad hpe (ES.o _ hpe QT),KE.o _ (hW.trans hx)⟩
       ·intro a W hW af hB hD K hK;have aQ:=kI af;clear af;obtain ⟨v65,e65,h65⟩:=aE (hD 0 _ 65 rfl rfl ax);obtain ⟨x91,fp,x93,fq,rfl,qT⟩:=h65;obtain ⟨v81,e81,US⟩:=aE (hD 16 _ 81 rfl rfl ax);obtain ⟨hpe,y91,Gp,y93,Gq,rfl,qU⟩:=US;go_simp;refine (gw _ _ acc R.1 W qT qU Gh.o EF.o).mono ?_;rintro e w9 ⟨⟨v,rfl,nn⟩,hx⟩;obtain ⟨t1,t2,t3,t4,rfl⟩:=nn.shape;obtain ⟨hs1,hs2⟩:=nn.sf (B:=B) (Nat.le_trans RK.o.size hW.size);exact hK _ _ hx ⟨hpe,_,_,_,_,rfl,hs1,hs2⟩
       ·intro a W hW af hB hD K hK;have aQ:=kI af;clear af;obtain ⟨v82,Yo,PW⟩:=aE (hD 17 _ 82 rfl rfl ax);obtain ⟨uf,x91,fp,x93,fq,rfl,xq,xr⟩:=PW;go_simp;exact hK _ _ (Ext.refl _) ⟨uf,_,_,_,_,rfl,xq,xr⟩
       ·intro a W hW af hB hD K hK;have aQ:=kI af;clear af;obtain ⟨v82,Yo,PW⟩:=aE (hD 17 _ 82 rfl rfl ax);obtain ⟨uf,x91,fp,x93,fq,rfl,xq,xr⟩:=PW;go_simp;exact hK _ _ (Ext.refl _) rfl
       ·intro a W hW af hB hD K hK;have aQ:=kI af;clear af;obtain ⟨v83,e83,UT⟩:=aE (hD 18 _ 83 rfl rfl ax);obtain ⟨uf,x91,fp,x93,fq,rfl,xq,xr⟩:=UT;obtain ⟨v84,e84,h84⟩:=aE (hD 19 _ 84 rfl rfl ax);obtain rfl:=h84;go_simp;obtain ⟨c,hc⟩:=gN ((bR acc R.1).2);rw [← hc];by_cases hpe:c=0
        ·subst hpe;refine (bO _ _ _ _ _ _ _ W).mono ?_;rintro e w9 ⟨rfl,hx⟩;exact hK _ _ hx ⟨hc.symm,_,_,_,_,rfl,xq.ext hx,xr.ext hx⟩
        ·refine (bu _ _ _ _ _ _ _ _ rfl hpe W).mono ?_;rintro e w9 ⟨rfl,hx⟩;(try simp +zetaDelta only [Exit.then,Exit.inBlock]);exact aF aQ.o ⟨ew.bad hpe (ES.o _ hpe QR),KE.o _ (hW.trans hx)⟩
      intro w5 hx;simp only [cW,List.take_succ_cons,List.take_zero,List.drop_succ_cons,List.drop_zero];rintro u0 - u1 - u2 - u3 - u4 - u5 - u6 - u7 - u8 - u9 - u10 - u11 - u12 - u13 - u14 - u15 - u16 h16 RO - RP - UL - u20 h20;obtain ⟨hp1,-⟩:=h16;obtain ⟨hp2,r1,r2,r3,r4,rfl,S1,S2⟩:=h20;simp only [Act.put,List.setIfInBounds_toArray,List.set_cons_zero,List.set_cons_succ];have P1:=kI hp1;have P2:=kI hp2;have XQ:=kI hx;have hst:gg acc f x=bR acc R.1:=oQ Sy;obtain ⟨rr,hrr⟩:=gN ((bR acc R.1).1);rw [← hrr] at S1 S2 ⊢;have NX:Hid (dP s y2 (i2+1)=(rr,0)):=kI (by rw [Yk.o,hst,hrr];exact Prod.ext rfl P2.o);have RD5:Hid (bh w5 (.agg #[.bool rr.neg,.slice r1 rr.num.length r2,.slice r3 rr.den.length r4]) rr):=kI ⟨_,_,rfl,S1.rd,S2.rd⟩;have SM5:Hid (mZ w5 sb 25 acc):=kI (SI.o.ext hx);clear hp1 hp2 hx hst hrr S1 S2;have sk0:=(SK.o.ext XQ.o).cell;have sk1:=(SK.o.ext XQ.o).free;have sk2:=(SK.o.ext XQ.o).lt;go_wp2_with fail;clear sk0 sk1 sk2;obtain ⟨nJ,fE⟩:=gN (((w5.setCell ⟨sb,0,none⟩ (.bool rr.neg)).setCell ⟨sb,1,none⟩ (.slice r1 rr.num.length r2)).setCell ⟨sb,2,none⟩ (.slice r3 rr.den.length r4));have hsm:mZ nJ sb 25 rr:=by rw [fE];exact SM5.o.put RD5.o
      have lh:Ext w3 nJ:=by rw [fE];exact jz (o:=0) (XI.o.trans XQ.o) SBN.o
      rw [← fE];clear fE;go_roundw
      case rel=>exact ⟨i2+1,rr,JK.o,by rw [HT2.o];go_num,NX.o,hsm,lh⟩
      case measure=>first|(simp [intOf];done)|(simp [intOf];omega)
     ·have hje:i2=j:=by have:=MQ.o;omega
      subst hje;have q4:¬ (t:Int) < (n:Int):=Z
      have B1:Hid (dP s y2 (n - (s+1))=(acc,0)):=kI (by rw [PF.o];exact BI.o);clear ht;go_wp2_with fail;clear q4 l0 l2;obtain ⟨z1',z2',z3',z4',zl,ER,-,-,-,-⟩:=RK.o.eq.at hsn;obtain ⟨m1,m2,m3,m4,Kf,Kg,Kh,Ki⟩:=(RK.o.eq.row s hsn).at (j:=s) hsn;obtain ⟨d,hd⟩:=gN (y2.M s s);rw [← hd] at Kf Kg Kh Ki;have SC:Hid (L < wk.heap.size∧wk.cell? ⟨L,s*4,none⟩=some (.slice (some ⟨bs s,0,none⟩) n n)):=kI ⟨zl,ER⟩;have MC:Hid (bs s < wk.heap.size∧wk.cell? ⟨bs s,s*3,none⟩=some (.bool d.neg)∧wk.cell? ⟨bs s,s*3+1,none⟩=some (.slice m1 d.num.length m2)∧wk.cell? ⟨bs s,s*3+2,none⟩=some (.slice m3 d.den.length m4)∧bh wk (.agg #[.bool d.neg,.slice m1 d.num.length m2,.slice m3 d.den.length m4]) d):=kI ⟨(RK.o.eq.row s hsn).lt,Kf,Kg,Kh,Ki⟩;obtain ⟨s1,s2,s3,s4,PQ,PR⟩:=SI.o;have SK:=kI PQ;have SR:=kI PR;have hdl:aC d:=by rw [hd];exact RK.o.eq.xX s s
      have hal:aC acc:=by have:=pX (s:=s) RK.o.eq.Gs i2;rw [BI.o] at this;exact this
      have HD:=kI hd;have JG:=kI hdl;have Gh:=kI hal;have KE:Hid (∀ W,Ext wk W→gH (mD L V n bs) w W):=kI (fun W h=>K3.o.trans (gH.ext (XI.o.trans h)));obtain ⟨R,hR⟩:=gN (bJ acc d);have hrl:aC R.1:=by rw [hR];exact mC _ _
      have HR:=kI hR;have EF:=kI hrl;have ES:Hid (∀ c,c≠0→R.2=c→(bY n (i2+1) s y).2=c):=kI (fun c hc h=>Dk F1.o HP2.o B1.o (by rw [← HD.o,← HR.o];exact h) hc);clear zl ER Kf Kg Kh Ki PQ PR hd hdl hal hR hrl;have X:=kI (Ext.refl wk);refine aI 15 (Do L V n cap s (bs s) acc d R B) ax ax ax (fun _ _ _ _ h x=>AF h x) ?_ ?_
      ·refine ⟨?_,?_,?_,?_,?_,?_,?_,?_,?_,?_,?_,?_,?_,?_,?_,trivial⟩
       ·intro a W hW af hB hD K hK;have aQ:=kI af;clear af;have b3:=hB 3 rfl;simp only [sB] at b3;have q9:=(RK.o.vb.ext hW).cell;have l9:=(RK.o.vb.ext hW).lt;go_simp;exact hK _ _ (Ext.refl _) rfl
       ·intro a W hW af hB hD K hK;have aQ:=kI af;clear af;have b0:=hB 0 rfl;simp only [sB] at b0;go_simp;exact hK _ _ (Ext.refl _) rfl
       ·intro a W hW af hB hD K hK;have aQ:=kI af;clear af;have b6:=hB 6 rfl;simp only [sB] at b6;have q9:=(SK.o.ext hW).cell;have l9:=(SK.o.ext hW).lt;go_simp;exact hK _ _ (Ext.refl _) ⟨_,_,_,_,rfl,SR.o.ext hW⟩
       ·intro a W hW af hB hD K hK;have aQ:=kI af;clear af;have b1:=hB 1 rfl;simp only [sB] at b1;have q9:=(RK.o.lb.ext hW).cell;have l9:=(RK.o.lb.ext hW).lt;go_simp;exact hK _ _ (Ext.refl _) rfl
       ·intro a W hW af hB hD K hK;have aQ:=kI af;clear af;have b0:=hB 0 rfl;simp only [sB] at b0;go_simp;exact hK _ _ (Ext.refl _) rfl
       ·intro a W hW af hB hD K hK;have aQ:=kI af;clear af;obtain ⟨v89,e89,h89⟩:=aE (hD 3 _ 89 rfl rfl ax);obtain rfl:=h89;obtain ⟨v90,e90,h90⟩:=aE (hD 4 _ 90 rfl rfl ax);obtain rfl:=h90;go_simp;exact hK _ _ (Ext.refl _) rfl
       ·intro a W hW af hB hD K hK;have aQ:=kI af;clear af;obtain ⟨v91,e91,h91⟩:=aE (hD 5 _ 91 rfl rfl ax);obtain rfl:=h91;go_simp;exact hK _ _ (Ext.refl _) rfl
       ·intro a W hW af hB hD K hK;have aQ:=kI af;clear af;obtain ⟨RT,e92,h92⟩:=aE (hD 6 _ 92 rfl rfl ax);obtain rfl:=h92;have m0:=(hW.cell (p:=⟨L,s*4,none⟩) SC.o.1).trans SC.o.2;have ml:=Nat.lt_of_lt_of_le SC.o.1 hW.size;go_simp;exact hK _ _ (Ext.refl _) rfl
       ·intro a W hW af hB hD K hK;have aQ:=kI af;clear af;have b0:=hB 0 rfl;simp only [sB] at b0;go_simp;exact hK _ _ (Ext.refl _) rfl
       ·intro a W hW af hB hD K hK;have aQ:=kI af;clear af;obtain ⟨v93,e93,h93⟩:=aE (hD 7 _ 93 rfl rfl ax);obtain rfl:=h93;obtain ⟨v94,e94,h94⟩:=aE (hD 8 _ 94 rfl rfl ax);obtain rfl:=h94;go_simp;exact hK _ _ (Ext.refl _) rfl
       ·intro a W hW af hB hD K hK;have aQ:=kI af;clear af;obtain ⟨v95,e95,h95⟩:=aE (hD 9 _ 95 rfl rfl ax);obtain rfl:=h95;have m0:=(hW.cell (p:=⟨bs s,s*3,none⟩) MC.o.1).trans MC.o.2.1;have m1:=(hW.cell (p:=⟨bs s,s*3+1,none⟩) MC.o.1).trans MC.o.2.2.1;have m2:=(hW.cell (p:=⟨bs s,s*3+2,none⟩) MC.o.1).trans MC.o.2.2.2.1;have ml:=Nat.lt_of_lt_of_le MC.o.1 hW.size;go_simp;exact hK _ _ (Ext.refl _) ⟨_,_,_,_,rfl,MC.o.2.2.2.2.ext hW⟩
       ·intro a W hW af hB hD K hK;have aQ:=kI af;clear af;obtain ⟨v88,e88,h88⟩:=aE (hD 2 _ 88 rfl rfl ax);obtain ⟨x91,fp,x93,fq,rfl,qT⟩:=h88;obtain ⟨v96,e96,h96⟩:=aE (hD 10 _ 96 rfl rfl ax);obtain ⟨y91,Gp,y93,Gq,rfl,qU⟩:=h96;go_simp;have hmu:=pw _ _ acc d W qT qU Gh.o JG.o;rw [← HR.o] at hmu;refine hmu.mono ?_;rintro e w9 ⟨⟨v,rfl,nn⟩,hx⟩;obtain ⟨t1,t2,t3,t4,rfl⟩:=nn.shape;obtain ⟨hs1,hs2⟩:=nn.sf (B:=B) (Nat.le_trans RK.o.size hW.size);exact hK _ _ hx ⟨_,_,_,_,rfl,hs1,hs2⟩
       ·intro a W hW af hB hD K hK;have aQ:=kI af;clear af;obtain ⟨v97,e97,h97⟩:=aE (hD 11 _ 97 rfl rfl ax);obtain ⟨x91,fp,x93,fq,rfl,xq,xr⟩:=h97;go_simp;exact hK _ _ (Ext.refl _) ⟨_,_,_,_,rfl,xq,xr⟩
       ·intro a W hW af hB hD K hK;have aQ:=kI af;clear af;obtain ⟨v97,e97,h97⟩:=aE (hD 11 _ 97 rfl rfl ax);obtain ⟨x91,fp,x93,fq,rfl,xq,xr⟩:=h97;go_simp;exact hK _ _ (Ext.refl _) rfl
       ·intro a W hW af hB hD K hK;have aQ:=kI af;clear af;obtain ⟨v98,e98,h98⟩:=aE (hD 12 _ 98 rfl rfl ax);obtain ⟨x91,fp,x93,fq,rfl,xq,xr⟩:=h98;obtain ⟨v99,e99,uf⟩:=aE (hD 13 _ 99 rfl rfl ax);obtain rfl:=uf;go_simp;obtain ⟨c,hc⟩:=gN (R.2);rw [← hc];by_cases hpe:c=0
        ·subst hpe;refine (bO _ _ _ _ _ _ _ W).mono ?_;rintro e w9 ⟨rfl,hx⟩;exact hK _ _ hx ⟨hc.symm,_,_,_,_,rfl,xq.ext hx,xr.ext hx⟩
        ·refine (bu _ _ _ _ _ _ _ _ rfl hpe W).mono ?_;rintro e w9 ⟨rfl,hx⟩;(try simp +zetaDelta only [Exit.then,Exit.inBlock]);exact aF aQ.o ⟨ew.bad hpe (ES.o _ hpe hc.symm),KE.o _ (hW.trans hx)⟩
      intro w5 hx;simp only [cW,List.take_succ_cons,List.take_zero,List.drop_succ_cons,List.drop_zero];rintro u0 h0 u1 h1 u2 - u3 - u4 - u5 - u6 - u7 - u8 - u9 - u10 - u11 - u12 - u13 - u14 EP;obtain rfl:=h0;obtain rfl:=h1;obtain ⟨hp2,r1,r2,r3,r4,rfl,S1,S2⟩:=EP;simp only [Act.put,List.setIfInBounds_toArray,List.set_cons_zero,List.set_cons_succ];have P2:=kI hp2;have XQ:=kI hx;replace S1:=kI S1;replace S2:=kI S2;obtain ⟨rr,re⟩:=R;have RQ:=kI (RK.o.ext hx);have KQ:=kI (KE.o _ hx);have UU:Hid (aC rr):=EF;have DV:Hid (bJ acc (y2.M s s)=(rr,0)):=kI (by rw [← HD.o,← HR.o];exact Prod.ext rfl P2.o);clear hp2 hx;obtain ⟨g1,g2,g3,g4,PJ,PM,PP,-⟩:=RQ.o.va.at (j:=s) hsn;have f0:=RQ.o.va.free;have fl:=RQ.o.va.lt;go_wp2_with fail;clear PJ PM PP f0 fl;obtain ⟨nJ,fE⟩:=gN (((w5.setCell ⟨V,s*3,none⟩ (.bool rr.neg)).setCell ⟨V,s*3+1,none⟩ (.slice r1 rr.num.length r2)).setCell ⟨V,s*3+2,none⟩ (.slice r3 rr.den.length r4));have Dq:kA nJ B Lb Rb Vb L V n cap bs ⟨y2.M,y2.S,cN y2.V s rr⟩:=by rw [fE];exact RQ.o.Ka RN.o UU.o S1.o S2.o
      have hkk:gH (mD L V n bs) w nJ:=by rw [fE];exact (((KQ.o.set (Or.inr (Or.inl rfl)) _ _).set (Or.inr (Or.inl rfl)) _ _).set (Or.inr (Or.inl rfl)) _ _)
      have E9:=J8 (k:=i2) F1.o HP2.o B1.o DV.o;rw [← fE];clear fE;have E8:(bY n (i2+1) s y).2=0:=by rw [E9]
      have E7:(bY n (i2+1) s y).1=⟨y2.M,y2.S,cN y2.V s rr⟩:=by rw [E9]
      go_end0
      exact ⟨ew.ok E8 (by rw [E7];exact Dq),hkk⟩
end Go.Proofs.YtnnjbaijcaiohaaGreat
