/- Walks and lemmas. -/
import Derived.Test.YtnnjbaijcaiohaaSyA19
set_option linter.unusedVariables false
set_option linter.unusedSimpArgs false
set_option maxRecDepth 100000
set_option maxHeartbeats 16000000
namespace Go.Proofs.Ytnnjbaijcaiohaa
open Go.RowKit
theorem elim1_eq (n s t:Nat) (y:Sys):elim1 n s t y=if (divR (y.M t s) (y.M s s)).2≠0 then (y,(divR (y.M t s) (y.M s s)).2)
  else if elE n (y.M t) (divR (y.M t s) (y.M s s)).1 (y.M s) (y.S t) (y.S s)≠0 then (y,elE n (y.M t) (divR (y.M t s) (y.M s s)).1 (y.M s) (y.S t) (y.S s))
  else (⟨updF y.M t (subK (y.M t) (divR (y.M t s) (y.M s s)).1 (y.M s) n),updF y.S t (stp (y.S t) (divR (y.M t s) (y.M s s)).1 (y.S s)).1,y.V⟩,0):=by
 unfold elim1 elE;by_cases h1:(divR (y.M t s) (y.M s s)).2=0
 ·by_cases h2:subE (y.M t) (divR (y.M t s) (y.M s s)).1 (y.M s) n=0
  ·simp [h1,h2]
  ·simp [h1,h2]
 ·simp [h1]
theorem fwdK_bad {n s:Nat} {y:Sys} {j:Nat} {c:Int} (h:(fwdK n s y j).2=c) (hc:c≠0):∀ {k:Nat},j≤k→(fwdK n s y k).2=c
 | 0,hk=>by obtain rfl:j=0:=(by omega);exact h
 | k+1,hk=>by
  by_cases e:j=k+1
  ·subst e;exact h
  ·have:=fwdK_bad h hc (k:=k) (by omega);unfold fwdK;rw [if_pos (by rw [this];exact hc)];exact this
theorem fwdK_step {n s:Nat} {y:Sys} {j:Nat} (h:(fwdK n s y j).2=0):fwdK n s y (j+1)=elim1 n s (s+1+j) (fwdK n s y j).1:=by
 show (if (fwdK n s y j).2≠0 then fwdK n s y j else elim1 n s (s+1+j) (fwdK n s y j).1)=_;rw [if_neg (fun k=>k h)]
theorem bakK_bad {s:Nat} {y:Sys} {j:Nat} {c:Int} (h:(bakK s y j).2=c) (hc:c≠0):∀ {k:Nat},j≤k→(bakK s y k).2=c
 | 0,hk=>by obtain rfl:j=0:=(by omega);exact h
 | k+1,hk=>by
  by_cases e:j=k+1
  ·subst e;exact h
  ·have:=bakK_bad h hc (k:=k) (by omega);unfold bakK;rw [if_pos (by rw [this];exact hc)];exact this
theorem bakK_step {s:Nat} {y:Sys} {j:Nat} (h:(bakK s y j).2=0):bakK s y (j+1)=stp (bakK s y j).1 (y.M s (s+1+j)) (y.V (s+1+j)):=by
 show (if (bakK s y j).2≠0 then bakK s y j else _)=_;rw [if_neg (fun k=>k h)]
theorem divR_lim (a b:RR):LimR (divR a b).1:=by
 unfold divR;by_cases h:b.num=[]
 ·rw [if_pos h];unfold opR;split
  ·exact zR_lim
  ·exact zR_lim
 ·rw [if_neg h];exact opR_lim a b _
theorem bakK_lim {s:Nat} {y:Sys} (h:∀ s,LimR (y.S s)):∀ j,LimR (bakK s y j).1
 | 0=>h s
 | j+1=>by
  unfold bakK;split
  ·exact bakK_lim h j
  ·exact stp_lim _ _ _
theorem red_bad1 {n k s:Nat} {y:Sys} {c:Int} (h:(fwdK n s y (n - (s+1))).2=c) (hc:c≠0):(redS n (k+1) s y).2=c:=by
 unfold redS;rw [if_pos (by rw [h];exact hc)];exact h
theorem red_bad2 {n k s:Nat} {y y1:Sys} {c:Int} (h1:fwdK n s y (n - (s+1))=(y1,0)) (h:(redS n k (s+1) y1).2=c) (hc:c≠0):(redS n (k+1) s y).2=c:=by
 unfold redS;rw [h1,if_neg (fun h=>h rfl),if_pos (by rw [h];exact hc)];exact h
theorem red_bad3 {n k s:Nat} {y y1 y2:Sys} {c:Int} (h1:fwdK n s y (n - (s+1))=(y1,0)) (h2:redS n k (s+1) y1=(y2,0)) (h:(bakK s y2 (n - (s+1))).2=c) (hc:c≠0):(redS n (k+1) s y).2=c:=by
 unfold redS;rw [h1,if_neg (fun h=>h rfl),h2,if_neg (fun h=>h rfl),if_pos (by rw [h];exact hc)];exact h
theorem red_bad4 {n k s:Nat} {y y1 y2:Sys} {a:RR} {c:Int} (h1:fwdK n s y (n - (s+1))=(y1,0)) (h2:redS n k (s+1) y1=(y2,0)) (h3:bakK s y2 (n - (s+1))=(a,0)) (h:(divR a (y2.M s s)).2=c) (hc:c≠0):(redS n (k+1) s y).2=c:=by
 unfold redS;rw [h1,if_neg (fun h=>h rfl),h2,if_neg (fun h=>h rfl),h3,if_neg (fun h=>h rfl),if_pos (by rw [h];exact hc)];exact h
theorem red_ok {n k s:Nat} {y y1 y2:Sys} {a d:RR} (h1:fwdK n s y (n - (s+1))=(y1,0)) (h2:redS n k (s+1) y1=(y2,0)) (h3:bakK s y2 (n - (s+1))=(a,0)) (h:divR a (y2.M s s)=(d,0)):redS n (k+1) s y=(⟨y2.M,y2.S,updF y2.V s d⟩,0):=by
 unfold redS;rw [h1,if_neg (fun h=>h rfl),h2,if_neg (fun h=>h rfl),h3,if_neg (fun h=>h rfl),h,if_neg (fun h=>h rfl)]
theorem SfW.kpx {X:Nat→Prop} {B:Nat} {W W':World} {v:Value} {l:List Int} (h:SfW B W v l) (k:KpX X W W') (hk:∀ (p:Nat) (c:Array Value),Blk W p c 102→Blk W' p c 102):SfW B W' v l:=by
 obtain ⟨⟨a,cap,rfl,h1,h2,h3⟩,h4⟩:=h;refine ⟨⟨a,cap,rfl,h1,h2,fun i hi=>?_⟩,h4.imp id fun ⟨g,c,cur,e,hb,hs,hB⟩=>⟨g,c,cur,e,hk g cur hb,hs,hB⟩⟩;obtain ⟨b,off,e1,e2,e3,e4⟩:=h3 i hi;rcases e4 with e4|⟨cur,e4⟩
 ·omega
 ·have hb:=hk b cur e4;refine ⟨b,off,e1,hb.lt,?_,.inr ⟨cur,hb⟩⟩;rw [← e3,hb.cell,e4.cell]
structure RedI (W:World) (B Lb Rb Vb L V n cap:Nat) (bs:Nat→Nat) (y:Sys):Prop where
 lb:Blk W Lb #[.slice (some ⟨L,0,none⟩) n cap] 89
 rb:Blk W Rb #[.func (.func 46) #[] #[.pointer (some ⟨Lb,0,none⟩),.pointer (some ⟨Rb,0,none⟩),.pointer (some ⟨Vb,0,none⟩)]] 93
 vb:Blk W Vb #[.slice (some ⟨V,0,none⟩) n n] 32
 eq:EqB W B L n n bs y.M y.S
 va:FrN W B V n y.V
 limV:∀ i,LimR (y.V i)
 ne:∀ s,s < n→V≠bs s
 base:B≤V
 cap:n≤cap∧cap≤9223372036854775807
 size:B≤W.heap.size
def RedX (L V n:Nat) (bs:Nat→Nat) (i:Nat):Prop:=i=L∨i=V∨∃ s,s < n∧i=bs s
theorem RedI.ext {W W':World} {B Lb Rb Vb L V n cap:Nat} {bs:Nat→Nat} {y:Sys} (h:RedI W B Lb Rb Vb L V n cap bs y) (x:Ext W W'):RedI W' B Lb Rb Vb L V n cap bs y:=
 ⟨h.lb.ext x,h.rb.ext x,h.vb.ext x,h.eq.ext x,h.va.ext x,h.limV,h.ne,h.base,h.cap,Nat.le_trans h.size x.size⟩
theorem RedI.noX {W:World} {B Lb Rb Vb L V n cap:Nat} {bs:Nat→Nat} {y:Sys} (h:RedI W B Lb Rb Vb L V n cap bs y):¬ RedX L V n bs Lb∧¬ RedX L V n bs Rb∧¬ RedX L V n bs Vb:=by
 obtain ⟨⟨cur,hL,_⟩,hrow,_⟩:=h.eq;obtain ⟨vc,hV,_⟩:=h.va;have hh:∀ (p:Nat) (c:Array Value) (t:TypeId),Blk W p c t→t≠92→t≠25→¬ RedX L V n bs p:=fun p c t hp h1 h2 hx=>by
  rcases hx with e|e|⟨s,hs,e⟩
  ·exact hp.ne hL h1 e
  ·exact hp.ne hV h2 e
  ·obtain ⟨rc,hR,_⟩:=hrow s hs;exact hp.ne hR h2 e
 exact ⟨hh _ _ _ h.lb (by decide) (by decide),hh _ _ _ h.rb (by decide) (by decide),hh _ _ _ h.vb (by decide) (by decide)⟩
theorem RedI.elim {W W':World} {B Lb Rb Vb L V n cap:Nat} {bs:Nat→Nat} {y:Sys} (h:RedI W B Lb Rb Vb L V n cap bs y) {t:Nat} (ht:t < n) {M:Nat→Nat→RR} {S:Nat→RR} (he:EqB W' B L n n bs M S) (k:KpX (fun i=>i=L∨i=bs t) W W'):RedI W' B Lb Rb Vb L V n cap bs ⟨M,S,y.V⟩:=by
 obtain ⟨n1,n2,n3⟩:=h.noX;have hsub:∀ i,(i=L∨i=bs t)→RedX L V n bs i:=fun i hi=>hi.elim .inl (fun e=>.inr (.inr ⟨t,ht,e⟩));have k2:=k.mono hsub;refine ⟨k2.blk h.lb n1,k2.blk h.rb n2,k2.blk h.vb n3,he,?_,h.limV,h.ne,h.base,h.cap,Nat.le_trans h.size k.zero.size⟩;obtain ⟨cur,h1,h2,h3⟩:=h.va;obtain ⟨⟨lc,hL,_⟩,hrow,hle,_⟩:=h.eq;have hVL:V≠L:=h1.ne hL (by decide);have hk:∀ (p:Nat) (c:Array Value),Blk W p c 102→Blk W' p c 102:=fun p c hp=>k2.blk hp (fun hx=>by
  rcases hx with e|e|⟨s,hs,e⟩
  ·exact hp.ne hL (by decide) e
  ·exact hp.ne h1 (by decide) e
  ·obtain ⟨rc,hR,_⟩:=hrow s hs;exact hp.ne hR (by decide) e)
 refine ⟨cur,k.blk h1 (fun e=>e.elim hVL (h.ne t ht)),h2,fun j hj=>?_⟩;obtain ⟨a1,c1,a2,c2,e1,e2,e3,e4,e5⟩:=h3 j hj;exact ⟨a1,c1,a2,c2,e1,e2,e3,e4.kpx k hk,e5.kpx k hk⟩
theorem RedI.valSet {W:World} {B Lb Rb Vb L V n cap:Nat} {bs:Nat→Nat} {y:Sys} (h:RedI W B Lb Rb Vb L V n cap bs y) {s:Nat} (hs:s < n) {r:RR} (hr:LimR r) {a1:Option Addr} {c1:Nat} {a2:Option Addr} {c2:Nat} (s1:SfW B W (.slice a1 r.num.length c1) r.num) (s2:SfW B W (.slice a2 r.den.length c2) r.den) :
  RedI (((W.setCell ⟨V,s*3,none⟩ (.bool r.neg)).setCell ⟨V,s*3+1,none⟩ (.slice a1 r.num.length c1)).setCell ⟨V,s*3+2,none⟩ (.slice a2 r.den.length c2)) B Lb Rb Vb L V n cap bs ⟨y.M,y.S,updF y.V s r⟩:=by
 obtain ⟨cur,hV,-,-⟩:=h.va;have hko:KpO V W (((W.setCell ⟨V,s*3,none⟩ (.bool r.neg)).setCell ⟨V,s*3+1,none⟩ (.slice a1 r.num.length c1)).setCell ⟨V,s*3+2,none⟩ (.slice a2 r.den.length c2)):=(((KpO.ext (Ext.refl _)).set _ _).set _ _).set _ _;have hk:=hko.keepsB hV h.base;refine ⟨h.lb.keeps hk (by decide),h.rb.keeps hk (by decide),h.vb.keeps hk (by decide),?_,(h.va.set hs s1 s2).congr (fun i hi=>rfl),fun i=>?_,h.ne,h.base,h.cap,Nat.le_trans h.size hko.zero.size⟩
 ·obtain ⟨⟨lc,h1,h2,h3⟩,h4,h5,h6,h7,h8,h9⟩:=h.eq;exact ⟨⟨lc,h1.keeps hk (by decide),h2,fun t ht=>by obtain ⟨g0,a1,c1,a2,c2,g1,g2,g3,g4,g5⟩:=h3 t ht;exact ⟨g0,a1,c1,a2,c2,g1,g2,g3,g4.keeps hk (by decide),g5.keeps hk (by decide)⟩⟩,fun t ht=>(h4 t ht).kpo hko (Ne.symm (h.ne t ht)) hV,h5,h6,h7,h8,h9⟩
 ·by_cases e:i=s
  ·subst e;show LimR (updF y.V i r i);rw [updF_same];exact hr
  ·show LimR (updF y.V s r i);rw [updF_ne e];exact h.limV i
def cd4J (L n cap t s bt bs:Nat) (a d z:RR) (r:RR × Int) (j:Nat) (v:Value) (W:World):Prop:=
 match j with
 | 0=>v=.slice (some ⟨L,0,none⟩) n cap
 | 1=>v=.int .i64 (t:Nat)
 | 2=>v=.pointer (some ⟨L,t*4,none⟩)
 | 3=>v=.slice (some ⟨L,0,none⟩) n cap
 | 4=>v=.int .i64 (t:Nat)
 | 5=>v=.pointer (some ⟨L,t*4,none⟩)
 | 6=>v=.pointer (some ⟨L,t*4,none⟩)
 | 7=>v=.slice (some ⟨bt,0,none⟩) n n
 | 8=>v=.int .i64 (s:Nat)
 | 9=>v=.pointer (some ⟨bt,s*3,none⟩)
 | 10=>∃ s1 s2 s3 s4,v=.agg #[.bool a.neg,.slice s1 a.num.length s2,.slice s3 a.den.length s4]∧RdR W (.agg #[.bool a.neg,.slice s1 a.num.length s2,.slice s3 a.den.length s4]) a
 | 11=>v=.slice (some ⟨L,0,none⟩) n cap
 | 12=>v=.int .i64 (s:Nat)
 | 13=>v=.pointer (some ⟨L,s*4,none⟩)
 | 14=>v=.pointer (some ⟨L,s*4,none⟩)
 | 15=>v=.slice (some ⟨bs,0,none⟩) n n
 | 16=>v=.int .i64 (s:Nat)
 | 17=>v=.pointer (some ⟨bs,s*3,none⟩)
 | 18=>∃ s1 s2 s3 s4,v=.agg #[.bool d.neg,.slice s1 d.num.length s2,.slice s3 d.den.length s4]∧RdR W (.agg #[.bool d.neg,.slice s1 d.num.length s2,.slice s3 d.den.length s4]) d
 | 19=>∃ s1 s2 s3 s4,v=.tuple #[.agg #[.bool r.1.neg,.slice s1 r.1.num.length s2,.slice s3 r.1.den.length s4],.int .i64 r.2]∧RdR W (.agg #[.bool r.1.neg,.slice s1 r.1.num.length s2,.slice s3 r.1.den.length s4]) r.1
 | 20=>∃ s1 s2 s3 s4,v=.agg #[.bool r.1.neg,.slice s1 r.1.num.length s2,.slice s3 r.1.den.length s4]∧RdR W (.agg #[.bool r.1.neg,.slice s1 r.1.num.length s2,.slice s3 r.1.den.length s4]) r.1
 | 21=>v=.int .i64 r.2
 | 22=>r.2=0∧∃ s1 s2 s3 s4,v=.agg #[.bool r.1.neg,.slice s1 r.1.num.length s2,.slice s3 r.1.den.length s4]∧RdR W (.agg #[.bool r.1.neg,.slice s1 r.1.num.length s2,.slice s3 r.1.den.length s4]) r.1
 | 23=>v=.slice (some ⟨L,0,none⟩) n cap
 | 24=>v=.int .i64 (s:Nat)
 | 25=>v=.pointer (some ⟨L,s*4,none⟩)
 | 26=>∃ s1 s2 s3 s4,v=.agg #[.slice (some ⟨bs,0,none⟩) n n,.bool z.neg,.slice s1 z.num.length s2,.slice s3 z.den.length s4]∧RdR W (.agg #[.bool z.neg,.slice s1 z.num.length s2,.slice s3 z.den.length s4]) z
 | _=>True
theorem cd4J_ext {L n cap t s bt bs:Nat} {a d z:RR} {r:RR × Int} {j:Nat} {v:Value} {W W':World} (h:cd4J L n cap t s bt bs a d z r j v W) (xx:Ext W W'):cd4J L n cap t s bt bs a d z r j v W':=by
 match j,h with
 | 0,h=>exact h
 | 1,h=>exact h
 | 2,h=>exact h
 | 3,h=>exact h
 | 4,h=>exact h
 | 5,h=>exact h
 | 6,h=>exact h
 | 7,h=>exact h
 | 8,h=>exact h
 | 9,h=>exact h
 | 10,⟨s1,s2,s3,s4,h1,h2⟩=>exact ⟨s1,s2,s3,s4,h1,h2.ext xx⟩
 | 11,h=>exact h
 | 12,h=>exact h
 | 13,h=>exact h
 | 14,h=>exact h
 | 15,h=>exact h
 | 16,h=>exact h
 | 17,h=>exact h
 | 18,⟨s1,s2,s3,s4,h1,h2⟩=>exact ⟨s1,s2,s3,s4,h1,h2.ext xx⟩
 | 19,⟨s1,s2,s3,s4,h0,h1⟩=>exact ⟨s1,s2,s3,s4,h0,h1.ext xx⟩
 | 20,⟨s1,s2,s3,s4,h0,h1⟩=>exact ⟨s1,s2,s3,s4,h0,h1.ext xx⟩
 | 21,h=>exact h
 | 22,⟨h9,s1,s2,s3,s4,h0,h1⟩=>exact ⟨h9,s1,s2,s3,s4,h0,h1.ext xx⟩
 | 23,h=>exact h
 | 24,h=>exact h
 | 25,h=>exact h
 | 26,⟨s1,s2,s3,s4,h1,h2⟩=>exact ⟨s1,s2,s3,s4,h1,h2.ext xx⟩
 | _+27,_=>trivial
def cd10J (L V n cap t s bs:Nat) (x f y:RR) (r q:RR × Int) (B:Nat) (j:Nat) (v:Value) (W:World):Prop:=
 match j with
 | 0=>∃ s1 s2 s3 s4,v=.agg #[.bool x.neg,.slice s1 x.num.length s2,.slice s3 x.den.length s4]∧RdR W (.agg #[.bool x.neg,.slice s1 x.num.length s2,.slice s3 x.den.length s4]) x
 | 1=>v=.slice (some ⟨L,0,none⟩) n cap
 | 2=>v=.int .i64 (s:Nat)
 | 3=>v=.pointer (some ⟨L,s*4,none⟩)
 | 4=>v=.pointer (some ⟨L,s*4,none⟩)
 | 5=>v=.slice (some ⟨bs,0,none⟩) n n
 | 6=>v=.int .i64 (t:Nat)
 | 7=>v=.pointer (some ⟨bs,t*3,none⟩)
 | 8=>∃ s1 s2 s3 s4,v=.agg #[.bool f.neg,.slice s1 f.num.length s2,.slice s3 f.den.length s4]∧RdR W (.agg #[.bool f.neg,.slice s1 f.num.length s2,.slice s3 f.den.length s4]) f
 | 9=>v=.slice (some ⟨V,0,none⟩) n n
 | 10=>v=.int .i64 (t:Nat)
 | 11=>v=.pointer (some ⟨V,t*3,none⟩)
 | 12=>∃ s1 s2 s3 s4,v=.agg #[.bool y.neg,.slice s1 y.num.length s2,.slice s3 y.den.length s4]∧RdR W (.agg #[.bool y.neg,.slice s1 y.num.length s2,.slice s3 y.den.length s4]) y
 | 13=>∃ s1 s2 s3 s4,v=.tuple #[.agg #[.bool r.1.neg,.slice s1 r.1.num.length s2,.slice s3 r.1.den.length s4],.int .i64 r.2]∧RdR W (.agg #[.bool r.1.neg,.slice s1 r.1.num.length s2,.slice s3 r.1.den.length s4]) r.1
 | 14=>∃ s1 s2 s3 s4,v=.agg #[.bool r.1.neg,.slice s1 r.1.num.length s2,.slice s3 r.1.den.length s4]∧RdR W (.agg #[.bool r.1.neg,.slice s1 r.1.num.length s2,.slice s3 r.1.den.length s4]) r.1
 | 15=>v=.int .i64 r.2
 | 16=>r.2=0∧∃ s1 s2 s3 s4,v=.agg #[.bool r.1.neg,.slice s1 r.1.num.length s2,.slice s3 r.1.den.length s4]∧RdR W (.agg #[.bool r.1.neg,.slice s1 r.1.num.length s2,.slice s3 r.1.den.length s4]) r.1
 | 17=>r.2=0∧∃ s1 s2 s3 s4,v=.tuple #[.agg #[.bool q.1.neg,.slice s1 q.1.num.length s2,.slice s3 q.1.den.length s4],.int .i64 q.2]∧SfW B W (.slice s1 q.1.num.length s2) q.1.num∧SfW B W (.slice s3 q.1.den.length s4) q.1.den
 | 18=>r.2=0∧∃ s1 s2 s3 s4,v=.agg #[.bool q.1.neg,.slice s1 q.1.num.length s2,.slice s3 q.1.den.length s4]∧SfW B W (.slice s1 q.1.num.length s2) q.1.num∧SfW B W (.slice s3 q.1.den.length s4) q.1.den
 | 19=>v=.int .i64 q.2
 | 20=>q.2=0∧∃ s1 s2 s3 s4,v=.agg #[.bool q.1.neg,.slice s1 q.1.num.length s2,.slice s3 q.1.den.length s4]∧SfW B W (.slice s1 q.1.num.length s2) q.1.num∧SfW B W (.slice s3 q.1.den.length s4) q.1.den
 | _=>True
theorem cd10J_ext {L V n cap t s bs:Nat} {x f y:RR} {r q:RR × Int} {B:Nat} {j:Nat} {v:Value} {W W':World} (h:cd10J L V n cap t s bs x f y r q B j v W) (xx:Ext W W'):cd10J L V n cap t s bs x f y r q B j v W':=by
 match j,h with
 | 0,⟨s1,s2,s3,s4,h1,h2⟩=>exact ⟨s1,s2,s3,s4,h1,h2.ext xx⟩
 | 1,h=>exact h
 | 2,h=>exact h
 | 3,h=>exact h
 | 4,h=>exact h
 | 5,h=>exact h
 | 6,h=>exact h
 | 7,h=>exact h
 | 8,⟨s1,s2,s3,s4,h1,h2⟩=>exact ⟨s1,s2,s3,s4,h1,h2.ext xx⟩
 | 9,h=>exact h
 | 10,h=>exact h
 | 11,h=>exact h
 | 12,⟨s1,s2,s3,s4,h1,h2⟩=>exact ⟨s1,s2,s3,s4,h1,h2.ext xx⟩
 | 13,⟨s1,s2,s3,s4,h0,h1⟩=>exact ⟨s1,s2,s3,s4,h0,h1.ext xx⟩
 | 14,⟨s1,s2,s3,s4,h0,h1⟩=>exact ⟨s1,s2,s3,s4,h0,h1.ext xx⟩
 | 15,h=>exact h
 | 16,⟨h9,s1,s2,s3,s4,h0,h1⟩=>exact ⟨h9,s1,s2,s3,s4,h0,h1.ext xx⟩
 | 17,⟨h9,s1,s2,s3,s4,h0,h1,h2⟩=>exact ⟨h9,s1,s2,s3,s4,h0,h1.ext xx,h2.ext xx⟩
 | 18,⟨h9,s1,s2,s3,s4,h0,h1,h2⟩=>exact ⟨h9,s1,s2,s3,s4,h0,h1.ext xx,h2.ext xx⟩
 | 19,h=>exact h
 | 20,⟨h9,s1,s2,s3,s4,h0,h1,h2⟩=>exact ⟨h9,s1,s2,s3,s4,h0,h1.ext xx,h2.ext xx⟩
 | _+21,_=>trivial
def cd11J (L V n cap s bs:Nat) (x d:RR) (r:RR × Int) (B:Nat) (j:Nat) (v:Value) (W:World):Prop:=
 match j with
 | 0=>v=.slice (some ⟨V,0,none⟩) n n
 | 1=>v=.int .i64 (s:Nat)
 | 2=>∃ s1 s2 s3 s4,v=.agg #[.bool x.neg,.slice s1 x.num.length s2,.slice s3 x.den.length s4]∧RdR W (.agg #[.bool x.neg,.slice s1 x.num.length s2,.slice s3 x.den.length s4]) x
 | 3=>v=.slice (some ⟨L,0,none⟩) n cap
 | 4=>v=.int .i64 (s:Nat)
 | 5=>v=.pointer (some ⟨L,s*4,none⟩)
 | 6=>v=.pointer (some ⟨L,s*4,none⟩)
 | 7=>v=.slice (some ⟨bs,0,none⟩) n n
 | 8=>v=.int .i64 (s:Nat)
 | 9=>v=.pointer (some ⟨bs,s*3,none⟩)
 | 10=>∃ s1 s2 s3 s4,v=.agg #[.bool d.neg,.slice s1 d.num.length s2,.slice s3 d.den.length s4]∧RdR W (.agg #[.bool d.neg,.slice s1 d.num.length s2,.slice s3 d.den.length s4]) d
 | 11=>∃ s1 s2 s3 s4,v=.tuple #[.agg #[.bool r.1.neg,.slice s1 r.1.num.length s2,.slice s3 r.1.den.length s4],.int .i64 r.2]∧SfW B W (.slice s1 r.1.num.length s2) r.1.num∧SfW B W (.slice s3 r.1.den.length s4) r.1.den
 | 12=>∃ s1 s2 s3 s4,v=.agg #[.bool r.1.neg,.slice s1 r.1.num.length s2,.slice s3 r.1.den.length s4]∧SfW B W (.slice s1 r.1.num.length s2) r.1.num∧SfW B W (.slice s3 r.1.den.length s4) r.1.den
 | 13=>v=.int .i64 r.2
 | 14=>r.2=0∧∃ s1 s2 s3 s4,v=.agg #[.bool r.1.neg,.slice s1 r.1.num.length s2,.slice s3 r.1.den.length s4]∧SfW B W (.slice s1 r.1.num.length s2) r.1.num∧SfW B W (.slice s3 r.1.den.length s4) r.1.den
 | _=>True
theorem cd11J_ext {L V n cap s bs:Nat} {x d:RR} {r:RR × Int} {B:Nat} {j:Nat} {v:Value} {W W':World} (h:cd11J L V n cap s bs x d r B j v W) (xx:Ext W W'):cd11J L V n cap s bs x d r B j v W':=by
 match j,h with
 | 0,h=>exact h
 | 1,h=>exact h
 | 2,⟨s1,s2,s3,s4,h1,h2⟩=>exact ⟨s1,s2,s3,s4,h1,h2.ext xx⟩
 | 3,h=>exact h
 | 4,h=>exact h
 | 5,h=>exact h
 | 6,h=>exact h
 | 7,h=>exact h
 | 8,h=>exact h
 | 9,h=>exact h
 | 10,⟨s1,s2,s3,s4,h1,h2⟩=>exact ⟨s1,s2,s3,s4,h1,h2.ext xx⟩
 | 11,⟨s1,s2,s3,s4,h0,h1,h2⟩=>exact ⟨s1,s2,s3,s4,h0,h1.ext xx,h2.ext xx⟩
 | 12,⟨s1,s2,s3,s4,h0,h1,h2⟩=>exact ⟨s1,s2,s3,s4,h0,h1.ext xx,h2.ext xx⟩
 | 13,h=>exact h
 | 14,⟨h9,s1,s2,s3,s4,h0,h1,h2⟩=>exact ⟨h9,s1,s2,s3,s4,h0,h1.ext xx,h2.ext xx⟩
 | _+15,_=>trivial
theorem cred_any (B Lb Rb Vb L V n cap:Nat) (bs:Nat→Nat) (hn:n≤200):∀ (k s:Nat) (y:Sys) (w:World),s+k=n→RedI w B Lb Rb Vb L V n cap bs y→
  Calls Try.prog 46 #[.int .i64 (s:Nat),.pointer (some ⟨Lb,0,none⟩),.pointer (some ⟨Rb,0,none⟩),.pointer (some ⟨Vb,0,none⟩)] w fun e w'=>EndU e (redS n k s y).2 (RedI w' B Lb Rb Vb L V n cap bs (redS n k s y).1)∧KpX (RedX L V n bs) w w':=by
 intro k;induction k with
 | zero=>
  intro s y w hs h;have HI:=kI h;have l0:=h.lb.cell;have l2:=h.lb.lt;have q1:((s:Int) == (n:Int))=true:=by simp;omega
  have q2:(s:Int)=(n:Int):=by omega
  clear h;go_enter Try.func46,Try.ntmps46
  go_wp2_with fail;(try simp only [Exit.inBlock,Exit.then]);refine bodyPost_ret (results_none rfl _ _ _) rfl ?_;exact ⟨EndU.ok rfl HI.o,KpX.ext (Ext.refl _)⟩
 | succ k ih=>
  intro s y w hs h;have IH:=kI ih;have HI:=kI h;have HSN:Hid (s < n):=kI (by omega);have HSK:=kI hs;clear ih h;have l0:=HI.o.lb.cell;have l2:=HI.o.lb.lt;have q1:((s:Int) == (n:Int))=false:=by simp;omega
  have q2:¬ (s:Int)=(n:Int):=by omega
  have q3:(s:Int) < 200:=by omega
  go_enter Try.func46,Try.ntmps46
  go_wp2_with fail;clear l0 l2 q1 q2;have hK0:n - (s+1)=k:=by omega
  have HK0:=kI hK0;clear hK0;go_loopw [5] (fun i wr=>∃ (j:Nat) (y1:Sys),j≤k∧i=.int .i64 ((s+1+j:Nat):Int)∧fwdK n s y j=(y1,0)∧RedI wr B Lb Rb Vb L V n cap bs y1∧KpX (RedX L V n bs) w wr) (fun i _=>n - (intOf i).toNat)
  case atStart=>exact ⟨0,y,Nat.zero_le _,by simp,rfl,HI.o,KpX.ext (Ext.refl _)⟩
  case round=>
   obtain ⟨wi,hwi⟩:=gN (wr);subst hwi;obtain ⟨j,y1,hj,rfl,hf,hr,hkp⟩:=hrel;have RI:=kI hr;have FI:=kI hf;have KI:=kI hkp;obtain ⟨t,ht⟩:=gN (s+1+j);rw [← ht];have HT:=kI ht;have l0:=RI.o.lb.cell;have l2:=RI.o.lb.lt;clear hr hf hkp;by_cases hlt:t < n
   ·have HLT:=kI hlt;have hsn:=HSN.o;have q4:(t:Int) < (n:Int):=by omega
    have q5:(0:Int)≤(t:Int):=by omega
    have q6:(0:Int)≤(s:Int):=by omega
    have q7:(s:Int) < (n:Int):=by omega
    have hts:s≠t:=by omega
    clear ht;go_wp2_with fail;obtain ⟨x1,x2,x3,x4,xl,xc0,xc1,xc2,xc3,-⟩:=RI.o.eq.at hlt;obtain ⟨z1,z2,z3,z4,zl,zc0,zc1,zc2,zc3,zrd⟩:=RI.o.eq.at hsn;obtain ⟨a1,a2,a3,a4,a00,a01,a02,ard⟩:=(RI.o.eq.row t hlt).at (j:=s) hsn;obtain ⟨d1,d2,d3,d4,d00,d01,d02,drd⟩:=(RI.o.eq.row s hsn).at (j:=s) hsn;obtain ⟨a,ha⟩:=gN (y1.M t s);obtain ⟨d,hd⟩:=gN (y1.M s s);obtain ⟨zz,hz⟩:=gN (y1.S s);rw [← ha] at a00 a01 a02 ard;rw [← hd] at d00 d01 d02 drd;rw [← hz] at zc1 zc2 zc3 zrd;have TC:Hid (L < wi.heap.size∧wi.cell? ⟨L,t*4,none⟩=some (.slice (some ⟨bs t,0,none⟩) n n)):=kI ⟨xl,xc0⟩;have SC:Hid (wi.cell? ⟨L,s*4,none⟩=some (.slice (some ⟨bs s,0,none⟩) n n)∧wi.cell? ⟨L,s*4+1,none⟩=some (.bool zz.neg)∧wi.cell? ⟨L,s*4+2,none⟩=some (.slice z1 zz.num.length z2)∧wi.cell? ⟨L,s*4+3,none⟩=some (.slice z3 zz.den.length z4)∧RdR wi (.agg #[.bool zz.neg,.slice z1 zz.num.length z2,.slice z3 zz.den.length z4]) zz):=kI ⟨zc0,zc1,zc2,zc3,zrd⟩;have AC:Hid (bs t < wi.heap.size∧wi.cell? ⟨bs t,s*3,none⟩=some (.bool a.neg)∧wi.cell? ⟨bs t,s*3+1,none⟩=some (.slice a1 a.num.length a2)∧wi.cell? ⟨bs t,s*3+2,none⟩=some (.slice a3 a.den.length a4)∧RdR wi (.agg #[.bool a.neg,.slice a1 a.num.length a2,.slice a3 a.den.length a4]) a):=kI ⟨(RI.o.eq.row t hlt).lt,a00,a01,a02,ard⟩;have DC:Hid (bs s < wi.heap.size∧wi.cell? ⟨bs s,s*3,none⟩=some (.bool d.neg)∧wi.cell? ⟨bs s,s*3+1,none⟩=some (.slice d1 d.num.length d2)∧wi.cell? ⟨bs s,s*3+2,none⟩=some (.slice d3 d.den.length d4)∧RdR wi (.agg #[.bool d.neg,.slice d1 d.num.length d2,.slice d3 d.den.length d4]) d):=kI ⟨(RI.o.eq.row s hsn).lt,d00,d01,d02,drd⟩;have hal:LimR a:=by rw [ha];exact RI.o.eq.limM t s
    have hdl:LimR d:=by rw [hd];exact RI.o.eq.limM s s
    have HA:=kI ha;have HD:=kI hd;have HZ:=kI hz;have HAL:=kI hal;have HDL:=kI hdl;obtain ⟨R,hR⟩:=gN (divR a d);have hrl:LimR R.1:=by rw [hR];exact divR_lim _ _
    have HR:=kI hR;have HRL:=kI hrl;have JK:Hid (j+1≤n - (s+1)):=kI (by rw [HK0.o];have:=HT.o;have:=HLT.o;have:=HSK.o;omega);have PAN:Hid (∀ c,c≠0→(elim1 n s t y1).2=c→(redS n (k+1) s y).2=c):=kI (fun c hc h=>red_bad1 (fwdK_bad (j:=j+1) (by rw [fwdK_step (by rw [FI.o]),FI.o,← HT.o];exact h) hc JK.o) hc);clear xl xc0 xc1 xc2 xc3 zl zc0 zc1 zc2 zc3 zrd a00 a01 a02 ard d00 d01 d02 drd ha hd hz hal hdl hR hrl l0 l2;have X:=kI (Ext.refl wi);refine wp_region_eachP_tail 27 (cd4J L n cap t s (bs t) (bs s) a d zz R) (by kernel_rfl) (by kernel_rfl) (by kernel_rfl) (fun _ _ _ _ h x=>cd4J_ext h x) ?_ ?_
    ·refine ⟨?_,?_,?_,?_,?_,?_,?_,?_,?_,?_,?_,?_,?_,?_,?_,?_,?_,?_,?_,?_,?_,?_,?_,?_,?_,?_,?_,trivial⟩
     ·intro a W hW hdf0 hB hD K hK;have HDF:=kI hdf0;clear hdf0;have b1:=hB 1 rfl;simp only [sB] at b1;have q9:=(RI.o.lb.ext hW).cell;have l9:=(RI.o.lb.ext hW).lt;go_simp;exact hK _ _ (Ext.refl _) rfl
     ·intro a W hW hdf0 hB hD K hK;have HDF:=kI hdf0;clear hdf0;have b5:=hB 5 rfl;simp only [sB] at b5;go_simp;exact hK _ _ (Ext.refl _) rfl
     ·intro a W hW hdf0 hB hD K hK;have HDF:=kI hdf0;clear hdf0;obtain ⟨v20,e20,h20⟩:=dpE (hD 0 _ 20 rfl rfl (by kernel_rfl));obtain rfl:=h20;obtain ⟨v21,e21,h21⟩:=dpE (hD 1 _ 21 rfl rfl (by kernel_rfl));obtain rfl:=h21;go_simp;exact hK _ _ (Ext.refl _) rfl
     ·intro a W hW hdf0 hB hD K hK;have HDF:=kI hdf0;clear hdf0;have b1:=hB 1 rfl;simp only [sB] at b1;have q9:=(RI.o.lb.ext hW).cell;have l9:=(RI.o.lb.ext hW).lt;go_simp;exact hK _ _ (Ext.refl _) rfl
     ·intro a W hW hdf0 hB hD K hK;have HDF:=kI hdf0;clear hdf0;have b5:=hB 5 rfl;simp only [sB] at b5;go_simp;exact hK _ _ (Ext.refl _) rfl
     ·intro a W hW hdf0 hB hD K hK;have HDF:=kI hdf0;clear hdf0;obtain ⟨v23,e23,h23⟩:=dpE (hD 3 _ 23 rfl rfl (by kernel_rfl));obtain rfl:=h23;obtain ⟨v24,e24,h24⟩:=dpE (hD 4 _ 24 rfl rfl (by kernel_rfl));obtain rfl:=h24;go_simp;exact hK _ _ (Ext.refl _) rfl
     ·intro a W hW hdf0 hB hD K hK;have HDF:=kI hdf0;clear hdf0;obtain ⟨v25,e25,h25⟩:=dpE (hD 5 _ 25 rfl rfl (by kernel_rfl));obtain rfl:=h25;go_simp;exact hK _ _ (Ext.refl _) rfl
     ·intro a W hW hdf0 hB hD K hK;have HDF:=kI hdf0;clear hdf0;obtain ⟨v26,e26,h26⟩:=dpE (hD 6 _ 26 rfl rfl (by kernel_rfl));obtain rfl:=h26;have m0:=(hW.cell (p:=⟨L,t*4,none⟩) TC.o.1).trans TC.o.2;have ml:=Nat.lt_of_lt_of_le TC.o.1 hW.size;go_simp;exact hK _ _ (Ext.refl _) rfl
     ·intro a W hW hdf0 hB hD K hK;have HDF:=kI hdf0;clear hdf0;have b0:=hB 0 rfl;simp only [sB] at b0;go_simp;exact hK _ _ (Ext.refl _) rfl
     ·intro a W hW hdf0 hB hD K hK;have HDF:=kI hdf0;clear hdf0;obtain ⟨v27,e27,h27⟩:=dpE (hD 7 _ 27 rfl rfl (by kernel_rfl));obtain rfl:=h27;obtain ⟨v28,e28,h28⟩:=dpE (hD 8 _ 28 rfl rfl (by kernel_rfl));obtain rfl:=h28;go_simp;exact hK _ _ (Ext.refl _) rfl
     ·intro a W hW hdf0 hB hD K hK;have HDF:=kI hdf0;clear hdf0;obtain ⟨v29,e29,h29⟩:=dpE (hD 9 _ 29 rfl rfl (by kernel_rfl));obtain rfl:=h29;have m0:=(hW.cell (p:=⟨bs t,s*3,none⟩) AC.o.1).trans AC.o.2.1;have m1:=(hW.cell (p:=⟨bs t,s*3+1,none⟩) AC.o.1).trans AC.o.2.2.1;have m2:=(hW.cell (p:=⟨bs t,s*3+2,none⟩) AC.o.1).trans AC.o.2.2.2.1;have ml:=Nat.lt_of_lt_of_le AC.o.1 hW.size;go_simp;exact hK _ _ (Ext.refl _) ⟨_,_,_,_,rfl,AC.o.2.2.2.2.ext hW⟩
     ·intro a W hW hdf0 hB hD K hK;have HDF:=kI hdf0;clear hdf0;have b1:=hB 1 rfl;simp only [sB] at b1;have q9:=(RI.o.lb.ext hW).cell;have l9:=(RI.o.lb.ext hW).lt;go_simp;exact hK _ _ (Ext.refl _) rfl
     ·intro a W hW hdf0 hB hD K hK;have HDF:=kI hdf0;clear hdf0;have b0:=hB 0 rfl;simp only [sB] at b0;go_simp;exact hK _ _ (Ext.refl _) rfl
     ·intro a W hW hdf0 hB hD K hK;have HDF:=kI hdf0;clear hdf0;obtain ⟨v31,e31,h31⟩:=dpE (hD 11 _ 31 rfl rfl (by kernel_rfl));obtain rfl:=h31;obtain ⟨v32,e32,h32⟩:=dpE (hD 12 _ 32 rfl rfl (by kernel_rfl));obtain rfl:=h32;go_simp;exact hK _ _ (Ext.refl _) rfl
     ·intro a W hW hdf0 hB hD K hK;have HDF:=kI hdf0;clear hdf0;obtain ⟨v33,e33,h33⟩:=dpE (hD 13 _ 33 rfl rfl (by kernel_rfl));obtain rfl:=h33;go_simp;exact hK _ _ (Ext.refl _) rfl
     ·intro a W hW hdf0 hB hD K hK;have HDF:=kI hdf0;clear hdf0;obtain ⟨v34,e34,h34⟩:=dpE (hD 14 _ 34 rfl rfl (by kernel_rfl));obtain rfl:=h34;have m0:=(hW.cell (p:=⟨L,s*4,none⟩) TC.o.1).trans SC.o.1;have ml:=Nat.lt_of_lt_of_le TC.o.1 hW.size;go_simp;exact hK _ _ (Ext.refl _) rfl
     ·intro a W hW hdf0 hB hD K hK;have HDF:=kI hdf0;clear hdf0;have b0:=hB 0 rfl;simp only [sB] at b0;go_simp;exact hK _ _ (Ext.refl _) rfl
     ·intro a W hW hdf0 hB hD K hK;have HDF:=kI hdf0;clear hdf0;obtain ⟨v35,e35,h35⟩:=dpE (hD 15 _ 35 rfl rfl (by kernel_rfl));obtain rfl:=h35;obtain ⟨v36,e36,h36⟩:=dpE (hD 16 _ 36 rfl rfl (by kernel_rfl));obtain rfl:=h36;go_simp;exact hK _ _ (Ext.refl _) rfl
     ·intro a W hW hdf0 hB hD K hK;have HDF:=kI hdf0;clear hdf0;obtain ⟨v37,e37,h37⟩:=dpE (hD 17 _ 37 rfl rfl (by kernel_rfl));obtain rfl:=h37;have m0:=(hW.cell (p:=⟨bs s,s*3,none⟩) DC.o.1).trans DC.o.2.1;have m1:=(hW.cell (p:=⟨bs s,s*3+1,none⟩) DC.o.1).trans DC.o.2.2.1;have m2:=(hW.cell (p:=⟨bs s,s*3+2,none⟩) DC.o.1).trans DC.o.2.2.2.1;have ml:=Nat.lt_of_lt_of_le DC.o.1 hW.size;go_simp;exact hK _ _ (Ext.refl _) ⟨_,_,_,_,rfl,DC.o.2.2.2.2.ext hW⟩
     ·intro a W hW hdf0 hB hD K hK;have HDF:=kI hdf0;clear hdf0;obtain ⟨v30,e30,h30⟩:=dpE (hD 10 _ 30 rfl rfl (by kernel_rfl));obtain ⟨x91,x92,x93,x94,rfl,x9h⟩:=h30;obtain ⟨v38,e38,h38⟩:=dpE (hD 18 _ 38 rfl rfl (by kernel_rfl));obtain ⟨y91,y92,y93,y94,rfl,y9h⟩:=h38;go_simp;have hmu:=divR_any _ _ _ _ W x9h y9h HAL.o HDL.o;rw [← HR.o] at hmu;refine hmu.mono ?_;rintro e w9 ⟨⟨v,rfl,nn⟩,hx⟩;obtain ⟨t1,t2,t3,t4,rfl⟩:=nn.shape;exact hK _ _ hx ⟨_,_,_,_,rfl,nn.rd⟩
     ·intro a W hW hdf0 hB hD K hK;have HDF:=kI hdf0;clear hdf0;obtain ⟨v39,e39,h39⟩:=dpE (hD 19 _ 39 rfl rfl (by kernel_rfl));obtain ⟨x91,x92,x93,x94,rfl,xq⟩:=h39;go_simp;exact hK _ _ (Ext.refl _) ⟨_,_,_,_,rfl,xq⟩
     ·intro a W hW hdf0 hB hD K hK;have HDF:=kI hdf0;clear hdf0;obtain ⟨v39,e39,h39⟩:=dpE (hD 19 _ 39 rfl rfl (by kernel_rfl));obtain ⟨x91,x92,x93,x94,rfl,xq⟩:=h39;go_simp;exact hK _ _ (Ext.refl _) rfl
     ·intro a W hW hdf0 hB hD K hK;have HDF:=kI hdf0;clear hdf0;obtain ⟨v40,e40,h40⟩:=dpE (hD 20 _ 40 rfl rfl (by kernel_rfl));obtain ⟨x91,x92,x93,x94,rfl,xq⟩:=h40;obtain ⟨v41,e41,h41⟩:=dpE (hD 21 _ 41 rfl rfl (by kernel_rfl));obtain rfl:=h41;go_simp;by_cases hpe:R.2=0
      ·rw [hpe];refine (cmust_ok _ _ _ _ _ _ _ W).mono ?_;rintro e w9 ⟨rfl,hx⟩;exact hK _ _ hx ⟨hpe,_,_,_,_,rfl,xq.ext hx⟩
      ·refine (cmust_bad _ _ _ _ _ _ _ _ rfl hpe W).mono ?_;rintro e w9 ⟨rfl,hx⟩;(try simp +zetaDelta only [Exit.then,Exit.inBlock]);exact bodyPost_panic HDF.o ⟨EndU.bad hpe (PAN.o _ hpe (by rw [elim1_eq,← HA.o,← HD.o,← HR.o,if_pos hpe])),KI.o.trans (KpX.ext (hW.trans hx))⟩
     ·intro a W hW hdf0 hB hD K hK;have HDF:=kI hdf0;clear hdf0;have b1:=hB 1 rfl;simp only [sB] at b1;have q9:=(RI.o.lb.ext hW).cell;have l9:=(RI.o.lb.ext hW).lt;go_simp;exact hK _ _ (Ext.refl _) rfl
     ·intro a W hW hdf0 hB hD K hK;have HDF:=kI hdf0;clear hdf0;have b0:=hB 0 rfl;simp only [sB] at b0;go_simp;exact hK _ _ (Ext.refl _) rfl
     ·intro a W hW hdf0 hB hD K hK;have HDF:=kI hdf0;clear hdf0;obtain ⟨v43,e43,h43⟩:=dpE (hD 23 _ 43 rfl rfl (by kernel_rfl));obtain rfl:=h43;obtain ⟨v44,e44,h44⟩:=dpE (hD 24 _ 44 rfl rfl (by kernel_rfl));obtain rfl:=h44;go_simp;exact hK _ _ (Ext.refl _) rfl
     ·intro a W hW hdf0 hB hD K hK;have HDF:=kI hdf0;clear hdf0;obtain ⟨v45,e45,h45⟩:=dpE (hD 25 _ 45 rfl rfl (by kernel_rfl));obtain rfl:=h45;have m0:=(hW.cell (p:=⟨L,s*4,none⟩) TC.o.1).trans SC.o.1;have m1:=(hW.cell (p:=⟨L,s*4+1,none⟩) TC.o.1).trans SC.o.2.1;have m2:=(hW.cell (p:=⟨L,s*4+2,none⟩) TC.o.1).trans SC.o.2.2.1;have m3:=(hW.cell (p:=⟨L,s*4+3,none⟩) TC.o.1).trans SC.o.2.2.2.1;have ml:=Nat.lt_of_lt_of_le TC.o.1 hW.size;go_simp;exact hK _ _ (Ext.refl _) ⟨_,_,_,_,rfl,SC.o.2.2.2.2.ext hW⟩
    intro w5 hx;simp only [Vals,List.take_succ_cons,List.take_zero,List.drop_succ_cons,List.drop_zero];rintro u0 - u1 - u2 h2 u3 - u4 - u5 - u6 - u7 - u8 - u9 - u10 - u11 - u12 - u13 - u14 - u15 - u16 - u17 - u18 - u19 - u20 - u21 - u22 h22 u23 - u24 - u25 - u26 h26;obtain rfl:=h2;obtain ⟨hp1,v1,v2,v3,v4,rfl,HF⟩:=h22;obtain ⟨v5,v6,v7,v8,rfl,HZ5⟩:=h26;simp only [Act.put,List.setIfInBounds_toArray,List.set_cons_zero,List.set_cons_succ];have P1:=kI hp1;have HF5:=kI HF;have HY5:=kI HZ5;have X5:=kI hx;have R5:=kI (RI.o.ext hx);clear hp1 HF HZ5 hx;go_wp2_with fail;obtain ⟨ce,hce⟩:=gN (elE n (y1.M t) R.1 (y1.M s) (y1.S t) (y1.S s));have hel:=celim_any L t s n B n bs y1.M y1.S R.1 _ w5 R5.o.eq HLT.o HSN.o hts HF5.o HRL.o (by omega) R5.o.size v5 v6 v7 v8 (by rw [← HZ.o];exact HY5.o);rw [← HZ.o] at hel;refine hel.mono ?_;rintro e w6 ⟨he,hk⟩;rw [HZ.o,← hce] at he;have K6:Hid (KpX (RedX L V n bs) w w6):=kI ((KI.o.trans (KpX.ext X5.o)).trans (hk.mono (fun i hi=>hi.elim Or.inl (fun e=>Or.inr (Or.inr ⟨t,HLT.o,e⟩)))));have hst1:elim1 n s t y1=if ce≠0 then (y1,ce) else (⟨updF y1.M t (subK (y1.M t) R.1 (y1.M s) n),updF y1.S t (stp (y1.S t) R.1 (y1.S s)).1,y1.V⟩,0):=by
     rw [elim1_eq,← HA.o,← HD.o,← HR.o,if_neg (fun h=>h P1.o),← hce]
    have ST1:=kI hst1;clear hel hce hst1;by_cases hz:ce=0
    rotate_left
    ·obtain rfl:=he.getE hz;(try simp +zetaDelta only [Exit.then,Exit.inBlock]);exact bodyPost_panic rfl ⟨EndU.bad hz (PAN.o _ hz (by rw [ST1.o,if_pos hz])),K6.o⟩
    subst hz;obtain ⟨rfl,heq⟩:=he.get0;have R6:=kI (R5.o.elim HLT.o heq hk);have FN6:Hid (fwdK n s y (j+1)=(⟨updF y1.M t (subK (y1.M t) R.1 (y1.M s) n),updF y1.S t (stp (y1.S t) R.1 (y1.S s)).1,y1.V⟩,0)):=kI (by rw [fwdK_step (by rw [FI.o]),FI.o,← HT.o,ST1.o,if_neg (fun h=>h rfl)]);clear he heq hk;go_wp2_with fail;go_roundw
    case rel=>exact ⟨j+1,_,by have:=HT.o;have:=HLT.o;have:=HSK.o;omega,by rw [HT.o];go_num,FN6.o,R6.o,K6.o⟩
    case measure=>first|(simp [intOf];done)|(simp [intOf];omega)
   ·have hje:j=k:=by have:=HSK.o;omega
    subst hje;have q4:¬ (t:Int) < (n:Int):=by omega
    have F1:Hid (fwdK n s y (n - (s+1))=(y1,0)):=kI (by rw [HK0.o];exact FI.o);have rb0:=RI.o.rb.cell;have rb2:=RI.o.rb.lt;clear ht;go_wp2_with fail;clear rb0 rb2 q4 l0 l2;have hih:=IH.o (s+1) y1 wi (by have:=HSK.o;omega) RI.o;rw [show ((s+1:Nat):Int)=(s:Int)+1 from by omega] at hih;refine hih.mono ?_;clear hih;rintro e w3 ⟨he,hk⟩;obtain ⟨P2,hP2⟩:=gN (redS n j (s+1) y1);rw [← hP2] at he;obtain ⟨y2,c2⟩:=P2;dsimp only at he;have K3:Hid (KpX (RedX L V n bs) w w3):=kI (KI.o.trans hk);have HP2:=kI hP2.symm;clear hk hP2;by_cases hz:c2=0
    rotate_left
    ·obtain rfl:=he.getE hz;(try simp +zetaDelta only [Exit.then,Exit.inBlock]);exact bodyPost_panic rfl ⟨EndU.bad hz (red_bad2 F1.o (by rw [HP2.o]) hz),K3.o⟩
    subst hz;obtain ⟨rfl,hr3⟩:=he.get0;have R3:=kI hr3;clear he hr3;have hsn:=HSN.o;have q6:(0:Int)≤(s:Int):=by omega
    have q7:(s:Int) < (n:Int):=by omega
    obtain ⟨z1,z2,z3,z4,zl,zc0,zc1,zc2,zc3,zrd⟩:=R3.o.eq.at hsn;obtain ⟨zz,hzz⟩:=gN (y2.S s);rw [← hzz] at zc1 zc2 zc3 zrd;have HZZ:=kI hzz;have ZRD:=kI zrd;have l0:=R3.o.lb.cell;have l2:=R3.o.lb.lt;clear hzz zrd;go_wp2_with fail;clear l0 l2 zl zc0 zc1 zc2 zc3;have bs0:=Blk.new w3 #[.bool zz.neg,.slice z1 zz.num.length z2,.slice z3 zz.den.length z4] 25;have hx:Ext w3 (w3.alloc (.cells #[.bool zz.neg,.slice z1 zz.num.length z2,.slice z3 zz.den.length z4] 25)):=(Ext.refl _).alloc _;obtain ⟨sb,hsb⟩:=gN (w3.heap.size);obtain ⟨w4,hw4⟩:=gN (w3.alloc (.cells #[.bool zz.neg,.slice z1 zz.num.length z2,.slice z3 zz.den.length z4] 25));rw [← hsb,← hw4] at bs0;rw [← hw4] at hx;rw [← hsb,← hw4];have R4:=kI (R3.o.ext hx);have K4:Hid (KpX (RedX L V n bs) w w4):=kI (K3.o.trans (KpX.ext hx));have SM:Hid (SumB w4 sb 25 (y2.S s)):=kI (by rw [← HZZ.o];exact ⟨_,_,_,_,bs0,ZRD.o.ext hx⟩);have SBN:Hid (w3.heap.size≤sb):=kI (by rw [hsb];exact Nat.le_refl _);have X4:=kI hx;clear bs0 hx hsb hw4;go_loopw [7] (fun i wr=>∃ (i2:Nat) (acc:RR),i2≤j∧i=.int .i64 ((s+1+i2:Nat):Int)∧bakK s y2 i2=(acc,0)∧SumB wr sb 25 acc∧Ext w3 wr) (fun i _=>n - (intOf i).toNat)
    case atStart=>exact ⟨0,y2.S s,Nat.zero_le _,by simp,rfl,SM.o,X4.o⟩
    case round=>
     obtain ⟨wk,hwk⟩:=gN (wr);subst hwk;obtain ⟨i2,acc,hi2,rfl,hb,hsm,hxk⟩:=hrel;have SI:=kI hsm;have BI:=kI hb;have XI:=kI hxk;have RK:=kI (R3.o.ext hxk);obtain ⟨t,ht⟩:=gN (s+1+i2);rw [← ht];have HT2:=kI ht;have l0:=RK.o.lb.cell;have l2:=RK.o.lb.lt;clear hb hsm hxk;by_cases hlt:t < n
     ·have HLT:=kI hlt;have q4:(t:Int) < (n:Int):=by omega
      have q5:(0:Int)≤(t:Int):=by omega
      have q8:(t:Int) < 200:=by omega
      have JK:Hid (i2+1≤j):=kI (by have:=HK0.o;have:=HSK.o;omega);clear ht;go_wp2_with fail;obtain ⟨z1',z2',z3',z4',zl,zc0,-,-,-,-⟩:=RK.o.eq.at hsn;obtain ⟨m1,m2,m3,m4,m00,m01,m02,mrd⟩:=(RK.o.eq.row s hsn).at (j:=t) hlt;obtain ⟨v1,v2,v3,v4,v00,v01,v02,vrd⟩:=RK.o.va.at (j:=t) hlt;obtain ⟨f,hf⟩:=gN (y2.M s t);obtain ⟨x,hxx⟩:=gN (y2.V t);rw [← hf] at m00 m01 m02 mrd;rw [← hxx] at v00 v01 v02 vrd;have SC:Hid (L < wk.heap.size∧wk.cell? ⟨L,s*4,none⟩=some (.slice (some ⟨bs s,0,none⟩) n n)):=kI ⟨zl,zc0⟩;have MC:Hid (bs s < wk.heap.size∧wk.cell? ⟨bs s,t*3,none⟩=some (.bool f.neg)∧wk.cell? ⟨bs s,t*3+1,none⟩=some (.slice m1 f.num.length m2)∧wk.cell? ⟨bs s,t*3+2,none⟩=some (.slice m3 f.den.length m4)∧RdR wk (.agg #[.bool f.neg,.slice m1 f.num.length m2,.slice m3 f.den.length m4]) f):=kI ⟨(RK.o.eq.row s hsn).lt,m00,m01,m02,mrd⟩;have VC:Hid (V < wk.heap.size∧wk.cell? ⟨V,t*3,none⟩=some (.bool x.neg)∧wk.cell? ⟨V,t*3+1,none⟩=some (.slice v1 x.num.length v2)∧wk.cell? ⟨V,t*3+2,none⟩=some (.slice v3 x.den.length v4)∧RdR wk (.agg #[.bool x.neg,.slice v1 x.num.length v2,.slice v3 x.den.length v4]) x):=kI ⟨RK.o.va.lt,v00,v01,v02,vrd⟩;obtain ⟨s1,s2,s3,s4,SBk,SRd⟩:=SI.o;have SK:=kI SBk;have SR:=kI SRd;have hfl:LimR f:=by rw [hf];exact RK.o.eq.limM s t
      have hxl:LimR x:=by rw [hxx];exact RK.o.limV t
      have hal:LimR acc:=by have:=bakK_lim (s:=s) RK.o.eq.limS i2;rw [BI.o] at this;exact this
      have HFF:=kI hf;have HXX:=kI hxx;have HFL:=kI hfl;have HXL:=kI hxl;have HAL:=kI hal;obtain ⟨R,hR⟩:=gN (mulR f x);have hrl:LimR R.1:=by rw [hR];exact mulR_lim _ _
      have HR:=kI hR;have HRL:=kI hrl;have STP:Hid (bakK s y2 (i2+1)=stp acc f x):=kI (by rw [bakK_step (by rw [BI.o]),BI.o,← HT2.o,← HFF.o,← HXX.o]);have PAN:Hid (∀ c,c≠0→(stp acc f x).2=c→(redS n (j+1) s y).2=c):=kI (fun c hc h=>red_bad3 F1.o HP2.o (bakK_bad (j:=i2+1) (by rw [STP.o];exact h) hc (by rw [HK0.o];exact JK.o)) hc);have KE:Hid (∀ W,Ext wk W→KpX (RedX L V n bs) w W):=kI (fun W h=>K3.o.trans (KpX.ext (XI.o.trans h)));clear zl zc0 m00 m01 m02 mrd v00 v01 v02 vrd SBk SRd hf hxx hfl hxl hal hR hrl l0 l2;have X:=kI (Ext.refl wk);refine wp_region_eachP_tail 21 (cd10J L V n cap t s (bs s) acc f x R (subR acc R.1) B) (by kernel_rfl) (by kernel_rfl) (by kernel_rfl) (fun _ _ _ _ h x=>cd10J_ext h x) ?_ ?_
      ·refine ⟨?_,?_,?_,?_,?_,?_,?_,?_,?_,?_,?_,?_,?_,?_,?_,?_,?_,?_,?_,?_,?_,trivial⟩
       ·intro a W hW hdf0 hB hD K hK;have HDF:=kI hdf0;clear hdf0;have b6:=hB 6 rfl;simp only [sB] at b6;have q9:=(SK.o.ext hW).cell;have l9:=(SK.o.ext hW).lt;go_simp;exact hK _ _ (Ext.refl _) ⟨_,_,_,_,rfl,SR.o.ext hW⟩
       ·intro a W hW hdf0 hB hD K hK;have HDF:=kI hdf0;clear hdf0;have b1:=hB 1 rfl;simp only [sB] at b1;have q9:=(RK.o.lb.ext hW).cell;have l9:=(RK.o.lb.ext hW).lt;go_simp;exact hK _ _ (Ext.refl _) rfl
       ·intro a W hW hdf0 hB hD K hK;have HDF:=kI hdf0;clear hdf0;have b0:=hB 0 rfl;simp only [sB] at b0;go_simp;exact hK _ _ (Ext.refl _) rfl
       ·intro a W hW hdf0 hB hD K hK;have HDF:=kI hdf0;clear hdf0;obtain ⟨v66,e66,h66⟩:=dpE (hD 1 _ 66 rfl rfl (by kernel_rfl));obtain rfl:=h66;obtain ⟨v67,e67,h67⟩:=dpE (hD 2 _ 67 rfl rfl (by kernel_rfl));obtain rfl:=h67;go_simp;exact hK _ _ (Ext.refl _) rfl
       ·intro a W hW hdf0 hB hD K hK;have HDF:=kI hdf0;clear hdf0;obtain ⟨v68,e68,h68⟩:=dpE (hD 3 _ 68 rfl rfl (by kernel_rfl));obtain rfl:=h68;go_simp;exact hK _ _ (Ext.refl _) rfl
       ·intro a W hW hdf0 hB hD K hK;have HDF:=kI hdf0;clear hdf0;obtain ⟨v69,e69,h69⟩:=dpE (hD 4 _ 69 rfl rfl (by kernel_rfl));obtain rfl:=h69;have m0:=(hW.cell (p:=⟨L,s*4,none⟩) SC.o.1).trans SC.o.2;have ml:=Nat.lt_of_lt_of_le SC.o.1 hW.size;go_simp;exact hK _ _ (Ext.refl _) rfl
       ·intro a W hW hdf0 hB hD K hK;have HDF:=kI hdf0;clear hdf0;have b7:=hB 7 rfl;simp only [sB] at b7;go_simp;exact hK _ _ (Ext.refl _) rfl
       ·intro a W hW hdf0 hB hD K hK;have HDF:=kI hdf0;clear hdf0;obtain ⟨v70,e70,h70⟩:=dpE (hD 5 _ 70 rfl rfl (by kernel_rfl));obtain rfl:=h70;obtain ⟨v71,e71,h71⟩:=dpE (hD 6 _ 71 rfl rfl (by kernel_rfl));obtain rfl:=h71;go_simp;exact hK _ _ (Ext.refl _) rfl
       ·intro a W hW hdf0 hB hD K hK;have HDF:=kI hdf0;clear hdf0;obtain ⟨v72,e72,h72⟩:=dpE (hD 7 _ 72 rfl rfl (by kernel_rfl));obtain rfl:=h72;have m0:=(hW.cell (p:=⟨bs s,t*3,none⟩) MC.o.1).trans MC.o.2.1;have m1:=(hW.cell (p:=⟨bs s,t*3+1,none⟩) MC.o.1).trans MC.o.2.2.1;have m2:=(hW.cell (p:=⟨bs s,t*3+2,none⟩) MC.o.1).trans MC.o.2.2.2.1;have ml:=Nat.lt_of_lt_of_le MC.o.1 hW.size;go_simp;exact hK _ _ (Ext.refl _) ⟨_,_,_,_,rfl,MC.o.2.2.2.2.ext hW⟩
       ·intro a W hW hdf0 hB hD K hK;have HDF:=kI hdf0;clear hdf0;have b3:=hB 3 rfl;simp only [sB] at b3;have q9:=(RK.o.vb.ext hW).cell;have l9:=(RK.o.vb.ext hW).lt;go_simp;exact hK _ _ (Ext.refl _) rfl
       ·intro a W hW hdf0 hB hD K hK;have HDF:=kI hdf0;clear hdf0;have b7:=hB 7 rfl;simp only [sB] at b7;go_simp;exact hK _ _ (Ext.refl _) rfl
       ·intro a W hW hdf0 hB hD K hK;have HDF:=kI hdf0;clear hdf0;obtain ⟨v74,e74,h74⟩:=dpE (hD 9 _ 74 rfl rfl (by kernel_rfl));obtain rfl:=h74;obtain ⟨v75,e75,h75⟩:=dpE (hD 10 _ 75 rfl rfl (by kernel_rfl));obtain rfl:=h75;go_simp;exact hK _ _ (Ext.refl _) rfl
       ·intro a W hW hdf0 hB hD K hK;have HDF:=kI hdf0;clear hdf0;obtain ⟨v76,e76,h76⟩:=dpE (hD 11 _ 76 rfl rfl (by kernel_rfl));obtain rfl:=h76;have m0:=(hW.cell (p:=⟨V,t*3,none⟩) VC.o.1).trans VC.o.2.1;have m1:=(hW.cell (p:=⟨V,t*3+1,none⟩) VC.o.1).trans VC.o.2.2.1;have m2:=(hW.cell (p:=⟨V,t*3+2,none⟩) VC.o.1).trans VC.o.2.2.2.1;have ml:=Nat.lt_of_lt_of_le VC.o.1 hW.size;go_simp;exact hK _ _ (Ext.refl _) ⟨_,_,_,_,rfl,VC.o.2.2.2.2.ext hW⟩
       ·intro a W hW hdf0 hB hD K hK;have HDF:=kI hdf0;clear hdf0;obtain ⟨v73,e73,h73⟩:=dpE (hD 8 _ 73 rfl rfl (by kernel_rfl));obtain ⟨x91,x92,x93,x94,rfl,x9h⟩:=h73;obtain ⟨v77,e77,h77⟩:=dpE (hD 12 _ 77 rfl rfl (by kernel_rfl));obtain ⟨y91,y92,y93,y94,rfl,y9h⟩:=h77;go_simp;have hmu:=mulR_any _ _ f x W x9h y9h HFL.o HXL.o;rw [← HR.o] at hmu;refine hmu.mono ?_;rintro e w9 ⟨⟨v,rfl,nn⟩,hx⟩;obtain ⟨t1,t2,t3,t4,rfl⟩:=nn.shape;exact hK _ _ hx ⟨_,_,_,_,rfl,nn.rd⟩
       ·intro a W hW hdf0 hB hD K hK;have HDF:=kI hdf0;clear hdf0;obtain ⟨v78,e78,h78⟩:=dpE (hD 13 _ 78 rfl rfl (by kernel_rfl));obtain ⟨x91,x92,x93,x94,rfl,xq⟩:=h78;go_simp;exact hK _ _ (Ext.refl _) ⟨_,_,_,_,rfl,xq⟩
       ·intro a W hW hdf0 hB hD K hK;have HDF:=kI hdf0;clear hdf0;obtain ⟨v78,e78,h78⟩:=dpE (hD 13 _ 78 rfl rfl (by kernel_rfl));obtain ⟨x91,x92,x93,x94,rfl,xq⟩:=h78;go_simp;exact hK _ _ (Ext.refl _) rfl
       ·intro a W hW hdf0 hB hD K hK;have HDF:=kI hdf0;clear hdf0;obtain ⟨v79,e79,h79⟩:=dpE (hD 14 _ 79 rfl rfl (by kernel_rfl));obtain ⟨x91,x92,x93,x94,rfl,xq⟩:=h79;obtain ⟨v80,e80,h80⟩:=dpE (hD 15 _ 80 rfl rfl (by kernel_rfl));obtain rfl:=h80;go_simp;by_cases hpe:R.2=0
        ·rw [hpe];refine (cmust_ok _ _ _ _ _ _ _ W).mono ?_;rintro e w9 ⟨rfl,hx⟩;exact hK _ _ hx ⟨hpe,_,_,_,_,rfl,xq.ext hx⟩
        ·refine (cmust_bad _ _ _ _ _ _ _ _ rfl hpe W).mono ?_;rintro e w9 ⟨rfl,hx⟩;(try simp +zetaDelta only [Exit.then,Exit.inBlock]);exact bodyPost_panic HDF.o ⟨EndU.bad hpe (PAN.o _ hpe (by rw [stp_bad (c:=R.2) (by rw [HR.o]) hpe])),KE.o _ (hW.trans hx)⟩
       ·intro a W hW hdf0 hB hD K hK;have HDF:=kI hdf0;clear hdf0;obtain ⟨v65,e65,h65⟩:=dpE (hD 0 _ 65 rfl rfl (by kernel_rfl));obtain ⟨x91,x92,x93,x94,rfl,x9h⟩:=h65;obtain ⟨v81,e81,h81⟩:=dpE (hD 16 _ 81 rfl rfl (by kernel_rfl));obtain ⟨hpe,y91,y92,y93,y94,rfl,y9h⟩:=h81;go_simp;refine (subR_any _ _ acc R.1 W x9h y9h HAL.o HRL.o).mono ?_;rintro e w9 ⟨⟨v,rfl,nn⟩,hx⟩;obtain ⟨t1,t2,t3,t4,rfl⟩:=nn.shape;obtain ⟨hs1,hs2⟩:=nn.sf (B:=B) (Nat.le_trans RK.o.size hW.size);exact hK _ _ hx ⟨hpe,_,_,_,_,rfl,hs1,hs2⟩
       ·intro a W hW hdf0 hB hD K hK;have HDF:=kI hdf0;clear hdf0;obtain ⟨v82,e82,h82⟩:=dpE (hD 17 _ 82 rfl rfl (by kernel_rfl));obtain ⟨h99,x91,x92,x93,x94,rfl,xq,xr⟩:=h82;go_simp;exact hK _ _ (Ext.refl _) ⟨h99,_,_,_,_,rfl,xq,xr⟩
       ·intro a W hW hdf0 hB hD K hK;have HDF:=kI hdf0;clear hdf0;obtain ⟨v82,e82,h82⟩:=dpE (hD 17 _ 82 rfl rfl (by kernel_rfl));obtain ⟨h99,x91,x92,x93,x94,rfl,xq,xr⟩:=h82;go_simp;exact hK _ _ (Ext.refl _) rfl
       ·intro a W hW hdf0 hB hD K hK;have HDF:=kI hdf0;clear hdf0;obtain ⟨v83,e83,h83⟩:=dpE (hD 18 _ 83 rfl rfl (by kernel_rfl));obtain ⟨h99,x91,x92,x93,x94,rfl,xq,xr⟩:=h83;obtain ⟨v84,e84,h84⟩:=dpE (hD 19 _ 84 rfl rfl (by kernel_rfl));obtain rfl:=h84;go_simp;obtain ⟨c,hc⟩:=gN ((subR acc R.1).2);rw [← hc];by_cases hpe:c=0
        ·subst hpe;refine (cmust_ok _ _ _ _ _ _ _ W).mono ?_;rintro e w9 ⟨rfl,hx⟩;exact hK _ _ hx ⟨hc.symm,_,_,_,_,rfl,xq.ext hx,xr.ext hx⟩
        ·refine (cmust_bad _ _ _ _ _ _ _ _ rfl hpe W).mono ?_;rintro e w9 ⟨rfl,hx⟩;(try simp +zetaDelta only [Exit.then,Exit.inBlock]);exact bodyPost_panic HDF.o ⟨EndU.bad hpe (PAN.o _ hpe (by rw [stp_ok (p:=R.1) (by rw [← HR.o];exact Prod.ext rfl h99)];exact hc.symm)),KE.o _ (hW.trans hx)⟩
      intro w5 hx;simp only [Vals,List.take_succ_cons,List.take_zero,List.drop_succ_cons,List.drop_zero];rintro u0 - u1 - u2 - u3 - u4 - u5 - u6 - u7 - u8 - u9 - u10 - u11 - u12 - u13 - u14 - u15 - u16 h16 u17 - u18 - u19 - u20 h20;obtain ⟨hp1,-⟩:=h16;obtain ⟨hp2,r1,r2,r3,r4,rfl,S1,S2⟩:=h20;simp only [Act.put,List.setIfInBounds_toArray,List.set_cons_zero,List.set_cons_succ];have P1:=kI hp1;have P2:=kI hp2;have XQ:=kI hx;have hst:stp acc f x=subR acc R.1:=stp_ok (by rw [← HR.o];exact Prod.ext rfl P1.o);obtain ⟨rr,hrr⟩:=gN ((subR acc R.1).1);rw [← hrr] at S1 S2 ⊢;have NX:Hid (bakK s y2 (i2+1)=(rr,0)):=kI (by rw [STP.o,hst,hrr];exact Prod.ext rfl P2.o);have RD5:Hid (RdR w5 (.agg #[.bool rr.neg,.slice r1 rr.num.length r2,.slice r3 rr.den.length r4]) rr):=kI ⟨_,_,rfl,S1.rd,S2.rd⟩;have SM5:Hid (SumB w5 sb 25 acc):=kI (SI.o.ext hx);clear hp1 hp2 hx hst hrr S1 S2;have sk0:=(SK.o.ext XQ.o).cell;have sk1:=(SK.o.ext XQ.o).free;have sk2:=(SK.o.ext XQ.o).lt;go_wp2_with fail;clear sk0 sk1 sk2;obtain ⟨w11,hw11⟩:=gN (((w5.setCell ⟨sb,0,none⟩ (.bool rr.neg)).setCell ⟨sb,1,none⟩ (.slice r1 rr.num.length r2)).setCell ⟨sb,2,none⟩ (.slice r3 rr.den.length r4));have hsm:SumB w11 sb 25 rr:=by rw [hw11];exact SM5.o.put RD5.o
      have hx9:Ext w3 w11:=by rw [hw11];exact ext_put3 (o:=0) (XI.o.trans XQ.o) SBN.o
      rw [← hw11];clear hw11;go_roundw
      case rel=>exact ⟨i2+1,rr,JK.o,by rw [HT2.o];go_num,NX.o,hsm,hx9⟩
      case measure=>first|(simp [intOf];done)|(simp [intOf];omega)
     ·have hje:i2=j:=by have:=HSK.o;omega
      subst hje;have q4:¬ (t:Int) < (n:Int):=by omega
      have B1:Hid (bakK s y2 (n - (s+1))=(acc,0)):=kI (by rw [HK0.o];exact BI.o);clear ht;go_wp2_with fail;clear q4 l0 l2;obtain ⟨z1',z2',z3',z4',zl,zc0,-,-,-,-⟩:=RK.o.eq.at hsn;obtain ⟨m1,m2,m3,m4,m00,m01,m02,mrd⟩:=(RK.o.eq.row s hsn).at (j:=s) hsn;obtain ⟨d,hd⟩:=gN (y2.M s s);rw [← hd] at m00 m01 m02 mrd;have SC:Hid (L < wk.heap.size∧wk.cell? ⟨L,s*4,none⟩=some (.slice (some ⟨bs s,0,none⟩) n n)):=kI ⟨zl,zc0⟩;have MC:Hid (bs s < wk.heap.size∧wk.cell? ⟨bs s,s*3,none⟩=some (.bool d.neg)∧wk.cell? ⟨bs s,s*3+1,none⟩=some (.slice m1 d.num.length m2)∧wk.cell? ⟨bs s,s*3+2,none⟩=some (.slice m3 d.den.length m4)∧RdR wk (.agg #[.bool d.neg,.slice m1 d.num.length m2,.slice m3 d.den.length m4]) d):=kI ⟨(RK.o.eq.row s hsn).lt,m00,m01,m02,mrd⟩;obtain ⟨s1,s2,s3,s4,SBk,SRd⟩:=SI.o;have SK:=kI SBk;have SR:=kI SRd;have hdl:LimR d:=by rw [hd];exact RK.o.eq.limM s s
      have hal:LimR acc:=by have:=bakK_lim (s:=s) RK.o.eq.limS i2;rw [BI.o] at this;exact this
      have HD:=kI hd;have HDL:=kI hdl;have HAL:=kI hal;have KE:Hid (∀ W,Ext wk W→KpX (RedX L V n bs) w W):=kI (fun W h=>K3.o.trans (KpX.ext (XI.o.trans h)));obtain ⟨R,hR⟩:=gN (divR acc d);have hrl:LimR R.1:=by rw [hR];exact divR_lim _ _
      have HR:=kI hR;have HRL:=kI hrl;have PAN:Hid (∀ c,c≠0→R.2=c→(redS n (i2+1) s y).2=c):=kI (fun c hc h=>red_bad4 F1.o HP2.o B1.o (by rw [← HD.o,← HR.o];exact h) hc);clear zl zc0 m00 m01 m02 mrd SBk SRd hd hdl hal hR hrl;have X:=kI (Ext.refl wk);refine wp_region_eachP_tail 15 (cd11J L V n cap s (bs s) acc d R B) (by kernel_rfl) (by kernel_rfl) (by kernel_rfl) (fun _ _ _ _ h x=>cd11J_ext h x) ?_ ?_
      ·refine ⟨?_,?_,?_,?_,?_,?_,?_,?_,?_,?_,?_,?_,?_,?_,?_,trivial⟩
       ·intro a W hW hdf0 hB hD K hK;have HDF:=kI hdf0;clear hdf0;have b3:=hB 3 rfl;simp only [sB] at b3;have q9:=(RK.o.vb.ext hW).cell;have l9:=(RK.o.vb.ext hW).lt;go_simp;exact hK _ _ (Ext.refl _) rfl
       ·intro a W hW hdf0 hB hD K hK;have HDF:=kI hdf0;clear hdf0;have b0:=hB 0 rfl;simp only [sB] at b0;go_simp;exact hK _ _ (Ext.refl _) rfl
       ·intro a W hW hdf0 hB hD K hK;have HDF:=kI hdf0;clear hdf0;have b6:=hB 6 rfl;simp only [sB] at b6;have q9:=(SK.o.ext hW).cell;have l9:=(SK.o.ext hW).lt;go_simp;exact hK _ _ (Ext.refl _) ⟨_,_,_,_,rfl,SR.o.ext hW⟩
       ·intro a W hW hdf0 hB hD K hK;have HDF:=kI hdf0;clear hdf0;have b1:=hB 1 rfl;simp only [sB] at b1;have q9:=(RK.o.lb.ext hW).cell;have l9:=(RK.o.lb.ext hW).lt;go_simp;exact hK _ _ (Ext.refl _) rfl
       ·intro a W hW hdf0 hB hD K hK;have HDF:=kI hdf0;clear hdf0;have b0:=hB 0 rfl;simp only [sB] at b0;go_simp;exact hK _ _ (Ext.refl _) rfl
       ·intro a W hW hdf0 hB hD K hK;have HDF:=kI hdf0;clear hdf0;obtain ⟨v89,e89,h89⟩:=dpE (hD 3 _ 89 rfl rfl (by kernel_rfl));obtain rfl:=h89;obtain ⟨v90,e90,h90⟩:=dpE (hD 4 _ 90 rfl rfl (by kernel_rfl));obtain rfl:=h90;go_simp;exact hK _ _ (Ext.refl _) rfl
       ·intro a W hW hdf0 hB hD K hK;have HDF:=kI hdf0;clear hdf0;obtain ⟨v91,e91,h91⟩:=dpE (hD 5 _ 91 rfl rfl (by kernel_rfl));obtain rfl:=h91;go_simp;exact hK _ _ (Ext.refl _) rfl
       ·intro a W hW hdf0 hB hD K hK;have HDF:=kI hdf0;clear hdf0;obtain ⟨v92,e92,h92⟩:=dpE (hD 6 _ 92 rfl rfl (by kernel_rfl));obtain rfl:=h92;have m0:=(hW.cell (p:=⟨L,s*4,none⟩) SC.o.1).trans SC.o.2;have ml:=Nat.lt_of_lt_of_le SC.o.1 hW.size;go_simp;exact hK _ _ (Ext.refl _) rfl
       ·intro a W hW hdf0 hB hD K hK;have HDF:=kI hdf0;clear hdf0;have b0:=hB 0 rfl;simp only [sB] at b0;go_simp;exact hK _ _ (Ext.refl _) rfl
       ·intro a W hW hdf0 hB hD K hK;have HDF:=kI hdf0;clear hdf0;obtain ⟨v93,e93,h93⟩:=dpE (hD 7 _ 93 rfl rfl (by kernel_rfl));obtain rfl:=h93;obtain ⟨v94,e94,h94⟩:=dpE (hD 8 _ 94 rfl rfl (by kernel_rfl));obtain rfl:=h94;go_simp;exact hK _ _ (Ext.refl _) rfl
       ·intro a W hW hdf0 hB hD K hK;have HDF:=kI hdf0;clear hdf0;obtain ⟨v95,e95,h95⟩:=dpE (hD 9 _ 95 rfl rfl (by kernel_rfl));obtain rfl:=h95;have m0:=(hW.cell (p:=⟨bs s,s*3,none⟩) MC.o.1).trans MC.o.2.1;have m1:=(hW.cell (p:=⟨bs s,s*3+1,none⟩) MC.o.1).trans MC.o.2.2.1;have m2:=(hW.cell (p:=⟨bs s,s*3+2,none⟩) MC.o.1).trans MC.o.2.2.2.1;have ml:=Nat.lt_of_lt_of_le MC.o.1 hW.size;go_simp;exact hK _ _ (Ext.refl _) ⟨_,_,_,_,rfl,MC.o.2.2.2.2.ext hW⟩
       ·intro a W hW hdf0 hB hD K hK;have HDF:=kI hdf0;clear hdf0;obtain ⟨v88,e88,h88⟩:=dpE (hD 2 _ 88 rfl rfl (by kernel_rfl));obtain ⟨x91,x92,x93,x94,rfl,x9h⟩:=h88;obtain ⟨v96,e96,h96⟩:=dpE (hD 10 _ 96 rfl rfl (by kernel_rfl));obtain ⟨y91,y92,y93,y94,rfl,y9h⟩:=h96;go_simp;have hmu:=divR_any _ _ acc d W x9h y9h HAL.o HDL.o;rw [← HR.o] at hmu;refine hmu.mono ?_;rintro e w9 ⟨⟨v,rfl,nn⟩,hx⟩;obtain ⟨t1,t2,t3,t4,rfl⟩:=nn.shape;obtain ⟨hs1,hs2⟩:=nn.sf (B:=B) (Nat.le_trans RK.o.size hW.size);exact hK _ _ hx ⟨_,_,_,_,rfl,hs1,hs2⟩
       ·intro a W hW hdf0 hB hD K hK;have HDF:=kI hdf0;clear hdf0;obtain ⟨v97,e97,h97⟩:=dpE (hD 11 _ 97 rfl rfl (by kernel_rfl));obtain ⟨x91,x92,x93,x94,rfl,xq,xr⟩:=h97;go_simp;exact hK _ _ (Ext.refl _) ⟨_,_,_,_,rfl,xq,xr⟩
       ·intro a W hW hdf0 hB hD K hK;have HDF:=kI hdf0;clear hdf0;obtain ⟨v97,e97,h97⟩:=dpE (hD 11 _ 97 rfl rfl (by kernel_rfl));obtain ⟨x91,x92,x93,x94,rfl,xq,xr⟩:=h97;go_simp;exact hK _ _ (Ext.refl _) rfl
       ·intro a W hW hdf0 hB hD K hK;have HDF:=kI hdf0;clear hdf0;obtain ⟨v98,e98,h98⟩:=dpE (hD 12 _ 98 rfl rfl (by kernel_rfl));obtain ⟨x91,x92,x93,x94,rfl,xq,xr⟩:=h98;obtain ⟨v99,e99,h99⟩:=dpE (hD 13 _ 99 rfl rfl (by kernel_rfl));obtain rfl:=h99;go_simp;obtain ⟨c,hc⟩:=gN (R.2);rw [← hc];by_cases hpe:c=0
        ·subst hpe;refine (cmust_ok _ _ _ _ _ _ _ W).mono ?_;rintro e w9 ⟨rfl,hx⟩;exact hK _ _ hx ⟨hc.symm,_,_,_,_,rfl,xq.ext hx,xr.ext hx⟩
        ·refine (cmust_bad _ _ _ _ _ _ _ _ rfl hpe W).mono ?_;rintro e w9 ⟨rfl,hx⟩;(try simp +zetaDelta only [Exit.then,Exit.inBlock]);exact bodyPost_panic HDF.o ⟨EndU.bad hpe (PAN.o _ hpe hc.symm),KE.o _ (hW.trans hx)⟩
      intro w5 hx;simp only [Vals,List.take_succ_cons,List.take_zero,List.drop_succ_cons,List.drop_zero];rintro u0 h0 u1 h1 u2 - u3 - u4 - u5 - u6 - u7 - u8 - u9 - u10 - u11 - u12 - u13 - u14 h14;obtain rfl:=h0;obtain rfl:=h1;obtain ⟨hp2,r1,r2,r3,r4,rfl,S1,S2⟩:=h14;simp only [Act.put,List.setIfInBounds_toArray,List.set_cons_zero,List.set_cons_succ];have P2:=kI hp2;have XQ:=kI hx;replace S1:=kI S1;replace S2:=kI S2;obtain ⟨rr,re⟩:=R;have RQ:=kI (RK.o.ext hx);have KQ:=kI (KE.o _ hx);have HRL2:Hid (LimR rr):=HRL;have DV:Hid (divR acc (y2.M s s)=(rr,0)):=kI (by rw [← HD.o,← HR.o];exact Prod.ext rfl P2.o);clear hp2 hx;obtain ⟨g1,g2,g3,g4,v00,v01,v02,-⟩:=RQ.o.va.at (j:=s) hsn;have f0:=RQ.o.va.free;have fl:=RQ.o.va.lt;go_wp2_with fail;clear v00 v01 v02 f0 fl;obtain ⟨w11,hw11⟩:=gN (((w5.setCell ⟨V,s*3,none⟩ (.bool rr.neg)).setCell ⟨V,s*3+1,none⟩ (.slice r1 rr.num.length r2)).setCell ⟨V,s*3+2,none⟩ (.slice r3 rr.den.length r4));have hred:RedI w11 B Lb Rb Vb L V n cap bs ⟨y2.M,y2.S,updF y2.V s rr⟩:=by rw [hw11];exact RQ.o.valSet HSN.o HRL2.o S1.o S2.o
      have hkk:KpX (RedX L V n bs) w w11:=by rw [hw11];exact (((KQ.o.set (Or.inr (Or.inl rfl)) _ _).set (Or.inr (Or.inl rfl)) _ _).set (Or.inr (Or.inl rfl)) _ _)
      have E9:=red_ok (k:=i2) F1.o HP2.o B1.o DV.o;rw [← hw11];clear hw11;have E8:(redS n (i2+1) s y).2=0:=by rw [E9]
      have E7:(redS n (i2+1) s y).1=⟨y2.M,y2.S,updF y2.V s rr⟩:=by rw [E9]
      go_end0
      exact ⟨EndU.ok E8 (by rw [E7];exact hred),hkk⟩
end Go.Proofs.Ytnnjbaijcaiohaa
