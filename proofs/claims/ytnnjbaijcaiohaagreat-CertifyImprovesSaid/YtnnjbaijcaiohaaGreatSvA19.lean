/- Walks and lemmas. -/
import Derived.Test.YtnnjbaijcaiohaaGreatSvA18
set_option linter.unusedVariables false
set_option linter.unusedSimpArgs false
set_option maxRecDepth 100000
set_option maxHeartbeats 16000000
namespace Go.Proofs.YtnnjbaijcaiohaaGreat
open Go.RowKit
structure gH (X:Nat→Prop) (A B:World):Prop where
 zero:Below 0 A B
 block:∀ i,i < A.heap.size→¬ X i→B.heap[i]?=A.heap[i]?
theorem gH.ext {X:Nat→Prop} {A B:World} (h:Ext A B):gH X A B:=⟨h.mono (Nat.zero_le _),fun i hi _=>h.block i hi⟩
theorem gH.trans {X:Nat→Prop} {A B C:World} (h:gH X A B) (k:gH X B C):gH X A C:=⟨h.zero.trans k.zero,fun i hi hn=>(k.block i (Nat.lt_of_lt_of_le hi h.zero.size) hn).trans (h.block i hi hn)⟩
theorem gH.mono {X Y:Nat→Prop} {A B:World} (h:gH X A B) (hx:∀ i,X i→Y i):gH Y A B:=⟨h.zero,fun i hi hn=>h.block i hi (fun e=>hn (hx i e))⟩
theorem gH.set {X:Nat→Prop} {A B:World} (h:gH X A B) {b:Nat} (hb:X b) (p:Nat) (v:Value):gH X A (B.setCell ⟨b,p,none⟩ v):=⟨h.zero.setCell (Nat.zero_le _) v,fun i hi hn=>(Below.heap_setCell B ⟨b,p,none⟩ v i (fun e=>hn (by rw [show i=b from e];exact hb))).trans (h.block i hi hn)⟩
theorem gH.of {b:Nat} {X:Nat→Prop} {A B:World} (h:ft b A B) (hb:X b):gH X A B:=⟨h.zero,fun i hi hn=>h.block i hi (fun e=>hn (by rw [e];exact hb))⟩
theorem gH.blk {X:Nat→Prop} {p:Nat} {c:Array Value} {t:TypeId} {A B:World} (k:gH X A B) (h:ag A p c t) (hne:¬ X p):ag B p c t:=by
 unfold ag at h ⊢;rw [k.block p (Array.getElem?_eq_some_iff.1 h).1 hne];exact h
theorem gH.below {X:Nat→Prop} {A B:World} {n:Nat} (k:gH X A B) (hn:n≤A.heap.size) (hX:∀ i,X i→n≤i):Below n A B:=⟨k.zero.os,k.zero.tape,k.zero.output,k.zero.size,fun i hi=>k.block i Z (fun e=>by have:=hX i e;omega)⟩
theorem ft.Dd {b B:Nat} {cur:Array Value} {t:TypeId} {A W:World} (k:ft b A W) (hb:ag A b cur t) (hB:B≤b):Keeps B t A W:=
 ⟨k.zero,fun i hi ho=>k.block i hi (fun e=>by
  subst e;rcases ho with h1|⟨c2,u,h1,h2⟩
  ·omega
  ·unfold ag at hb h1;rw [hb] at h1;injection h1 with h1
   injection h1 with _ h3
   exact h2 h3.symm)⟩
theorem ag.ne {W:World} {a b:Nat} {c d:Array Value} {t u:TypeId} (h:ag W a c t) (k:ag W b d u) (ht:t≠u):a≠b:=fun e=>by
 subst e;unfold ag at h k;rw [h] at k;injection k with k
 injection k with _ k
 exact ht k
theorem zp {A W:World} {k:IntKind} {v:Value} {l:List Int} (h:bj k A v l) {bx:Nat} (kp:ft bx A W) {t:TypeId} (hb:∃ c,ag A bx c t∧EI c):bj k W v l:=by
 obtain ⟨c,hb,hn⟩:=hb;obtain ⟨a,cap,rfl,h1,h2,h3⟩:=h;refine ⟨a,cap,rfl,h1,h2,fun i hi=>?_⟩;obtain ⟨b,off,e1,e2,e3⟩:=h3 i hi;simp only [List.length_map] at hi;have hne:b≠bx:=by
  intro e;rw [e,hb.cell] at e3;have h4:(l.map (Value.int k))[i]?=some (.int k l[i]):=by simp [hi]
  rw [h4] at e3;exact hn _ (Array.mem_of_getElem? e3) _ _ rfl
 refine ⟨b,off,e1,Nat.lt_of_lt_of_le e2 kp.zero.size,?_⟩;rw [← e3];exact World.cell?_of_block (kp.block b e2 hne)
theorem zq {A W:World} {v:Value} {r:RR} (h:bh A v r) {bx:Nat} (kp:ft bx A W) {t:TypeId} (hb:∃ c,ag A bx c t∧EI c):bh W v r:=by
 obtain ⟨vn,vd,rfl,h1,h2⟩:=h;exact ⟨_,_,rfl,zp h1 kp hb,zp h2 kp hb⟩
def EqH (W:World) (B:Nat) (cur:Array Value) (o b n:Nat) (r:RR):Prop:=cur[o]?=some (.slice (some ⟨b,0,none⟩) n n)∧∃ a1 c1 a2 c2,cur[o+1]?=some (.bool r.neg)∧cur[o+2]?=some (.slice a1 r.num.length c1)∧cur[o+3]?=some (.slice a2 r.den.length c2)∧
 ku B W (.slice a1 r.num.length c1) r.num∧ku B W (.slice a2 r.den.length c2) r.den
structure sh (W:World) (B L n k:Nat) (bs:Nat→Nat) (M:Nat→Nat→RR) (S:Nat→RR):Prop where
 hd:∃ cur,ag W L cur 150∧k*4≤cur.size∧∀ s,s < k→EqH W B cur (s*4) (bs s) n (S s)
 row:∀ s,s < k→fV W B (bs s) n (M s)
 le:∀ s,s < k→B≤bs s
 inj:∀ s t,s < k→t < k→bs s=bs t→s=t
 xX:∀ s i,aC (M s i)
 Gs:∀ s,aC (S s)
 base:B≤L
theorem sh.ext {W W':World} {B L n k:Nat} {bs:Nat→Nat} {M:Nat→Nat→RR} {S:Nat→RR} (h:sh W B L n k bs M S) (x:Ext W W'):sh W' B L n k bs M S:=by
 obtain ⟨⟨cur,h1,h2,h3⟩,h4,h5,h6,h7,h8,h9⟩:=h;exact ⟨⟨cur,h1.ext x,h2,fun s hs=>by obtain ⟨g0,a1,c1,a2,c2,g1,g2,g3,g4,g5⟩:=h3 s hs;exact ⟨g0,a1,c1,a2,c2,g1,g2,g3,ku.ext g4 x,ku.ext g5 x⟩⟩,fun s hs=>(h4 s hs).ext x,h5,h6,h7,h8,h9⟩
theorem sh.at {W:World} {B L n k:Nat} {bs:Nat→Nat} {M:Nat→Nat→RR} {S:Nat→RR} (h:sh W B L n k bs M S) {s:Nat} (hs:s < k):∃ a1 c1 a2 c2,L < W.heap.size∧W.cell? ⟨L,s*4,none⟩=some (.slice (some ⟨bs s,0,none⟩) n n)∧W.cell? ⟨L,s*4+1,none⟩=some (.bool (S s).neg)∧W.cell? ⟨L,s*4+2,none⟩=some (.slice a1 (S s).num.length c1)∧W.cell? ⟨L,s*4+3,none⟩=some (.slice a2 (S s).den.length c2)∧
  bh W (.agg #[.bool (S s).neg,.slice a1 (S s).num.length c1,.slice a2 (S s).den.length c2]) (S s):=by
 obtain ⟨⟨cur,h1,h2,h3⟩,_⟩:=h;obtain ⟨g0,a1,c1,a2,c2,g1,g2,g3,g4,g5⟩:=h3 s hs;exact ⟨a1,c1,a2,c2,h1.lt,by rw [h1.cell];exact g0,by rw [h1.cell];exact g1,by rw [h1.cell];exact g2,by rw [h1.cell];exact g3,_,_,rfl,g4.rd,g5.rd⟩
theorem sh.free {W:World} {B L n k:Nat} {bs:Nat→Nat} {M:Nat→Nat→RR} {S:Nat→RR} (h:sh W B L n k bs M S):∀ o,W.frozen? ⟨L,o,none⟩=false:=by
 obtain ⟨⟨cur,h1,_⟩,_⟩:=h;exact h1.free
theorem sh.ne {W:World} {B L n k:Nat} {bs:Nat→Nat} {M:Nat→Nat→RR} {S:Nat→RR} (h:sh W B L n k bs M S) {s:Nat} (hs:s < k):L≠bs s:=by
 obtain ⟨⟨cur,h1,_⟩,h4,_⟩:=h;obtain ⟨c2,k1,_⟩:=h4 s hs;exact h1.ne k1 ap
theorem sh.J1 {W W':World} {B L n k:Nat} {bs:Nat→Nat} {M:Nat→Nat→RR} {S:Nat→RR} (h:sh W B L n k bs M S) {t:Nat} (ht:t < k) {g:Nat→RR} (hg:fV W' B (bs t) n g) (hl:∀ i,aC (g i)) (kp:ft (bs t) W W'):sh W' B L n k bs (cN M t g) S:=by
 have hne:=h.ne ht;obtain ⟨⟨cur,h1,h2,h3⟩,h4,h5,h6,h7,h8,h9⟩:=h;obtain ⟨c2,k1,_⟩:=h4 t ht;have hk:=kp.Dd k1 (h5 t ht);refine ⟨⟨cur,kp.blk h1 hne,h2,fun s hs=>by obtain ⟨g0,a1,c1,a2,c2,g1,g2,g3,g4,g5⟩:=h3 s hs;exact ⟨g0,a1,c1,a2,c2,g1,g2,g3,g4.keeps hk ap,g5.keeps hk ap⟩⟩,fun s hs=>?_,h5,h6,fun s i=>?_,h8,h9⟩
 ·by_cases e:s=t
  ·subst e;rw [bL];exact hg
  ·rw [cG e];exact (h4 s hs).Px kp (fun e2=>e (h6 s t hs ht e2)) k1
 ·by_cases e:s=t
  ·subst e;rw [bL];exact hl i
  ·rw [cG e];exact h7 s i
theorem sh.J2 {W:World} {B L n k:Nat} {bs:Nat→Nat} {M:Nat→Nat→RR} {S:Nat→RR} (h:sh W B L n k bs M S) {t:Nat} (ht:t < k) {r:RR} (hr:aC r) {a1:Option Addr} {c1:Nat} {a2:Option Addr} {c2:Nat} (s1:cD B W (.slice a1 r.num.length c1) r.num) (s2:cD B W (.slice a2 r.den.length c2) r.den) :
  sh (((W.setCell ⟨L,t*4+1,none⟩ (.bool r.neg)).setCell ⟨L,t*4+2,none⟩ (.slice a1 r.num.length c1)).setCell ⟨L,t*4+3,none⟩ (.slice a2 r.den.length c2)) B L n k bs M (cN S t r):=by
 obtain ⟨⟨cur,h1,h2,h3⟩,h4,h5,h6,h7,h8,h9⟩:=h;have hk:=yX h1 (t*4+1) (.bool r.neg) (.slice a1 r.num.length c1) (.slice a2 r.den.length c2);have b3:=((h1.set (t*4+1) (.bool r.neg)).set (t*4+2) (.slice a1 r.num.length c1)).set (t*4+3) (.slice a2 r.den.length c2);refine ⟨⟨_,b3,by simpa using h2,fun s hs=>?_⟩,fun s hs=>(h4 s hs).keeps hk ap ap,h5,h6,h7,fun s=>?_,h9⟩
 ·by_cases e:s=t
  ·subst e;rw [bL];obtain ⟨g0,_⟩:=h3 s hs;refine ⟨?_,a1,c1,a2,c2,?_,?_,?_,?_,?_⟩
   ·rw [Array.getElem?_setIfInBounds_ne Z,Array.getElem?_setIfInBounds_ne Z,Array.getElem?_setIfInBounds_ne Z];exact g0
   ·rw [Array.getElem?_setIfInBounds_ne Z,Array.getElem?_setIfInBounds_ne Z,Array.getElem?_setIfInBounds_self_of_lt Z]
   ·rw [Array.getElem?_setIfInBounds_ne Z,Array.getElem?_setIfInBounds_self_of_lt qC]
   ·rw [Array.getElem?_setIfInBounds_self_of_lt qC]
   ·exact (s1.keeps hk ap).1.mono (Nat.zero_le _)
   ·exact (s2.keeps hk ap).1.mono (Nat.zero_le _)
  ·rw [cG e];obtain ⟨g0,d1,e1,d2,e2,g1,g2,g3,g4,g5⟩:=h3 s hs;have hk0:=hk.mono h9;refine ⟨?_,d1,e1,d2,e2,?_,?_,?_,g4.keeps hk0 ap,g5.keeps hk0 ap⟩;all_goals (rw [Array.getElem?_setIfInBounds_ne Z,Array.getElem?_setIfInBounds_ne Z,Array.getElem?_setIfInBounds_ne Z];assumption)
 ·by_cases e:s=t
  ·subst e;rw [bL];exact hr
  ·rw [cG e];exact h8 s
theorem De {r:Nat→RR} {f:RR} {o:Nat→RR} {k:Nat} (h:∀ i,aC (r i)) (i:Nat):aC (iZ r f o k i):=by
 unfold iZ;split
 ·exact tH _ _ _
 ·exact h i
def J3 (L t bt bs n An:Nat) (f:RR) (j:Nat) (v:Value) (W:World):Prop:=
 match j with
 | 0=>v=.pointer (some ⟨L,t*4,none⟩)
 | 1=>v=.pointer (some ⟨L,t*4,none⟩)
 | 2=>v=.pointer (some ⟨L,t*4,none⟩)
 | 3=>v=.slice (some ⟨bt,0,none⟩) n n
 | 4=>∃ s1 s2 s3 s4,v=.agg #[.bool f.neg,.slice s1 f.num.length s2,.slice s3 f.den.length s4]∧bh W (.agg #[.bool f.neg,.slice s1 f.num.length s2,.slice s3 f.den.length s4]) f
 | 5=>v=.pointer (some ⟨An+1,0,none⟩)
 | 6=>v=.slice (some ⟨bs,0,none⟩) n n
 | _=>True
theorem Df {L t bt bs n An:Nat} {f:RR} {j:Nat} {v:Value} {W W':World} (h:J3 L t bt bs n An f j v W) (x:Ext W W'):J3 L t bt bs n An f j v W':=by
 match j,h with
 | 0,h=>exact h
 | 1,h=>exact h
 | 2,h=>exact h
 | 3,h=>exact h
 | 4,⟨s1,s2,s3,s4,h1,h2⟩=>exact ⟨s1,s2,s3,s4,h1,h2.ext x⟩
 | 5,h=>exact h
 | 6,h=>exact h
 | _+7,_=>trivial
def J4 (L t An:Nat) (x f y:RR) (r q:RR × Int) (B:Nat) (j:Nat) (v:Value) (W:World):Prop:=
 match j with
 | 0=>v=.pointer (some ⟨L,t*4,none⟩)
 | 1=>v=.pointer (some ⟨L,t*4,none⟩)
 | 2=>v=.pointer (some ⟨L,t*4,none⟩)
 | 3=>v=.pointer (some ⟨L,t*4+1,none⟩)
 | 4=>∃ s1 s2 s3 s4,v=.agg #[.bool x.neg,.slice s1 x.num.length s2,.slice s3 x.den.length s4]∧bh W (.agg #[.bool x.neg,.slice s1 x.num.length s2,.slice s3 x.den.length s4]) x
 | 5=>∃ s1 s2 s3 s4,v=.agg #[.bool f.neg,.slice s1 f.num.length s2,.slice s3 f.den.length s4]∧bh W (.agg #[.bool f.neg,.slice s1 f.num.length s2,.slice s3 f.den.length s4]) f
 | 6=>v=.pointer (some ⟨An+1,1,none⟩)
 | 7=>∃ s1 s2 s3 s4,v=.agg #[.bool y.neg,.slice s1 y.num.length s2,.slice s3 y.den.length s4]∧bh W (.agg #[.bool y.neg,.slice s1 y.num.length s2,.slice s3 y.den.length s4]) y
 | 8=>∃ s1 s2 s3 s4,v=.tuple #[.agg #[.bool r.1.neg,.slice s1 r.1.num.length s2,.slice s3 r.1.den.length s4],.int .i64 r.2]∧bh W (.agg #[.bool r.1.neg,.slice s1 r.1.num.length s2,.slice s3 r.1.den.length s4]) r.1
 | 9=>∃ s1 s2 s3 s4,v=.agg #[.bool r.1.neg,.slice s1 r.1.num.length s2,.slice s3 r.1.den.length s4]∧bh W (.agg #[.bool r.1.neg,.slice s1 r.1.num.length s2,.slice s3 r.1.den.length s4]) r.1
 | 10=>v=.int .i64 r.2
 | 11=>r.2=0∧∃ s1 s2 s3 s4,v=.agg #[.bool r.1.neg,.slice s1 r.1.num.length s2,.slice s3 r.1.den.length s4]∧bh W (.agg #[.bool r.1.neg,.slice s1 r.1.num.length s2,.slice s3 r.1.den.length s4]) r.1
 | 12=>r.2=0∧∃ s1 s2 s3 s4,v=.tuple #[.agg #[.bool q.1.neg,.slice s1 q.1.num.length s2,.slice s3 q.1.den.length s4],.int .i64 q.2]∧cD B W (.slice s1 q.1.num.length s2) q.1.num∧cD B W (.slice s3 q.1.den.length s4) q.1.den
 | 13=>r.2=0∧∃ s1 s2 s3 s4,v=.agg #[.bool q.1.neg,.slice s1 q.1.num.length s2,.slice s3 q.1.den.length s4]∧cD B W (.slice s1 q.1.num.length s2) q.1.num∧cD B W (.slice s3 q.1.den.length s4) q.1.den
 | 14=>v=.int .i64 q.2
 | 15=>q.2=0∧∃ s1 s2 s3 s4,v=.agg #[.bool q.1.neg,.slice s1 q.1.num.length s2,.slice s3 q.1.den.length s4]∧cD B W (.slice s1 q.1.num.length s2) q.1.num∧cD B W (.slice s3 q.1.den.length s4) q.1.den
 | _=>True
theorem Dg {L t An:Nat} {x f y:RR} {r q:RR × Int} {B:Nat} {j:Nat} {v:Value} {W W':World} (h:J4 L t An x f y r q B j v W) (xx:Ext W W'):J4 L t An x f y r q B j v W':=by
 match j,h with
 | 0,h=>exact h
 | 1,h=>exact h
 | 2,h=>exact h
 | 3,h=>exact h
 | 4,⟨s1,s2,s3,s4,h1,h2⟩=>exact ⟨s1,s2,s3,s4,h1,h2.ext xx⟩
 | 5,⟨s1,s2,s3,s4,h1,h2⟩=>exact ⟨s1,s2,s3,s4,h1,h2.ext xx⟩
 | 6,h=>exact h
 | 7,⟨s1,s2,s3,s4,h1,h2⟩=>exact ⟨s1,s2,s3,s4,h1,h2.ext xx⟩
 | 8,⟨s1,s2,s3,s4,h0,h1⟩=>exact ⟨s1,s2,s3,s4,h0,h1.ext xx⟩
 | 9,⟨s1,s2,s3,s4,h0,h1⟩=>exact ⟨s1,s2,s3,s4,h0,h1.ext xx⟩
 | 10,h=>exact h
 | 11,⟨h9,s1,s2,s3,s4,h0,h1⟩=>exact ⟨h9,s1,s2,s3,s4,h0,h1.ext xx⟩
 | 12,⟨h9,s1,s2,s3,s4,h0,h1,h2⟩=>exact ⟨h9,s1,s2,s3,s4,h0,h1.ext xx,h2.ext xx⟩
 | 13,⟨h9,s1,s2,s3,s4,h0,h1,h2⟩=>exact ⟨h9,s1,s2,s3,s4,h0,h1.ext xx,h2.ext xx⟩
 | 14,h=>exact h
 | 15,⟨h9,s1,s2,s3,s4,h0,h1,h2⟩=>exact ⟨h9,s1,s2,s3,s4,h0,h1.ext xx,h2.ext xx⟩
 | _+16,_=>trivial
def Iw (n:Nat) (g:Nat→RR) (f:RR) (o:Nat→RR) (x y:RR):Int:=if tE g f o n≠0 then tE g f o n else (gg x f y).2
theorem AB (L t s n B k:Nat) (bs:Nat→Nat) (M:Nat→Nat→RR) (S:Nat→RR) (f:RR) (fv:Value) (w:World) (hE:sh w B L n k bs M S) (ht:t < k) (hs:s < k) (hst:s≠t) (hf:bh w fv f) (hlf:aC f) (hn:n≤1000) (hB:B≤w.heap.size) (y1:Option Addr) (y2:Nat) (y3:Option Addr) (y4:Nat) (hy:bh w (.agg #[.bool (S s).neg,.slice y1 (S s).num.length y2,.slice y3 (S s).den.length y4]) (S s)) :
  Calls Tryz.prog 145 #[.pointer (some ⟨L,t*4,none⟩),fv,.agg #[.slice (some ⟨bs s,0,none⟩) n n,.bool (S s).neg,.slice y1 (S s).num.length y2,.slice y3 (S s).den.length y4]] w fun e w'=>ew e (Iw n (M t) f (M s) (S t) (S s)) (sh w' B L n k bs (cN M t (iZ (M t) f (M s) n)) (cN S t (gg (S t) f (S s)).1))∧gH (fun i=>i=L∨i=bs t) w w':=by
 obtain ⟨f1,f2,f3,f4,rfl⟩:=hf.shape;have Uv:=hE.Gs s;obtain ⟨y,kO⟩:=gN (S s);rw [← kO] at hy Uv ⊢;have HE:=kI hE;have HF:=kI hf;have HY:=kI hy;have Rp:=kI Uv;have RJ:=kI hlf;have Mr:=kI kO;have Yd:=kI hB;have Ye:=HE;have BNE:Hid (bs t≠bs s):=kI (fun e=>hst ((hE.inj t s ht hs e).symm));have LNE:Hid (L≠bs t):=kI (hE.ne ht);clear hE hf hy Uv hlf kO;have bb0:=((ag.new w #[.bool f.neg,.slice f1 f.num.length f2,.slice f3 f.den.length f4] 25).alloc (.cells #[.slice (some ⟨bs s,0,none⟩) n n,.bool y.neg,.slice y1 y.num.length y2,.slice y3 y.den.length y4] 150));have bb1:=(ag.new (w.alloc (.cells #[.bool f.neg,.slice f1 f.num.length f2,.slice f3 f.den.length f4] 25)) #[.slice (some ⟨bs s,0,none⟩) n n,.bool y.neg,.slice y1 y.num.length y2,.slice y3 y.den.length y4] 150);rw [World.size_alloc] at bb1;have x0:Ext w ((w.alloc (.cells #[.bool f.neg,.slice f1 f.num.length f2,.slice f3 f.den.length f4] 25)).alloc (.cells #[.slice (some ⟨bs s,0,none⟩) n n,.bool y.neg,.slice y1 y.num.length y2,.slice y3 y.den.length y4] 150)):=(((Ext.refl w).alloc _).alloc _);have A0:=kI bb0;have A1:=kI bb1;have X:=kI x0;clear x0 bb0 bb1;replace HE:=kI (HE.o.ext X.o);replace HF:=kI (HF.o.ext X.o);replace HY:=kI (HY.o.ext X.o);go_enter Tryz.func145,Tryz.ntmps145
 obtain ⟨aK,fA0,aJ⟩:=A0.o.q3;obtain ⟨aY,aZ,lA1⟩:=A1.o.q3;go_wp2_with fail;clear aK fA0 aJ aY aZ lA1;obtain ⟨w1,hw1⟩:=gN (((w.alloc (.cells #[.bool f.neg,.slice f1 f.num.length f2,.slice f3 f.den.length f4] 25)).alloc (.cells #[.slice (some ⟨bs s,0,none⟩) n n,.bool y.neg,.slice y1 y.num.length y2,.slice y3 y.den.length y4] 150)));rw [← hw1] at HE HF HY A0 A1 X ⊢;clear hw1;obtain ⟨An,hAn⟩:=gN (w.heap.size);rw [← hAn] at A0 A1 ⊢;have MF:Hid (B≤An):=kI (by rw [hAn];exact Yd.o);have ANB:Hid (bs t < An∧L < An):=kI (by
  obtain ⟨⟨cur,h1,_⟩,h4,_⟩:=Ye.o;obtain ⟨c2,k1,_⟩:=h4 t ht;rw [hAn];exact ⟨k1.lt,h1.lt⟩)
 clear hAn Ye;obtain ⟨x1,x2,x3,x4,xl,xc0,jI,Uw,Ux,Gn⟩:=HE.o.at ht;have TS:Hid (L < w1.heap.size∧w1.cell? ⟨L,t*4,none⟩=some (.slice (some ⟨bs t,0,none⟩) n n)):=kI ⟨xl,xc0⟩;clear xl xc0 jI Uw Ux Gn;have RE:=X;replace X:=kI (Ext.refl w1);refine aI 7 (J3 L t (bs t) (bs s) n An f) ax ax ax (fun _ _ _ _ h x=>Df h x) ?_ ?_
 ·refine ⟨?_,?_,?_,?_,?_,?_,?_,trivial⟩
  ·intro a W hW af hB hD K hK;have aQ:=kI af;clear af;have b0:=hB 0 rfl;simp only [sB] at b0;go_simp;exact hK _ _ (Ext.refl _) rfl
  ·intro a W hW af hB hD K hK;have aQ:=kI af;clear af;obtain ⟨v6,e6,h6⟩:=aE (hD 0 _ 6 rfl rfl ax);obtain rfl:=h6;go_simp;exact hK _ _ (Ext.refl _) rfl
  ·intro a W hW af hB hD K hK;have aQ:=kI af;clear af;obtain ⟨v7,e7,h7⟩:=aE (hD 1 _ 7 rfl rfl ax);obtain rfl:=h7;go_simp;exact hK _ _ (Ext.refl _) rfl
  ·intro a W hW af hB hD K hK;have aQ:=kI af;clear af;obtain ⟨v8,e8,h8⟩:=aE (hD 2 _ 8 rfl rfl ax);obtain rfl:=h8;have m0:=(hW.cell (p:=⟨L,t*4,none⟩) TS.o.1).trans TS.o.2;have ml:=Nat.lt_of_lt_of_le TS.o.1 hW.size;go_simp;exact hK _ _ (Ext.refl _) rfl
  ·intro a W hW af hB hD K hK;have aQ:=kI af;clear af;have b4:=hB 4 rfl;simp only [sB] at b4;have q9:=(A0.o.ext hW).cell;have l9:=(A0.o.ext hW).lt;go_simp;exact hK _ _ (Ext.refl _) ⟨_,_,_,_,rfl,HF.o.ext hW⟩
  ·intro a W hW af hB hD K hK;have aQ:=kI af;clear af;have b5:=hB 5 rfl;simp only [sB] at b5;go_simp;exact hK _ _ (Ext.refl _) rfl
  ·intro a W hW af hB hD K hK;have aQ:=kI af;clear af;obtain ⟨v11,e11,h11⟩:=aE (hD 5 _ 11 rfl rfl ax);obtain rfl:=h11;have q9:=(A1.o.ext hW).cell;have l9:=(A1.o.ext hW).lt;go_simp;exact hK _ _ (Ext.refl _) rfl
 intro w2 hx;simp only [cW,List.take_succ_cons,List.take_zero,List.drop_succ_cons,List.drop_zero];rintro u0 - u1 - u2 - u3 h3 u4 h4 u5 - u6 h6;obtain rfl:=h3;obtain ⟨v1,v2,v3,v4,rfl,HF2⟩:=h4;obtain rfl:=h6;simp only [Act.put,List.setIfInBounds_toArray,List.set_cons_zero,List.set_cons_succ];have X2:=kI (RE.o.trans hx);replace A0:=kI (A0.o.ext hx);replace A1:=kI (A1.o.ext hx);replace HE:=kI (HE.o.ext hx);replace HY:=kI (HY.o.ext hx);have Yf:=kI HF2;have B2:Hid (B≤w2.heap.size):=kI (Nat.le_trans Yd.o X2.o.size);replace HF:=kI (HF.o.ext hx);clear HF2 hx RE;go_wp2_with fail;obtain ⟨c1,hc1⟩:=gN (tE (M t) f (M s) n);refine (Db (bs t) (bs s) n B B (M t) (M s) f _ w2 (HE.o.row t ht) (HE.o.row s hs) Yf.o BNE.o hn B2.o (HE.o.xX t) (HE.o.xX s) RJ.o).mono ?_;rintro e w3 ⟨he,hk⟩;rw [← hc1] at he;have Aa:=kI hc1;have K3:Hid (gH (fun i=>i=L∨i=bs t) w w3):=kI ((gH.ext X2.o).trans (gH.of hk (Or.inr rfl)));have SZ:=kI hk.zero.size;clear hc1;by_cases hz:c1=0
 rotate_left
 ·obtain rfl:=he.pN hz;exact aF rfl ⟨ew.bad hz (by unfold Iw;rw [← Aa.o,if_pos hz]),K3.o⟩
 subst hz;obtain ⟨rfl,hfr⟩:=he.pM;have Yg:=kI (HE.o.J1 ht hfr (De (HE.o.xX t)) hk);have hno:=(HE.o.row t ht).Us;have PE:=kI (zq HF.o hk hno);replace HY:=kI (zq HY.o hk hno);have h0:=ANB.o.1;replace A0:=kI (hk.blk A0.o Z);replace A1:=kI (hk.blk A1.o Z);obtain ⟨x1,x2,x3,x4,Yh,Uy,J5,J6,J7,Uz⟩:=Yg.o.at ht;obtain ⟨x,hx⟩:=gN (S t);rw [← hx] at J5 J6 J7 Uz;have hxl:aC x:=by rw [hx];exact HE.o.Gs t
 have TS:Hid (L < w3.heap.size∧w3.cell? ⟨L,t*4+1,none⟩=some (.bool x.neg)∧w3.cell? ⟨L,t*4+2,none⟩=some (.slice x1 x.num.length x2)∧w3.cell? ⟨L,t*4+3,none⟩=some (.slice x3 x.den.length x4)∧bh w3 (.agg #[.bool x.neg,.slice x1 x.num.length x2,.slice x3 x.den.length x4]) x):=kI ⟨Yh,J5,J6,J7,Uz⟩;have HX:=kI hx;have Gk:=kI hxl;obtain ⟨R,hR⟩:=gN (mulR f y);have hml:aC R.1:=by rw [hR];exact fh _ _
 have HR:=kI hR;have JI:=kI hml;have B3:Hid (B≤w3.heap.size):=kI (Nat.le_trans B2.o SZ.o);have EE:Hid (Iw n (M t) f (M s) (S t) y=(gg x f y).2):=kI (by unfold Iw;rw [← Aa.o,if_neg (fun h=>h rfl),← hx]);clear he hfr hk hno h0 Yh Uy J5 J6 J7 Uz hx hxl hR hml HE Yf;go_wp2_with fail;replace X:=kI (Ext.refl w3);have oJ:=EE;refine aI 16 (J4 L t An x f y R (bR x R.1) B) ax ax ax (fun _ _ _ _ h x=>Dg h x) ?_ ?_
 ·refine ⟨?_,?_,?_,?_,?_,?_,?_,?_,?_,?_,?_,?_,?_,?_,?_,?_,trivial⟩
  ·intro a W hW af hB hD K hK;have aQ:=kI af;clear af;have b0:=hB 0 rfl;simp only [sB] at b0;go_simp;exact hK _ _ (Ext.refl _) rfl
  ·intro a W hW af hB hD K hK;have aQ:=kI af;clear af;have b0:=hB 0 rfl;simp only [sB] at b0;go_simp;exact hK _ _ (Ext.refl _) rfl
  ·intro a W hW af hB hD K hK;have aQ:=kI af;clear af;obtain ⟨v15,e15,h15⟩:=aE (hD 1 _ 15 rfl rfl ax);obtain rfl:=h15;go_simp;exact hK _ _ (Ext.refl _) rfl
  ·intro a W hW af hB hD K hK;have aQ:=kI af;clear af;obtain ⟨v16,e16,h16⟩:=aE (hD 2 _ 16 rfl rfl ax);obtain rfl:=h16;go_simp;exact hK _ _ (Ext.refl _) rfl
  ·intro a W hW af hB hD K hK;have aQ:=kI af;clear af;obtain ⟨v17,e17,h17⟩:=aE (hD 3 _ 17 rfl rfl ax);obtain rfl:=h17;have m0:=(hW.cell (p:=⟨L,t*4+1,none⟩) TS.o.1).trans TS.o.2.1;have m1:=(hW.cell (p:=⟨L,t*4+2,none⟩) TS.o.1).trans TS.o.2.2.1;have m2:=(hW.cell (p:=⟨L,t*4+3,none⟩) TS.o.1).trans TS.o.2.2.2.1;have ml:=Nat.lt_of_lt_of_le TS.o.1 hW.size;go_simp;exact hK _ _ (Ext.refl _) ⟨_,_,_,_,rfl,TS.o.2.2.2.2.ext hW⟩
  ·intro a W hW af hB hD K hK;have aQ:=kI af;clear af;have b4:=hB 4 rfl;simp only [sB] at b4;have q9:=(A0.o.ext hW).cell;have l9:=(A0.o.ext hW).lt;go_simp;exact hK _ _ (Ext.refl _) ⟨_,_,_,_,rfl,PE.o.ext hW⟩
  ·intro a W hW af hB hD K hK;have aQ:=kI af;clear af;have b5:=hB 5 rfl;simp only [sB] at b5;go_simp;exact hK _ _ (Ext.refl _) rfl
  ·intro a W hW af hB hD K hK;have aQ:=kI af;clear af;obtain ⟨v20,e20,h20⟩:=aE (hD 6 _ 20 rfl rfl ax);obtain rfl:=h20;have q9:=(A1.o.ext hW).cell;have l9:=(A1.o.ext hW).lt;go_simp;exact hK _ _ (Ext.refl _) ⟨_,_,_,_,rfl,HY.o.ext hW⟩
  ·intro a W hW af hB hD K hK;have aQ:=kI af;clear af;obtain ⟨v19,e19,h19⟩:=aE (hD 5 _ 19 rfl rfl ax);obtain ⟨x91,fp,x93,fq,rfl,qT⟩:=h19;obtain ⟨v21,e21,h21⟩:=aE (hD 7 _ 21 rfl rfl ax);obtain ⟨y91,Gp,y93,Gq,rfl,qU⟩:=h21;go_simp;have hmu:=fg _ _ f y W qT qU RJ.o Rp.o;rw [← HR.o] at hmu;refine hmu.mono ?_;rintro e w9 ⟨⟨v,rfl,nn⟩,hx⟩;obtain ⟨t1,t2,t3,t4,rfl⟩:=nn.shape;exact hK _ _ hx ⟨_,_,_,_,rfl,nn.rd⟩
  ·intro a W hW af hB hD K hK;have aQ:=kI af;clear af;obtain ⟨v22,e22,h22⟩:=aE (hD 8 _ 22 rfl rfl ax);obtain ⟨x91,fp,x93,fq,rfl,xq⟩:=h22;go_simp;exact hK _ _ (Ext.refl _) ⟨_,_,_,_,rfl,xq⟩
  ·intro a W hW af hB hD K hK;have aQ:=kI af;clear af;obtain ⟨v22,e22,h22⟩:=aE (hD 8 _ 22 rfl rfl ax);obtain ⟨x91,fp,x93,fq,rfl,xq⟩:=h22;go_simp;exact hK _ _ (Ext.refl _) rfl
  ·intro a W hW af hB hD K hK;have aQ:=kI af;clear af;obtain ⟨v23,e23,h23⟩:=aE (hD 9 _ 23 rfl rfl ax);obtain ⟨x91,fp,x93,fq,rfl,xq⟩:=h23;obtain ⟨v24,e24,rO⟩:=aE (hD 10 _ 24 rfl rfl ax);obtain rfl:=rO;go_simp;by_cases hpe:R.2=0
   ·rw [hpe];refine (bO _ _ _ _ _ _ _ W).mono ?_;rintro e w9 ⟨rfl,hx⟩;exact hK _ _ hx ⟨hpe,_,_,_,_,rfl,xq.ext hx⟩
   ·refine (bu _ _ _ _ _ _ _ _ rfl hpe W).mono ?_;rintro e w9 ⟨rfl,hx⟩;(try simp +zetaDelta only [Exit.then,Exit.inBlock]);exact aF aQ.o ⟨ew.bad hpe (oJ.o.trans QT),K3.o.trans (gH.ext (hW.trans hx))⟩
  ·intro a W hW af hB hD K hK;have aQ:=kI af;clear af;obtain ⟨v18,e18,h18⟩:=aE (hD 4 _ 18 rfl rfl ax);obtain ⟨x91,fp,x93,fq,rfl,qT⟩:=h18;obtain ⟨v25,e25,Cw⟩:=aE (hD 11 _ 25 rfl rfl ax);obtain ⟨hpe,y91,Gp,y93,Gq,rfl,qU⟩:=Cw;go_simp;refine (gw _ _ x R.1 W qT qU Gk.o JI.o).mono ?_;rintro e w9 ⟨⟨v,rfl,nn⟩,hx⟩;obtain ⟨t1,t2,t3,t4,rfl⟩:=nn.shape;obtain ⟨hs1,hs2⟩:=nn.sf (B:=B) (Nat.le_trans B3.o hW.size);exact hK _ _ hx ⟨hpe,_,_,_,_,rfl,hs1,hs2⟩
  ·intro a W hW af hB hD K hK;have aQ:=kI af;clear af;obtain ⟨v26,e26,AA⟩:=aE (hD 12 _ 26 rfl rfl ax);obtain ⟨uf,x91,fp,x93,fq,rfl,xq,xr⟩:=AA;go_simp;exact hK _ _ (Ext.refl _) ⟨uf,_,_,_,_,rfl,xq,xr⟩
  ·intro a W hW af hB hD K hK;have aQ:=kI af;clear af;obtain ⟨v26,e26,AA⟩:=aE (hD 12 _ 26 rfl rfl ax);obtain ⟨uf,x91,fp,x93,fq,rfl,xq,xr⟩:=AA;go_simp;exact hK _ _ (Ext.refl _) rfl
  ·intro a W hW af hB hD K hK;have aQ:=kI af;clear af;obtain ⟨v27,e27,h27⟩:=aE (hD 13 _ 27 rfl rfl ax);obtain ⟨uf,x91,fp,x93,fq,rfl,xq,xr⟩:=h27;obtain ⟨v28,e28,h28⟩:=aE (hD 14 _ 28 rfl rfl ax);obtain rfl:=h28;go_simp;obtain ⟨c,hc⟩:=gN ((bR x R.1).2);rw [← hc];by_cases hpe:c=0
   ·subst hpe;refine (bO _ _ _ _ _ _ _ W).mono ?_;rintro e w9 ⟨rfl,hx⟩;exact hK _ _ hx ⟨hc.symm,_,_,_,_,rfl,xq.ext hx,xr.ext hx⟩
   ·refine (bu _ _ _ _ _ _ _ _ rfl hpe W).mono ?_;rintro e w9 ⟨rfl,hx⟩;(try simp +zetaDelta only [Exit.then,Exit.inBlock]);exact aF aQ.o ⟨ew.bad hpe (oJ.o.trans QR),K3.o.trans (gH.ext (hW.trans hx))⟩
 intro w5 hx;simp only [cW,List.take_succ_cons,List.take_zero,List.drop_succ_cons,List.drop_zero];rintro u0 h0 u1 - u2 - u3 - u4 - u5 - u6 - u7 - u8 - u9 - u10 - u11 h11 u12 - u13 - u14 - u15 h15;obtain rfl:=h0;obtain ⟨hp1,-⟩:=h11;obtain ⟨hp2,r1,r2,r3,r4,rfl,S1,S2⟩:=h15;simp only [Act.put,List.setIfInBounds_toArray,List.set_cons_zero,List.set_cons_succ];have S1:=kI S1;have S2:=kI S2;have P1:=kI hp1;have P2:=kI hp2;have XQ:=kI hx;have E5:=kI (Yg.o.ext hx);clear hp1 hp2 hx;have hst:gg x f y=bR x R.1:=oQ Sy;have hzz:=oJ.o.trans (show (gg x f y).2=0 from by rw [hst];exact P2.o);obtain ⟨rr,hrr⟩:=gN ((bR x R.1).1);rw [← hrr] at S1 S2 ⊢;have HRR:Hid ((gg (S t) f y).1=rr):=kI (by rw [← HX.o,hst,hrr]);have hrl:aC rr:=by rw [hrr];exact gC _ _
 have EF:=kI hrl;have UA:=kI hzz;clear hst hrr hzz hrl;obtain ⟨z1,z2,z3,z4,zl,z00,z01,z02,z03,-⟩:=E5.o.at ht;have f0:=E5.o.free;go_wp2_with fail;clear zl z00 z01 z02 z03 f0;obtain ⟨nJ,fE⟩:=gN (((w5.setCell ⟨L,t*4+1,none⟩ (.bool rr.neg)).setCell ⟨L,t*4+2,none⟩ (.slice r1 rr.num.length r2)).setCell ⟨L,t*4+3,none⟩ (.slice r3 rr.den.length r4));have hfr:=E5.o.J2 ht EF.o S1.o S2.o;rw [← fE] at hfr;have hkk:gH (fun i=>i=L∨i=bs t) w nJ:=by
  rw [fE];exact (((K3.o.trans (gH.ext XQ.o)).set (Or.inl rfl) _ _).set (Or.inl rfl) _ _).set (Or.inl rfl) _ _
 rw [← fE];clear fE;go_end0
 exact ⟨ew.ok UA.o (by rw [HRR.o];exact hfr),hkk⟩
end Go.Proofs.YtnnjbaijcaiohaaGreat
