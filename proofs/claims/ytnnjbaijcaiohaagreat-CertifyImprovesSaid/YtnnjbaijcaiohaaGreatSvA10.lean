/- Walks and lemmas. -/
import Derived.Test.YtnnjbaijcaiohaaGreatSvA8
import Derived.Test.YtnnjbaijcaiohaaGreatSvA9
import Derived.Test.YtnnjbaijcaiohaaGreatSvA7
import Derived.Test.YtnnjbaijcaiohaaGreatSvA1
set_option linter.unusedVariables false
set_option linter.unusedSimpArgs false
set_option maxRecDepth 100000
set_option maxHeartbeats 16000000
namespace Go.Proofs.YtnnjbaijcaiohaaGreat
open Go.RowKit
section
def EI (c:Array Value):Prop:=∀ x ∈ c,∀ k n,x≠.int k n
theorem EI.set {c:Array Value} (h:EI c) (i:Nat) {x:Value} (hx:∀ k n,x≠.int k n):EI (c.setIfInBounds i x):=fun u hu=>by
 rcases Array.mem_or_eq_of_mem_setIfInBounds hu with hu|rfl
 ·exact h u hu
 ·exact hx
theorem In {b:Bool} {a1:Option Addr} {n1 c1:Nat} {a2:Option Addr} {n2 c2:Nat}:EI #[.bool b,.slice a1 n1 c1,.slice a2 n2 c2]:=fun x hx k n=>by
 simp at hx;rcases hx with rfl|rfl|rfl <;> simp
theorem mY {A:World} {k:IntKind} {v:Value} {l:List Int} (h:bj k A v l) {bx:Nat} {c:Array Value} {t:TypeId} (hb:ag A bx c t) (hn:EI c) (o:Nat) (u:Value):bj k (A.setCell ⟨bx,o,none⟩ u) v l:=by
 obtain ⟨a,cap,rfl,h1,h2,h3⟩:=h;refine ⟨a,cap,rfl,h1,h2,fun i hi=>?_⟩;obtain ⟨b,off,e1,e2,e3⟩:=h3 i hi;simp only [List.length_map] at hi;have hne:b≠bx:=by
  intro e;rw [e,hb.cell] at e3;have h4:(l.map (Value.int k))[i]?=some (.int k l[i]):=by simp [hi]
  rw [h4] at e3;exact hn _ (Array.mem_of_getElem? e3) _ _ rfl
 refine ⟨b,off,e1,by simpa [World.setCell] using e2,?_⟩;rw [← e3];exact World.cell?_of_block (Below.heap_setCell _ _ _ _ hne)
def mZ (W:World) (b:Nat) (t:TypeId) (r:RR):Prop:=∃ a1 c1 a2 c2,ag W b #[.bool r.neg,.slice a1 r.num.length c1,.slice a2 r.den.length c2] t∧bh W (.agg #[.bool r.neg,.slice a1 r.num.length c1,.slice a2 r.den.length c2]) r
theorem mZ.ext {W W':World} {b:Nat} {t:TypeId} {r:RR} (h:mZ W b t r) (x:Ext W W'):mZ W' b t r:=by
 obtain ⟨a1,c1,a2,c2,h1,h2⟩:=h;exact ⟨a1,c1,a2,c2,h1.ext x,h2.ext x⟩
structure nZ (W:World) (b:Nat) (c:Array Value) (t:TypeId) (x y z:Value) (o:Nat):Prop where
 b0:ag W b c t
 n0:EI c
 hx:∀ k n,x≠.int k n
 hy:∀ k n,y≠.int k n
 hz:∀ k n,z≠.int k n
theorem nZ.of {W:World} {b:Nat} {c:Array Value} {t:TypeId} (h:ag W b c t) (hn:EI c) {q:Bool} {a1:Option Addr} {n1 c1:Nat} {a2:Option Addr} {n2 c2 o:Nat}:nZ W b c t (.bool q) (.slice a1 n1 c1) (.slice a2 n2 c2) o:=⟨h,hn,by simp,by simp,by simp⟩
section
variable {W:World} {b:Nat} {c:Array Value} {t:TypeId} {x y z:Value} {o:Nat}
theorem nZ.uh (p:nZ W b c t x y z o) {k:IntKind} {v:Value} {l:List Int} (h:bj k W v l):bj k (((W.setCell ⟨b,o,none⟩ x).setCell ⟨b,o+1,none⟩ y).setCell ⟨b,o+2,none⟩ z) v l:=
 mY (mY (mY h p.b0 p.n0 _ _) (p.b0.set _ _) (p.n0.set _ p.hx) _ _) ((p.b0.set _ _).set _ _) ((p.n0.set _ p.hx).set _ p.hy) _ _
theorem nZ.Ro (p:nZ W b c t x y z o) {v:Value} {r:RR} (h:bh W v r):bh (((W.setCell ⟨b,o,none⟩ x).setCell ⟨b,o+1,none⟩ y).setCell ⟨b,o+2,none⟩ z) v r:=by
 obtain ⟨vn,vd,rfl,h1,h2⟩:=h;exact ⟨_,_,rfl,p.uh h1,p.uh h2⟩
theorem nZ.blk {p:Nat} {d:Array Value} {u:TypeId} (h:ag W p d u) (hne:p≠b):ag (((W.setCell ⟨b,o,none⟩ x).setCell ⟨b,o+1,none⟩ y).setCell ⟨b,o+2,none⟩ z) p d u:=
 ((h.setOther (a:=⟨b,o,none⟩) hne x).setOther (a:=⟨b,o+1,none⟩) hne y).setOther (a:=⟨b,o+2,none⟩) hne z
theorem jz {w0 W:World} (h:Ext w0 W) (hb:w0.heap.size≤b):Ext w0 (((W.setCell ⟨b,o,none⟩ x).setCell ⟨b,o+1,none⟩ y).setCell ⟨b,o+2,none⟩ z):=
 ((h.set (p:=⟨b,o,none⟩) hb x).set (p:=⟨b,o+1,none⟩) hb y).set (p:=⟨b,o+2,none⟩) hb z
end
theorem mZ.put {W:World} {b:Nat} {t:TypeId} {r s:RR} (h:mZ W b t r) {a1:Option Addr} {c1:Nat} {a2:Option Addr} {c2:Nat} (hs:bh W (.agg #[.bool s.neg,.slice a1 s.num.length c1,.slice a2 s.den.length c2]) s) :
  mZ (((W.setCell ⟨b,0,none⟩ (.bool s.neg)).setCell ⟨b,0+1,none⟩ (.slice a1 s.num.length c1)).setCell ⟨b,0+2,none⟩ (.slice a2 s.den.length c2)) b t s:=by
 obtain ⟨d1,e1,d2,e2,h1,h2⟩:=h;have p:=nZ.of (q:=s.neg) (a1:=a1) (n1:=s.num.length) (c1:=c1) (a2:=a2) (n2:=s.den.length) (c2:=c2) (o:=0) h1 In;refine ⟨a1,c1,a2,c2,?_,p.Ro hs⟩;have:=((h1.set 0 (.bool s.neg)).set (0+1) (.slice a1 s.num.length c1)).set (0+2) (.slice a2 s.den.length c2);simpa using this
theorem made3 (n k j:Nat) (hk:k < n) (hj:j < 3):(madeCells #[Value.bool false,.slice none 0 0,.slice none 0 0] (n*3))[k*3+j]?=some (#[Value.bool false,.slice none 0 0,.slice none 0 0][j]!):=by
 have h1:k*3+j < n*3:=Z
 have h2:(k*3+j) % 3=j:=Z
 simp [madeCells,h1,h2]
end
section
def ZZ (W:World) (B:Nat) (cur:Array Value) (o:Nat) (r:RR):Prop:=∃ a1 c1 a2 c2,cur[o]?=some (.bool r.neg)∧cur[o+1]?=some (.slice a1 r.num.length c1)∧cur[o+2]?=some (.slice a2 r.den.length c2)∧
 cD B W (.slice a1 r.num.length c1) r.num∧cD B W (.slice a2 r.den.length c2) r.den
def fV (W:World) (B b n:Nat) (f:Nat→RR):Prop:=∃ cur,ag W b cur 25∧cur.size=n*3∧∀ j,j < n→ZZ W B cur (j*3) (f j)
theorem fV.lt {W:World} {B b n:Nat} {f:Nat→RR} (h:fV W B b n f):b < W.heap.size:=by obtain ⟨cur,h1,_⟩:=h;exact h1.lt
theorem fV.keeps {W W':World} {B C b n:Nat} {t:TypeId} {f:Nat→RR} (h:fV W B b n f) (k:Keeps C t W W') (ht:25≠t) (hu:157≠t):fV W' B b n f:=by
 obtain ⟨cur,h1,h2,h3⟩:=h;exact ⟨cur,h1.keeps k ht,h2,fun j hj=>by obtain ⟨a1,c1,a2,c2,e1,e2,e3,e4,e5⟩:=h3 j hj;exact ⟨a1,c1,a2,c2,e1,e2,e3,e4.keeps k hu,e5.keeps k hu⟩⟩
theorem fV.ext {W W':World} {B b n:Nat} {f:Nat→RR} (h:fV W B b n f) (x:Ext W W'):fV W' B b n f:=by
 obtain ⟨cur,h1,h2,h3⟩:=h;exact ⟨cur,h1.ext x,h2,fun j hj=>by obtain ⟨a1,c1,a2,c2,e1,e2,e3,e4,e5⟩:=h3 j hj;exact ⟨a1,c1,a2,c2,e1,e2,e3,e4.ext x,e5.ext x⟩⟩
theorem fV.congr {W:World} {B b n:Nat} {f g:Nat→RR} (h:fV W B b n f) (e:∀ k,k < n→f k=g k):fV W B b n g:=by
 obtain ⟨cur,h1,h2,h3⟩:=h;exact ⟨cur,h1,h2,fun j hj=>by rw [← e j hj];exact h3 j hj⟩
theorem fV.at {W:World} {B b n:Nat} {f:Nat→RR} (h:fV W B b n f) {j:Nat} (hj:j < n):∃ a1 c1 a2 c2,W.cell? ⟨b,j*3,none⟩=some (.bool (f j).neg)∧W.cell? ⟨b,j*3+1,none⟩=some (.slice a1 (f j).num.length c1)∧W.cell? ⟨b,j*3+2,none⟩=some (.slice a2 (f j).den.length c2)∧
  bh W (.agg #[.bool (f j).neg,.slice a1 (f j).num.length c1,.slice a2 (f j).den.length c2]) (f j):=by
 obtain ⟨cur,h1,h2,h3⟩:=h;obtain ⟨a1,c1,a2,c2,e1,e2,e3,e4,e5⟩:=h3 j hj;exact ⟨a1,c1,a2,c2,by rw [h1.cell];exact e1,by rw [h1.cell];exact e2,by rw [h1.cell];exact e3,_,_,rfl,e4.rd,e5.rd⟩
theorem fV.free {W:World} {B b n:Nat} {f:Nat→RR} (h:fV W B b n f):∀ o,W.frozen? ⟨b,o,none⟩=false:=by
 obtain ⟨cur,h1,_⟩:=h;exact h1.free
theorem ay {W:World} {b:Nat} {c:Array Value} {t:TypeId} (hb:ag W b c t) (o:Nat) (x:Value):Keeps b t W (W.setCell ⟨b,o,none⟩ x):=
 ⟨(Below.refl 0 W).setCell (Nat.zero_le _) x,fun i hi ho=>Below.heap_setCell W ⟨b,o,none⟩ x i (fun (e:i=b)=>by
  subst e;rcases ho with h1|⟨cur,u,h1,h2⟩
  ·omega
  ·unfold ag at hb h1;rw [hb] at h1;injection h1 with h1
   injection h1 with _ h3
   exact h2 h3.symm)⟩
theorem yX {W:World} {b:Nat} {c:Array Value} {t:TypeId} (hb:ag W b c t) (o:Nat) (x y z:Value):Keeps b t W (((W.setCell ⟨b,o,none⟩ x).setCell ⟨b,o+1,none⟩ y).setCell ⟨b,o+2,none⟩ z):=
 ((ay hb o x).trans (ay (hb.set _ _) (o+1) y)).trans (ay ((hb.set _ _).set _ _) (o+2) z)
theorem fV.set {W:World} {B b n:Nat} {f:Nat→RR} (h:fV W B b n f) {a:Nat} (ha:a < n) {r:RR} {a1:Option Addr} {c1:Nat} {a2:Option Addr} {c2:Nat} (s1:cD B W (.slice a1 r.num.length c1) r.num) (s2:cD B W (.slice a2 r.den.length c2) r.den) :
  fV (((W.setCell ⟨b,a*3,none⟩ (.bool r.neg)).setCell ⟨b,a*3+1,none⟩ (.slice a1 r.num.length c1)).setCell ⟨b,a*3+2,none⟩ (.slice a2 r.den.length c2)) B b n (fun k=>if k=a then r else f k):=by
 obtain ⟨cur,hc,hs,h3⟩:=h;have hk:=yX hc (a*3) (.bool r.neg) (.slice a1 r.num.length c1) (.slice a2 r.den.length c2);have b3:=((hc.set (a*3) (.bool r.neg)).set (a*3+1) (.slice a1 r.num.length c1)).set (a*3+2) (.slice a2 r.den.length c2);refine ⟨_,b3,by simp [hs],fun k hkn=>?_⟩;by_cases hka:k=a
 ·subst hka;simp only [if_pos];refine ⟨a1,c1,a2,c2,?_,?_,?_,s1.keeps hk ap,s2.keeps hk ap⟩
  ·rw [Array.getElem?_setIfInBounds_ne Z,Array.getElem?_setIfInBounds_ne Z,Array.getElem?_setIfInBounds_self_of_lt Z]
  ·rw [Array.getElem?_setIfInBounds_ne Z,Array.getElem?_setIfInBounds_self_of_lt qC]
  ·rw [Array.getElem?_setIfInBounds_self_of_lt qC]
 ·simp only [if_neg hka];obtain ⟨d1,e1,d2,e2,x1,x2,x3,x4,x5⟩:=h3 k hkn;refine ⟨d1,e1,d2,e2,?_,?_,?_,x4.keeps hk ap,x5.keeps hk ap⟩
  ·rw [Array.getElem?_setIfInBounds_ne Z,Array.getElem?_setIfInBounds_ne Z,Array.getElem?_setIfInBounds_ne Z];exact x1
  ·rw [Array.getElem?_setIfInBounds_ne Z,Array.getElem?_setIfInBounds_ne Z,Array.getElem?_setIfInBounds_ne Z];exact x2
  ·rw [Array.getElem?_setIfInBounds_ne Z,Array.getElem?_setIfInBounds_ne Z,Array.getElem?_setIfInBounds_ne Z];exact x3
theorem oK (B:Nat) (w:World):cD B w (.slice none 0 0) []:=⟨⟨none,0,rfl,Nat.le_refl _,by omega,fun i hi=>by cases hi⟩,.inl ⟨rfl,_,_,rfl⟩⟩
theorem fV.new {W:World} {B b n:Nat} (hb:ag W b (madeCells #[.bool false,.slice none 0 0,.slice none 0 0] (n*3)) 25):fV W B b n (fun _=>zR):=
 ⟨_,hb,by simp [madeCells],fun k hk=>⟨none,0,none,0,made3 n k 0 hk ap,made3 n k 1 hk ap,made3 n k 2 hk ap,oK _ _,oK _ _⟩⟩
theorem fV.own {W:World} {B b n:Nat} {f:Nat→RR} (h:fV W B b n f) (hB:B≤b) (hn:n≤9223372036854775807):bV B W (.slice (some ⟨b,0,none⟩) n n) ((List.range n).map f):=by
 obtain ⟨cur,hc,hs,h3⟩:=h;have hch:∀ k,k≤n→((List.range k).map fun j=>[cur.getD (j*3) undef,cur.getD (j*3+1) undef,cur.getD (j*3+2) undef]).flatten=cur.toList.take (k*3):=by
  intro k;induction k with
  | zero=>intro _;simp
  | succ k ih=>
   intro hk;have g:∀ j,j < cur.size→cur.toList[j]?=some (cur.getD j undef):=fun j hj=>by
    rw [Array.getElem?_toList,Array.getElem?_eq_getElem hj];simp [Array.getD,hj]
   have tk:∀ j,j < cur.size→cur.toList.take (j+1)=cur.toList.take j ++ [cur.getD j undef]:=fun j hj=>by
    rw [List.take_succ_eq_append_getElem Bu];congr 2
    simp [Array.getD,hj]
   rw [List.range_succ,List.map_append,List.flatten_append,ih Z,show (k+1)*3=k*3+1+1+1 by omega,tk _ Z,tk _ Z,tk _ Z];simp
 refine ⟨(List.range n).map fun j=>[cur.getD (j*3) undef,cur.getD (j*3+1) undef,cur.getD (j*3+2) undef],⟨by simp only [List.length_map,List.length_range];rw [hch n (Nat.le_refl _),List.length_take];simp [hs],.inr ⟨b,n,cur,by simp,hB,hc,by simp,by unfold maxLen;omega,hs,?_⟩⟩,by simp,?_,?_⟩
 ·rw [hch n (Nat.le_refl _)];simp
 ·intro h hh;obtain ⟨j,_,rfl⟩:=List.mem_map.1 hh;rfl
 ·intro i x hi;rw [List.getElem?_map] at hi;by_cases hin:i < n
  ·rw [List.getElem?_range hin] at hi;injection hi with hi
   obtain ⟨a1,c1,a2,c2,e1,e2,e3,e4,e5⟩:=h3 i hin;rw [hi] at e1 e2 e3 e4 e5;refine ⟨_,by rw [List.getElem?_map,List.getElem?_range hin];rfl,a1,c1,a2,c2,?_,e4,e5⟩;have d:∀ j v,cur[j]?=some v→cur.getD j undef=v:=fun j v h=>by rw [Array.getD_eq_getD_getElem?,h];rfl
   show [cur.getD (i*3) undef,cur.getD (i*3+1) undef,cur.getD (i*3+2) undef]=_;rw [d _ _ e1,d _ _ e2,d _ _ e3]
  ·rw [List.getElem?_eq_none qC] at hi;cases hi
def bG (f:Nat→Int):Nat→Int
 | 0=>0
 | n+1=>if bG f n≠0 then bG f n else f n
theorem bH {f:Nat→Int}:∀ {n:Nat},(∀ i,i < n→f i=0)→bG f n=0
 | 0,_=>rfl
 | n+1,h=>by
  unfold bG;rw [bH (n:=n) (fun i hi=>h i Z),if_neg (fun h=>h rfl)];exact h n Z
theorem bK {f:Nat→Int}:∀ {n:Nat},bG f n=0→∀ i,i < n→f i=0
 | 0,_,i,hi=>by omega
 | n+1,h,i,hi=>by
  unfold bG at h;by_cases h0:bG f n=0
  ·rw [h0,if_neg (fun h=>h rfl)] at h;by_cases e:i=n
   ·subst e;exact h
   ·exact bK h0 i Z
  ·rw [if_pos h0] at h;exact absurd h h0
theorem dF {f:Nat→Int} {k:Nat} (h0:∀ i,i < k→f i=0) (hk:f k≠0):∀ {n:Nat},k < n→bG f n=f k
 | 0,h=>by omega
 | n+1,h=>by
  unfold bG;by_cases e:k=n
  ·subst e;rw [bH h0,if_neg (fun h=>h rfl)]
  ·rw [dF h0 hk (n:=n) Z,if_pos hk]
abbrev Out:=Int × RR
def dO:Out:=(0,zR)
structure bg where
 cost:RR
 next:List Out
def dA:bg:=⟨zR,[]⟩
structure MD where
 ah:RR
 states:List (List bg)
def ej (n:Nat) (l:List Out) (i:Nat):Int:=
 if (l.getD i dO).1 < 0∨(n:Int)≤(l.getD i dO).1 then 8
 else if 0 < i∧(l.getD i dO).1≤(l.getD (i - 1) dO).1 then 16
 else if aA (l.getD i dO).2≠0 then aA (l.getD i dO).2
 else if (l.getD i dO).2.neg=true∨(l.getD i dO).2.num=[] then 1 else 0
def fj (l:List Out):List RR:=l.map (·.2)
def eW (n:Nat) (x:bg):Int:=
 if aA x.cost≠0 then aA x.cost
 else if x.next.length=0 then 3
 else if 64 < x.next.length then 4
 else if bG (ej n x.next) x.next.length≠0 then bG (ej n x.next) x.next.length
 else if (cZ zR (fj x.next)).2≠0 then (cZ zR (fj x.next)).2
 else if (cZ zR (fj x.next)).1=rep 1 then 0 else 2
def tc (n:Nat) (ac:List bg):Int:=
 if ac.length=0 then 3 else if 6 < ac.length then 4 else bG (fun a=>eW n (ac.getD a dA)) ac.length
def fs (m:MD):Int:=
 if aA m.ah≠0 then aA m.ah
 else if m.ah.neg=true∨1 < qv m.ah then 1
 else if m.states.length=0 then 3
 else if 200 < m.states.length then 4
 else bG (fun s=>tc m.states.length (m.states.getD s [])) m.states.length
def gJ (m:MD) (v:List RR):Int:=if fs m≠0 then fs m else if v.length≠m.states.length then 16 else 0
def jA (v:List RR) (l:List Out):List RR:=l.map fun o=>v.getD o.1.toNat zR
def aU (m:MD) (v:List RR) (x:bg):RR × Int:=
 if (gA (fj x.next) (jA v x.next)).2≠0 then (zR,(gA (fj x.next) (jA v x.next)).2)
 else if (mulR m.ah (gA (fj x.next) (jA v x.next)).1).2≠0 then (zR,(mulR m.ah (gA (fj x.next) (jA v x.next)).1).2)
 else cz x.cost (mulR m.ah (gA (fj x.next) (jA v x.next)).1).1
def MD.act (m:MD) (s a:Nat):bg:=(m.states.getD s []).getD a dA
def dW (m:MD) (v:List RR) (ac:List bg):List RR:=ac.map fun x=>(aU m v x).1
def qN (m:MD) (v:List RR) (ac:List bg):Int:=bG (fun a=>(aU m v (ac.getD a dA)).2) ac.length
def it (l:List RR):Nat→Nat
 | 0=>0
 | k+1=>if qv (l.getD k zR) < qv (l.getD (it l k) zR) then k else it l k
def jB (l:List RR):Nat:=it l l.length
def FM (m:MD) (v:List RR):Int:=bG (fun s=>qN m v (m.states.getD s [])) m.states.length
def nK (m:MD) (v:List RR):List Int:=m.states.map fun ac=>(jB (dW m v ac):Int)
def nL (m:MD) (v:List RR):List RR:=m.states.map fun ac=>(dW m v ac).getD (jB (dW m v ac)) zR
def am (m:MD) (v:List RR):List RR × List Int × Int:=
 if gJ m v≠0 then ([],[],gJ m v) else if FM m v≠0 then ([],[],FM m v) else (nL m v,nK m v,0)
def jC (m:MD) (p:List Int) (s:Nat):Int:=if p.getD s 0 < 0∨((m.states.getD s []).length:Int)≤p.getD s 0 then 8 else 0
def FN (m:MD) (p:List Int) (v:List RR) (s:Nat):Int:=
 if jC m p s≠0 then jC m p s else (aU m v (m.act s (p.getD s 0).toNat)).2
def Cu (m:MD) (p:List Int) (v:List RR):List RR:=(List.range p.length).map fun s=>(aU m v (m.act s (p.getD s 0).toNat)).1
def m5 (m:MD) (p:List Int) (v:List RR):List RR × Int:=
 if gJ m v≠0 then ([],gJ m v) else if p.length≠m.states.length then ([],16)
 else if bG (FN m p v) p.length≠0 then ([],bG (FN m p v) p.length) else (Cu m p v,0)
def aP (m:MD) (v:List RR):Nat→List RR
 | 0=>v
 | j+1=>(am m (aP m v j)).1
def kv (m:MD) (v:List RR) (k:Nat):Int:=bG (fun j=>(am m (aP m v j)).2.2) k
def bE (m:MD) (v:List RR) (k:Int):List (List RR) × List (List Int) × Int:=
 if gJ m v≠0 then ([],[],gJ m v) else if k < 0∨24 < k then ([],[],1)
 else if kv m v k.toNat≠0 then ([],[],kv m v k.toNat)
 else ((List.range (k.toNat+1)).map (aP m v),(List.range k.toNat).map (fun j=>(am m (aP m v j)).2.1),0)
def uW (w:World) (b o:Nat) (r:RR) (a1:Option Addr) (c1:Nat) (a2:Option Addr) (c2:Nat):Prop:=
 b < w.heap.size∧w.cell? ⟨b,o,none⟩=some (.bool r.neg)∧w.cell? ⟨b,o+1,none⟩=some (.slice a1 r.num.length c1)∧w.cell? ⟨b,o+2,none⟩=some (.slice a2 r.den.length c2)∧bh w (.agg #[.bool r.neg,.slice a1 r.num.length c1,.slice a2 r.den.length c2]) r
theorem uW.ext {w w':World} {b o:Nat} {r:RR} {a1:Option Addr} {c1:Nat} {a2:Option Addr} {c2:Nat} (h:uW w b o r a1 c1 a2 c2) (x:Ext w w'):uW w' b o r a1 c1 a2 c2:=
 ⟨Nat.lt_of_lt_of_le h.1 x.size,(x.cell (p:=⟨b,o,none⟩) h.1).trans h.2.1,(x.cell (p:=⟨b,o+1,none⟩) h.1).trans h.2.2.1,(x.cell (p:=⟨b,o+2,none⟩) h.1).trans h.2.2.2.1,h.2.2.2.2.ext x⟩
theorem cH.at {w:World} {a:Option Addr} {n c:Nat} {l:List RR} (h:cH w (.slice a n c) l) {i:Nat} (hi:i < l.length):∃ b off a1 c1 a2 c2,a=some ⟨b,off,none⟩∧uW w b (off+i*3) (l.getD i zR) a1 c1 a2 c2:=by
 obtain ⟨a',cap,e,_,_,f,hr⟩:=h.get;injection e with e1 _ _
 subst e1;obtain ⟨b,off,e1,hb,x0,x1,x2,hrd⟩:=hr i hi;exact ⟨b,off,_,_,_,_,e1,hb,x0,x1,x2,hrd⟩
theorem yY {w:World} {a:Option Addr} {n cap:Nat} {l:List Int} (h:bj .i64 w (.slice a n cap) l) {i:Nat} (hi:i < l.length):∃ b off,a=some ⟨b,off,none⟩∧b < w.heap.size∧w.cell? ⟨b,off+i,none⟩=some (.int .i64 (l.getD i 0)):=by
 obtain ⟨a',cap',e,_,_,h3⟩:=h.get;injection e with e1 _ _
 subst e1;obtain ⟨b,off,e1,e2,e3⟩:=h3 i hi;exact ⟨b,off,e1,e2,e3⟩
def rM (w:World) (b o:Nat) (y:Out) (a1:Option Addr) (c1:Nat) (a2:Option Addr) (c2:Nat):Prop:=
 b < w.heap.size∧w.cell? ⟨b,o,none⟩=some (.int .i64 y.1)∧w.cell? ⟨b,o+1,none⟩=some (.bool y.2.neg)∧w.cell? ⟨b,o+2,none⟩=some (.slice a1 y.2.num.length c1)∧w.cell? ⟨b,o+3,none⟩=some (.slice a2 y.2.den.length c2)∧bh w (.agg #[.bool y.2.neg,.slice a1 y.2.num.length c1,.slice a2 y.2.den.length c2]) y.2
theorem rM.ext {w w':World} {b o:Nat} {y:Out} {a1:Option Addr} {c1:Nat} {a2:Option Addr} {c2:Nat} (h:rM w b o y a1 c1 a2 c2) (x:Ext w w'):rM w' b o y a1 c1 a2 c2:=
 ⟨Nat.lt_of_lt_of_le h.1 x.size,(x.cell (p:=⟨b,o,none⟩) h.1).trans h.2.1,(x.cell (p:=⟨b,o+1,none⟩) h.1).trans h.2.2.1,(x.cell (p:=⟨b,o+2,none⟩) h.1).trans h.2.2.2.1,(x.cell (p:=⟨b,o+3,none⟩) h.1).trans h.2.2.2.2.1,h.2.2.2.2.2.ext x⟩
def fx (w:World) (v:Value) (l:List Out):Prop:=∃ a cap,v=.slice a l.length cap∧l.length≤cap∧cap≤9223372036854775807∧
 ∀ i,i < l.length→∃ b off a1 c1 a2 c2,a=some ⟨b,off,none⟩∧rM w b (off+i*4) (l.getD i dO) a1 c1 a2 c2
theorem fx.ext {w w':World} {v:Value} {l:List Out} (h:fx w v l) (x:Ext w w'):fx w' v l:=by
 obtain ⟨a,cap,e,h1,h2,h3⟩:=h;refine ⟨a,cap,e,h1,h2,fun i hi=>?_⟩;obtain ⟨b,off,a1,c1,a2,c2,e1,e2⟩:=h3 i hi;exact ⟨b,off,a1,c1,a2,c2,e1,e2.ext x⟩
theorem fx.at {w:World} {a:Option Addr} {n c:Nat} {l:List Out} (h:fx w (.slice a n c) l) {i:Nat} (hi:i < l.length):∃ b off a1 c1 a2 c2,a=some ⟨b,off,none⟩∧rM w b (off+i*4) (l.getD i dO) a1 c1 a2 c2:=by
 obtain ⟨a',cap,e,_,_,hr⟩:=h;injection e with e1 _ _
 subst e1;exact hr i hi
theorem fx.shape {w:World} {v:Value} {l:List Out} (h:fx w v l):∃ a cap,v=.slice a l.length cap∧l.length≤9223372036854775807:=by obtain ⟨a,cap,h,h1,h2,_⟩:=h;exact ⟨a,cap,h,Nat.le_trans h1 h2⟩
def iu (w:World) (v:Value) (x:bg):Prop:=∃ a1 c1 a2 c2 a3 c3,v=.agg #[.bool x.cost.neg,.slice a1 x.cost.num.length c1,.slice a2 x.cost.den.length c2,.slice a3 x.next.length c3]∧bh w (.agg #[.bool x.cost.neg,.slice a1 x.cost.num.length c1,.slice a2 x.cost.den.length c2]) x.cost∧fx w (.slice a3 x.next.length c3) x.next
theorem iu.ext {w w':World} {v:Value} {x:bg} (h:iu w v x) (e:Ext w w'):iu w' v x:=by
 obtain ⟨a1,c1,a2,c2,a3,c3,e1,e2,e3⟩:=h;exact ⟨a1,c1,a2,c2,a3,c3,e1,e2.ext e,e3.ext e⟩
def nM (w:World) (b o:Nat) (x:bg) (a1:Option Addr) (c1:Nat) (a2:Option Addr) (c2:Nat) (a3:Option Addr) (c3:Nat):Prop:=
 uW w b o x.cost a1 c1 a2 c2∧w.cell? ⟨b,o+3,none⟩=some (.slice a3 x.next.length c3)∧fx w (.slice a3 x.next.length c3) x.next
theorem nM.ext {w w':World} {b o:Nat} {x:bg} {a1:Option Addr} {c1:Nat} {a2:Option Addr} {c2:Nat} {a3:Option Addr} {c3:Nat} (h:nM w b o x a1 c1 a2 c2 a3 c3) (e:Ext w w'):nM w' b o x a1 c1 a2 c2 a3 c3:=
 ⟨h.1.ext e,(e.cell (p:=⟨b,o+3,none⟩) h.1.1).trans h.2.1,h.2.2.ext e⟩
theorem nM.rd {w:World} {b o:Nat} {x:bg} {a1:Option Addr} {c1:Nat} {a2:Option Addr} {c2:Nat} {a3:Option Addr} {c3:Nat} (h:nM w b o x a1 c1 a2 c2 a3 c3) :
  iu w (.agg #[.bool x.cost.neg,.slice a1 x.cost.num.length c1,.slice a2 x.cost.den.length c2,.slice a3 x.next.length c3]) x:=⟨_,_,_,_,_,_,rfl,h.1.2.2.2.2,h.2.2⟩
def iL (w:World) (v:Value) (l:List bg):Prop:=∃ a cap,v=.slice a l.length cap∧l.length≤cap∧cap≤9223372036854775807∧
 ∀ i,i < l.length→∃ b off a1 c1 a2 c2 a3 c3,a=some ⟨b,off,none⟩∧nM w b (off+i*4) (l.getD i dA) a1 c1 a2 c2 a3 c3
theorem iL.ext {w w':World} {v:Value} {l:List bg} (h:iL w v l) (x:Ext w w'):iL w' v l:=by
 obtain ⟨a,cap,e,h1,h2,h3⟩:=h;refine ⟨a,cap,e,h1,h2,fun i hi=>?_⟩;obtain ⟨b,off,a1,c1,a2,c2,a3,c3,e1,e2⟩:=h3 i hi;exact ⟨b,off,a1,c1,a2,c2,a3,c3,e1,e2.ext x⟩
theorem iL.at {w:World} {a:Option Addr} {n c:Nat} {l:List bg} (h:iL w (.slice a n c) l) {i:Nat} (hi:i < l.length):∃ b off a1 c1 a2 c2 a3 c3,a=some ⟨b,off,none⟩∧nM w b (off+i*4) (l.getD i dA) a1 c1 a2 c2 a3 c3:=by
 obtain ⟨a',cap,e,_,_,hr⟩:=h;injection e with e1 _ _
 subst e1;exact hr i hi
theorem iL.shape {w:World} {v:Value} {l:List bg} (h:iL w v l):∃ a cap,v=.slice a l.length cap∧l.length≤9223372036854775807:=by obtain ⟨a,cap,h,h1,h2,_⟩:=h;exact ⟨a,cap,h,Nat.le_trans h1 h2⟩
def Ag (w:World) (b o:Nat) (ac:List bg) (a1:Option Addr) (c1:Nat):Prop:=b < w.heap.size∧w.cell? ⟨b,o,none⟩=some (.slice a1 ac.length c1)∧iL w (.slice a1 ac.length c1) ac
theorem Ag.ext {w w':World} {b o:Nat} {ac:List bg} {a1:Option Addr} {c1:Nat} (h:Ag w b o ac a1 c1) (e:Ext w w'):Ag w' b o ac a1 c1:=
 ⟨Nat.lt_of_lt_of_le h.1 e.size,(e.cell (p:=⟨b,o,none⟩) h.1).trans h.2.1,h.2.2.ext e⟩
def oh (w:World) (v:Value) (l:List (List bg)):Prop:=∃ a cap,v=.slice a l.length cap∧l.length≤cap∧cap≤9223372036854775807∧
 ∀ i,i < l.length→∃ b off a1 c1,a=some ⟨b,off,none⟩∧Ag w b (off+i) (l.getD i []) a1 c1
theorem oh.ext {w w':World} {v:Value} {l:List (List bg)} (h:oh w v l) (x:Ext w w'):oh w' v l:=by
 obtain ⟨a,cap,e,h1,h2,h3⟩:=h;refine ⟨a,cap,e,h1,h2,fun i hi=>?_⟩;obtain ⟨b,off,a1,c1,e1,e2⟩:=h3 i hi;exact ⟨b,off,a1,c1,e1,e2.ext x⟩
theorem oh.at {w:World} {a:Option Addr} {n c:Nat} {l:List (List bg)} (h:oh w (.slice a n c) l) {i:Nat} (hi:i < l.length):∃ b off a1 c1,a=some ⟨b,off,none⟩∧Ag w b (off+i) (l.getD i []) a1 c1:=by
 obtain ⟨a',cap,e,_,_,hr⟩:=h;injection e with e1 _ _
 subst e1;exact hr i hi
theorem oh.shape {w:World} {v:Value} {l:List (List bg)} (h:oh w v l):∃ a cap,v=.slice a l.length cap∧l.length≤9223372036854775807:=by obtain ⟨a,cap,h,h1,h2,_⟩:=h;exact ⟨a,cap,h,Nat.le_trans h1 h2⟩
def eY (w:World) (v:Value) (m:MD):Prop:=∃ a1 c1 a2 c2 a3 c3,v=.agg #[.bool m.ah.neg,.slice a1 m.ah.num.length c1,.slice a2 m.ah.den.length c2,.slice a3 m.states.length c3]∧bh w (.agg #[.bool m.ah.neg,.slice a1 m.ah.num.length c1,.slice a2 m.ah.den.length c2]) m.ah∧oh w (.slice a3 m.states.length c3) m.states
theorem eY.ext {w w':World} {v:Value} {m:MD} (h:eY w v m) (e:Ext w w'):eY w' v m:=by
 obtain ⟨a1,c1,a2,c2,a3,c3,e1,e2,e3⟩:=h;exact ⟨a1,c1,a2,c2,a3,c3,e1,e2.ext e,e3.ext e⟩
def qO (x:bg):Prop:=aC x.cost∧∀ i,aC (x.next.getD i dO).2
def iY (m:MD):Prop:=aC m.ah∧∀ s a,qO (m.act s a)
section
variable {P:Program} {l:List Oper} {n:Nat} {Q:Exit→Act→World→Prop} {J:Nat→Value→World→Prop}
def rN (P:Program) (l:List Oper) (n:Nat) (J:Nat→Value→World→Prop) (a0:Act) (w:World) (j:Nat) (o:Oper):Prop:=
 ∀ (a:Act) (W:World),Ext w W→(∀ i,(fills (l.take n)).contains i=false→a.tmps.getD i undef=a0.tmps.getD i undef)→
  (∀ (e:Nat) (oe:Oper) (d:Tmp),l[e]?=some oe→oe.dst=some d→((waits o).contains e && decide (e < n))=true→J e (a.tmps.getD d undef) W)→
  ∃ v,(∀ w',(execOp a.eval o).run P w'=.ok (.value v) w')∧J j v W
def pC (l:List Oper) (n f:Nat):Bool:=
 decide (n < l.length) && (decide (f < n) && (Region.noSelect l.toArray && (lS .any l.toArray f 1 n && (Region.seqB .any l.toArray (l.length - n) n (dE n l.length) && (fI 0 (l.take n) [] &&
  ((List.range l.length).all fun j=>decide (j < n) || match l[f]?,l[j]? with
   | some o,some oj=>o.guard.isNone && (o.apart l.toArray oj || oj.after.any fun e=>Region.binds .any e && e.on == f)
   | _,_=>false))))))
theorem uX {a0:Act} {w:World} {g f:Nat} {o9:Oper} (hn:n≤l.length) (hfn:f < n) (hof:l[f]?=some o9) (Ty:o9.guard=none) (hsel:Region.noSelect l.toArray=true) (hQ:∀ c (a:Act) d v w,Q (.panic c) (a.put d v) w→Q (.panic c) a w)
  (hB:fI 0 (l.take n) []=true) (hR:∀ d ∈ fills (l.take n),d < a0.tmps.size) (hJ:∀ j v W W',J j v W→Ext W W'→J j v W') (hS:cX P l n Q J a0 w 0 (l.take n))
  (hap:∀ j oj,l[j]?=some oj→n≤j→(∀ e ∈ oj.after,Region.binds .any e=true→e.on≠f)→o9.apart l.toArray oj=true)
  (hF:rN P l n J a0 w f o9)
  (pA:∀ listed,HeadInv .any l.toArray n listed→∀ i,i < n→i≠f→listed.getD i true=false→∀ j ∈ Region.ready .any l.toArray listed,j < n)
  (hfin:∀ listed a W,bW l n J a0 w listed a W→(∀ j,j < n→listed.getD j false=true)→wpAny P .any l.toArray Q g listed a W):∀ (k:Nat) (listed:Array Bool) (a:Act) (W:World),(still n listed).length=k→bW l n J a0 w listed a W→wpAny P .any l.toArray Q (k+g) listed a W:=by
 intro k;induction k with
 | zero=>
  intro listed a W hf inv;rw [Nat.zero_add];refine hfin listed a W inv (dD hn hB Bm fun j hj hm=>?_);have h1:=(mem_ready.1 hm).1;have h3:j ∈ still n listed:=List.mem_filter.2 ⟨List.mem_range.2 hj,by rw [h1];rfl⟩;rw [List.length_eq_zero_iff.1 hf] at h3;cases h3
 | succ k ih=>
  intro listed a W hf inv;rw [show k+1+g=(k+g)+1 by omega];by_cases hex:∃ i,i < n∧i≠f∧listed.getD i true=false
  ·obtain ⟨i,hi,hif,hiu⟩:=hex;refine ⟨fun hr=>?_,fun j hj=>?_⟩
   ·exfalso
    have:=dD hn hB Bm (fun j _ hm=>by rw [hr] at hm;cases hm) i hi;rw [getD_both hiu] at this;cases this
   ·have hjn:=pA listed inv.head i hi hif hiu j hj;obtain ⟨h1,o,h2,h3⟩:=mem_ready.1 hj;have h2':l[j]?=some o:=by simpa using h2
    have hst:=cX.get (l.take n) 0 hS j o Nd;rw [Nat.zero_add] at hst;refine wpOp_step h2 fun K' hK=>hst a W inv.ext inv.base (fun e oe d he hd hwt=>?_) K' fun v W' hx hv=>hK _ _ (ih _ _ _ ?_ (inv.step hB hR hJ hjn h2' hj hx hv))
    ·simp only [Bool.and_eq_true,decide_eq_true_eq] at hwt;obtain ⟨eg,k1,k2,k3⟩:=jr Ng;exact inv.done e oe d Nc hd QY
    ·have:=iq hjn Mg h1;omega
  ·have hall:∀ i,i < n→i≠f→listed.getD i false=true:=fun i hi hif=>by
    refine Classical.byContradiction fun hc=>hex ⟨i,hi,hif,getD_in Mg (by simpa using hc)⟩
   obtain ⟨i,hi,hiu⟩:∃ i,i < n∧listed.getD i true=false:=by
    have hne:still n listed≠[]:=fun e=>by rw [e] at hf;cases hf
    obtain ⟨i,hi⟩:=List.exists_mem_of_ne_nil _ hne;obtain ⟨h1,h2⟩:=List.mem_filter.1 hi;exact ⟨i,List.mem_range.1 h1,by simpa using h2⟩
   obtain rfl:i=f:=Classical.byContradiction fun hc=>by
    have:=hall i hi hc;rw [getD_both hiu] at this;cases this
   have hwf:∀ e ∈ o9.after,Region.binds .any e=true→e.on < i:=fun e he hb=>(gx (l.take n) 0 [] hB).1 i o9 (by rw [je hi];exact hof) e.on (uT he hb) |> fun h=>by omega
   have Cv:i ∈ Region.ready .any l.toArray listed:=mem_ready.2 ⟨hiu,o9,by simpa using hof,fun e he hb=>by
    have:=hwf e he hb;exact hall e.on Z Z⟩
   obtain ⟨v,hy,hv⟩:=hF a W inv.ext inv.base (fun e oe d he hd hwt=>by
    simp only [Bool.and_eq_true,decide_eq_true_eq] at hwt;obtain ⟨eg,k1,k2,k3⟩:=jr Ng;have:=hwf eg k1 k2;exact inv.done e oe d Nc hd (by rw [← k3];exact hall eg.on Z Z))
   refine wpAny_first (oi:=o9) (v:=v) (by simpa using hof) (Region.noSelect_spec hsel) (fun c a w'=>hQ c a _ _ w') (k+g) listed a W (fun j oj hj hji Z3 hje=>?_) Cv (.inl ⟨aO Ty,hy⟩) (ih _ _ _ ?_ (inv.step hB hR hJ hi hof Cv (Ext.refl _) hv))
   ·refine hap j oj Bu (Nat.le_of_not_lt fun hlt=>?_) hje;have:=hall j hlt hji;rw [getD_both Z3] at this;cases this
   ·have:=iq hi Mg hiu;omega
theorem dG {id:Nat} {a0:Act} {w:World} (n f:Nat) (J:Nat→Value→World→Prop) {o9:Oper} (hof:l[f]?=some o9) (hm:P.follows .mixedOrders=true) (hT:pC l n f=true) (hR0:(fills (l.take n)).all (fun d=>decide (d < a0.tmps.size))=true) (hJ:∀ j v W W',J j v W→Ext W W'→J j v W')
  (hQ:∀ c (a:Act) d v w,Q (.panic c) (a.put d v) w→Q (.panic c) a w)
  (hS:cX P l n Q J a0 w 0 (l.take n)) (hF:rN P l n J a0 w f o9) (hend:∀ W,Ext w W→cW J W (fun a=>wpList P l.toArray Q (l.drop n) a W) 0 (l.take n) a0):(Code.region id l.toArray true).wp P Q a0 w:=by
 have hR:∀ d ∈ fills (l.take n),d < a0.tmps.size:=fun d hd=>by simpa using List.all_eq_true.1 hR0 d hd
 simp only [pC,Bool.and_eq_true,decide_eq_true_eq] at hT;obtain ⟨hn,hfn,hsel,hh,hq,hB,hap⟩:=hT;have Ok:∀ j oj,l[j]?=some oj→n≤j→o9.guard=none∧((∀ e ∈ oj.after,Region.binds .any e=true→e.on≠f)→o9.apart l.toArray oj=true):=fun j oj hj Xa=>by
  have hjl:j < l.length:=(List.getElem?_eq_some_iff.1 hj).1;have h1:=List.all_eq_true.1 hap j (List.mem_range.2 hjl);simp only [hof,hj,Bool.or_eq_true,decide_eq_true_eq,Bool.and_eq_true] at h1;rcases h1 with h1|⟨h0,h1⟩
  ·omega
  ·refine ⟨by simpa using h0,fun hje=>?_⟩;rcases h1 with h1|h1
   ·exact h1
   ·obtain ⟨e,he,h2⟩:=Array.any_eq_true'.1 h1;simp only [Bool.and_eq_true,beq_iff_eq] at h2;exact absurd h2.2 (hje e he h2.1)
 have Ty:o9.guard=none:=(Ok n l[n] (List.getElem?_eq_getElem hn) (Nat.le_refl _)).1;have h:=uX (P:=P) (l:=l) (n:=n) (Q:=Q) (J:=J) (a0:=a0) (w:=w) (g:=l.length - n) Z hfn hof Ty hsel hQ hB hR hJ hS (fun j oj hj Xa hje=>(Ok j oj hj Xa).2 hje) hF
  (fun listed hi i hin hif hun j hj=>Nat.lt_of_not_le fun hge=>nu hh hi (i:=i) (by simp [gj];omega) hin hun j hge hj)
  (fun listed a W inv hall=>by
   have he:=gP (l:=l) Z Bm hall (fun t h1 h2=>inv.head.tail t h1 yB);subst he;have:=wpAny_of_seq (md:=.any) (Q':=Q) (l.drop n) n (dE n l.length) a W (fun j=>by simp [List.getElem?_drop]) QX (inv.fin (G:=fun a=>wpList P l.toArray Q (l.drop n) a W) Z hall (hend W inv.ext));rwa [List.length_drop] at this) n _ _ _ (er Z) (bW.start a0 w)
 rw [show n+(l.length - n)=l.toArray.size by simp;omega] at h;exact wp_region_any hm h
end
theorem iM {P:Program} {a:Act} {t i:Nat} {v:Value} {vs:Array Value} (h:a.tmps.getD t undef=.tuple vs) (hv:vs[i]?=some v) {o:Oper} (ho:o.op=.extract (.tmp t) i) (w:World):(execOp a.eval o).run P w=.ok (.value v) w:=by
 have h1:a.eval (.tmp t)=.tuple vs:=h;simp [execOp,ho,h1,Instr.extract,hv,Result.andThen,pure,Sem.run]
end
theorem ij {w:World} {ops:Array Oper} {rest:List Oper} {o:Oper} {a:Act} {Q:Exit→Act→World→Prop} {t e:TypeId} {z:Value} {k bytes:Nat}
  (hg:o.guard=none) (l c:Operand) (hop:o.op=Op.makeSlice t l c) (n:Nat) (hl:a.eval l=.int .i64 (n:Int)) (hc:a.eval c=.int .i64 (n:Int)) (ht:Tryz.prog.underlying t=some (.slice e)) (hinfo:(Tryz.prog.info? e).map (fun i=>(i.zero,i.size,i.bytes))=some (some z,k,bytes)) (hn:bytes*n≤1000000000000) (hn2:n≤1000000000)
  (C:Array Value) (hC:madeCells z.cells (n*k)=C) (hK:wpList Tryz.prog ops Q rest (a.put o.dst (.slice (some ⟨w.heap.size,0,none⟩) n n)) (w.alloc (.cells C e))):wpList Tryz.prog ops Q (o :: rest) a w:=by
 have hr:=pB w n ht hinfo hn hn2;rw [hC] at hr;refine wpList_plain hg fun K hK'=>?_;unfold Oper.wp;simp only [execOp,hop,hl,hc];simp [hr,Result.andThen];exact hK' _ _ hK
theorem xK {α:Type} (l:List α) (d:α):(List.range l.length).map (fun j=>l.getD j d)=l:=by
 apply List.ext_getElem
 ·simp
 ·intro i h1 h2;simp [List.getD_eq_getElem?_getD,h2]
def Tz (ov:Value) (k Y:Nat) (r:RR) (p1 p2:Option Addr) (d1 d2:Nat) (wB:World) (j:Nat) (v:Value) (W:World):Prop:=
 match j with
 | 0=>v=ov
 | 1=>v=.int .i64 (k:Nat)
 | 2=>v=.pointer (some ⟨Y,0,none⟩)
 | 3=>v=.bool r.neg
 | 4=>v=.pointer (some ⟨Y,1,none⟩)
 | 5=>v=.slice p1 r.num.length d1
 | 6=>∃ a9 c9,v=.slice a9 r.num.length c9∧bM wB W (.slice a9 r.num.length c9) r.num
 | 7=>v=.pointer (some ⟨Y,2,none⟩)
 | 8=>v=.slice p2 r.den.length d2
 | 9=>∃ a9 c9,v=.slice a9 r.den.length c9∧bM wB W (.slice a9 r.den.length c9) r.den
 | 10=>∃ a1 c1 a2 c2,v=.agg #[.bool r.neg,.slice a1 r.num.length c1,.slice a2 r.den.length c2]∧bM wB W (.slice a1 r.num.length c1) r.num∧bM wB W (.slice a2 r.den.length c2) r.den
 | _=>True
theorem FP {ov:Value} {k Y:Nat} {r:RR} {p1 p2:Option Addr} {d1 d2:Nat} {wB:World} {j:Nat} {v:Value} {W W':World} (h:Tz ov k Y r p1 p2 d1 d2 wB j v W) (x:Ext W W'):Tz ov k Y r p1 p2 d1 d2 wB j v W':=by
 match j,h with
 | 0,h=>exact h
 | 1,h=>exact h
 | 2,h=>exact h
 | 3,h=>exact h
 | 4,h=>exact h
 | 5,h=>exact h
 | 6,⟨a9,c9,h1,h2⟩=>exact ⟨a9,c9,h1,h2.ext x⟩
 | 7,h=>exact h
 | 8,h=>exact h
 | 9,⟨a9,c9,h1,h2⟩=>exact ⟨a9,c9,h1,h2.ext x⟩
 | 10,⟨a1,c1,a2,c2,h1,h2,h3⟩=>exact ⟨a1,c1,a2,c2,h1,h2.ext x,h3.ext x⟩
 | _+11,_=>trivial
theorem yZ (v:Value) (l:List RR) (w:World) (h:cH w v l) (hn:l.length≤1000000) (hs:∀ i,i < l.length→(l.getD i zR).num.length≤1000000∧(l.getD i zR).den.length≤1000000) :
  Calls Tryz.prog 133 #[v] w fun e w'=>(∃ v',e=.returned v'∧bV w.heap.size w' v' l)∧Ext w w':=by
 have HV:=kI h;have Bq:=kI h;have HS:=kI hs;have HN:=kI hn;obtain ⟨av,cv,rfl,zX,hvm,fv,hvf⟩:=h.get;have hvl:l.length≤9223372036854775807:=Z
 have hb0:=fV.new (B:=w.heap.size) (n:=l.length) (ag.new w (madeCells #[.bool false,.slice none 0 0,.slice none 0 0] (l.length*3)) 25);have hx0:Ext w (w.alloc (.cells (madeCells #[.bool false,.slice none 0 0,.slice none 0 0] (l.length*3)) 25)):=(Ext.refl w).alloc _;obtain ⟨CC,xL⟩:=gN (madeCells #[Value.bool false,.slice none 0 0,.slice none 0 0] (l.length*3));rw [← xL] at hb0 hx0;have oJ:=kI xL;clear h hs zX hvm hvf fv xL;go_enter Tryz.func133,Tryz.ntmps133
 go_wp2_with (at_make;(refine ij rfl _ _ rfl l.length rfl rfl Tryz.underlying29 Tryz.fH Z Z CC (by exact oJ.o.symm) ?_))
 obtain ⟨wl,hwl⟩:=gN (w.alloc (.cells CC 25));rw [← hwl] at hb0 hx0 ⊢;obtain ⟨bn,hbn⟩:=gN (w.heap.size);rw [← hbn] at hb0 ⊢;have BN:=kI hbn;replace HV:=kI (HV.o.ext hx0);have F0:=kI (hb0.congr (g:=fun j=>if j < 0 then l.getD j zR else zR) (fun j hj=>rfl));have X:=kI hx0;clear hb0 hx0 hwl hbn oJ;have XL:=kI X.o.size;go_loopw [11] (fun i wr=>∃ k:Nat,k≤l.length∧i=.int .i64 k∧fV wr bn bn l.length (fun j=>if j < k then l.getD j zR else zR)∧Ext w wr∧cH wr (.slice av l.length cv) l) (fun i _=>l.length - (intOf i).toNat)
 case atStart=>exact ⟨0,Nat.zero_le _,rfl,F0.o,X.o,HV.o⟩
 case round=>
  obtain ⟨wk,hwk⟩:=gN (wr);subst hwk;obtain ⟨k,hk,rfl,hfr,hx,hv⟩:=hrel;have FR:=kI hfr;replace HV:=kI hv;replace X:=kI hx;clear hfr hx hv F0;by_cases hlt:k < l.length
  ·obtain ⟨b,off,p1,d1,p2,d2,rfl,z0,z1,z2,z3,z4⟩:=HV.o.at hlt;have hsk:=HS.o k hlt;obtain ⟨r,hr⟩:=gN (l.getD k zR);have HR:=kI hr;rw [← hr] at z1 z2 z3 z4 hsk;clear hr;obtain ⟨vn,vd,ez,hz1,hz2⟩:=z4;injection ez with ez
   simp only [Array.mk.injEq,List.cons.injEq,and_true,true_and] at ez;obtain ⟨rfl,rfl⟩:=ez;have NU:=kI hz1;have DE:=kI hz2;have SK:=kI hsk;have q1:(0:Int)≤(k:Int):=Z
   have q2:(k:Int) < (l.length:Int):=Z
   clear hz1 hz2 hsk;obtain ⟨wo,hwo⟩:=gN (wk.alloc (.cells #[.bool r.neg,.slice p1 r.num.length d1,.slice p2 r.den.length d2] 25));have hx:Ext wk wo:=by rw [hwo];exact (Ext.refl _).alloc _
   have qE:ag wo wk.heap.size #[.bool r.neg,.slice p1 r.num.length d1,.slice p2 r.den.length d2] 25:=by rw [hwo];exact ag.new _ _ _
   have qF:=kI hwo;obtain ⟨Y,hY⟩:=gN (wk.heap.size);have Mr:=kI hY;rw [← hY] at qE;have YL:=kI (show bn≠Y from by have:=FR.o.lt;omega);have XW:=kI (show w.heap.size≤wk.heap.size from X.o.size);clear hwo hY;replace FR:=kI (FR.o.ext hx);replace HV:=kI (HV.o.ext hx);replace NU:=kI (NU.o.ext hx);replace DE:=kI (DE.o.ext hx);replace X:=kI (X.o.trans hx);have BY:=kI qE;clear hx qE;go_wp2_with fail;rw [← qF.o,← Mr.o];clear z0 z1 z2 z3 qF;refine cm 11 (Tz (.slice (some ⟨bn,0,none⟩) l.length l.length) k Y r p1 p2 d1 d2 wo) ax ax ax (fun _ _ _ _ h x=>FP h x) ?_ ?_
   ·refine ⟨?_,?_,?_,?_,?_,?_,?_,?_,?_,?_,?_,trivial⟩
    ·intro a W hW hB hD K hK;have b3:=hB 3 rfl;simp only [sB] at b3;go_simp;exact hK _ _ (Ext.refl _) rfl
    ·intro a W hW hB hD K hK;have b4:=hB 4 rfl;simp only [sB] at b4;go_simp;exact hK _ _ (Ext.refl _) rfl
    ·intro a W hW hB hD K hK;have b5:=hB 5 rfl;simp only [sB] at b5;go_simp;exact hK _ _ (Ext.refl _) rfl
    ·intro a W hW hB hD K hK;obtain ⟨v18,e18,h18⟩:=aE (hD 2 _ 18 rfl rfl ax);obtain rfl:=h18;have q9:=(BY.o.ext hW).cell;have l9:=(BY.o.ext hW).lt;go_simp;exact hK _ _ (Ext.refl _) rfl
    ·intro a W hW hB hD K hK;have b5:=hB 5 rfl;simp only [sB] at b5;go_simp;exact hK _ _ (Ext.refl _) rfl
    ·intro a W hW hB hD K hK;obtain ⟨v20,e20,h20⟩:=aE (hD 4 _ 20 rfl rfl ax);obtain rfl:=h20;have q9:=(BY.o.ext hW).cell;have l9:=(BY.o.ext hW).lt;go_simp;exact hK _ _ (Ext.refl _) rfl
    ·intro a W hW hB hD K hK;obtain ⟨v21,e21,h21⟩:=aE (hD 5 _ 21 rfl rfl ax);obtain rfl:=h21;go_simp;refine (clone_any _ r.num _ (NU.o.ext hW) (by have:=SK.o;omega)).mono ?_;rintro e w9 ⟨⟨v,rfl,nn⟩,hx⟩;obtain ⟨a9,c9,rfl⟩:=nn.shape;exact hK _ _ hx ⟨_,_,rfl,nn.from hW⟩
    ·intro a W hW hB hD K hK;have b5:=hB 5 rfl;simp only [sB] at b5;go_simp;exact hK _ _ (Ext.refl _) rfl
    ·intro a W hW hB hD K hK;obtain ⟨v23,e23,h23⟩:=aE (hD 7 _ 23 rfl rfl ax);obtain rfl:=h23;have q9:=(BY.o.ext hW).cell;have l9:=(BY.o.ext hW).lt;go_simp;exact hK _ _ (Ext.refl _) rfl
    ·intro a W hW hB hD K hK;obtain ⟨v24,e24,rO⟩:=aE (hD 8 _ 24 rfl rfl ax);obtain rfl:=rO;go_simp;refine (clone_any _ r.den _ (DE.o.ext hW) (by have:=SK.o;omega)).mono ?_;rintro e w9 ⟨⟨v,rfl,nn⟩,hx⟩;obtain ⟨a9,c9,rfl⟩:=nn.shape;exact hK _ _ hx ⟨_,_,rfl,nn.from hW⟩
    ·intro a W hW hB hD K hK;obtain ⟨v19,e19,h19⟩:=aE (hD 3 _ 19 rfl rfl ax);obtain rfl:=h19;obtain ⟨v22,e22,h22⟩:=aE (hD 6 _ 22 rfl rfl ax);obtain ⟨d3,d4,rfl,dh⟩:=h22;obtain ⟨v25,e25,Cw⟩:=aE (hD 9 _ 25 rfl rfl ax);obtain ⟨e3,e4,rfl,eh⟩:=Cw;go_simp;exact hK _ _ (Ext.refl _) ⟨_,_,_,_,rfl,dh,eh⟩
   intro w9 hx;simp only [cW,List.take_succ_cons,List.take_zero,List.drop_succ_cons,List.drop_zero];rintro u0 h0 u1 h1 u2 - u3 - u4 - u5 - u6 - u7 - u8 - u9 - u10 h10;obtain rfl:u0=.slice (some ⟨bn,0,none⟩) l.length l.length:=h0;obtain rfl:u1=.int .i64 (k:Nat):=h1;obtain ⟨x1,x2,x3,x4,rfl,hn1,hn2⟩:=h10;simp only [Act.put,List.setIfInBounds_toArray,List.set_cons_zero,List.set_cons_succ];have S1:=kI (cD.new (B:=bn) hn1 Wm);have S2:=kI (cD.new (B:=bn) hn2 Wm);replace FR:=kI (FR.o.ext hx);replace HV:=kI (HV.o.ext hx);replace X:=kI (X.o.trans hx);clear hx hn1 hn2 NU DE BY Mr;obtain ⟨g1,g2,g3,g4,c0,c1,c2,-⟩:=FR.o.at hlt;have f0:=FR.o.free;have fl:=FR.o.lt;go_wp2_with fail;have hset:=FR.o.set hlt S1.o S2.o;have Io:=hset.congr (g:=fun j=>if j < k+1 then l.getD j zR else zR) (fun j hj=>by
    by_cases e:j=k
    ·subst e;rw [if_pos rfl,if_pos (Nat.lt_succ_self _)];exact HR.o
    ·rw [if_neg e];by_cases e2:j < k
     ·rw [if_pos e2,if_pos Z]
     ·rw [if_neg e2,if_neg Z])
   have hxx:=jz (x:=.bool r.neg) (y:=.slice x1 r.num.length x2) (z:=.slice x3 r.den.length x4) (o:=k*3) (b:=bn) X.o (by rw [BN.o];exact Nat.le_refl _);have F2:=kI Io;have X2:=kI hxx;clear hset Io hxx;go_roundw
   case rel=>exact ⟨k+1,by omega,by go_num,F2.o,X2.o,Bq.o.ext X2.o⟩
   case measure=>simp [intOf];omega
  ·obtain rfl:k=l.length:=Z
   have q1:¬ (l.length:Int) < (l.length:Int):=Z
   have ho:=FR.o.own (Nat.le_refl _) hvl;have ho2:bV bn wk (.slice (some ⟨bn,0,none⟩) l.length l.length) l:=by
    have e:(List.range l.length).map (fun j=>if j < l.length then l.getD j zR else zR)=l:=by
     have e2:(List.range l.length).map (fun j=>if j < l.length then l.getD j zR else zR)=(List.range l.length).map (fun j=>l.getD j zR):=List.map_congr_left (fun j hj=>if_pos (List.mem_range.1 hj));rw [e2];exact xK l zR
    rw [e] at ho;exact ho
   rw [BN.o] at ho2 ⊢;have O2:=kI ho2;clear ho ho2;go_wp2_with fail;go_ret;exact ⟨⟨_,rfl,O2.o⟩,X.o⟩
end Go.Proofs.YtnnjbaijcaiohaaGreat
