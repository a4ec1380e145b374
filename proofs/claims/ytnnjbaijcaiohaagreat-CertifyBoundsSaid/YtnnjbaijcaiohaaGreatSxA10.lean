/- Walks and lemmas. -/
import Derived.Test.YtnnjbaijcaiohaaGreatSxA8
import Derived.Test.YtnnjbaijcaiohaaGreatSxA9
import Derived.Test.YtnnjbaijcaiohaaGreatSxA7
import Derived.Test.YtnnjbaijcaiohaaGreatSxA1
set_option linter.unusedVariables false
set_option linter.unusedSimpArgs false
set_option maxRecDepth 100000
set_option maxHeartbeats 16000000
namespace Go.Proofs.YtnnjbaijcaiohaaGreat
open Go.RowKit
section
def Dc (c:Array Value):Prop:=∀ x ∈ c,∀ k n,x≠.int k n
theorem Dc.set {c:Array Value} (h:Dc c) (i:Nat) {x:Value} (hx:∀ k n,x≠.int k n):Dc (c.setIfInBounds i x):=fun u hu=>by
 rcases Array.mem_or_eq_of_mem_setIfInBounds hu with hu|rfl
 ·exact h u hu
 ·exact hx
theorem Gl {b:Bool} {a1:Option Addr} {n1 c1:Nat} {a2:Option Addr} {n2 c2:Nat}:Dc #[.bool b,.slice a1 n1 c1,.slice a2 n2 c2]:=fun x hx k n=>by
 simp at hx;rcases hx with rfl|rfl|rfl <;> simp
theorem mi {A:World} {k:IntKind} {v:Value} {l:List Int} (h:aV k A v l) {bx:Nat} {c:Array Value} {t:TypeId} (hb:af A bx c t) (hn:Dc c) (o:Nat) (u:Value):aV k (A.setCell ⟨bx,o,none⟩ u) v l:=by
 obtain ⟨a,cap,rfl,h1,h2,h3⟩:=h;refine ⟨a,cap,rfl,h1,h2,fun i hi=>?_⟩;obtain ⟨b,off,e1,e2,e3⟩:=h3 i hi;simp only [List.length_map] at hi;have hne:b≠bx:=by
  intro e;rw [e,hb.cell] at e3;have h4:(l.map (Value.int k))[i]?=some (.int k l[i]):=by simp [hi]
  rw [h4] at e3;exact hn _ (Array.mem_of_getElem? e3) _ _ rfl
 refine ⟨b,off,e1,by simpa [World.setCell] using e2,?_⟩;rw [← e3];exact World.cell?_of_block (Below.heap_setCell _ _ _ _ hne)
def mn (W:World) (b:Nat) (t:TypeId) (r:RR):Prop:=∃ a1 c1 a2 c2,af W b #[.bool r.neg,.slice a1 r.num.length c1,.slice a2 r.den.length c2] t∧aX W (.agg #[.bool r.neg,.slice a1 r.num.length c1,.slice a2 r.den.length c2]) r
theorem mn.ext {W W':World} {b:Nat} {t:TypeId} {r:RR} (h:mn W b t r) (x:Ext W W'):mn W' b t r:=by
 obtain ⟨a1,c1,a2,c2,h1,h2⟩:=h;exact ⟨a1,c1,a2,c2,h1.ext x,h2.ext x⟩
structure nh (W:World) (b:Nat) (c:Array Value) (t:TypeId) (x y z:Value) (o:Nat):Prop where
 b0:af W b c t
 n0:Dc c
 hx:∀ k n,x≠.int k n
 hy:∀ k n,y≠.int k n
 hz:∀ k n,z≠.int k n
theorem nh.of {W:World} {b:Nat} {c:Array Value} {t:TypeId} (h:af W b c t) (hn:Dc c) {q:Bool} {a1:Option Addr} {n1 c1:Nat} {a2:Option Addr} {n2 c2 o:Nat}:nh W b c t (.bool q) (.slice a1 n1 c1) (.slice a2 n2 c2) o:=⟨h,hn,by simp,by simp,by simp⟩
section
variable {W:World} {b:Nat} {c:Array Value} {t:TypeId} {x y z:Value} {o:Nat}
theorem nh.yz (p:nh W b c t x y z o) {k:IntKind} {v:Value} {l:List Int} (h:aV k W v l):aV k (((W.setCell ⟨b,o,none⟩ x).setCell ⟨b,o+1,none⟩ y).setCell ⟨b,o+2,none⟩ z) v l:=
 mi (mi (mi h p.b0 p.n0 _ _) (p.b0.set _ _) (p.n0.set _ p.hx) _ _) ((p.b0.set _ _).set _ _) ((p.n0.set _ p.hx).set _ p.hy) _ _
theorem nh.NY (p:nh W b c t x y z o) {v:Value} {r:RR} (h:aX W v r):aX (((W.setCell ⟨b,o,none⟩ x).setCell ⟨b,o+1,none⟩ y).setCell ⟨b,o+2,none⟩ z) v r:=by
 obtain ⟨vn,vd,rfl,h1,h2⟩:=h;exact ⟨_,_,rfl,p.yz h1,p.yz h2⟩
theorem nh.blk {p:Nat} {d:Array Value} {u:TypeId} (h:af W p d u) (hne:p≠b):af (((W.setCell ⟨b,o,none⟩ x).setCell ⟨b,o+1,none⟩ y).setCell ⟨b,o+2,none⟩ z) p d u:=
 ((h.setOther (a:=⟨b,o,none⟩) hne x).setOther (a:=⟨b,o+1,none⟩) hne y).setOther (a:=⟨b,o+2,none⟩) hne z
theorem jf {w0 W:World} (h:Ext w0 W) (hb:w0.heap.size≤b):Ext w0 (((W.setCell ⟨b,o,none⟩ x).setCell ⟨b,o+1,none⟩ y).setCell ⟨b,o+2,none⟩ z):=
 ((h.set (p:=⟨b,o,none⟩) hb x).set (p:=⟨b,o+1,none⟩) hb y).set (p:=⟨b,o+2,none⟩) hb z
end
theorem mn.put {W:World} {b:Nat} {t:TypeId} {r s:RR} (h:mn W b t r) {a1:Option Addr} {c1:Nat} {a2:Option Addr} {c2:Nat} (hs:aX W (.agg #[.bool s.neg,.slice a1 s.num.length c1,.slice a2 s.den.length c2]) s) :
  mn (((W.setCell ⟨b,0,none⟩ (.bool s.neg)).setCell ⟨b,0+1,none⟩ (.slice a1 s.num.length c1)).setCell ⟨b,0+2,none⟩ (.slice a2 s.den.length c2)) b t s:=by
 obtain ⟨d1,e1,d2,e2,h1,h2⟩:=h;have p:=nh.of (q:=s.neg) (a1:=a1) (n1:=s.num.length) (c1:=c1) (a2:=a2) (n2:=s.den.length) (c2:=c2) (o:=0) h1 Gl;refine ⟨a1,c1,a2,c2,?_,p.NY hs⟩;have:=((h1.set 0 (.bool s.neg)).set (0+1) (.slice a1 s.num.length c1)).set (0+2) (.slice a2 s.den.length c2);simpa using this
theorem made3 (n k j:Nat) (hk:k < n) (hj:j < 3):(madeCells #[Value.bool false,.slice none 0 0,.slice none 0 0] (n*3))[k*3+j]?=some (#[Value.bool false,.slice none 0 0,.slice none 0 0][j]!):=by
 have h1:k*3+j < n*3:=by omega
 have h2:(k*3+j) % 3=j:=by omega
 simp [madeCells,h1,h2]
end
section
def Wp (W:World) (B:Nat) (cur:Array Value) (o:Nat) (r:RR):Prop:=∃ a1 c1 a2 c2,cur[o]?=some (.bool r.neg)∧cur[o+1]?=some (.slice a1 r.num.length c1)∧cur[o+2]?=some (.slice a2 r.den.length c2)∧
 cA B W (.slice a1 r.num.length c1) r.num∧cA B W (.slice a2 r.den.length c2) r.den
def fH (W:World) (B b n:Nat) (f:Nat→RR):Prop:=∃ cur,af W b cur 25∧cur.size=n*3∧∀ j,j < n→Wp W B cur (j*3) (f j)
theorem fH.lt {W:World} {B b n:Nat} {f:Nat→RR} (h:fH W B b n f):b < W.heap.size:=by obtain ⟨cur,h1,_⟩:=h;exact h1.lt
theorem fH.keeps {W W':World} {B C b n:Nat} {t:TypeId} {f:Nat→RR} (h:fH W B b n f) (k:Keeps C t W W') (ht:25≠t) (hu:157≠t):fH W' B b n f:=by
 obtain ⟨cur,h1,h2,h3⟩:=h;exact ⟨cur,h1.keeps k ht,h2,fun j hj=>by obtain ⟨a1,c1,a2,c2,e1,e2,e3,e4,e5⟩:=h3 j hj;exact ⟨a1,c1,a2,c2,e1,e2,e3,e4.keeps k hu,e5.keeps k hu⟩⟩
theorem fH.ext {W W':World} {B b n:Nat} {f:Nat→RR} (h:fH W B b n f) (x:Ext W W'):fH W' B b n f:=by
 obtain ⟨cur,h1,h2,h3⟩:=h;exact ⟨cur,h1.ext x,h2,fun j hj=>by obtain ⟨a1,c1,a2,c2,e1,e2,e3,e4,e5⟩:=h3 j hj;exact ⟨a1,c1,a2,c2,e1,e2,e3,e4.ext x,e5.ext x⟩⟩
theorem fH.congr {W:World} {B b n:Nat} {f g:Nat→RR} (h:fH W B b n f) (e:∀ k,k < n→f k=g k):fH W B b n g:=by
 obtain ⟨cur,h1,h2,h3⟩:=h;exact ⟨cur,h1,h2,fun j hj=>by rw [← e j hj];exact h3 j hj⟩
theorem fH.at {W:World} {B b n:Nat} {f:Nat→RR} (h:fH W B b n f) {j:Nat} (hj:j < n):∃ a1 c1 a2 c2,W.cell? ⟨b,j*3,none⟩=some (.bool (f j).neg)∧W.cell? ⟨b,j*3+1,none⟩=some (.slice a1 (f j).num.length c1)∧W.cell? ⟨b,j*3+2,none⟩=some (.slice a2 (f j).den.length c2)∧
  aX W (.agg #[.bool (f j).neg,.slice a1 (f j).num.length c1,.slice a2 (f j).den.length c2]) (f j):=by
 obtain ⟨cur,h1,h2,h3⟩:=h;obtain ⟨a1,c1,a2,c2,e1,e2,e3,e4,e5⟩:=h3 j hj;exact ⟨a1,c1,a2,c2,by rw [h1.cell];exact e1,by rw [h1.cell];exact e2,by rw [h1.cell];exact e3,_,_,rfl,e4.rd,e5.rd⟩
theorem fH.free {W:World} {B b n:Nat} {f:Nat→RR} (h:fH W B b n f):∀ o,W.frozen? ⟨b,o,none⟩=false:=by
 obtain ⟨cur,h1,_⟩:=h;exact h1.free
theorem ak {W:World} {b:Nat} {c:Array Value} {t:TypeId} (hb:af W b c t) (o:Nat) (x:Value):Keeps b t W (W.setCell ⟨b,o,none⟩ x):=
 ⟨(Below.refl 0 W).setCell (Nat.zero_le _) x,fun i hi ho=>Below.heap_setCell W ⟨b,o,none⟩ x i (fun (e:i=b)=>by
  subst e;rcases ho with h1|⟨cur,u,h1,h2⟩
  ·omega
  ·unfold af at hb h1;rw [hb] at h1;injection h1 with h1
   injection h1 with _ h3
   exact h2 h3.symm)⟩
theorem xR {W:World} {b:Nat} {c:Array Value} {t:TypeId} (hb:af W b c t) (o:Nat) (x y z:Value):Keeps b t W (((W.setCell ⟨b,o,none⟩ x).setCell ⟨b,o+1,none⟩ y).setCell ⟨b,o+2,none⟩ z):=
 ((ak hb o x).trans (ak (hb.set _ _) (o+1) y)).trans (ak ((hb.set _ _).set _ _) (o+2) z)
theorem fH.set {W:World} {B b n:Nat} {f:Nat→RR} (h:fH W B b n f) {a:Nat} (ha:a < n) {r:RR} {a1:Option Addr} {c1:Nat} {a2:Option Addr} {c2:Nat} (s1:cA B W (.slice a1 r.num.length c1) r.num) (s2:cA B W (.slice a2 r.den.length c2) r.den) :
  fH (((W.setCell ⟨b,a*3,none⟩ (.bool r.neg)).setCell ⟨b,a*3+1,none⟩ (.slice a1 r.num.length c1)).setCell ⟨b,a*3+2,none⟩ (.slice a2 r.den.length c2)) B b n (fun k=>if k=a then r else f k):=by
 obtain ⟨cur,hc,hs,h3⟩:=h;have hk:=xR hc (a*3) (.bool r.neg) (.slice a1 r.num.length c1) (.slice a2 r.den.length c2);have b3:=((hc.set (a*3) (.bool r.neg)).set (a*3+1) (.slice a1 r.num.length c1)).set (a*3+2) (.slice a2 r.den.length c2);refine ⟨_,b3,by simp [hs],fun k hkn=>?_⟩;by_cases hka:k=a
 ·subst hka;simp only [if_pos];refine ⟨a1,c1,a2,c2,?_,?_,?_,s1.keeps hk (by decide),s2.keeps hk (by decide)⟩
  ·rw [Array.getElem?_setIfInBounds_ne (by omega),Array.getElem?_setIfInBounds_ne (by omega),Array.getElem?_setIfInBounds_self_of_lt (by omega)]
  ·rw [Array.getElem?_setIfInBounds_ne (by omega),Array.getElem?_setIfInBounds_self_of_lt (by simp;omega)]
  ·rw [Array.getElem?_setIfInBounds_self_of_lt (by simp;omega)]
 ·simp only [if_neg hka];obtain ⟨d1,e1,d2,e2,x1,x2,x3,x4,x5⟩:=h3 k hkn;refine ⟨d1,e1,d2,e2,?_,?_,?_,x4.keeps hk (by decide),x5.keeps hk (by decide)⟩
  ·rw [Array.getElem?_setIfInBounds_ne (by omega),Array.getElem?_setIfInBounds_ne (by omega),Array.getElem?_setIfInBounds_ne (by omega)];exact x1
  ·rw [Array.getElem?_setIfInBounds_ne (by omega),Array.getElem?_setIfInBounds_ne (by omega),Array.getElem?_setIfInBounds_ne (by omega)];exact x2
  ·rw [Array.getElem?_setIfInBounds_ne (by omega),Array.getElem?_setIfInBounds_ne (by omega),Array.getElem?_setIfInBounds_ne (by omega)];exact x3
theorem nM (B:Nat) (w:World):cA B w (.slice none 0 0) []:=⟨⟨none,0,rfl,Nat.le_refl _,by omega,fun i hi=>by cases hi⟩,.inl ⟨rfl,_,_,rfl⟩⟩
theorem fH.new {W:World} {B b n:Nat} (hb:af W b (madeCells #[.bool false,.slice none 0 0,.slice none 0 0] (n*3)) 25):fH W B b n (fun _=>zR):=
 ⟨_,hb,by simp [madeCells],fun k hk=>⟨none,0,none,0,made3 n k 0 hk (by decide),made3 n k 1 hk (by decide),made3 n k 2 hk (by decide),nM _ _,nM _ _⟩⟩
theorem fH.own {W:World} {B b n:Nat} {f:Nat→RR} (h:fH W B b n f) (hB:B≤b) (hn:n≤9223372036854775807):bT B W (.slice (some ⟨b,0,none⟩) n n) ((List.range n).map f):=by
 obtain ⟨cur,hc,hs,h3⟩:=h;have hch:∀ k,k≤n→((List.range k).map fun j=>[cur.getD (j*3) undef,cur.getD (j*3+1) undef,cur.getD (j*3+2) undef]).flatten=cur.toList.take (k*3):=by
  intro k;induction k with
  | zero=>intro _;simp
  | succ k ih=>
   intro hk;have g:∀ j,j < cur.size→cur.toList[j]?=some (cur.getD j undef):=fun j hj=>by
    rw [Array.getElem?_toList,Array.getElem?_eq_getElem hj];simp [Array.getD,hj]
   have tk:∀ j,j < cur.size→cur.toList.take (j+1)=cur.toList.take j ++ [cur.getD j undef]:=fun j hj=>by
    rw [List.take_succ_eq_append_getElem (by simpa using hj)];congr 2
    simp [Array.getD,hj]
   rw [List.range_succ,List.map_append,List.flatten_append,ih (by omega),show (k+1)*3=k*3+1+1+1 by omega,tk _ (by omega),tk _ (by omega),tk _ (by omega)];simp
 refine ⟨(List.range n).map fun j=>[cur.getD (j*3) undef,cur.getD (j*3+1) undef,cur.getD (j*3+2) undef],⟨by simp only [List.length_map,List.length_range];rw [hch n (Nat.le_refl _),List.length_take];simp [hs],.inr ⟨b,n,cur,by simp,hB,hc,by simp,by unfold maxLen;omega,hs,?_⟩⟩,by simp,?_,?_⟩
 ·rw [hch n (Nat.le_refl _)];simp
 ·intro h hh;obtain ⟨j,_,rfl⟩:=List.mem_map.1 hh;rfl
 ·intro i x hi;rw [List.getElem?_map] at hi;by_cases hin:i < n
  ·rw [List.getElem?_range hin] at hi;injection hi with hi
   obtain ⟨a1,c1,a2,c2,e1,e2,e3,e4,e5⟩:=h3 i hin;rw [hi] at e1 e2 e3 e4 e5;refine ⟨_,by rw [List.getElem?_map,List.getElem?_range hin];rfl,a1,c1,a2,c2,?_,e4,e5⟩;have d:∀ j v,cur[j]?=some v→cur.getD j undef=v:=fun j v h=>by rw [Array.getD_eq_getD_getElem?,h];rfl
   show [cur.getD (i*3) undef,cur.getD (i*3+1) undef,cur.getD (i*3+2) undef]=_;rw [d _ _ e1,d _ _ e2,d _ _ e3]
  ·rw [List.getElem?_eq_none (by simp;omega)] at hi;cases hi
def bF (f:Nat→Int):Nat→Int
 | 0=>0
 | n+1=>if bF f n≠0 then bF f n else f n
theorem bE {f:Nat→Int}:∀ {n:Nat},(∀ i,i < n→f i=0)→bF f n=0
 | 0,_=>rfl
 | n+1,h=>by
  unfold bF;rw [bE (n:=n) (fun i hi=>h i (by omega)),if_neg (fun h=>h rfl)];exact h n (by omega)
theorem bm {f:Nat→Int}:∀ {n:Nat},bF f n=0→∀ i,i < n→f i=0
 | 0,_,i,hi=>by omega
 | n+1,h,i,hi=>by
  unfold bF at h;by_cases h0:bF f n=0
  ·rw [h0,if_neg (fun h=>h rfl)] at h;by_cases e:i=n
   ·subst e;exact h
   ·exact bm h0 i (by omega)
  ·rw [if_pos h0] at h;exact absurd h h0
theorem dv {f:Nat→Int} {k:Nat} (h0:∀ i,i < k→f i=0) (hk:f k≠0):∀ {n:Nat},k < n→bF f n=f k
 | 0,h=>by omega
 | n+1,h=>by
  unfold bF;by_cases e:k=n
  ·subst e;rw [bE h0,if_neg (fun h=>h rfl)]
  ·rw [dv h0 hk (n:=n) (by omega),if_pos hk]
abbrev Out:=Int × RR
def dO:Out:=(0,zR)
structure aU where
 cost:RR
 next:List Out
def dA:aU:=⟨zR,[]⟩
structure MD where
 ag:RR
 states:List (List aU)
def dU (n:Nat) (l:List Out) (i:Nat):Int:=
 if (l.getD i dO).1 < 0∨(n:Int)≤(l.getD i dO).1 then 8
 else if 0 < i∧(l.getD i dO).1≤(l.getD (i - 1) dO).1 then 16
 else if am (l.getD i dO).2≠0 then am (l.getD i dO).2
 else if (l.getD i dO).2.neg=true∨(l.getD i dO).2.num=[] then 1 else 0
def eV (l:List Out):List RR:=l.map (·.2)
def ex (n:Nat) (x:aU):Int:=
 if am x.cost≠0 then am x.cost
 else if x.next.length=0 then 3
 else if 64 < x.next.length then 4
 else if bF (dU n x.next) x.next.length≠0 then bF (dU n x.next) x.next.length
 else if (cN zR (eV x.next)).2≠0 then (cN zR (eV x.next)).2
 else if (cN zR (eV x.next)).1=rep 1 then 0 else 2
def si (n:Nat) (ac:List aU):Int:=
 if ac.length=0 then 3 else if 6 < ac.length then 4 else bF (fun a=>ex n (ac.getD a dA)) ac.length
def ew (m:MD):Int:=
 if am m.ag≠0 then am m.ag
 else if m.ag.neg=true∨1 < qv m.ag then 1
 else if m.states.length=0 then 3
 else if 200 < m.states.length then 4
 else bF (fun s=>si m.states.length (m.states.getD s [])) m.states.length
def gw (m:MD) (v:List RR):Int:=if ew m≠0 then ew m else if v.length≠m.states.length then 16 else 0
def jg (v:List RR) (l:List Out):List RR:=l.map fun o=>v.getD o.1.toNat zR
def aL (m:MD) (v:List RR) (x:aU):RR × Int:=
 if (fX (eV x.next) (jg v x.next)).2≠0 then (zR,(fX (eV x.next) (jg v x.next)).2)
 else if (mulR m.ag (fX (eV x.next) (jg v x.next)).1).2≠0 then (zR,(mulR m.ag (fX (eV x.next) (jg v x.next)).1).2)
 else cE x.cost (mulR m.ag (fX (eV x.next) (jg v x.next)).1).1
def MD.act (m:MD) (s a:Nat):aU:=(m.states.getD s []).getD a dA
def dM (m:MD) (v:List RR) (ac:List aU):List RR:=ac.map fun x=>(aL m v x).1
def pZ (m:MD) (v:List RR) (ac:List aU):Int:=bF (fun a=>(aL m v (ac.getD a dA)).2) ac.length
def hZ (l:List RR):Nat→Nat
 | 0=>0
 | k+1=>if qv (l.getD k zR) < qv (l.getD (hZ l k) zR) then k else hZ l k
def jh (l:List RR):Nat:=hZ l l.length
def Ei (m:MD) (v:List RR):Int:=bF (fun s=>pZ m v (m.states.getD s [])) m.states.length
def mM (m:MD) (v:List RR):List Int:=m.states.map fun ac=>(jh (dM m v ac):Int)
def mN (m:MD) (v:List RR):List RR:=m.states.map fun ac=>(dM m v ac).getD (jh (dM m v ac)) zR
def ah (m:MD) (v:List RR):List RR × List Int × Int:=
 if gw m v≠0 then ([],[],gw m v) else if Ei m v≠0 then ([],[],Ei m v) else (mN m v,mM m v,0)
def ia (m:MD) (p:List Int) (s:Nat):Int:=if p.getD s 0 < 0∨((m.states.getD s []).length:Int)≤p.getD s 0 then 8 else 0
def Ah (m:MD) (p:List Int) (v:List RR) (s:Nat):Int:=
 if ia m p s≠0 then ia m p s else (aL m v (m.act s (p.getD s 0).toNat)).2
def vV (m:MD) (p:List Int) (v:List RR):List RR:=(List.range p.length).map fun s=>(aL m v (m.act s (p.getD s 0).toNat)).1
def d6 (m:MD) (p:List Int) (v:List RR):List RR × Int:=
 if gw m v≠0 then ([],gw m v) else if p.length≠m.states.length then ([],16)
 else if bF (Ah m p v) p.length≠0 then ([],bF (Ah m p v) p.length) else (vV m p v,0)
def aZ (m:MD) (v:List RR):Nat→List RR
 | 0=>v
 | j+1=>(ah m (aZ m v j)).1
def tU (m:MD) (v:List RR) (k:Nat):Int:=bF (fun j=>(ah m (aZ m v j)).2.2) k
def bP (m:MD) (v:List RR) (k:Int):List (List RR) × List (List Int) × Int:=
 if gw m v≠0 then ([],[],gw m v) else if k < 0∨24 < k then ([],[],1)
 else if tU m v k.toNat≠0 then ([],[],tU m v k.toNat)
 else ((List.range (k.toNat+1)).map (aZ m v),(List.range k.toNat).map (fun j=>(ah m (aZ m v j)).2.1),0)
def tV (w:World) (b o:Nat) (r:RR) (a1:Option Addr) (c1:Nat) (a2:Option Addr) (c2:Nat):Prop:=
 b < w.heap.size∧w.cell? ⟨b,o,none⟩=some (.bool r.neg)∧w.cell? ⟨b,o+1,none⟩=some (.slice a1 r.num.length c1)∧w.cell? ⟨b,o+2,none⟩=some (.slice a2 r.den.length c2)∧aX w (.agg #[.bool r.neg,.slice a1 r.num.length c1,.slice a2 r.den.length c2]) r
theorem tV.ext {w w':World} {b o:Nat} {r:RR} {a1:Option Addr} {c1:Nat} {a2:Option Addr} {c2:Nat} (h:tV w b o r a1 c1 a2 c2) (x:Ext w w'):tV w' b o r a1 c1 a2 c2:=
 ⟨Nat.lt_of_lt_of_le h.1 x.size,(x.cell (p:=⟨b,o,none⟩) h.1).trans h.2.1,(x.cell (p:=⟨b,o+1,none⟩) h.1).trans h.2.2.1,(x.cell (p:=⟨b,o+2,none⟩) h.1).trans h.2.2.2.1,h.2.2.2.2.ext x⟩
theorem ct.at {w:World} {a:Option Addr} {n c:Nat} {l:List RR} (h:ct w (.slice a n c) l) {i:Nat} (hi:i < l.length):∃ b off a1 c1 a2 c2,a=some ⟨b,off,none⟩∧tV w b (off+i*3) (l.getD i zR) a1 c1 a2 c2:=by
 obtain ⟨a',cap,e,_,_,f,hr⟩:=h.get;injection e with e1 _ _
 subst e1;obtain ⟨b,off,e1,hb,x0,x1,x2,hrd⟩:=hr i hi;exact ⟨b,off,_,_,_,_,e1,hb,x0,x1,x2,hrd⟩
theorem xS {w:World} {a:Option Addr} {n cap:Nat} {l:List Int} (h:aV .i64 w (.slice a n cap) l) {i:Nat} (hi:i < l.length):∃ b off,a=some ⟨b,off,none⟩∧b < w.heap.size∧w.cell? ⟨b,off+i,none⟩=some (.int .i64 (l.getD i 0)):=by
 obtain ⟨a',cap',e,_,_,h3⟩:=h.get;injection e with e1 _ _
 subst e1;obtain ⟨b,off,e1,e2,e3⟩:=h3 i hi;exact ⟨b,off,e1,e2,e3⟩
def qQ (w:World) (b o:Nat) (y:Out) (a1:Option Addr) (c1:Nat) (a2:Option Addr) (c2:Nat):Prop:=
 b < w.heap.size∧w.cell? ⟨b,o,none⟩=some (.int .i64 y.1)∧w.cell? ⟨b,o+1,none⟩=some (.bool y.2.neg)∧w.cell? ⟨b,o+2,none⟩=some (.slice a1 y.2.num.length c1)∧w.cell? ⟨b,o+3,none⟩=some (.slice a2 y.2.den.length c2)∧aX w (.agg #[.bool y.2.neg,.slice a1 y.2.num.length c1,.slice a2 y.2.den.length c2]) y.2
theorem qQ.ext {w w':World} {b o:Nat} {y:Out} {a1:Option Addr} {c1:Nat} {a2:Option Addr} {c2:Nat} (h:qQ w b o y a1 c1 a2 c2) (x:Ext w w'):qQ w' b o y a1 c1 a2 c2:=
 ⟨Nat.lt_of_lt_of_le h.1 x.size,(x.cell (p:=⟨b,o,none⟩) h.1).trans h.2.1,(x.cell (p:=⟨b,o+1,none⟩) h.1).trans h.2.2.1,(x.cell (p:=⟨b,o+2,none⟩) h.1).trans h.2.2.2.1,(x.cell (p:=⟨b,o+3,none⟩) h.1).trans h.2.2.2.2.1,h.2.2.2.2.2.ext x⟩
def fm (w:World) (v:Value) (l:List Out):Prop:=∃ a cap,v=.slice a l.length cap∧l.length≤cap∧cap≤9223372036854775807∧
 ∀ i,i < l.length→∃ b off a1 c1 a2 c2,a=some ⟨b,off,none⟩∧qQ w b (off+i*4) (l.getD i dO) a1 c1 a2 c2
theorem fm.ext {w w':World} {v:Value} {l:List Out} (h:fm w v l) (x:Ext w w'):fm w' v l:=by
 obtain ⟨a,cap,e,h1,h2,h3⟩:=h;refine ⟨a,cap,e,h1,h2,fun i hi=>?_⟩;obtain ⟨b,off,a1,c1,a2,c2,e1,e2⟩:=h3 i hi;exact ⟨b,off,a1,c1,a2,c2,e1,e2.ext x⟩
theorem fm.at {w:World} {a:Option Addr} {n c:Nat} {l:List Out} (h:fm w (.slice a n c) l) {i:Nat} (hi:i < l.length):∃ b off a1 c1 a2 c2,a=some ⟨b,off,none⟩∧qQ w b (off+i*4) (l.getD i dO) a1 c1 a2 c2:=by
 obtain ⟨a',cap,e,_,_,hr⟩:=h;injection e with e1 _ _
 subst e1;exact hr i hi
theorem fm.shape {w:World} {v:Value} {l:List Out} (h:fm w v l):∃ a cap,v=.slice a l.length cap∧l.length≤9223372036854775807:=by obtain ⟨a,cap,h,h1,h2,_⟩:=h;exact ⟨a,cap,h,Nat.le_trans h1 h2⟩
def ib (w:World) (v:Value) (x:aU):Prop:=∃ a1 c1 a2 c2 a3 c3,v=.agg #[.bool x.cost.neg,.slice a1 x.cost.num.length c1,.slice a2 x.cost.den.length c2,.slice a3 x.next.length c3]∧aX w (.agg #[.bool x.cost.neg,.slice a1 x.cost.num.length c1,.slice a2 x.cost.den.length c2]) x.cost∧fm w (.slice a3 x.next.length c3) x.next
theorem ib.ext {w w':World} {v:Value} {x:aU} (h:ib w v x) (e:Ext w w'):ib w' v x:=by
 obtain ⟨a1,c1,a2,c2,a3,c3,e1,e2,e3⟩:=h;exact ⟨a1,c1,a2,c2,a3,c3,e1,e2.ext e,e3.ext e⟩
def mO (w:World) (b o:Nat) (x:aU) (a1:Option Addr) (c1:Nat) (a2:Option Addr) (c2:Nat) (a3:Option Addr) (c3:Nat):Prop:=
 tV w b o x.cost a1 c1 a2 c2∧w.cell? ⟨b,o+3,none⟩=some (.slice a3 x.next.length c3)∧fm w (.slice a3 x.next.length c3) x.next
theorem mO.ext {w w':World} {b o:Nat} {x:aU} {a1:Option Addr} {c1:Nat} {a2:Option Addr} {c2:Nat} {a3:Option Addr} {c3:Nat} (h:mO w b o x a1 c1 a2 c2 a3 c3) (e:Ext w w'):mO w' b o x a1 c1 a2 c2 a3 c3:=
 ⟨h.1.ext e,(e.cell (p:=⟨b,o+3,none⟩) h.1.1).trans h.2.1,h.2.2.ext e⟩
theorem mO.rd {w:World} {b o:Nat} {x:aU} {a1:Option Addr} {c1:Nat} {a2:Option Addr} {c2:Nat} {a3:Option Addr} {c3:Nat} (h:mO w b o x a1 c1 a2 c2 a3 c3) :
  ib w (.agg #[.bool x.cost.neg,.slice a1 x.cost.num.length c1,.slice a2 x.cost.den.length c2,.slice a3 x.next.length c3]) x:=⟨_,_,_,_,_,_,rfl,h.1.2.2.2.2,h.2.2⟩
def iB (w:World) (v:Value) (l:List aU):Prop:=∃ a cap,v=.slice a l.length cap∧l.length≤cap∧cap≤9223372036854775807∧
 ∀ i,i < l.length→∃ b off a1 c1 a2 c2 a3 c3,a=some ⟨b,off,none⟩∧mO w b (off+i*4) (l.getD i dA) a1 c1 a2 c2 a3 c3
theorem iB.ext {w w':World} {v:Value} {l:List aU} (h:iB w v l) (x:Ext w w'):iB w' v l:=by
 obtain ⟨a,cap,e,h1,h2,h3⟩:=h;refine ⟨a,cap,e,h1,h2,fun i hi=>?_⟩;obtain ⟨b,off,a1,c1,a2,c2,a3,c3,e1,e2⟩:=h3 i hi;exact ⟨b,off,a1,c1,a2,c2,a3,c3,e1,e2.ext x⟩
theorem iB.at {w:World} {a:Option Addr} {n c:Nat} {l:List aU} (h:iB w (.slice a n c) l) {i:Nat} (hi:i < l.length):∃ b off a1 c1 a2 c2 a3 c3,a=some ⟨b,off,none⟩∧mO w b (off+i*4) (l.getD i dA) a1 c1 a2 c2 a3 c3:=by
 obtain ⟨a',cap,e,_,_,hr⟩:=h;injection e with e1 _ _
 subst e1;exact hr i hi
theorem iB.shape {w:World} {v:Value} {l:List aU} (h:iB w v l):∃ a cap,v=.slice a l.length cap∧l.length≤9223372036854775807:=by obtain ⟨a,cap,h,h1,h2,_⟩:=h;exact ⟨a,cap,h,Nat.le_trans h1 h2⟩
def yZ (w:World) (b o:Nat) (ac:List aU) (a1:Option Addr) (c1:Nat):Prop:=b < w.heap.size∧w.cell? ⟨b,o,none⟩=some (.slice a1 ac.length c1)∧iB w (.slice a1 ac.length c1) ac
theorem yZ.ext {w w':World} {b o:Nat} {ac:List aU} {a1:Option Addr} {c1:Nat} (h:yZ w b o ac a1 c1) (e:Ext w w'):yZ w' b o ac a1 c1:=
 ⟨Nat.lt_of_lt_of_le h.1 e.size,(e.cell (p:=⟨b,o,none⟩) h.1).trans h.2.1,h.2.2.ext e⟩
def ni (w:World) (v:Value) (l:List (List aU)):Prop:=∃ a cap,v=.slice a l.length cap∧l.length≤cap∧cap≤9223372036854775807∧
 ∀ i,i < l.length→∃ b off a1 c1,a=some ⟨b,off,none⟩∧yZ w b (off+i) (l.getD i []) a1 c1
theorem ni.ext {w w':World} {v:Value} {l:List (List aU)} (h:ni w v l) (x:Ext w w'):ni w' v l:=by
 obtain ⟨a,cap,e,h1,h2,h3⟩:=h;refine ⟨a,cap,e,h1,h2,fun i hi=>?_⟩;obtain ⟨b,off,a1,c1,e1,e2⟩:=h3 i hi;exact ⟨b,off,a1,c1,e1,e2.ext x⟩
theorem ni.at {w:World} {a:Option Addr} {n c:Nat} {l:List (List aU)} (h:ni w (.slice a n c) l) {i:Nat} (hi:i < l.length):∃ b off a1 c1,a=some ⟨b,off,none⟩∧yZ w b (off+i) (l.getD i []) a1 c1:=by
 obtain ⟨a',cap,e,_,_,hr⟩:=h;injection e with e1 _ _
 subst e1;exact hr i hi
theorem ni.shape {w:World} {v:Value} {l:List (List aU)} (h:ni w v l):∃ a cap,v=.slice a l.length cap∧l.length≤9223372036854775807:=by obtain ⟨a,cap,h,h1,h2,_⟩:=h;exact ⟨a,cap,h,Nat.le_trans h1 h2⟩
def eK (w:World) (v:Value) (m:MD):Prop:=∃ a1 c1 a2 c2 a3 c3,v=.agg #[.bool m.ag.neg,.slice a1 m.ag.num.length c1,.slice a2 m.ag.den.length c2,.slice a3 m.states.length c3]∧aX w (.agg #[.bool m.ag.neg,.slice a1 m.ag.num.length c1,.slice a2 m.ag.den.length c2]) m.ag∧ni w (.slice a3 m.states.length c3) m.states
theorem eK.ext {w w':World} {v:Value} {m:MD} (h:eK w v m) (e:Ext w w'):eK w' v m:=by
 obtain ⟨a1,c1,a2,c2,a3,c3,e1,e2,e3⟩:=h;exact ⟨a1,c1,a2,c2,a3,c3,e1,e2.ext e,e3.ext e⟩
def qd (x:aU):Prop:=au x.cost∧∀ i,au (x.next.getD i dO).2
def iO (m:MD):Prop:=au m.ag∧∀ s a,qd (m.act s a)
section
variable {P:Program} {l:List Oper} {n:Nat} {Q:Exit→Act→World→Prop} {J:Nat→Value→World→Prop}
def qR (P:Program) (l:List Oper) (n:Nat) (J:Nat→Value→World→Prop) (a0:Act) (w:World) (j:Nat) (o:Oper):Prop:=
 ∀ (a:Act) (W:World),Ext w W→(∀ i,(fills (l.take n)).contains i=false→a.tmps.getD i undef=a0.tmps.getD i undef)→
  (∀ (e:Nat) (oe:Oper) (d:Tmp),l[e]?=some oe→oe.dst=some d→((waits o).contains e && decide (e < n))=true→J e (a.tmps.getD d undef) W)→
  ∃ v,(∀ w',(execOp a.eval o).run P w'=.ok (.value v) w')∧J j v W
def oM (l:List Oper) (n f:Nat):Bool:=
 decide (n < l.length) && (decide (f < n) && (Region.noSelect l.toArray && (kO .any l.toArray f 1 n && (Region.seqB .any l.toArray (l.length - n) n (dK n l.length) && (gF 0 (l.take n) [] &&
  ((List.range l.length).all fun j=>decide (j < n) || match l[f]?,l[j]? with
   | some o,some oj=>o.guard.isNone && (o.apart l.toArray oj || oj.after.any fun e=>Region.binds .any e && e.on == f)
   | _,_=>false))))))
theorem tW {a0:Act} {w:World} {g f:Nat} {o9:Oper} (hn:n≤l.length) (hfn:f < n) (hof:l[f]?=some o9) (Qh:o9.guard=none) (hsel:Region.noSelect l.toArray=true) (hQ:∀ c (a:Act) d v w,Q (.panic c) (a.put d v) w→Q (.panic c) a w)
  (hB:gF 0 (l.take n) []=true) (hR:∀ d ∈ fills (l.take n),d < a0.tmps.size) (hJ:∀ j v W W',J j v W→Ext W W'→J j v W') (hS:cL P l n Q J a0 w 0 (l.take n))
  (hap:∀ j oj,l[j]?=some oj→n≤j→(∀ e ∈ oj.after,Region.binds .any e=true→e.on≠f)→o9.apart l.toArray oj=true)
  (hF:qR P l n J a0 w f o9)
  (tR:∀ listed,HeadInv .any l.toArray n listed→∀ i,i < n→i≠f→listed.getD i true=false→∀ j ∈ Region.ready .any l.toArray listed,j < n)
  (hfin:∀ listed a W,cz l n J a0 w listed a W→(∀ j,j < n→listed.getD j false=true)→wpAny P .any l.toArray Q g listed a W):∀ (k:Nat) (listed:Array Bool) (a:Act) (W:World),(still n listed).length=k→cz l n J a0 w listed a W→wpAny P .any l.toArray Q (k+g) listed a W:=by
 intro k;induction k with
 | zero=>
  intro listed a W hf inv;rw [Nat.zero_add];refine hfin listed a W inv (eJ hn hB (by simpa using inv.head.size) fun j hj hm=>?_);have h1:=(mem_ready.1 hm).1;have h3:j ∈ still n listed:=List.mem_filter.2 ⟨List.mem_range.2 hj,by rw [h1];rfl⟩;rw [List.length_eq_zero_iff.1 hf] at h3;cases h3
 | succ k ih=>
  intro listed a W hf inv;rw [show k+1+g=(k+g)+1 by omega];by_cases hex:∃ i,i < n∧i≠f∧listed.getD i true=false
  ·obtain ⟨i,hi,hif,hiu⟩:=hex;refine ⟨fun hr=>?_,fun j hj=>?_⟩
   ·exfalso
    have:=eJ hn hB (by simpa using inv.head.size) (fun j _ hm=>by rw [hr] at hm;cases hm) i hi;rw [getD_both hiu] at this;cases this
   ·have hjn:=tR listed inv.head i hi hif hiu j hj;obtain ⟨h1,o,h2,h3⟩:=mem_ready.1 hj;have h2':l[j]?=some o:=by simpa using h2
    have hst:=cL.get (l.take n) 0 hS j o (by rw [dJ hjn];exact h2');rw [Nat.zero_add] at hst;refine wpOp_step h2 fun K' hK=>hst a W inv.ext inv.base (fun e oe d he hd hwt=>?_) K' fun v W' hx hv=>hK _ _ (ih _ _ _ ?_ (inv.step hB hR hJ hjn h2' hj hx hv))
    ·simp only [Bool.and_eq_true,decide_eq_true_eq] at hwt;obtain ⟨eg,k1,k2,k3⟩:=lg (by simpa using hwt.1);exact inv.done e oe d (by rw [dJ hwt.2];exact he) hd (by rw [← k3];exact h3 eg k1 k2)
    ·have:=jO hjn (by have:=inv.head.size;simp at this;omega) h1;omega
  ·have hall:∀ i,i < n→i≠f→listed.getD i false=true:=fun i hi hif=>by
    refine Classical.byContradiction fun hc=>hex ⟨i,hi,hif,getD_in (by have:=inv.head.size;simp at this;omega) (by simpa using hc)⟩
   obtain ⟨i,hi,hiu⟩:∃ i,i < n∧listed.getD i true=false:=by
    have hne:still n listed≠[]:=fun e=>by rw [e] at hf;cases hf
    obtain ⟨i,hi⟩:=List.exists_mem_of_ne_nil _ hne;obtain ⟨h1,h2⟩:=List.mem_filter.1 hi;exact ⟨i,List.mem_range.1 h1,by simpa using h2⟩
   obtain rfl:i=f:=Classical.byContradiction fun hc=>by
    have:=hall i hi hc;rw [getD_both hiu] at this;cases this
   have hwf:∀ e ∈ o9.after,Region.binds .any e=true→e.on < i:=fun e he hb=>(iz (l.take n) 0 [] hB).1 i o9 (by rw [dJ hi];exact hof) e.on (tQ he hb) |> fun h=>by omega
   have Bb:i ∈ Region.ready .any l.toArray listed:=mem_ready.2 ⟨hiu,o9,by simpa using hof,fun e he hb=>by
    have:=hwf e he hb;exact hall e.on (by omega) (by omega)⟩
   obtain ⟨v,hy,hv⟩:=hF a W inv.ext inv.base (fun e oe d he hd hwt=>by
    simp only [Bool.and_eq_true,decide_eq_true_eq] at hwt;obtain ⟨eg,k1,k2,k3⟩:=lg (by simpa using hwt.1);have:=hwf eg k1 k2;exact inv.done e oe d (by rw [dJ hwt.2];exact he) hd (by rw [← k3];exact hall eg.on (by omega) (by omega)))
   refine wpAny_first (oi:=o9) (v:=v) (by simpa using hof) (Region.noSelect_spec hsel) (fun c a w'=>hQ c a _ _ w') (k+g) listed a W (fun j oj hj hji Wq hje=>?_) Bb (.inl ⟨aI Qh,hy⟩) (ih _ _ _ ?_ (inv.step hB hR hJ hi hof Bb (Ext.refl _) hv))
   ·refine hap j oj (by simpa using hj) (Nat.le_of_not_lt fun hlt=>?_) hje;have:=hall j hlt hji;rw [getD_both Wq] at this;cases this
   ·have:=jO hi (by have:=inv.head.size;simp at this;omega) hiu;omega
theorem dw {id:Nat} {a0:Act} {w:World} (n f:Nat) (J:Nat→Value→World→Prop) {o9:Oper} (hof:l[f]?=some o9) (hm:P.follows .mixedOrders=true) (hT:oM l n f=true) (hR0:(fills (l.take n)).all (fun d=>decide (d < a0.tmps.size))=true) (hJ:∀ j v W W',J j v W→Ext W W'→J j v W')
  (hQ:∀ c (a:Act) d v w,Q (.panic c) (a.put d v) w→Q (.panic c) a w)
  (hS:cL P l n Q J a0 w 0 (l.take n)) (hF:qR P l n J a0 w f o9) (hend:∀ W,Ext w W→cX J W (fun a=>wpList P l.toArray Q (l.drop n) a W) 0 (l.take n) a0):(Code.region id l.toArray true).wp P Q a0 w:=by
 have hR:∀ d ∈ fills (l.take n),d < a0.tmps.size:=fun d hd=>by simpa using List.all_eq_true.1 hR0 d hd
 simp only [oM,Bool.and_eq_true,decide_eq_true_eq] at hT;obtain ⟨hn,hfn,hsel,hh,hq,hB,hap⟩:=hT;have LG:∀ j oj,l[j]?=some oj→n≤j→o9.guard=none∧((∀ e ∈ oj.after,Region.binds .any e=true→e.on≠f)→o9.apart l.toArray oj=true):=fun j oj hj T0=>by
  have hjl:j < l.length:=(List.getElem?_eq_some_iff.1 hj).1;have h1:=List.all_eq_true.1 hap j (List.mem_range.2 hjl);simp only [hof,hj,Bool.or_eq_true,decide_eq_true_eq,Bool.and_eq_true] at h1;rcases h1 with h1|⟨h0,h1⟩
  ·omega
  ·refine ⟨by simpa using h0,fun hje=>?_⟩;rcases h1 with h1|h1
   ·exact h1
   ·obtain ⟨e,he,h2⟩:=Array.any_eq_true'.1 h1;simp only [Bool.and_eq_true,beq_iff_eq] at h2;exact absurd h2.2 (hje e he h2.1)
 have Qh:o9.guard=none:=(LG n l[n] (List.getElem?_eq_getElem hn) (Nat.le_refl _)).1;have h:=tW (P:=P) (l:=l) (n:=n) (Q:=Q) (J:=J) (a0:=a0) (w:=w) (g:=l.length - n) (by omega) hfn hof Qh hsel hQ hB hR hJ hS (fun j oj hj T0 hje=>(LG j oj hj T0).2 hje) hF
  (fun listed hi i hin hif hun j hj=>Nat.lt_of_not_le fun hge=>mH hh hi (i:=i) (by simp [fO];omega) hin hun j hge hj)
  (fun listed a W inv hall=>by
   have he:=i5 (l:=l) (by omega) (by simpa using inv.head.size) hall (fun t h1 h2=>inv.head.tail t h1 (by simpa using h2));subst he;have:=wpAny_of_seq (md:=.any) (Q':=Q) (l.drop n) n (dK n l.length) a W (fun j=>by simp [List.getElem?_drop]) (by rw [List.length_drop];exact hq) (inv.fin (G:=fun a=>wpList P l.toArray Q (l.drop n) a W) (by omega) hall (hend W inv.ext));rwa [List.length_drop] at this) n _ _ _ (eU (by omega)) (cz.start a0 w)
 rw [show n+(l.length - n)=l.toArray.size by simp;omega] at h;exact wp_region_any hm h
end
theorem iC {P:Program} {a:Act} {t i:Nat} {v:Value} {vs:Array Value} (h:a.tmps.getD t undef=.tuple vs) (hv:vs[i]?=some v) {o:Oper} (ho:o.op=.extract (.tmp t) i) (w:World):(execOp a.eval o).run P w=.ok (.value v) w:=by
 have h1:a.eval (.tmp t)=.tuple vs:=h;simp [execOp,ho,h1,Instr.extract,hv,Result.andThen,pure,Sem.run]
end
theorem gU {w:World} {ops:Array Oper} {rest:List Oper} {o:Oper} {a:Act} {Q:Exit→Act→World→Prop} {t e:TypeId} {z:Value} {k bytes:Nat}
  (hg:o.guard=none) (l c:Operand) (hop:o.op=Op.makeSlice t l c) (n:Nat) (hl:a.eval l=.int .i64 (n:Int)) (hc:a.eval c=.int .i64 (n:Int)) (ht:Tryz.prog.underlying t=some (.slice e)) (hinfo:(Tryz.prog.info? e).map (fun i=>(i.zero,i.size,i.bytes))=some (some z,k,bytes)) (hn:bytes*n≤1000000000000) (hn2:n≤1000000000)
  (C:Array Value) (hC:madeCells z.cells (n*k)=C) (hK:wpList Tryz.prog ops Q rest (a.put o.dst (.slice (some ⟨w.heap.size,0,none⟩) n n)) (w.alloc (.cells C e))):wpList Tryz.prog ops Q (o :: rest) a w:=by
 have hr:=oL w n ht hinfo hn hn2;rw [hC] at hr;refine wpList_plain hg fun K hK'=>?_;unfold Oper.wp;simp only [execOp,hop,hl,hc];simp [hr,Result.andThen];exact hK' _ _ hK
theorem vW {α:Type} (l:List α) (d:α):(List.range l.length).map (fun j=>l.getD j d)=l:=by
 apply List.ext_getElem
 ·simp
 ·intro i h1 h2;simp [List.getD_eq_getElem?_getD,h2]
def Qi (ov:Value) (k Y:Nat) (r:RR) (p1 p2:Option Addr) (d1 d2:Nat) (wB:World) (j:Nat) (v:Value) (W:World):Prop:=
 match j with
 | 0=>v=ov
 | 1=>v=.int .i64 (k:Nat)
 | 2=>v=.pointer (some ⟨Y,0,none⟩)
 | 3=>v=.bool r.neg
 | 4=>v=.pointer (some ⟨Y,1,none⟩)
 | 5=>v=.slice p1 r.num.length d1
 | 6=>∃ a9 c9,v=.slice a9 r.num.length c9∧bK wB W (.slice a9 r.num.length c9) r.num
 | 7=>v=.pointer (some ⟨Y,2,none⟩)
 | 8=>v=.slice p2 r.den.length d2
 | 9=>∃ a9 c9,v=.slice a9 r.den.length c9∧bK wB W (.slice a9 r.den.length c9) r.den
 | 10=>∃ a1 c1 a2 c2,v=.agg #[.bool r.neg,.slice a1 r.num.length c1,.slice a2 r.den.length c2]∧bK wB W (.slice a1 r.num.length c1) r.num∧bK wB W (.slice a2 r.den.length c2) r.den
 | _=>True
theorem Ej {ov:Value} {k Y:Nat} {r:RR} {p1 p2:Option Addr} {d1 d2:Nat} {wB:World} {j:Nat} {v:Value} {W W':World} (h:Qi ov k Y r p1 p2 d1 d2 wB j v W) (x:Ext W W'):Qi ov k Y r p1 p2 d1 d2 wB j v W':=by
 match j,h with
 | 0,h=>exact h
 | 1,h=>exact h
 | 2,h=>exact h
 | 3,h=>exact h
 | 4,h=>exact h
 | 5,h=>exact h
 | 6,⟨a9,c9,h1,h2⟩=>exact ⟨a9,c9,h1,h2.ext x⟩
 | 7,h=>exact h
 | 8,h=>exact h
 | 9,⟨a9,c9,h1,h2⟩=>exact ⟨a9,c9,h1,h2.ext x⟩
 | 10,⟨a1,c1,a2,c2,h1,h2,h3⟩=>exact ⟨a1,c1,a2,c2,h1,h2.ext x,h3.ext x⟩
 | _+11,_=>trivial
theorem xT (v:Value) (l:List RR) (w:World) (h:ct w v l) (hn:l.length≤1000000) (hs:∀ i,i < l.length→(l.getD i zR).num.length≤1000000∧(l.getD i zR).den.length≤1000000) :
  Calls Tryz.prog 133 #[v] w fun e w'=>(∃ v',e=.returned v'∧bT w.heap.size w' v' l)∧Ext w w':=by
 have HV:=kI h;have Ai:=kI h;have HS:=kI hs;have HN:=kI hn;obtain ⟨av,cv,rfl,yR,hvm,fv,hvf⟩:=h.get;have hvl:l.length≤9223372036854775807:=by omega
 have hb0:=fH.new (B:=w.heap.size) (n:=l.length) (af.new w (madeCells #[.bool false,.slice none 0 0,.slice none 0 0] (l.length*3)) 25);have hx0:Ext w (w.alloc (.cells (madeCells #[.bool false,.slice none 0 0,.slice none 0 0] (l.length*3)) 25)):=(Ext.refl w).alloc _;obtain ⟨CC,vX⟩:=gN (madeCells #[Value.bool false,.slice none 0 0,.slice none 0 0] (l.length*3));rw [← vX] at hb0 hx0;have nL:=kI vX;clear h hs yR hvm hvf fv vX;go_enter Tryz.func133,Tryz.ntmps133
 go_wp2_with (at_make;(refine gU rfl _ _ rfl l.length rfl rfl Tryz.underlying29 Tryz.fU (by omega) (by omega) CC (by exact nL.o.symm) ?_))
 obtain ⟨wl,hwl⟩:=gN (w.alloc (.cells CC 25));rw [← hwl] at hb0 hx0 ⊢;obtain ⟨bn,hbn⟩:=gN (w.heap.size);rw [← hbn] at hb0 ⊢;have BN:=kI hbn;replace HV:=kI (HV.o.ext hx0);have F0:=kI (hb0.congr (g:=fun j=>if j < 0 then l.getD j zR else zR) (fun j hj=>rfl));have X:=kI hx0;clear hb0 hx0 hwl hbn nL;have XL:=kI X.o.size;go_loopw [11] (fun i wr=>∃ k:Nat,k≤l.length∧i=.int .i64 k∧fH wr bn bn l.length (fun j=>if j < k then l.getD j zR else zR)∧Ext w wr∧ct wr (.slice av l.length cv) l) (fun i _=>l.length - (intOf i).toNat)
 case atStart=>exact ⟨0,Nat.zero_le _,rfl,F0.o,X.o,HV.o⟩
 case round=>
  obtain ⟨wk,hwk⟩:=gN (wr);subst hwk;obtain ⟨k,hk,rfl,hfr,hx,hv⟩:=hrel;have FR:=kI hfr;replace HV:=kI hv;replace X:=kI hx;clear hfr hx hv F0;by_cases hlt:k < l.length
  ·obtain ⟨b,off,p1,d1,p2,d2,rfl,z0,z1,z2,z3,z4⟩:=HV.o.at hlt;have hsk:=HS.o k hlt;obtain ⟨r,hr⟩:=gN (l.getD k zR);have HR:=kI hr;rw [← hr] at z1 z2 z3 z4 hsk;clear hr;obtain ⟨vn,vd,ez,hz1,hz2⟩:=z4;injection ez with ez
   simp only [Array.mk.injEq,List.cons.injEq,and_true,true_and] at ez;obtain ⟨rfl,rfl⟩:=ez;have NU:=kI hz1;have DE:=kI hz2;have SK:=kI hsk;have q1:(0:Int)≤(k:Int):=by omega
   have q2:(k:Int) < (l.length:Int):=by omega
   clear hz1 hz2 hsk;obtain ⟨wo,hwo⟩:=gN (wk.alloc (.cells #[.bool r.neg,.slice p1 r.num.length d1,.slice p2 r.den.length d2] 25));have hx:Ext wk wo:=by rw [hwo];exact (Ext.refl _).alloc _
   have pQ:af wo wk.heap.size #[.bool r.neg,.slice p1 r.num.length d1,.slice p2 r.den.length d2] 25:=by rw [hwo];exact af.new _ _ _
   have sj:=kI hwo;obtain ⟨Y,hY⟩:=gN (wk.heap.size);have Ib:=kI hY;rw [← hY] at pQ;have YL:=kI (show bn≠Y from by have:=FR.o.lt;omega);have XW:=kI (show w.heap.size≤wk.heap.size from X.o.size);clear hwo hY;replace FR:=kI (FR.o.ext hx);replace HV:=kI (HV.o.ext hx);replace NU:=kI (NU.o.ext hx);replace DE:=kI (DE.o.ext hx);replace X:=kI (X.o.trans hx);have BY:=kI pQ;clear hx pQ;go_wp2_with fail;rw [← sj.o,← Ib.o];clear z0 z1 z2 z3 sj;refine cH 11 (Qi (.slice (some ⟨bn,0,none⟩) l.length l.length) k Y r p1 p2 d1 d2 wo) (by kernel_rfl) (by kernel_rfl) (by kernel_rfl) (fun _ _ _ _ h x=>Ej h x) ?_ ?_
   ·refine ⟨?_,?_,?_,?_,?_,?_,?_,?_,?_,?_,?_,trivial⟩
    ·intro a W hW hB hD K hK;have b3:=hB 3 rfl;simp only [sB] at b3;go_simp;exact hK _ _ (Ext.refl _) rfl
    ·intro a W hW hB hD K hK;have b4:=hB 4 rfl;simp only [sB] at b4;go_simp;exact hK _ _ (Ext.refl _) rfl
    ·intro a W hW hB hD K hK;have b5:=hB 5 rfl;simp only [sB] at b5;go_simp;exact hK _ _ (Ext.refl _) rfl
    ·intro a W hW hB hD K hK;obtain ⟨v18,e18,h18⟩:=az (hD 2 _ 18 rfl rfl (by kernel_rfl));obtain rfl:=h18;have q9:=(BY.o.ext hW).cell;have l9:=(BY.o.ext hW).lt;go_simp;exact hK _ _ (Ext.refl _) rfl
    ·intro a W hW hB hD K hK;have b5:=hB 5 rfl;simp only [sB] at b5;go_simp;exact hK _ _ (Ext.refl _) rfl
    ·intro a W hW hB hD K hK;obtain ⟨v20,e20,h20⟩:=az (hD 4 _ 20 rfl rfl (by kernel_rfl));obtain rfl:=h20;have q9:=(BY.o.ext hW).cell;have l9:=(BY.o.ext hW).lt;go_simp;exact hK _ _ (Ext.refl _) rfl
    ·intro a W hW hB hD K hK;obtain ⟨v21,e21,h21⟩:=az (hD 5 _ 21 rfl rfl (by kernel_rfl));obtain rfl:=h21;go_simp;refine (clone_any _ r.num _ (NU.o.ext hW) (by have:=SK.o;omega)).mono ?_;rintro e w9 ⟨⟨v,rfl,nn⟩,hx⟩;obtain ⟨a9,c9,rfl⟩:=nn.shape;exact hK _ _ hx ⟨_,_,rfl,nn.from hW⟩
    ·intro a W hW hB hD K hK;have b5:=hB 5 rfl;simp only [sB] at b5;go_simp;exact hK _ _ (Ext.refl _) rfl
    ·intro a W hW hB hD K hK;obtain ⟨v23,e23,h23⟩:=az (hD 7 _ 23 rfl rfl (by kernel_rfl));obtain rfl:=h23;have q9:=(BY.o.ext hW).cell;have l9:=(BY.o.ext hW).lt;go_simp;exact hK _ _ (Ext.refl _) rfl
    ·intro a W hW hB hD K hK;obtain ⟨v24,e24,qS⟩:=az (hD 8 _ 24 rfl rfl (by kernel_rfl));obtain rfl:=qS;go_simp;refine (clone_any _ r.den _ (DE.o.ext hW) (by have:=SK.o;omega)).mono ?_;rintro e w9 ⟨⟨v,rfl,nn⟩,hx⟩;obtain ⟨a9,c9,rfl⟩:=nn.shape;exact hK _ _ hx ⟨_,_,rfl,nn.from hW⟩
    ·intro a W hW hB hD K hK;obtain ⟨v19,e19,h19⟩:=az (hD 3 _ 19 rfl rfl (by kernel_rfl));obtain rfl:=h19;obtain ⟨v22,e22,h22⟩:=az (hD 6 _ 22 rfl rfl (by kernel_rfl));obtain ⟨d3,d4,rfl,dh⟩:=h22;obtain ⟨v25,e25,Bd⟩:=az (hD 9 _ 25 rfl rfl (by kernel_rfl));obtain ⟨e3,e4,rfl,eh⟩:=Bd;go_simp;exact hK _ _ (Ext.refl _) ⟨_,_,_,_,rfl,dh,eh⟩
   intro w9 hx;simp only [cX,List.take_succ_cons,List.take_zero,List.drop_succ_cons,List.drop_zero];rintro u0 h0 u1 h1 u2 - u3 - u4 - u5 - u6 - u7 - u8 - u9 - u10 h10;obtain rfl:u0=.slice (some ⟨bn,0,none⟩) l.length l.length:=h0;obtain rfl:u1=.int .i64 (k:Nat):=h1;obtain ⟨x1,x2,x3,x4,rfl,hn1,hn2⟩:=h10;simp only [Act.put,List.setIfInBounds_toArray,List.set_cons_zero,List.set_cons_succ];have S1:=kI (cA.new (B:=bn) hn1 (by have h1:=BN.o;have h2:=XW.o;have:=Ib.o;have h3:=BY.o.lt;omega));have S2:=kI (cA.new (B:=bn) hn2 (by have h1:=BN.o;have h2:=XW.o;have:=Ib.o;have h3:=BY.o.lt;omega));replace FR:=kI (FR.o.ext hx);replace HV:=kI (HV.o.ext hx);replace X:=kI (X.o.trans hx);clear hx hn1 hn2 NU DE BY Ib;obtain ⟨g1,g2,g3,g4,c0,c1,c2,-⟩:=FR.o.at hlt;have f0:=FR.o.free;have fl:=FR.o.lt;go_wp2_with fail;have hset:=FR.o.set hlt S1.o S2.o;have Gm:=hset.congr (g:=fun j=>if j < k+1 then l.getD j zR else zR) (fun j hj=>by
    by_cases e:j=k
    ·subst e;rw [if_pos rfl,if_pos (Nat.lt_succ_self _)];exact HR.o
    ·rw [if_neg e];by_cases e2:j < k
     ·rw [if_pos e2,if_pos (by omega)]
     ·rw [if_neg e2,if_neg (by omega)])
   have hxx:=jf (x:=.bool r.neg) (y:=.slice x1 r.num.length x2) (z:=.slice x3 r.den.length x4) (o:=k*3) (b:=bn) X.o (by rw [BN.o];exact Nat.le_refl _);have F2:=kI Gm;have X2:=kI hxx;clear hset Gm hxx;go_roundw
   case rel=>exact ⟨k+1,by omega,by go_num,F2.o,X2.o,Ai.o.ext X2.o⟩
   case measure=>simp [intOf];omega
  ·obtain rfl:k=l.length:=by omega
   have q1:¬ (l.length:Int) < (l.length:Int):=by omega
   have ho:=FR.o.own (Nat.le_refl _) hvl;have ho2:bT bn wk (.slice (some ⟨bn,0,none⟩) l.length l.length) l:=by
    have e:(List.range l.length).map (fun j=>if j < l.length then l.getD j zR else zR)=l:=by
     have e2:(List.range l.length).map (fun j=>if j < l.length then l.getD j zR else zR)=(List.range l.length).map (fun j=>l.getD j zR):=List.map_congr_left (fun j hj=>if_pos (List.mem_range.1 hj));rw [e2];exact vW l zR
    rw [e] at ho;exact ho
   rw [BN.o] at ho2 ⊢;have O2:=kI ho2;clear ho ho2;go_wp2_with fail;go_ret;exact ⟨⟨_,rfl,O2.o⟩,X.o⟩
end Go.Proofs.YtnnjbaijcaiohaaGreat
