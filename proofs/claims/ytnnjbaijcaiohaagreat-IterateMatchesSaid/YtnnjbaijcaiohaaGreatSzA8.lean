/- Walks and lemmas. -/
import Derived.Test.YtnnjbaijcaiohaaGreatSzA7
import Derived.Test.YtnnjbaijcaiohaaGreatSzA5
import Derived.Test.YtnnjbaijcaiohaaGreatSzA6
import Derived.Test.YtnnjbaijcaiohaaGreatSzA1
import Derived.WalkMore
set_option linter.unusedVariables false
set_option linter.unusedSimpArgs false
set_option maxRecDepth 100000
set_option maxHeartbeats 16000000
namespace Go.Proofs.YtnnjbaijcaiohaaGreat
open Go.RowKit
variable {a a0:Act} {listed:Array Bool} {T:Array Bool→World→Prop} {ops:Array Oper} {ps:Array Tmp} {args tmps:Array Value} {assign body:Code} {Q:Exit→Act→World→Prop} {F:Fence} {u:FrameMode} {f:FuncId} {c s:Int} {plan:List (List Int)} {ds:List Deferred} {l l1 l2 la lb lq:List Int} {rest:List Oper} {cs h vs xs:List Value} {An B C H L N b b0 bx c1 c2 cap d1 d2 fuel g i id j jn k m1 m2 n n1 n2 nf nn off xn y:Nat} {X:Nat→Prop} {oi om:Oper} {a1 a2 a3 xa:Option Addr} {P:Program} {R p p0 p1 p10 p11 p12 p13 p2 p3 p4 p5 p6 p7 p8 p9:Prop} {md:Region.Mode} {α:Type} {e t t1 t2 t3:TypeId} {lv v vb vr z:Value} {A W W' W0 w w' w0 w2 w3 w4 wB:World} {S S1 S2:World→Prop}
section
def Lo (c:Array Value):Prop:=∀ x ∈ c,∀ k n,x≠.int k n
theorem Lo.set {c:Array Value} (h:Lo c) (i:Nat) {x:Value} (hx:∀ k n,x≠.int k n):Lo (c.setIfInBounds i x):=fun u hu=>by
 rcases Array.mem_or_eq_of_mem_setIfInBounds hu with hu|rfl
 ·exact h u hu
 ·exact hx
theorem pV {b:Bool}:Lo #[.bool b,.slice a1 n1 c1,.slice a2 n2 c2]:=fun x hx k n=>by
 simp at hx;rcases hx with rfl|rfl|rfl <;> simp
theorem mM {k:IntKind} (h:aY k A v l) {c:Array Value} (hb:af A bx c t) (hn:Lo c) (o:Nat) (u:Value):aY k (A.setCell ⟨bx,o,none⟩ u) v l:=by
 obtain ⟨a,cap,rfl,h1,h2,h3⟩:=h;refine ⟨a,cap,rfl,h1,h2,fun i hi=>?_⟩;obtain ⟨b,off,e1,e2,e3⟩:=h3 i hi;simp only [List.length_map] at hi;have hne:b≠bx:=by
  intro e;rw [e,hb.cell] at e3;have h4:(l.map (Value.int k))[i]?=some (.int k l[i]):=by simp [hi]
  rw [h4] at e3;exact hn _ (Array.mem_of_getElem? e3) _ _ rfl
 refine ⟨b,off,e1,by simpa [World.setCell] using e2,?_⟩;exact qQt
def tW (W:World) (b:Nat) (t:TypeId) (r:RR):Prop:=∃ a1 c1 a2 c2,af W b #[.bool r.neg,.slice a1 r.num.length c1,.slice a2 r.den.length c2] t∧bH W (.agg #[.bool r.neg,.slice a1 r.num.length c1,.slice a2 r.den.length c2]) r
structure i9 (W:World) (b:Nat) (c:Array Value) (t:TypeId) (x y z:Value) (o:Nat):Prop where
 b0:af W b c t
 n0:Lo c
 hx:∀ k n,x≠.int k n
 hy:∀ k n,y≠.int k n
 hz:∀ k n,z≠.int k n
theorem i9.of {c:Array Value} (h:af W b c t) (hn:Lo c) {q:Bool} {o:Nat}:i9 W b c t (.bool q) (.slice a1 n1 c1) (.slice a2 n2 c2) o:=⟨h,hn,by simp,by simp,by simp⟩
section
variable {W:World} {b:Nat} {c:Array Value} {t:TypeId} {x y z:Value} {o:Nat}
theorem i9.GQ (p:i9 W b c t x y z o) {k:IntKind} (h:aY k W v l):aY k (((W.setCell ⟨b,o,none⟩ x).setCell ⟨b,o+1,none⟩ y).setCell ⟨b,o+2,none⟩ z) v l:=
 mM (mM (mM h p.b0 p.n0 _ _) (p.b0.set _ _) (p.n0.set _ p.hx) _ _) ((p.b0.set _ _).set _ _) ((p.n0.set _ p.hx).set _ p.hy) _ _
theorem i9.Lp (p:i9 W b c t x y z o) {r:RR} (h:bH W v r):bH (((W.setCell ⟨b,o,none⟩ x).setCell ⟨b,o+1,none⟩ y).setCell ⟨b,o+2,none⟩ z) v r:=by
 obtain ⟨vn,vd,rfl,h1,h2⟩:=h;exact ⟨_,_,rfl,p.GQ h1,p.GQ h2⟩
theorem i9.blk {p:Nat} {d:Array Value} {u:TypeId} (h:af W p d u) (hne:p≠b):af (((W.setCell ⟨b,o,none⟩ x).setCell ⟨b,o+1,none⟩ y).setCell ⟨b,o+2,none⟩ z) p d u:=
 ((h.setOther (a:=⟨b,o,none⟩) hne x).setOther (a:=⟨b,o+1,none⟩) hne y).setOther (a:=⟨b,o+2,none⟩) hne z
theorem cw (h:Ext w0 W) (hb:w0.heap.size≤b):Ext w0 (((W.setCell ⟨b,o,none⟩ x).setCell ⟨b,o+1,none⟩ y).setCell ⟨b,o+2,none⟩ z):=
 ((h.set (p:=⟨b,o,none⟩) hb x).set (p:=⟨b,o+1,none⟩) hb y).set (p:=⟨b,o+2,none⟩) hb z
end
theorem tW.put {r s:RR} (h:tW W b t r) (hs:bH W (.agg #[.bool s.neg,.slice a1 s.num.length c1,.slice a2 s.den.length c2]) s):
  tW (((W.setCell ⟨b,0,none⟩ (.bool s.neg)).setCell ⟨b,0+1,none⟩ (.slice a1 s.num.length c1)).setCell ⟨b,0+2,none⟩ (.slice a2 s.den.length c2)) b t s:=by
 obtain ⟨d1,e1,d2,e2,h1,h2⟩:=h;have p:=i9.of (q:=s.neg) (a1:=a1) (n1:=s.num.length) (c1:=c1) (a2:=a2) (n2:=s.den.length) (c2:=c2) (o:=0) h1 pV;refine ⟨a1,c1,a2,c2,?_,p.Lp hs⟩;have:=((h1.set 0 (.bool s.neg)).set (0+1) (.slice a1 s.num.length c1)).set (0+2) (.slice a2 s.den.length c2);exact ri
theorem made3 (n k j:Nat) (hk:k < n) (hj:j < 3):(madeCells #[Value.bool false,.slice none 0 0,.slice none 0 0] (n*3))[k*3+j]?=some (#[Value.bool false,.slice none 0 0,.slice none 0 0][j]!):=by
 have h1:k*3+j < n*3:=Z
 have h2:(k*3+j) % 3=j:=Z
 simp [madeCells,h1,h2]
end
section
def ElC (W:World) (B:Nat) (cur:Array Value) (o:Nat) (r:RR):Prop:=∃ a1 c1 a2 c2,cur[o]?=some (.bool r.neg)∧cur[o+1]?=some (.slice a1 r.num.length c1)∧cur[o+2]?=some (.slice a2 r.den.length c2)∧
 gB B W (.slice a1 r.num.length c1) r.num∧gB B W (.slice a2 r.den.length c2) r.den
def gy (W:World) (B b n:Nat) (f:Nat→RR):Prop:=∃ cur,af W b cur 25∧cur.size=n*3∧∀ j,j < n→ElC W B cur (j*3) (f j)
theorem gy.lt {f:Nat→RR} (h:gy W B b n f):b < W.heap.size:=by obtain ⟨cur,h1,_⟩:=h;exact h1.lt
theorem gy.keeps {f:Nat→RR} (h:gy W B b n f) (k:Keeps C t W W') (ht:25≠t) (hu:157≠t):gy W' B b n f:=by
 obtain ⟨cur,h1,h2,h3⟩:=h;exact ⟨cur,h1.keeps k ht,h2,fun j hj=>by obtain ⟨a1,c1,a2,c2,e1,e2,e3,e4,e5⟩:=h3 j hj;exact ⟨a1,c1,a2,c2,e1,e2,e3,e4.keeps k hu,e5.keeps k hu⟩⟩
theorem gy.ext {f:Nat→RR} (h:gy W B b n f) (x:Ext W W'):gy W' B b n f:=by
 obtain ⟨cur,h1,h2,h3⟩:=h;exact ⟨cur,h1.ext x,h2,fun j hj=>by obtain ⟨a1,c1,a2,c2,e1,e2,e3,e4,e5⟩:=h3 j hj;exact ⟨a1,c1,a2,c2,e1,e2,e3,e4.ext x,e5.ext x⟩⟩
instance {f:Nat→RR}:Lx (Ext W W') (gy W B b n f) (gy W' B b n f):=⟨fun k h=>gy.ext h k⟩
theorem gy.congr {f g:Nat→RR} (h:gy W B b n f) (e:∀ k,k < n→f k=g k):gy W B b n g:=by
 obtain ⟨cur,h1,h2,h3⟩:=h;exact ⟨cur,h1,h2,fun j hj=>by rw [← e j hj];exact h3 j hj⟩
theorem gy.at {f:Nat→RR} (h:gy W B b n f) (hj:j < n):∃ a1 c1 a2 c2,W.cell? ⟨b,j*3,none⟩=some (.bool (f j).neg)∧W.cell? ⟨b,j*3+1,none⟩=some (.slice a1 (f j).num.length c1)∧W.cell? ⟨b,j*3+2,none⟩=some (.slice a2 (f j).den.length c2)∧
  bH W (.agg #[.bool (f j).neg,.slice a1 (f j).num.length c1,.slice a2 (f j).den.length c2]) (f j):=by
 obtain ⟨cur,h1,h2,h3⟩:=h;obtain ⟨a1,c1,a2,c2,e1,e2,e3,e4,e5⟩:=h3 j hj;exact ⟨a1,c1,a2,c2,by rw [h1.cell];exact e1,by rw [h1.cell];exact e2,by rw [h1.cell];exact e3,_,_,rfl,e4.rd,e5.rd⟩
theorem gy.free {f:Nat→RR} (h:gy W B b n f):∀ o,W.frozen? ⟨b,o,none⟩=false:=by
 obtain ⟨cur,h1,_⟩:=h;exact h1.free
theorem kO {c:Array Value} (hb:af W b c t) (o:Nat) (x:Value):Keeps b t W (W.setCell ⟨b,o,none⟩ x):=
 ⟨(Below.refl 0 W).setCell (Nat.zero_le _) x,fun i hi ho=>Below.heap_setCell W ⟨b,o,none⟩ x i (fun (e:i=b)=>by
  subst e;rcases ho with h1|⟨cur,u,h1,h2⟩
  ·omega
  ·unfold af at hb h1;rw [hb] at h1;injection h1 with h1
   injection h1 with _ h3
   exact h2 h3.symm)⟩
theorem tX {c:Array Value} (hb:af W b c t) (o:Nat) (x y z:Value):Keeps b t W (((W.setCell ⟨b,o,none⟩ x).setCell ⟨b,o+1,none⟩ y).setCell ⟨b,o+2,none⟩ z):=
 ((kO hb o x).trans (kO (hb.set _ _) (o+1) y)).trans (kO ((hb.set _ _).set _ _) (o+2) z)
theorem gy.set {f:Nat→RR} (h:gy W B b n f) {a:Nat} (ha:a < n) {r:RR} (s1:gB B W (.slice a1 r.num.length c1) r.num) (s2:gB B W (.slice a2 r.den.length c2) r.den):
  gy (((W.setCell ⟨b,a*3,none⟩ (.bool r.neg)).setCell ⟨b,a*3+1,none⟩ (.slice a1 r.num.length c1)).setCell ⟨b,a*3+2,none⟩ (.slice a2 r.den.length c2)) B b n (fun k=>if k=a then r else f k):=by
 obtain ⟨cur,hc,hs,h3⟩:=h;have hk:=tX hc (a*3) (.bool r.neg) (.slice a1 r.num.length c1) (.slice a2 r.den.length c2);have b3:=((hc.set (a*3) (.bool r.neg)).set (a*3+1) (.slice a1 r.num.length c1)).set (a*3+2) (.slice a2 r.den.length c2);refine ⟨_,b3,by simp [hs],fun k hkn=>?_⟩;by_cases hka:k=a
 ·subst hka;simp only [if_pos];refine ⟨a1,c1,a2,c2,?_,?_,?_,s1.keeps hk ah,s2.keeps hk ah⟩
  ·rw [Array.getElem?_setIfInBounds_ne Z,Array.getElem?_setIfInBounds_ne Z,Array.getElem?_setIfInBounds_self_of_lt Z]
  ·rw [Array.getElem?_setIfInBounds_ne Z,Array.getElem?_setIfInBounds_self_of_lt oZ]
  ·rw [Array.getElem?_setIfInBounds_self_of_lt oZ]
 ·simp only [if_neg hka];obtain ⟨d1,e1,d2,e2,x1,x2,x3,x4,x5⟩:=h3 k hkn;refine ⟨d1,e1,d2,e2,?_,?_,?_,x4.keeps hk ah,x5.keeps hk ah⟩
  ·rw [Array.getElem?_setIfInBounds_ne Z,Array.getElem?_setIfInBounds_ne Z,Array.getElem?_setIfInBounds_ne Z];exact x1
  ·rw [Array.getElem?_setIfInBounds_ne Z,Array.getElem?_setIfInBounds_ne Z,Array.getElem?_setIfInBounds_ne Z];exact x2
  ·rw [Array.getElem?_setIfInBounds_ne Z,Array.getElem?_setIfInBounds_ne Z,Array.getElem?_setIfInBounds_ne Z];exact x3
theorem Az (B:Nat) (w:World):gB B w (.slice none 0 0) []:=⟨⟨none,0,rfl,Nat.le_refl _,by omega,fun i hi=>by cases hi⟩,.inl ⟨rfl,_,_,rfl⟩⟩
theorem gy.new (hb:af W b (madeCells #[.bool false,.slice none 0 0,.slice none 0 0] (n*3)) 25):gy W B b n (fun _=>zR):=
 ⟨_,hb,by simp [madeCells],fun k hk=>⟨none,0,none,0,made3 n k 0 hk ah,made3 n k 1 hk ah,made3 n k 2 hk ah,Az _ _,Az _ _⟩⟩
theorem gy.own {f:Nat→RR} (h:gy W B b n f) (hB:B≤b) (hn:n≤9223372036854775807):bm B W (.slice (some ⟨b,0,none⟩) n n) ((List.range n).map f):=by
 obtain ⟨cur,hc,hs,h3⟩:=h;have hch:∀ k,k≤n→((List.range k).map fun j=>[cur.getD (j*3) undef,cur.getD (j*3+1) undef,cur.getD (j*3+2) undef]).flatten=cur.toList.take (k*3):=by
  intro k;induction k with
  | zero=>intro _;simp
  | succ k ih=>
   intro hk;have g:∀ j,j < cur.size→cur.toList[j]?=some (cur.getD j undef):=fun j hj=>by
    rw [Array.getElem?_toList,Array.getElem?_eq_getElem hj];simp [Array.getD,hj]
   have tk:∀ j,j < cur.size→cur.toList.take (j+1)=cur.toList.take j ++ [cur.getD j undef]:=fun j hj=>by
    rw [List.take_succ_eq_append_getElem Gl];congr 2
    simp [Array.getD,hj]
   rw [List.range_succ,List.map_append,List.flatten_append,ih Z,show (k+1)*3=k*3+1+1+1 by omega,tk _ Z,tk _ Z,tk _ Z];simp
 refine ⟨(List.range n).map fun j=>[cur.getD (j*3) undef,cur.getD (j*3+1) undef,cur.getD (j*3+2) undef],⟨by simp only [List.length_map,List.length_range];rw [hch n (Nat.le_refl _),List.length_take];simp [hs],.inr ⟨b,n,cur,by simp,hB,hc,by simp,by unfold maxLen;omega,hs,?_⟩⟩,by simp,?_,?_⟩
 ·rw [hch n (Nat.le_refl _)];simp
 ·intro h hh;obtain ⟨j,_,rfl⟩:=List.mem_map.1 hh;rfl
 ·intro i x hi;rw [List.getElem?_map] at hi;by_cases hin:i < n
  ·rw [List.getElem?_range hin] at hi;injection hi with hi
   obtain ⟨a1,c1,a2,c2,e1,e2,e3,e4,e5⟩:=h3 i hin;rw [hi] at e1 e2 e3 e4 e5;refine ⟨_,by rw [List.getElem?_map,List.getElem?_range hin];rfl,a1,c1,a2,c2,?_,e4,e5⟩;have d:∀ j v,cur[j]?=some v→cur.getD j undef=v:=fun j v h=>by rw [Array.getD_eq_getD_getElem?,h];rfl
   show [cur.getD (i*3) undef,cur.getD (i*3+1) undef,cur.getD (i*3+2) undef]=_;rw [d _ _ e1,d _ _ e2,d _ _ e3]
  ·rw [List.getElem?_eq_none oZ] at hi;cases hi
def bZ (f:Nat→Int):Nat→Int
 | 0=>0
 | n+1=>if bZ f n≠0 then bZ f n else f n
theorem bg {f:Nat→Int}:∀ {n:Nat},(∀ i,i < n→f i=0)→bZ f n=0
 | 0,_=>rfl
 | n+1,h=>by
  unfold bZ;rw [bg (n:=n) (fun i hi=>h i Z),if_neg (fun h=>h rfl)];exact h n Z
theorem bS {f:Nat→Int}:∀ {n:Nat},bZ f n=0→∀ i,i < n→f i=0
 | 0,_,i,hi=>by omega
 | n+1,h,i,hi=>by
  unfold bZ at h;by_cases h0:bZ f n=0
  ·rw [h0,if_neg (fun h=>h rfl)] at h;by_cases e:i=n
   ·subst e;exact h
   ·exact bS h0 i Z
  ·rw [if_pos h0] at h;exact absurd h h0
theorem cz {f:Nat→Int} (h0:∀ i,i < k→f i=0) (hk:f k≠0):∀ {n:Nat},k < n→bZ f n=f k
 | 0,h=>by omega
 | n+1,h=>by
  unfold bZ;by_cases e:k=n
  ·subst e;rw [bg h0,if_neg (fun h=>h rfl)]
  ·rw [cz h0 hk (n:=n) Z,if_pos hk]
theorem nj {f g:Nat→Int}:∀ {n:Nat},(∀ i,i < n→f i=g i)→bZ f n=bZ g n
 | 0,_=>rfl
 | n+1,h=>by
  unfold bZ;rw [nj (n:=n) (fun i hi=>h i Z),h n Z]
abbrev Out:=Int × RR
def dO:Out:=(0,zR)
structure aL where
 cost:RR
 next:List Out
def dA:aL:=⟨zR,[]⟩
structure MD where
 ag:RR
 states:List (List aL)
def cL (n:Nat) (l:List Out) (i:Nat):Int:=
 if (l.getD i dO).1 < 0∨(n:Int)≤(l.getD i dO).1 then 8
 else if 0 < i∧(l.getD i dO).1≤(l.getD (i - 1) dO).1 then 16
 else if aE (l.getD i dO).2≠0 then aE (l.getD i dO).2
 else if (l.getD i dO).2.neg=true∨(l.getD i dO).2.num=[] then 1 else 0
def dY (l:List Out):List RR:=l.map (·.2)
def dZ (n:Nat) (x:aL):Int:=
 if aE x.cost≠0 then aE x.cost
 else if x.next.length=0 then 3
 else if 64 < x.next.length then 4
 else if bZ (cL n x.next) x.next.length≠0 then bZ (cL n x.next) x.next.length
 else if (du zR (dY x.next)).2≠0 then (du zR (dY x.next)).2
 else if (du zR (dY x.next)).1=rep 1 then 0 else 2
def qV (n:Nat) (ac:List aL):Int:=
 if ac.length=0 then 3 else if 6 < ac.length then 4 else bZ (fun a=>dZ n (ac.getD a dA)) ac.length
def fS (m:MD):Int:=
 if aE m.ag≠0 then aE m.ag
 else if m.ag.neg=true∨1 < qv m.ag then 1
 else if m.states.length=0 then 3
 else if 200 < m.states.length then 4
 else bZ (fun s=>qV m.states.length (m.states.getD s [])) m.states.length
def cJ (m:MD) (v:List RR):Int:=if fS m≠0 then fS m else if v.length≠m.states.length then 16 else 0
def ic (v:List RR) (l:List Out):List RR:=l.map fun o=>v.getD o.1.toNat zR
def aC (m:MD) (v:List RR) (x:aL):RR × Int:=
 if (i6 (dY x.next) (ic v x.next)).2≠0 then (zR,(i6 (dY x.next) (ic v x.next)).2)
 else if (mulR m.ag (i6 (dY x.next) (ic v x.next)).1).2≠0 then (zR,(mulR m.ag (i6 (dY x.next) (ic v x.next)).1).2)
 else bL x.cost (mulR m.ag (i6 (dY x.next) (ic v x.next)).1).1
def MD.act (m:MD) (s a:Nat):aL:=(m.states.getD s []).getD a dA
def bK (m:MD) (v:List RR) (ac:List aL):List RR:=ac.map fun x=>(aC m v x).1
def gS (m:MD) (v:List RR) (ac:List aL):Int:=bZ (fun a=>(aC m v (ac.getD a dA)).2) ac.length
def d8 (l:List RR):Nat→Nat
 | 0=>0
 | k+1=>if qv (l.getD k zR) < qv (l.getD (d8 l k) zR) then k else d8 l k
def mf (l:List RR):Nat:=d8 l l.length
def li (m:MD) (v:List RR):Int:=bZ (fun s=>gS m v (m.states.getD s [])) m.states.length
def qT (m:MD) (v:List RR):List Int:=m.states.map fun ac=>(mf (bK m v ac):Int)
def kr (m:MD) (v:List RR):List RR:=m.states.map fun ac=>(bK m v ac).getD (mf (bK m v ac)) zR
def az (m:MD) (v:List RR):List RR × List Int × Int:=
 if cJ m v≠0 then ([],[],cJ m v) else if li m v≠0 then ([],[],li m v) else (kr m v,qT m v,0)
def fD (m:MD) (p:List Int) (s:Nat):Int:=if p.getD s 0 < 0∨((m.states.getD s []).length:Int)≤p.getD s 0 then 8 else 0
def xY (m:MD) (p:List Int) (v:List RR) (s:Nat):Int:=
 if fD m p s≠0 then fD m p s else (aC m v (m.act s (p.getD s 0).toNat)).2
def sk (m:MD) (p:List Int) (v:List RR):List RR:=(List.range p.length).map fun s=>(aC m v (m.act s (p.getD s 0).toNat)).1
def aU (m:MD) (p:List Int) (v:List RR):List RR × Int:=
 if cJ m v≠0 then ([],cJ m v) else if p.length≠m.states.length then ([],16)
 else if bZ (xY m p v) p.length≠0 then ([],bZ (xY m p v) p.length) else (sk m p v,0)
def bu (m:MD) (v:List RR):Nat→List RR
 | 0=>v
 | j+1=>(az m (bu m v j)).1
def Ib (m:MD) (v:List RR) (k:Nat):Int:=bZ (fun j=>(az m (bu m v j)).2.2) k
def cg (m:MD) (v:List RR) (k:Int):List (List RR) × List (List Int) × Int:=
 if cJ m v≠0 then ([],[],cJ m v) else if k < 0∨24 < k then ([],[],1)
 else if Ib m v k.toNat≠0 then ([],[],Ib m v k.toNat)
 else ((List.range (k.toNat+1)).map (bu m v),(List.range k.toNat).map (fun j=>(az m (bu m v j)).2.1),0)
def cZ (m:MD) (v:List RR) (p:List (List Int)):Nat→List RR
 | 0=>v
 | j+1=>(aU m (p.getD j []) (cZ m v p j)).1
def rB (m:MD) (v:List RR) (p:List (List Int)) (k:Nat):Int:=bZ (fun j=>(aU m (p.getD j []) (cZ m v p j)).2) k
def dU (m:MD) (v:List RR) (p:List (List Int)):List RR × Int:=
 if cJ m v≠0 then ([],cJ m v) else if 24 < p.length then ([],4)
 else if rB m v p p.length≠0 then ([],rB m v p p.length) else (cZ m v p p.length,0)
def bT (m:MD) (v:List RR):List (List RR) × Int:=
 if cJ m v≠0 then ([],cJ m v) else if li m v≠0 then ([],li m v) else (m.states.map (bK m v),0)
def mg (w:World) (b o:Nat) (r:RR) (a1:Option Addr) (c1:Nat) (a2:Option Addr) (c2:Nat):Prop:=
 b < w.heap.size∧w.cell? ⟨b,o,none⟩=some (.bool r.neg)∧w.cell? ⟨b,o+1,none⟩=some (.slice a1 r.num.length c1)∧w.cell? ⟨b,o+2,none⟩=some (.slice a2 r.den.length c2)∧bH w (.agg #[.bool r.neg,.slice a1 r.num.length c1,.slice a2 r.den.length c2]) r
theorem mg.ext {o:Nat} {r:RR} (h:mg w b o r a1 c1 a2 c2) (x:Ext w w'):mg w' b o r a1 c1 a2 c2:=
 ⟨Nat.lt_of_lt_of_le h.1 x.size,(x.cell (p:=⟨b,o,none⟩) h.1).trans h.2.1,(x.cell (p:=⟨b,o+1,none⟩) h.1).trans h.2.2.1,(x.cell (p:=⟨b,o+2,none⟩) h.1).trans h.2.2.2.1,h.2.2.2.2.ext x⟩
instance {o:Nat} {r:RR}:Lx (Ext w w') (mg w b o r a1 c1 a2 c2) (mg w' b o r a1 c1 a2 c2):=⟨fun k h=>mg.ext h k⟩
theorem aT.at {a:Option Addr} {c:Nat} {l:List RR} (h:aT w (.slice a n c) l) (hi:i < l.length):∃ b off a1 c1 a2 c2,a=some ⟨b,off,none⟩∧mg w b (off+i*3) (l.getD i zR) a1 c1 a2 c2:=by
 obtain ⟨a',cap,e,_,_,f,hr⟩:=h.get;injection e with e1 _ _
 subst e1;obtain ⟨b,off,e1,hb,x0,x1,x2,hrd⟩:=hr i hi;exact ⟨b,off,_,_,_,_,e1,hb,x0,x1,x2,hrd⟩
theorem iE {a:Option Addr} (h:aY .i64 w (.slice a n cap) l) (hi:i < l.length):∃ b off,a=some ⟨b,off,none⟩∧b < w.heap.size∧w.cell? ⟨b,off+i,none⟩=some (.int .i64 (l.getD i 0)):=by
 obtain ⟨a',cap',e,_,_,h3⟩:=h.get;injection e with e1 _ _
 subst e1;obtain ⟨b,off,e1,e2,e3⟩:=h3 i hi;exact ⟨b,off,e1,e2,e3⟩
def mh (w:World) (b o:Nat) (y:Out) (a1:Option Addr) (c1:Nat) (a2:Option Addr) (c2:Nat):Prop:=
 b < w.heap.size∧w.cell? ⟨b,o,none⟩=some (.int .i64 y.1)∧w.cell? ⟨b,o+1,none⟩=some (.bool y.2.neg)∧w.cell? ⟨b,o+2,none⟩=some (.slice a1 y.2.num.length c1)∧w.cell? ⟨b,o+3,none⟩=some (.slice a2 y.2.den.length c2)∧bH w (.agg #[.bool y.2.neg,.slice a1 y.2.num.length c1,.slice a2 y.2.den.length c2]) y.2
theorem mh.ext {o:Nat} {y:Out} (h:mh w b o y a1 c1 a2 c2) (x:Ext w w'):mh w' b o y a1 c1 a2 c2:=
 ⟨Nat.lt_of_lt_of_le h.1 x.size,(x.cell (p:=⟨b,o,none⟩) h.1).trans h.2.1,(x.cell (p:=⟨b,o+1,none⟩) h.1).trans h.2.2.1,(x.cell (p:=⟨b,o+2,none⟩) h.1).trans h.2.2.2.1,(x.cell (p:=⟨b,o+3,none⟩) h.1).trans h.2.2.2.2.1,h.2.2.2.2.2.ext x⟩
instance {o:Nat} {y:Out}:Lx (Ext w w') (mh w b o y a1 c1 a2 c2) (mh w' b o y a1 c1 a2 c2):=⟨fun k h=>mh.ext h k⟩
def dD (w:World) (v:Value) (l:List Out):Prop:=∃ a cap,v=.slice a l.length cap∧l.length≤cap∧cap≤9223372036854775807∧
 ∀ i,i < l.length→∃ b off a1 c1 a2 c2,a=some ⟨b,off,none⟩∧mh w b (off+i*4) (l.getD i dO) a1 c1 a2 c2
theorem dD.ext {l:List Out} (h:dD w v l) (x:Ext w w'):dD w' v l:=by
 obtain ⟨a,cap,e,h1,h2,h3⟩:=h;refine ⟨a,cap,e,h1,h2,fun i hi=>?_⟩;obtain ⟨b,off,a1,c1,a2,c2,e1,e2⟩:=h3 i hi;exact ⟨b,off,a1,c1,a2,c2,e1,e2.ext x⟩
instance {l:List Out}:Lx (Ext w w') (dD w v l) (dD w' v l):=⟨fun k h=>dD.ext h k⟩
theorem dD.at {a:Option Addr} {c:Nat} {l:List Out} (h:dD w (.slice a n c) l) (hi:i < l.length):∃ b off a1 c1 a2 c2,a=some ⟨b,off,none⟩∧mh w b (off+i*4) (l.getD i dO) a1 c1 a2 c2:=by
 exact WU
theorem dD.shape {l:List Out} (h:dD w v l):∃ a cap,v=.slice a l.length cap∧l.length≤9223372036854775807:=by obtain ⟨a,cap,h,h1,h2,_⟩:=h;exact ⟨a,cap,h,Nat.le_trans h1 h2⟩
def ee (w:World) (v:Value) (x:aL):Prop:=∃ a1 c1 a2 c2 a3 c3,v=.agg #[.bool x.cost.neg,.slice a1 x.cost.num.length c1,.slice a2 x.cost.den.length c2,.slice a3 x.next.length c3]∧bH w (.agg #[.bool x.cost.neg,.slice a1 x.cost.num.length c1,.slice a2 x.cost.den.length c2]) x.cost∧dD w (.slice a3 x.next.length c3) x.next
theorem ee.ext {x:aL} (h:ee w v x) (e:Ext w w'):ee w' v x:=by
 exact kTe
instance {x:aL}:Lx (Ext w w') (ee w v x) (ee w' v x):=⟨fun k h=>ee.ext h k⟩
def iT (w:World) (b o:Nat) (x:aL) (a1:Option Addr) (c1:Nat) (a2:Option Addr) (c2:Nat) (a3:Option Addr) (c3:Nat):Prop:=
 mg w b o x.cost a1 c1 a2 c2∧w.cell? ⟨b,o+3,none⟩=some (.slice a3 x.next.length c3)∧dD w (.slice a3 x.next.length c3) x.next
theorem iT.ext {o:Nat} {x:aL} {c3:Nat} (h:iT w b o x a1 c1 a2 c2 a3 c3) (e:Ext w w'):iT w' b o x a1 c1 a2 c2 a3 c3:=
 ⟨h.1.ext e,(e.cell (p:=⟨b,o+3,none⟩) h.1.1).trans h.2.1,h.2.2.ext e⟩
instance {o:Nat} {x:aL} {c3:Nat}:Lx (Ext w w') (iT w b o x a1 c1 a2 c2 a3 c3) (iT w' b o x a1 c1 a2 c2 a3 c3):=⟨fun k h=>iT.ext h k⟩
theorem iT.rd {o:Nat} {x:aL} {c3:Nat} (h:iT w b o x a1 c1 a2 c2 a3 c3):
  ee w (.agg #[.bool x.cost.neg,.slice a1 x.cost.num.length c1,.slice a2 x.cost.den.length c2,.slice a3 x.next.length c3]) x:=⟨_,_,_,_,_,_,rfl,h.1.2.2.2.2,h.2.2⟩
def fb (w:World) (v:Value) (l:List aL):Prop:=∃ a cap,v=.slice a l.length cap∧l.length≤cap∧cap≤9223372036854775807∧
 ∀ i,i < l.length→∃ b off a1 c1 a2 c2 a3 c3,a=some ⟨b,off,none⟩∧iT w b (off+i*4) (l.getD i dA) a1 c1 a2 c2 a3 c3
theorem fb.ext {l:List aL} (h:fb w v l) (x:Ext w w'):fb w' v l:=by
 obtain ⟨a,cap,e,h1,h2,h3⟩:=h;refine ⟨a,cap,e,h1,h2,fun i hi=>?_⟩;obtain ⟨b,off,a1,c1,a2,c2,a3,c3,e1,e2⟩:=h3 i hi;exact ⟨b,off,a1,c1,a2,c2,a3,c3,e1,e2.ext x⟩
instance {l:List aL}:Lx (Ext w w') (fb w v l) (fb w' v l):=⟨fun k h=>fb.ext h k⟩
theorem fb.at {a:Option Addr} {c:Nat} {l:List aL} (h:fb w (.slice a n c) l) (hi:i < l.length):∃ b off a1 c1 a2 c2 a3 c3,a=some ⟨b,off,none⟩∧iT w b (off+i*4) (l.getD i dA) a1 c1 a2 c2 a3 c3:=by
 exact WU
theorem fb.shape {l:List aL} (h:fb w v l):∃ a cap,v=.slice a l.length cap∧l.length≤9223372036854775807:=by obtain ⟨a,cap,h,h1,h2,_⟩:=h;exact ⟨a,cap,h,Nat.le_trans h1 h2⟩
def tY (w:World) (b o:Nat) (ac:List aL) (a1:Option Addr) (c1:Nat):Prop:=b < w.heap.size∧w.cell? ⟨b,o,none⟩=some (.slice a1 ac.length c1)∧fb w (.slice a1 ac.length c1) ac
theorem tY.ext {o:Nat} {ac:List aL} (h:tY w b o ac a1 c1) (e:Ext w w'):tY w' b o ac a1 c1:=
 ⟨Nat.lt_of_lt_of_le h.1 e.size,(e.cell (p:=⟨b,o,none⟩) h.1).trans h.2.1,h.2.2.ext e⟩
instance {o:Nat} {ac:List aL}:Lx (Ext w w') (tY w b o ac a1 c1) (tY w' b o ac a1 c1):=⟨fun k h=>tY.ext h k⟩
def gh (w:World) (v:Value) (l:List (List aL)):Prop:=∃ a cap,v=.slice a l.length cap∧l.length≤cap∧cap≤9223372036854775807∧
 ∀ i,i < l.length→∃ b off a1 c1,a=some ⟨b,off,none⟩∧tY w b (off+i) (l.getD i []) a1 c1
theorem gh.ext {l:List (List aL)} (h:gh w v l) (x:Ext w w'):gh w' v l:=by
 obtain ⟨a,cap,e,h1,h2,h3⟩:=h;refine ⟨a,cap,e,h1,h2,fun i hi=>?_⟩;obtain ⟨b,off,a1,c1,e1,e2⟩:=h3 i hi;exact ⟨b,off,a1,c1,e1,e2.ext x⟩
instance {l:List (List aL)}:Lx (Ext w w') (gh w v l) (gh w' v l):=⟨fun k h=>gh.ext h k⟩
theorem gh.at {a:Option Addr} {c:Nat} {l:List (List aL)} (h:gh w (.slice a n c) l) (hi:i < l.length):∃ b off a1 c1,a=some ⟨b,off,none⟩∧tY w b (off+i) (l.getD i []) a1 c1:=by
 exact WU
theorem gh.shape {l:List (List aL)} (h:gh w v l):∃ a cap,v=.slice a l.length cap∧l.length≤9223372036854775807:=by obtain ⟨a,cap,h,h1,h2,_⟩:=h;exact ⟨a,cap,h,Nat.le_trans h1 h2⟩
def dd (w:World) (v:Value) (m:MD):Prop:=∃ a1 c1 a2 c2 a3 c3,v=.agg #[.bool m.ag.neg,.slice a1 m.ag.num.length c1,.slice a2 m.ag.den.length c2,.slice a3 m.states.length c3]∧bH w (.agg #[.bool m.ag.neg,.slice a1 m.ag.num.length c1,.slice a2 m.ag.den.length c2]) m.ag∧gh w (.slice a3 m.states.length c3) m.states
theorem dd.ext {m:MD} (h:dd w v m) (e:Ext w w'):dd w' v m:=by
 exact kTe
instance {m:MD}:Lx (Ext w w') (dd w v m) (dd w' v m):=⟨fun k h=>dd.ext h k⟩
def pW (x:aL):Prop:=bj x.cost∧∀ i,bj (x.next.getD i dO).2
def eG (m:MD):Prop:=bj m.ag∧∀ s a,pW (m.act s a)
section
variable {P:Program} {l:List Oper} {n:Nat} {Q:Exit→Act→World→Prop} {J:Nat→Value→World→Prop}
def fT (P:Program) (l:List Oper) (n:Nat) (J:Nat→Value→World→Prop) (a0:Act) (w:World) (j:Nat) (o:Oper):Prop:=
 ∀ (a:Act) (W:World),Ext w W→(∀ i,(fills (l.take n)).contains i=false→a.tmps.getD i undef=a0.tmps.getD i undef)→
  (∀ (e:Nat) (oe:Oper) (d:Tmp),l[e]?=some oe→oe.dst=some d→((waits o).contains e && decide (e < n))=true→J e (a.tmps.getD d undef) W)→
  ∃ v,(∀ w',(execOp a.eval o).run P w'=.ok (.value v) w')∧J j v W
def pX (l:List Oper) (n f:Nat):Bool:=
 decide (n < l.length) && (decide (f < n) && (Region.noSelect l.toArray && (ks .any l.toArray f 1 n && (Region.seqB .any l.toArray (l.length - n) n (dK n l.length) && (gH 0 (l.take n) [] &&
  ((List.range l.length).all fun j=>decide (j < n) || match l[f]?,l[j]? with
   | some o,some oj=>o.guard.isNone && (o.apart l.toArray oj || oj.after.any fun e=>Region.binds .any e && e.on == f)
   | _,_=>false))))))
theorem ww {f:Nat} {o9:Oper} (hn:n≤l.length) (hfn:f < n) (hof:l[f]?=some o9) (Lr:o9.guard=none) (hsel:Region.noSelect l.toArray=true) (hQ:∀ c (a:Act) d v w,Q (.panic c) (a.put d v) w→Q (.panic c) a w)
  (hB:gH 0 (l.take n) []=true) (hR:∀ d ∈ fills (l.take n),d < a0.tmps.size) (hJ:∀ j v W W',J j v W→Ext W W'→J j v W') (hS:cE P l n Q J a0 w 0 (l.take n))
  (hap:∀ j oj,l[j]?=some oj→n≤j→(∀ e ∈ oj.after,Region.binds .any e=true→e.on≠f)→o9.apart l.toArray oj=true)
  (hF:fT P l n J a0 w f o9)
  (zX:∀ listed,HeadInv .any l.toArray n listed→∀ i,i < n→i≠f→listed.getD i true=false→∀ j ∈ Region.ready .any l.toArray listed,j < n)
  (hfin:∀ listed a W,cP l n J a0 w listed a W→(∀ j,j < n→listed.getD j false=true)→wpAny P .any l.toArray Q g listed a W):∀ (k:Nat) (listed:Array Bool) (a:Act) (W:World),(still n listed).length=k→cP l n J a0 w listed a W→wpAny P .any l.toArray Q (k+g) listed a W:=by
 intro k;induction k with
 | zero=>
  exact Wq
 | succ k ih=>
  intro listed a W hf inv;rw [show k+1+g=(k+g)+1 by omega];by_cases hex:∃ i,i < n∧i≠f∧listed.getD i true=false
  ·exact zIz
  ·have hall:∀ i,i < n→i≠f→listed.getD i false=true:=fun i hi hif=>by
    exact qBn
   obtain ⟨i,hi,hiu⟩:∃ i,i < n∧listed.getD i true=false:=by
    exact Wy
   obtain rfl:i=f:=Classical.byContradiction fun hc=>by
    have:=hall i hi hc;rw [getD_both hiu] at this;cases this
   have hwf:∀ e ∈ o9.after,Region.binds .any e=true→e.on < i:=fun e he hb=>(gg (l.take n) 0 [] hB).1 i o9 (by rw [ig hi];exact hof) e.on (pR he hb) |> fun h=>by omega
   have pY:i ∈ Region.ready .any l.toArray listed:=mem_ready.2 ⟨hiu,o9,by simpa using hof,fun e he hb=>by
    have:=hwf e he hb;exact hall e.on Z Z⟩
   obtain ⟨v,hy,hv⟩:=hF a W inv.ext inv.base (fun e oe d he hd hwt=>by
    simp only [Bool.and_eq_true,decide_eq_true_eq] at hwt;obtain ⟨eg,k1,k2,k3⟩:=oU (by simpa using hwt.1);have:=hwf eg k1 k2;exact inv.done e oe d Wm hd (by rw [← k3];exact hall eg.on Z Z))
   refine wpAny_first (oi:=o9) (v:=v) (by simpa using hof) (Region.noSelect_spec hsel) (fun c a w'=>hQ c a _ _ w') (k+g) listed a W (fun j oj hj hji Yk hje=>?_) pY (.inl ⟨aX Lr,hy⟩) (ih _ _ _ ?_ (inv.step hB hR hJ hi hof pY (Ext.refl _) hv))
   ·refine hap j oj Gl (Nat.le_of_not_lt fun hlt=>?_) hje;have:=hall j hlt hji;rw [getD_both Yk] at this;cases this
   ·exact zL8
theorem bM (n f:Nat) (J:Nat→Value→World→Prop) {o9:Oper} (hof:l[f]?=some o9) (hm:P.follows .mixedOrders=true) (hT:pX l n f=true) (hR0:(fills (l.take n)).all (fun d=>decide (d < a0.tmps.size))=true) (hJ:∀ j v W W',J j v W→Ext W W'→J j v W')
  (hQ:∀ c (a:Act) d v w,Q (.panic c) (a.put d v) w→Q (.panic c) a w)
  (hS:cE P l n Q J a0 w 0 (l.take n)) (hF:fT P l n J a0 w f o9) (hend:∀ W,Ext w W→dR J W (fun a=>wpList P l.toArray Q (l.drop n) a W) 0 (l.take n) a0):(Code.region id l.toArray true).wp P Q a0 w:=by
 have hR:∀ d ∈ fills (l.take n),d < a0.tmps.size:=fun d hd=>by simpa using List.all_eq_true.1 hR0 d hd
 simp only [pX,Bool.and_eq_true,decide_eq_true_eq] at hT;obtain ⟨hn,hfn,hsel,hh,hq,hB,hap⟩:=hT;have Eh:∀ j oj,l[j]?=some oj→n≤j→o9.guard=none∧((∀ e ∈ oj.after,Region.binds .any e=true→e.on≠f)→o9.apart l.toArray oj=true):=fun j oj hj Ic=>by
  have hjl:j < l.length:=(List.getElem?_eq_some_iff.1 hj).1;have h1:=List.all_eq_true.1 hap j (List.mem_range.2 hjl);simp only [hof,hj,Bool.or_eq_true,decide_eq_true_eq,Bool.and_eq_true] at h1;rcases h1 with h1|⟨h0,h1⟩
  ·omega
  ·exact jPa
 have Lr:o9.guard=none:=(Eh n l[n] (List.getElem?_eq_getElem hn) (Nat.le_refl _)).1;have h:=ww (P:=P) (l:=l) (n:=n) (Q:=Q) (J:=J) (a0:=a0) (w:=w) (g:=l.length - n) Z hfn hof Lr hsel hQ hB hR hJ hS (fun j oj hj Ic hje=>(Eh j oj hj Ic).2 hje) hF
  (fun listed hi i hin hif hun j hj=>Nat.lt_of_not_le fun hge=>jp hh hi (i:=i) (by simp [fE];omega) hin hun j hge hj)
  (fun listed a W inv hall=>by
   have he:=ju (l:=l) Z Pc hall (fun t h1 h2=>inv.head.tail t h1 Bk);subst he;have:=wpAny_of_seq (md:=.any) (Q':=Q) (l.drop n) n (dK n l.length) a W (fun j=>by simp [List.getElem?_drop]) Xm (inv.fin (G:=fun a=>wpList P l.toArray Q (l.drop n) a W) Z hall (hend W inv.ext));rwa [List.length_drop] at this) n _ _ _ (gI Z) (cP.start a0 w)
 exact WT
end
theorem cQ {t:Nat} {vs:Array Value} (h:a.tmps.getD t undef=.tuple vs) (hv:vs[i]?=some v) {o:Oper} (ho:o.op=.extract (.tmp t) i) (w:World):(execOp a.eval o).run P w=.ok (.value v) w:=by
 have h1:a.eval (.tmp t)=.tuple vs:=h;simp [execOp,ho,h1,Instr.extract,hv,Result.andThen,pure,Sem.run]
end
theorem dB {o:Oper} {bytes:Nat} 
  (hg:o.guard=none) (l c:Operand) (hop:o.op=Op.makeSlice t l c) (n:Nat) (hl:a.eval l=.int .i64 (n:Int)) (hc:a.eval c=.int .i64 (n:Int)) (ht:Tryz.prog.underlying t=some (.slice e)) (hinfo:(Tryz.prog.info? e).map (fun i=>(i.zero,i.size,i.bytes))=some (some z,k,bytes)) (hn:bytes*n≤1000000000000) (hn2:n≤1000000000)
  (C:Array Value) (hC:madeCells z.cells (n*k)=C) (hK:wpList Tryz.prog ops Q rest (a.put o.dst (.slice (some ⟨w.heap.size,0,none⟩) n n)) (w.alloc (.cells C e))):wpList Tryz.prog ops Q (o :: rest) a w:=by
 have hr:=vZ w n ht hinfo hn hn2;rw [hC] at hr;refine wpList_plain hg fun K hK'=>?_;unfold Oper.wp;exact zFi
theorem pZ (l:List α) (d:α):(List.range l.length).map (fun j=>l.getD j d)=l:=by
 apply List.ext_getElem
 ·simp
 ·intro i h1 h2;simp [List.getD_eq_getElem?_getD,h2]
def Yl (ov:Value) (k Y:Nat) (r:RR) (p1 p2:Option Addr) (d1 d2:Nat) (wB:World) (j:Nat) (v:Value) (W:World):Prop:=
 match j with
 | 0=>v=ov
 | 1=>v=.int .i64 (k:Nat)
 | 2=>v=.pointer (some ⟨Y,0,none⟩)
 | 3=>v=.bool r.neg
 | 4=>v=.pointer (some ⟨Y,1,none⟩)
 | 5=>v=.slice p1 r.num.length d1
 | 6=>∃ a9 c9,v=.slice a9 r.num.length c9∧bv wB W (.slice a9 r.num.length c9) r.num
 | 7=>v=.pointer (some ⟨Y,2,none⟩)
 | 8=>v=.slice p2 r.den.length d2
 | 9=>∃ a9 c9,v=.slice a9 r.den.length c9∧bv wB W (.slice a9 r.den.length c9) r.den
 | 10=>∃ a1 c1 a2 c2,v=.agg #[.bool r.neg,.slice a1 r.num.length c1,.slice a2 r.den.length c2]∧bv wB W (.slice a1 r.num.length c1) r.num∧bv wB W (.slice a2 r.den.length c2) r.den
 | _=>True
theorem Id {ov:Value} {Y:Nat} {r:RR} {p1 p2:Option Addr} (h:Yl ov k Y r p1 p2 d1 d2 wB j v W) (x:Ext W W'):Yl ov k Y r p1 p2 d1 d2 wB j v W':=by
 match j,h with
 | 0,h=>exact h
 | 1,h=>exact h
 | 2,h=>exact h
 | 3,h=>exact h
 | 4,h=>exact h
 | 5,h=>exact h
 | 6,⟨a9,c9,h1,h2⟩=>exact ⟨a9,c9,h1,h2.ext x⟩
 | 7,h=>exact h
 | 8,h=>exact h
 | 9,⟨a9,c9,h1,h2⟩=>exact ⟨a9,c9,h1,h2.ext x⟩
 | 10,⟨a1,c1,a2,c2,h1,h2,h3⟩=>exact ⟨a1,c1,a2,c2,h1,h2.ext x,h3.ext x⟩
 | _+11,_=>trivial
theorem AA (v:Value) (l:List RR) (w:World) (h:aT w v l) (hn:l.length≤1000000) (hs:∀ i,i < l.length→(l.getD i zR).num.length≤1000000∧(l.getD i zR).den.length≤1000000):
  Calls Tryz.prog 133 #[v] w fun e w'=>(∃ v',e=.returned v'∧bm w.heap.size w' v' l)∧Ext w w':=by
 obtain ⟨HV,Oi,HS,HN⟩:=dW h h hs hn;obtain ⟨av,cv,rfl,rA,hvm,fv,hvf⟩:=h.get;have hvl:l.length≤9223372036854775807:=Z
 have hb0:=gy.new (B:=w.heap.size) (n:=l.length) (af.new w (madeCells #[.bool false,.slice none 0 0,.slice none 0 0] (l.length*3)) 25);have hx0:Ext w (w.alloc (.cells (madeCells #[.bool false,.slice none 0 0,.slice none 0 0] (l.length*3)) 25)):=(Ext.refl w).alloc _;obtain ⟨CC,Ei⟩:=gN (madeCells #[Value.bool false,.slice none 0 0,.slice none 0 0] (l.length*3));rw [← Ei] at hb0 hx0;have Gq:=kI Ei;clear h hs rA hvm hvf fv Ei;go_enter Tryz.func133,Tryz.ntmps133
 go_wp2_with (at_make;(refine dB rfl _ _ rfl l.length rfl rfl Tryz.underlying29 Tryz.dH Z Z CC (by exact Gq.o.symm) ?_))
 obtain ⟨wl,hwl⟩:=gN (w.alloc (.cells CC 25));rw [← hwl] at hb0 hx0 ⊢;obtain ⟨bn,hbn⟩:=gN (w.heap.size);rw [← hbn] at hb0 ⊢;have BN:=kI hbn;replace HV:=HV.x hx0;have F0:=kI (hb0.congr (g:=fun j=>if j < 0 then l.getD j zR else zR) (fun j hj=>rfl));have X:=kI hx0;clear hb0 hx0 hwl hbn Gq;have XL:=kI X.o.size;go_loopw [11] (fun i wr=>∃ k:Nat,k≤l.length∧i=.int .i64 k∧gy wr bn bn l.length (fun j=>if j < k then l.getD j zR else zR)∧Ext w wr∧aT wr (.slice av l.length cv) l) (fun i _=>l.length - (intOf i).toNat)
 case atStart=>exact ⟨0,Nat.zero_le _,rfl,F0.o,X.o,HV.o⟩
 case round=>
  obtain ⟨wk,hwk⟩:=gN (wr);subst hwk;obtain ⟨k,hk,rfl,hfr,hx,hv⟩:=hrel;have FR:=kI hfr;replace HV:=kI hv;replace X:=kI hx;clear hfr hx hv F0;by_cases hlt:k < l.length
  ·obtain ⟨b,off,p1,d1,p2,d2,rfl,z0,z1,z2,z3,z4⟩:=HV.o.at hlt;have hsk:=HS.o k hlt;obtain ⟨r,hr⟩:=gN (l.getD k zR);have HR:=kI hr;rw [← hr] at z1 z2 z3 z4 hsk;clear hr;obtain ⟨vn,vd,ez,hz1,hz2⟩:=z4;injection ez with ez
   simp only [Array.mk.injEq,List.cons.injEq,and_true,true_and] at ez;obtain ⟨rfl,rfl⟩:=ez;obtain ⟨NU,DE,SK⟩:=cC hz1 hz2 hsk;have q1:(0:Int)≤(k:Int):=Z
   have q2:(k:Int) < (l.length:Int):=Z
   clear hz1 hz2 hsk;obtain ⟨wo,hwo⟩:=gN (wk.alloc (.cells #[.bool r.neg,.slice p1 r.num.length d1,.slice p2 r.den.length d2] 25));have hx:Ext wk wo:=by rw [hwo];exact (Ext.refl _).alloc _
   have rC:af wo wk.heap.size #[.bool r.neg,.slice p1 r.num.length d1,.slice p2 r.den.length d2] 25:=by rw [hwo];exact af.new _ _ _
   have uV:=kI hwo;obtain ⟨Y,hY⟩:=gN (wk.heap.size);have NX:=kI hY;rw [← hY] at rC;have YL:=kI (show bn≠Y from by have:=FR.o.lt;omega);have XW:=kI (show w.heap.size≤wk.heap.size from X.o.size);clear hwo hY;revert X;revert DE;revert NU;revert HV;revert FR;refine lf hx ?_;intro FR HV NU DE X;have BY:=kI rC;clear hx rC;go_wp2_with fail;rw [← uV.o,← NX.o];clear z0 z1 z2 z3 uV;refine bE 11 (Yl (.slice (some ⟨bn,0,none⟩) l.length l.length) k Y r p1 p2 d1 d2 wo) ak ak ak (fun _ _ _ _ h x=>Id h x) ?_ ?_
   ·refine ⟨?_,?_,?_,?_,?_,?_,?_,?_,?_,?_,?_,trivial⟩
    ·exact kOp
    ·exact kRc
    ·exact WO
    ·intro a W hW hB hD K hK;obtain ⟨v18,e18,h18⟩:=aQ (hD 2 _ 18 rfl rfl ak);obtain rfl:=h18;exact WN
    ·exact WO
    ·intro a W hW hB hD K hK;obtain ⟨v20,e20,h20⟩:=aQ (hD 4 _ 20 rfl rfl ak);obtain rfl:=h20;exact WN
    ·intro a W hW hB hD K hK;obtain ⟨v21,e21,h21⟩:=aQ (hD 5 _ 21 rfl rfl ak);obtain rfl:=h21;go_simp;refine (clone_any _ r.num _ (NU.o.ext hW) (by have:=SK.o;omega)).mono ?_;exact jJt
    ·exact WO
    ·intro a W hW hB hD K hK;obtain ⟨v23,e23,h23⟩:=aQ (hD 7 _ 23 rfl rfl ak);obtain rfl:=h23;exact WN
    ·intro a W hW hB hD K hK;obtain ⟨v24,e24,Gs⟩:=aQ (hD 8 _ 24 rfl rfl ak);obtain rfl:=Gs;go_simp;refine (clone_any _ r.den _ (DE.o.ext hW) (by have:=SK.o;omega)).mono ?_;exact jJt
    ·intro a W hW hB hD K hK;obtain ⟨v19,e19,h19⟩:=aQ (hD 3 _ 19 rfl rfl ak);obtain rfl:=h19;obtain ⟨v22,e22,h22⟩:=aQ (hD 6 _ 22 rfl rfl ak);obtain ⟨d3,d4,rfl,dh⟩:=h22;obtain ⟨v25,e25,h25⟩:=aQ (hD 9 _ 25 rfl rfl ak);obtain ⟨e3,e4,rfl,eh⟩:=h25;go_simp;exact hK _ _ (Ext.refl _) ⟨_,_,_,_,rfl,dh,eh⟩
   intro w9 hx;simp only [dR,List.take_succ_cons,List.take_zero,List.drop_succ_cons,List.drop_zero];rintro u0 h0 u1 h1 u2 - u3 - u4 - u5 - u6 - u7 - u8 - u9 - u10 h10;obtain rfl:u0=.slice (some ⟨bn,0,none⟩) l.length l.length:=h0;obtain rfl:u1=.int .i64 (k:Nat):=h1;obtain ⟨x1,x2,x3,x4,rfl,hn1,hn2⟩:=h10;simp only [Act.put,List.setIfInBounds_toArray,List.set_cons_zero,List.set_cons_succ];have S1:=kI (gB.new (B:=bn) hn1 kQ0);have S2:=kI (gB.new (B:=bn) hn2 kQ0);revert X;revert HV;revert FR;refine lf hx ?_;intro FR HV X;clear hx hn1 hn2 NU DE BY NX;obtain ⟨g1,g2,g3,g4,c0,c1,c2,-⟩:=FR.o.at hlt;have f0:=FR.o.free;have fl:=FR.o.lt;go_wp2_with fail;have hset:=FR.o.set hlt S1.o S2.o;have Ka:=hset.congr (g:=fun j=>if j < k+1 then l.getD j zR else zR) (fun j hj=>by
    by_cases e:j=k
    ·subst e;rw [if_pos rfl,if_pos (Nat.lt_succ_self _)];exact HR.o
    ·rw [if_neg e];by_cases e2:j < k
     ·rw [if_pos e2,if_pos Z]
     ·rw [if_neg e2,if_neg Z])
   have hxx:=cw (x:=.bool r.neg) (y:=.slice x1 r.num.length x2) (z:=.slice x3 r.den.length x4) (o:=k*3) (b:=bn) X.o (by rw [BN.o];exact Nat.le_refl _);have F2:=kI Ka;have X2:=kI hxx;clear hset Ka hxx;go_roundw
   case rel=>exact ⟨k+1,by omega,by go_num,F2.o,X2.o,Oi.o.ext X2.o⟩
   case measure=>simp [intOf];omega
  ·obtain rfl:k=l.length:=Z
   have q1:¬ (l.length:Int) < (l.length:Int):=Z
   have ho:=FR.o.own (Nat.le_refl _) hvl;have ho2:bm bn wk (.slice (some ⟨bn,0,none⟩) l.length l.length) l:=by
    have e:(List.range l.length).map (fun j=>if j < l.length then l.getD j zR else zR)=l:=by
     have e2:(List.range l.length).map (fun j=>if j < l.length then l.getD j zR else zR)=(List.range l.length).map (fun j=>l.getD j zR):=List.map_congr_left (fun j hj=>if_pos (List.mem_range.1 hj));rw [e2];exact pZ l zR
    rw [e] at ho;exact ho
   rw [BN.o] at ho2 ⊢;have O2:=kI ho2;clear ho ho2;go_wp2_with fail;go_ret;exact ⟨⟨_,rfl,O2.o⟩,X.o⟩
theorem uX {co:RR} {l:List Out} (h:aE co≠0):dZ n ⟨co,l⟩=aE co:=if_pos h
theorem JV {co:RR} {l:List Out} (h:aE co=0) (h2:l.length=0):dZ n ⟨co,l⟩=3:=by unfold dZ;rw [if_neg iw,if_pos h2]
theorem JU {co:RR} {l:List Out} (h:aE co=0) (h2:l.length≠0) (h3:64 < l.length):dZ n ⟨co,l⟩=4:=by unfold dZ;rw [if_neg iw,if_neg h2,if_pos h3]
theorem AB {co:RR} {l:List Out} (h:aE co=0) (h2:l.length≠0) (h3:¬ 64 < l.length) (hk:k < l.length) (h4:∀ j,j < k→cL n l j=0) (h5:cL n l k=c) (h6:c≠0):dZ n ⟨co,l⟩=c:=by
 have e:=cz h4 (by rw [h5];exact h6) hk;unfold dZ;rw [if_neg iw,if_neg h2,if_neg h3];dsimp only;rw [e,h5,if_pos h6]
theorem Ej {co:RR} {l:List Out} (h:aE co=0) (h2:l.length≠0) (h3:¬ 64 < l.length) (h4:∀ j,j < l.length→cL n l j=0):dZ n ⟨co,l⟩=if (du zR (dY l)).2≠0 then (du zR (dY l)).2 else if (du zR (dY l)).1=rep 1 then 0 else 2:=by
 have e:=bg h4;unfold dZ;rw [if_neg iw,if_neg h2,if_neg h3];dsimp only;rw [e,if_neg (fun h=>h rfl)]
theorem jT (l:List Out):(dY l).length=l.length:=by simp [dY]
theorem qe (l:List Out) (i:Nat):(dY l).getD i zR=(l.getD i dO).2:=by
 unfold dY;rw [List.getD_eq_getElem?_getD,List.getElem?_map,List.getD_eq_getElem?_getD];cases l[i]? <;> rfl
theorem hZ {a b:RR} (h:(bL a b).2=0):aE (bL a b).1=0:=by
 unfold bL ng at h ⊢;split at h
 ·rename_i h0;rw [if_pos h0];unfold dv at h ⊢;split at h
  ·rename_i h1;rw [if_pos h1];exact oF h1
  ·cases h
 ·rename_i h0;exact absurd h h0
theorem Ie {r:RR} (hl:bj r) (h:aE r=0):fK r (rep ((1:Int):Rat))=(if r=rep 1 then 0 else (fK r (rep ((1:Int):Rat))).1,0)∧((fK r (rep ((1:Int):Rat))).1=0↔r=rep 1):=by
 have h1:aE (rep ((1:Int):Rat))=0:=ak
 have hv:=(fQ hl h).2.2;have hq:qv (rep ((1:Int):Rat))=1:=gd _;have hc:fK r (rep ((1:Int):Rat))=(et (qv r) 1,0):=by unfold fK;rw [if_pos (lX h h1),hq]
 have hi:et (qv r) 1=0↔r=rep 1:=by
  unfold et;constructor
  ·intro e;split at e
   ·cases e
   ·split at e
    ·rename_i e2;rw [← hv,e2]
    ·cases e
  ·intro e;have e2:qv r=1:=by rw [e];exact hq
   rw [e2,if_neg (Rat.lt_irrefl),if_pos rfl]
 rw [hc];refine ⟨?_,hi⟩;dsimp only;split
 ·rename_i e;rw [hi.2 e]
 ·rfl
def Ls (s:RR) (c:Int) (j:Nat) (v:Value) (W:World):Prop:=
 match j with
 | 0=>∃ s1 s2 s3 s4,v=.agg #[.bool s.neg,.slice s1 s.num.length s2,.slice s3 s.den.length s4]∧bH W (.agg #[.bool s.neg,.slice s1 s.num.length s2,.slice s3 s.den.length s4]) s
 | 1=>∃ v',v=v'∧bH W v' (rep ((1:Int):Rat))
 | 2=>v=.tuple #[.int .i64 c,.int .i64 0]
 | 3=>v=.tuple #[.int .i64 c,.int .i64 0]
 | 4=>v=.int .i64 c
 | 5=>v=.int .i64 0
 | 6=>v=.int .i64 c
 | 7=>v=.int .i64 0
 | _=>True
theorem Ek {s:RR} (h:Ls s c j v W) (x:Ext W W'):Ls s c j v W':=by
 match j,h with
 | 0,⟨s1,s2,s3,s4,h1,h2⟩=>exact ⟨s1,s2,s3,s4,h1,h2.ext x⟩
 | 1,⟨v9,h1,h2⟩=>exact ⟨v9,h1,h2.ext x⟩
 | 2,h=>exact h
 | 3,h=>exact h
 | 4,h=>exact h
 | 5,h=>exact h
 | 6,h=>exact h
 | 7,h=>exact h
 | _+8,_=>trivial
theorem tZ (v:Value) (x:aL) (n:Nat) (w:World) (h:ee w v x) (hl:pW x):
  Calls Tryz.prog 138 #[v,.int .i64 (n:Nat)] w fun e w'=>e=.returned (.int .i64 (dZ n x))∧Ext w w':=by
 obtain ⟨co,l⟩:=x;obtain ⟨a1,c1,a2,c2,a3,c3,rfl,hr,ho⟩:=h;obtain ⟨hl1,hl2⟩:=hl;dsimp only at hr ho hl1 hl2 ⊢;have hll:l.length≤9223372036854775807:=by obtain ⟨_,_,_,h⟩:=ho.shape;exact h
 obtain ⟨HR,HO,jg,HL2⟩:=dW hr ho hl1 hl2;clear hr ho hl1 hl2;have bb0:=(af.new w #[.bool co.neg,.slice a1 co.num.length c1,.slice a2 co.den.length c2,.slice a3 l.length c3] 83);have x0:Ext w (w.alloc (.cells #[.bool co.neg,.slice a1 co.num.length c1,.slice a2 co.den.length c2,.slice a3 l.length c3] 83)):=((Ext.refl w).alloc _);have A0:=kI bb0;have X:=kI x0;clear x0 bb0;replace HR:=kI (HR.o.ext X.o);replace HO:=kI (HO.o.ext X.o);go_enter Tryz.func138,Tryz.ntmps138
 obtain ⟨aK,fA0,aJ⟩:=A0.o.q3;go_wp2_with fail;refine (iy _ co _ HR.o jg.o).mono ?_;rintro e w1 ⟨rfl,hx⟩;clear aK fA0 aJ;revert X;revert A0;revert HO;revert HR;refine lf hx ?_;intro HR HO A0 X;clear hx;by_cases h1:aE co=0
 rotate_left
 ·exact kB8
 rw [h1];by_cases h2:l.length=0
 ·exact jU3
 have q2:((l.length:Int) == 0)=false:=beq_eq_false_iff_ne.2 Z;by_cases h3:64 < l.length
 ·exact zY1
 have q3:¬ (64:Int) < (l.length:Int):=Z
 have HE:=kI (fun (k:Nat) (hk:k < l.length) h4 (c:Int) h5 h6=>AB (n:=n) (k:=k) (c:=c) h1 h2 h3 hk h4 h5 h6);have HI:=kI (Ej (n:=n) h1 h2 h3);clear h1;obtain ⟨aK,fA0,aJ⟩:=A0.o.q3;go_wp2_with fail;clear aK fA0 aJ;clear q2 q3;obtain ⟨wb,hwb⟩:=gN (w1);rw [← hwb] at HR HO A0 X ⊢;clear hwb;obtain ⟨An,hAn⟩:=gN (w.heap.size);rw [← hAn] at A0 ⊢;clear hAn;go_loopw [35] (fun i wr=>∃ k:Nat,k≤l.length∧i=.int .i64 k∧(∀ j,j < k→cL n l j=0)∧Ext wb wr) (fun i _=>l.length - (intOf i).toNat)
 case atStart=>exact ⟨0,by omega,rfl,fun j hj=>by omega,Ext.refl wb⟩
 case round=>
  obtain ⟨wk,hwk⟩:=gN (wr);subst hwk;obtain ⟨k,hk,rfl,hok,hx⟩:=hrel;have OK:=kI hok;have XB:=kI hx;revert X;revert A0;revert HO;revert HR;refine lf hx ?_;intro HR HO A0 X;clear hok hx;by_cases hlt:k < l.length
  ·obtain ⟨b,off,p1,d1,p2,d2,rfl,z0,z1,z2,z3,z4,z5⟩:=HO.o.at hlt;have hy:=HL2.o k;obtain ⟨y,eQ⟩:=gN (l.getD k dO);rw [← eQ] at z1 z2 z3 z4 z5 hy;obtain ⟨tw,r⟩:=y;dsimp only at z1 z2 z3 z4 z5 hy;obtain ⟨NR,HY,Pr⟩:=cC z5 eQ hy;have q1:(0:Int)≤(k:Int):=Z
   have q2:(k:Int) < (l.length:Int):=Z
   clear z5 eQ hy;obtain ⟨wo,hwo⟩:=gN (wk.alloc (.cells #[.int .i64 tw,.bool r.neg,.slice p1 r.num.length d1,.slice p2 r.den.length d2] 80));have hx:Ext wk wo:=by rw [hwo];exact (Ext.refl _).alloc _
   have rC:af wo wk.heap.size #[.int .i64 tw,.bool r.neg,.slice p1 r.num.length d1,.slice p2 r.den.length d2] 80:=by rw [hwo];exact af.new _ _ _
   have uV:=kI hwo;revert X;revert NR;revert A0;revert HO;revert HR;refine lf hx ?_;intro HR HO A0 NR X;obtain ⟨Yn,If⟩:=gN (wk.heap.size);have BY:=kI rC;have QN:=kI If;rw [← If] at BY;have lY:=BY.o.lt;replace XB:=XB.x hx;have Ym:(wk.alloc (.cells #[.int .i64 tw,.bool r.neg,.slice p1 r.num.length d1,.slice p2 r.den.length d2] 80)).cell? ⟨wk.heap.size,0,none⟩=some (.int .i64 tw):=by rw [← hwo,← If];exact BY.o.cell 0
   clear hwo hx rC If lY;by_cases d1:tw < 0
   ·exact qCa
   by_cases d2:(n:Int)≤tw
   ·exact jIm
   go_wp2_with fail;rw [← uV.o,← QN.o];clear uV QN Ym z0 z1 z2 z3 z4;have D2:=kI (And.intro d1 d2);clear d1 d2;rcases Nat.eq_zero_or_pos k with h0|h0
   ·have D3:=kI (show ¬ (0 < k∧tw≤(l.getD (k - 1) dO).1) from by omega);have g1:decide ((0:Int) < (k:Int))=false:=decide_eq_false Z;go_quiet (fail)
    obtain ⟨wq,hwq⟩:=gN (wo.drewN nq);rw [← hwq];have hx:Ext wo wq:=by rw [hwq];exact (Ext.refl _).drewN _
    revert XB;revert X;revert BY;revert NR;revert A0;revert HO;revert HR;refine lf hx ?_;intro HR HO A0 NR BY X XB;clear hx hwq;exact zU0
   ·obtain ⟨m,hm⟩:∃ m,k=m+1:=⟨k - 1,by omega⟩;obtain ⟨b',off',p3,d3,p4,d4,eb,y0,y1,-,-,-,-⟩:=HO.o.at (show m < l.length by omega);injection eb with eb
    injection eb with QO QP
    subst QO;subst QP;obtain ⟨zt,Dm⟩:=gN ((l.getD m dO).1);rw [← Dm] at y1;have g1:decide ((0:Int) < (k:Int))=true:=decide_eq_true Z;have g2:(k:Int) - 1=(m:Int):=Z
    have g3:(0:Int)≤(m:Int):=Z
    have g4:(m:Int) < (l.length:Int):=Z
    have hk1:k - 1=m:=Z
    by_cases d3:tw≤zt
    ·have hE:cL n l k=16:=by
      exact zUe
     have E:=kI (HE.o k hlt OK.o 16 hE ah);have g5:decide (tw≤zt)=true:=decide_eq_true d3;clear hE hk1 Dm hm;have g6:decide (0 < k)=true:=decide_eq_true h0;obtain ⟨aK,fA0,aJ⟩:=A0.o.q3;obtain ⟨oh,ol,ou⟩:=BY.o.q3;go_quiet (fail)
     obtain ⟨wq,hwq⟩:=gN (wo.drewN nq);rw [← hwq];have hx:Ext wo wq:=by rw [hwq];exact (Ext.refl _).drewN _
     clear aK fA0 aJ oh ol ou;revert XB;revert X;revert BY;revert NR;revert A0;revert HO;revert HR;refine lf hx ?_;intro HR HO A0 NR BY X XB;clear hx hwq;exact Bg
    have D3:=kI (show ¬ (0 < k∧tw≤(l.getD (k - 1) dO).1) from by rw [hk1,← Dm];omega);have g5:decide (tw≤zt)=false:=decide_eq_false d3;clear hk1 Dm hm d3;have g6:decide (0 < k)=true:=decide_eq_true h0;obtain ⟨aK,fA0,aJ⟩:=A0.o.q3;obtain ⟨oh,ol,ou⟩:=BY.o.q3;go_quiet (fail)
    obtain ⟨wq,hwq⟩:=gN (wo.drewN nq);rw [← hwq];have hx:Ext wo wq:=by rw [hwq];exact (Ext.refl _).drewN _
    clear aK fA0 aJ oh ol ou;revert XB;revert X;revert BY;revert NR;revert A0;revert HO;revert HR;refine lf hx ?_;intro HR HO A0 NR BY X XB;clear hx hwq;clear y0 y1 g1 g2 g3 g4 g5 g6 h0;exact zU0
  ·obtain rfl:k=l.length:=Z
   have q1:¬ (l.length:Int) < (l.length:Int):=Z
   have hI:=HI.o OK.o;clear HE;obtain ⟨aK,fA0,aJ⟩:=A0.o.q3;go_wp2_with fail;clear aK fA0 aJ;obtain ⟨wz,hwz⟩:=gN (wk.alloc (.cells #[.bool false,.slice none 0 0,.slice none 0 0] 25));have hx:Ext wk wz:=by rw [hwz];exact (Ext.refl _).alloc _
   have hb0:af wz wk.heap.size #[.bool false,.slice none 0 0,.slice none 0 0] 25:=by rw [hwz];exact af.new _ _ _
   rw [← hwz];obtain ⟨Bn,hBn⟩:=gN (wk.heap.size);rw [← hBn] at hb0 ⊢;have hs0:tW wz Bn 25 zR:=⟨_,_,_,_,hb0,(aO.zero wz wz).rd⟩;have Yo:=kI hs0;have HX0:=kI hx;have zO:=kI (Nat.le_of_eq hBn.symm);have HI2:=kI hI;have GC:=kI (Nat.le_trans X.o.size (Nat.le_of_eq hBn.symm));clear hwz hx hb0 hBn hs0 hI HI;go_loopw [10,88] (fun e i wr=>∃ (k:Nat) (s:RR),k≤l.length∧i=.int .i64 k∧e=.int .i64 0∧du zR (dY l)=du s ((dY l).drop k)∧bj s∧aE s=0∧tW wr Bn 25 s∧Ext wk wr) (fun _ i _=>l.length - (intOf i).toNat)
   case atStart=>exact ⟨0,zR,by omega,rfl,rfl,by rw [List.drop_zero],bO,rfl,Yo.o,HX0.o⟩
   case round=>
    obtain ⟨wj,qZ⟩:=gN (wr);subst qZ;obtain ⟨j,s,hj,rfl,rfl,hsum,hsl,hsc,hsb,hx⟩:=hrel;revert X;revert A0;revert HO;refine lf hx ?_;intro HO A0 X;obtain ⟨XK,oX,HSL,nL⟩:=dW hx hsum hsl hsc;obtain ⟨g1,g2,g3,g4,hbs,hns⟩:=hsb;have BS:=kI hbs;have NS:=kI hns;clear hx hsum hsl hsc hbs hns;by_cases hlt:j < l.length
    ·obtain ⟨b,off,p1,d1,p2,d2,rfl,z0,z1,z2,z3,z4,z5⟩:=HO.o.at hlt;have hy:=HL2.o j;have hst:=mK (s:=s) (l:=dY l) (k:=j) Ue;rw [qe] at hst;obtain ⟨y,eQ⟩:=gN (l.getD j dO);rw [← eQ] at z1 z2 z3 z4 z5 hy hst;obtain ⟨tw,r⟩:=y;dsimp only at z1 z2 z3 z4 z5 hy hst;have NR:=kI z5;have had:=fun W v1 v2 (e1:bH W v1 s) (e2:bH W v2 r)=>ma v1 v2 s r W e1 e2 HSL.o hy;have ud:(bL s r).2=0→aE (bL s r).1=0:=fun h=>hZ h;have hlim:=dX s r;obtain ⟨T,hT⟩:=gN (bL s r);rw [← hT] at had hst ud hlim;obtain ⟨s2,e2⟩:=T;dsimp only at hst ud hlim;unfold bG at had;dsimp only at had;obtain ⟨HAD,HST,Yp,Yq⟩:=dW had hst ud hlim;have q1:(0:Int)≤(j:Int):=Z
     have q2:(j:Int) < (l.length:Int):=Z
     clear z5 eQ hy had hst ud hlim hT;obtain ⟨wo,hwo⟩:=gN (wj.alloc (.cells #[.int .i64 tw,.bool r.neg,.slice p1 r.num.length d1,.slice p2 r.den.length d2] 80));have hx:Ext wj wo:=by rw [hwo];exact (Ext.refl _).alloc _
     have rC:af wo wj.heap.size #[.int .i64 tw,.bool r.neg,.slice p1 r.num.length d1,.slice p2 r.den.length d2] 80:=by rw [hwo];exact af.new _ _ _
     revert XK;revert X;revert NR;revert NS;revert BS;revert A0;revert HO;refine lf hx ?_;intro HO A0 BS NS NR X XK;have BY:=kI rC;clear hx rC;have uV:=kI hwo;have qB:=BS.o.cell;have lB:=BS.o.lt;have fB:=BS.o.free;have qY:=BY.o.cell;have lY:=BY.o.lt;have fY:=BY.o.free;rw [hwo] at qB lB fB qY lY fY;clear hwo;go_wp2_with fail;clear qB lB fB qY lY fY z0 z1 z2 z3 z4;rw [← uV.o];refine (HAD.o _ _ _ NS.o NR.o).mono ?_;rintro e w2 ⟨⟨v,rfl,nn⟩,hx⟩;revert X;revert BY;revert NR;revert NS;revert BS;revert A0;revert HO;refine lf hx ?_;intro HO A0 BS NS NR BY X;obtain ⟨x1,x2,x3,x4,rfl⟩:=nn.shape;have N2:=kI nn.rd;replace XK:=XK.x hx;clear nn hx HAD uV;obtain ⟨qBS,fBS,lBS⟩:=BS.o.q3;by_cases he:e2=0
     rotate_left
     ·exact jYg
     subst he;have hs2:du s ((dY l).drop j)=du s2 ((dY l).drop (j+1)):=by rw [HST.o,if_pos rfl]
     have hp:=tW.put (t:=25) ⟨_,_,_,_,BS.o,NS.o⟩ N2.o;have hxk:=cw (x:=.bool s2.neg) (y:=.slice x1 s2.num.length x2) (z:=.slice x3 s2.den.length x4) (o:=0) XK.o zO.o;have HS2:=oX.x hs2;have Yr:=kI hp;have Ys:=kI hxk;clear hs2 hp hxk;go_wp2_with fail;go_roundw
     case rel=>exact ⟨j+1,s2,by omega,by go_num,rfl,HS2.o,Yq.o,Yp.o uY,Yr.o,Ys.o⟩
     case measure=>simp [intOf];omega
    ·obtain rfl:j=l.length:=Z
     have q1:¬ (l.length:Int) < (l.length:Int):=Z
     have hend:du zR (dY l)=(s,0):=by
      exact kOv
     have hE:=HI2.o;rw [hend] at hE;dsimp only at hE;rw [if_neg (fun h=>h rfl)] at hE;obtain ⟨hc1,hc2⟩:=Ie HSL.o nL.o;have hcm:=fun W v1 v2 (e1:bH W v1 s) (e2:bH W v2 (rep ((1:Int):Rat)))=>pU v1 v2 s _ W e1 e2 HSL.o (cG _);obtain ⟨T,hT⟩:=gN (fK s (rep ((1:Int):Rat)));have hT2:T.2=0:=by rw [hT,hc1]
     rw [← hT] at hcm hc2;obtain ⟨c,ce⟩:=T;dsimp only at hT2 hc2;subst hT2;obtain ⟨HCM,HC2,E⟩:=cC hcm hc2 hE;clear hend hE hc1 hc2 hcm hT;go_wp2_with fail;refine di (Ls s c) ak ak ak (fun _ _ _ _ h x=>Ek h x) ?_ ?_
     ·refine ⟨?_,?_,?_,?_,?_,?_,?_,?_,trivial⟩
      ·intro a W hW hB hD K hK;have b9:=hB 9 rfl;simp only [sB] at b9;exact kGp
      ·exact jCb
      ·intro a W hW hB hD K hK;obtain ⟨ah3,ah4,Yt⟩:=aQ (hD 0 _ 104 rfl rfl ak);obtain ⟨d1,d2,d3,d4,rfl,dh⟩:=Yt;obtain ⟨v105,ah5,Yu⟩:=aQ (hD 1 _ 105 rfl rfl ak);obtain ⟨e1,rfl,eh⟩:=Yu;go_simp;refine (HCM.o _ _ _ dh eh).mono ?_;exact zBm
      ·intro a W hW hB hD K hK;obtain ⟨ah6,ah7,Yv⟩:=aQ (hD 2 _ 106 rfl rfl ak);obtain rfl:=Yv;exact fu
      ·exact zP3
      ·exact zP3
      ·intro a W hW hB hD K hK;obtain ⟨v107,ah8,Yw⟩:=aQ (hD 4 _ 107 rfl rfl ak);obtain rfl:=Yw;exact fu
      ·intro a W hW hB hD K hK;obtain ⟨ah9,e108,Yx⟩:=aQ (hD 5 _ 108 rfl rfl ak);obtain rfl:=Yx;exact fu
     intro w9 hx;simp only [dR];rintro u0 - u1 - u2 - u3 - u4 - u5 - u6 h6 u7 h7;obtain rfl:u6=.int .i64 c:=h6;obtain rfl:u7=.int .i64 0:=h7;simp only [Act.put,List.setIfInBounds_toArray,List.set_cons_zero,List.set_cons_succ];replace X:=X.x hx;clear hx;by_cases hs1:s=rep 1
     ·have E:=kI (E.o.trans (if_pos hs1));have hc:=HC2.o.2 hs1;have q4:(c != 0)=false:=by simp [hc]
      clear hc hs1;exact Bg
     ·have E:=kI (E.o.trans (if_neg hs1));have hc:c≠0:=fun h=>hs1 (HC2.o.1 h);have q4:(c != 0)=true:=by simpa using hc
      clear hc hs1;exact Bg
theorem Pt {ac:List aL} (h:ac.length=0):qV n ac=3:=if_pos h
theorem Ps {ac:List aL} (h:ac.length≠0) (h2:6 < ac.length):qV n ac=4:=by unfold qV;rw [if_neg h,if_pos h2]
theorem Dj {ac:List aL} (h:ac.length≠0) (h2:¬ 6 < ac.length) {a:Nat} (ha:a < ac.length) (h4:∀ j,j < a→dZ n (ac.getD j dA)=0) (h5:dZ n (ac.getD a dA)=c) (h6:c≠0):qV n ac=c:=by
 have e:=cz (f:=fun a=>dZ n (ac.getD a dA)) (k:=a) h4 (by show dZ n (ac.getD a dA)≠0;rw [h5];exact h6) ha;unfold qV;rw [if_neg h,if_neg h2,e];exact h5
theorem JP {ac:List aL} (h:ac.length≠0) (h2:¬ 6 < ac.length) (h4:∀ j,j < ac.length→dZ n (ac.getD j dA)=0):qV n ac=0:=by
 unfold qV;rw [if_neg h,if_neg h2];exact bg h4
theorem PE {d:RR} {ss:List (List aL)} (h:aE d≠0):fS ⟨d,ss⟩=aE d:=if_pos h
theorem yT {d:RR} {ss:List (List aL)} (h:aE d=0) (h2:d.neg=true∨1 < qv d):fS ⟨d,ss⟩=1:=by unfold fS;rw [if_neg iw,if_pos h2]
theorem QQ {d:RR} {ss:List (List aL)} (h:aE d=0) (h2:¬ (d.neg=true∨1 < qv d)) (h3:ss.length=0):fS ⟨d,ss⟩=3:=by unfold fS;rw [if_neg iw,if_neg h2,if_pos h3]
theorem QR {d:RR} {ss:List (List aL)} (h:aE d=0) (h2:¬ (d.neg=true∨1 < qv d)) (h3:ss.length≠0) (h4:200 < ss.length):fS ⟨d,ss⟩=4:=by unfold fS;rw [if_neg iw,if_neg h2,if_neg h3,if_pos h4]
theorem Kb {d:RR} {ss:List (List aL)} (h:aE d=0) (h2:¬ (d.neg=true∨1 < qv d)) (h3:ss.length≠0) (h4:¬ 200 < ss.length) (hk:k < ss.length) (h5:∀ j,j < k→qV ss.length (ss.getD j [])=0) (h6:qV ss.length (ss.getD k [])=c) (h7:c≠0):fS ⟨d,ss⟩=c:=by
 have e:=cz (f:=fun s=>qV ss.length (ss.getD s [])) (k:=k) h5 (by show qV ss.length (ss.getD k [])≠0;rw [h6];exact h7) hk;unfold fS;rw [if_neg iw,if_neg h2,if_neg h3,if_neg h4];exact e.trans h6
theorem Kc {d:RR} {ss:List (List aL)} (h:aE d=0) (h2:¬ (d.neg=true∨1 < qv d)) (h3:ss.length≠0) (h4:¬ 200 < ss.length) (h5:∀ j,j < ss.length→qV ss.length (ss.getD j [])=0):fS ⟨d,ss⟩=0:=by
 unfold fS;rw [if_neg iw,if_neg h2,if_neg h3,if_neg h4];exact bg h5
theorem Ig {r:RR} (h:aE r=0):(fK r (rep ((1:Int):Rat))).2=0∧(0 < (fK r (rep ((1:Int):Rat))).1↔1 < qv r):=by
 have h1:aE (rep ((1:Int):Rat))=0:=ak
 have hq:qv (rep ((1:Int):Rat))=1:=gd _;have hc:fK r (rep ((1:Int):Rat))=(et (qv r) 1,0):=by unfold fK;rw [if_pos (lX h h1),hq]
 rw [hc];refine ⟨rfl,?_⟩;dsimp only;unfold et;constructor
 ·intro e;split at e
  ·omega
  ·rename_i e1;split at e
   ·omega
   ·rename_i e2;have:=Rat.not_lt.1 e1;rcases Rat.le_iff_lt_or_eq.1 this with h|h
    ·exact h
    ·exact absurd h.symm e2
 ·intro e;rw [if_neg (fun h=>absurd (Rat.le_of_lt h) (Rat.not_le.2 e)),if_neg (fun h=>by rw [h] at e;exact Rat.lt_irrefl e)];decide
def Lt (A:Nat) (s:RR) (c:Int) (j:Nat) (v:Value) (W:World):Prop:=
 match j with
 | 0=>v=.pointer (some ⟨A,0,none⟩)
 | 1=>∃ s1 s2 s3 s4,v=.agg #[.bool s.neg,.slice s1 s.num.length s2,.slice s3 s.den.length s4]∧bH W (.agg #[.bool s.neg,.slice s1 s.num.length s2,.slice s3 s.den.length s4]) s
 | 2=>∃ v',v=v'∧bH W v' (rep ((1:Int):Rat))
 | 3=>v=.tuple #[.int .i64 c,.int .i64 0]
 | 4=>v=.tuple #[.int .i64 c,.int .i64 0]
 | 5=>v=.int .i64 c
 | 6=>v=.int .i64 0
 | 7=>v=.int .i64 c
 | 8=>v=.int .i64 0
 | _=>True
theorem Em {A:Nat} {s:RR} (h:Lt A s c j v W) (x:Ext W W'):Lt A s c j v W':=by
 match j,h with
 | 0,h=>exact h
 | 1,⟨s1,s2,s3,s4,h1,h2⟩=>exact ⟨s1,s2,s3,s4,h1,h2.ext x⟩
 | 2,⟨v9,h1,h2⟩=>exact ⟨v9,h1,h2.ext x⟩
 | 3,h=>exact h
 | 4,h=>exact h
 | 5,h=>exact h
 | 6,h=>exact h
 | 7,h=>exact h
 | 8,h=>exact h
 | _+9,_=>trivial
theorem jz (v:Value) (m:MD) (w:World) (h:dd w v m) (hl:eG m):
  Calls Tryz.prog 81 #[v] w fun e w'=>e=.returned (.int .i64 (fS m))∧Ext w w':=by
 obtain ⟨d,ss⟩:=m;obtain ⟨a1,c1,a2,c2,a3,c3,rfl,hr,ho⟩:=h;obtain ⟨hl1,hl2⟩:=hl;unfold MD.act at hl2;dsimp only at hr ho hl1 hl2 ⊢;have hll:ss.length≤9223372036854775807:=by obtain ⟨_,_,_,h⟩:=ho.shape;exact h
 obtain ⟨HR,HO,jg,HL2⟩:=dW hr ho hl1 hl2;clear hr ho hl1 hl2;have bb0:=(af.new w #[.bool d.neg,.slice a1 d.num.length c1,.slice a2 d.den.length c2,.slice a3 ss.length c3] 28);have x0:Ext w (w.alloc (.cells #[.bool d.neg,.slice a1 d.num.length c1,.slice a2 d.den.length c2,.slice a3 ss.length c3] 28)):=((Ext.refl w).alloc _);have A0:=kI bb0;have X:=kI x0;clear x0 bb0;replace HR:=kI (HR.o.ext X.o);replace HO:=kI (HO.o.ext X.o);go_enter Tryz.func81,Tryz.ntmps81
 obtain ⟨aK,fA0,aJ⟩:=A0.o.q3;go_wp2_with fail;refine (iy _ d _ HR.o jg.o).mono ?_;rintro e w1 ⟨rfl,hx⟩;clear aK fA0 aJ;revert X;revert A0;revert HO;revert HR;refine lf hx ?_;intro HR HO A0 X;clear hx;by_cases h1:aE d=0
 rotate_left
 ·exact qTa
 rw [h1];obtain ⟨hc0,hc1⟩:=Ig h1;have hcm:=fun W v1 v2 (e1:bH W v1 d) (e2:bH W v2 (rep ((1:Int):Rat)))=>pU v1 v2 d _ W e1 e2 jg.o (cG _);obtain ⟨T,hT⟩:=gN (fK d (rep ((1:Int):Rat)));rw [← hT] at hcm hc0 hc1;obtain ⟨c,ce⟩:=T;dsimp only at hc0 hc1;subst hc0;have HCM:=kI hcm;have uL:=kI hc1;clear hc1 hcm hT;obtain ⟨aK,fA0,aJ⟩:=A0.o.q3;go_wp2_with fail;clear aK fA0 aJ;obtain ⟨wb,hwb⟩:=gN (w1);rw [← hwb] at HR HO A0 X ⊢;clear hwb;obtain ⟨An,hAn⟩:=gN (w.heap.size);rw [← hAn] at A0 ⊢;clear hAn;refine di (Lt An d c) ak ak ak (fun _ _ _ _ h x=>Em h x) ?_ ?_
 ·refine ⟨?_,?_,?_,?_,?_,?_,?_,?_,?_,trivial⟩
  ·exact KG
  ·intro a W hW hB hD K hK;obtain ⟨v18,e18,h18⟩:=aQ (hD 0 _ 18 rfl rfl ak);obtain rfl:=h18;have q9:=(A0.o.ext hW).cell;have l9:=(A0.o.ext hW).lt;go_simp;exact hK _ _ (Ext.refl _) ⟨_,_,_,_,rfl,HR.o.ext hW⟩
  ·exact jCb
  ·intro a W hW hB hD K hK;obtain ⟨v19,e19,h19⟩:=aQ (hD 1 _ 19 rfl rfl ak);obtain ⟨d1,d2,d3,d4,rfl,dh⟩:=h19;obtain ⟨v20,e20,h20⟩:=aQ (hD 2 _ 20 rfl rfl ak);obtain ⟨e1,rfl,eh⟩:=h20;go_simp;refine (HCM.o _ _ _ dh eh).mono ?_;exact zBm
  ·intro a W hW hB hD K hK;obtain ⟨v21,e21,h21⟩:=aQ (hD 3 _ 21 rfl rfl ak);obtain rfl:=h21;exact fu
  ·exact zEc
  ·exact zEc
  ·intro a W hW hB hD K hK;obtain ⟨v22,e22,h22⟩:=aQ (hD 5 _ 22 rfl rfl ak);obtain rfl:=h22;exact fu
  ·intro a W hW hB hD K hK;obtain ⟨v23,e23,h23⟩:=aQ (hD 6 _ 23 rfl rfl ak);obtain rfl:=h23;exact fu
 intro w9 hx;simp only [dR];rintro u0 - u1 - u2 - u3 - u4 - u5 - u6 - u7 h7 u8 h8;obtain rfl:u7=.int .i64 c:=h7;obtain rfl:u8=.int .i64 0:=h8;simp only [Act.put,List.setIfInBounds_toArray,List.set_cons_zero,List.set_cons_succ];revert X;revert A0;revert HO;revert HR;refine lf hx ?_;intro HR HO A0 X;clear hx HCM;by_cases h2:d.neg=true∨1 < qv d
 ·have E:=kI (yT (ss:=ss) h1 h2);by_cases h3:d.neg=true
  ·clear h1 h2;exact NI
  ·have h4:d.neg=false:=by simpa using h3
   have q5:(0:Int) < c:=uL.o.2 (h2.resolve_left h3);clear h1 h2 h3;exact NI
 have h4:d.neg=false:=by
  cases hh:d.neg
  ·rfl
  ·exact absurd (.inl hh) h2
 have q5:¬ (0:Int) < c:=fun h=>h2 (.inr (uL.o.1 h));by_cases h3:ss.length=0
 ·have E:=kI (QQ h1 h2 h3);have q6:((ss.length:Int) == 0)=true:=by simp [h3]
  clear h1 h2 h3;exact NI
 have q6:((ss.length:Int) == 0)=false:=beq_eq_false_iff_ne.2 Z;by_cases h5:200 < ss.length
 ·have E:=kI (QR h1 h2 h3 h5);have q7:(200:Int) < (ss.length:Int):=Z
  clear h1 h2 h3 h5;exact NI
 have q7:¬ (200:Int) < (ss.length:Int):=Z
 have HE:=kI (fun (k:Nat) (hk:k < ss.length) g4 (c:Int) g5 g6=>Kb (k:=k) (c:=c) h1 h2 h3 h5 hk g4 g5 g6);have HI:=kI (Kc h1 h2 h3 h5);clear h1 h2;obtain ⟨aK,fA0,aJ⟩:=A0.o.q3;go_wp2_with fail;clear aK fA0 aJ;clear q5 q6 q7 h4;go_loopw [45] (fun i wr=>∃ k:Nat,k≤ss.length∧i=.int .i64 k∧(∀ j,j < k→qV ss.length (ss.getD j [])=0)∧Ext w9 wr) (fun i _=>ss.length - (intOf i).toNat)
 case atStart=>exact ⟨0,by omega,rfl,fun j hj=>by omega,Ext.refl w9⟩
 case round=>
  obtain ⟨wk,hwk⟩:=gN (wr);subst hwk;obtain ⟨k,hk,rfl,hok,hx⟩:=hrel;have OK:=kI hok;have XB:=kI hx;revert X;revert A0;revert HO;refine lf hx ?_;intro HO A0 X;clear hok hx;by_cases hlt:k < ss.length
  ·obtain ⟨b,off,ai,ci,rfl,z0,z1,z2⟩:=HO.o.at hlt;have hla:=HL2.o k;obtain ⟨ac,hac⟩:=gN (ss.getD k []);rw [← hac] at z1 z2 hla;have hal:ac.length≤9223372036854775807:=by obtain ⟨_,_,_,h⟩:=z2.shape;exact h
   obtain ⟨RA,iY,i5⟩:=cC z2 hac hla;have q1:(0:Int)≤(k:Int):=Z
   have q2:(k:Int) < (ss.length:Int):=Z
   clear z2 hac hla;by_cases g1:ac.length=0
   ·exact kCn
   have q3:((ac.length:Int) == 0)=false:=beq_eq_false_iff_ne.2 Z;by_cases g2:6 < ac.length
   ·exact kBn
   have q4:¬ (6:Int) < (ac.length:Int):=Z
   go_wp2_with fail;clear q3 q4 z0 z1;go_loopw [59] (fun i wr=>∃ j:Nat,j≤ac.length∧i=.int .i64 j∧(∀ i,i < j→dZ ss.length (ac.getD i dA)=0)∧Ext wk wr) (fun i _=>ac.length - (intOf i).toNat)
   case atStart=>exact ⟨0,by omega,rfl,fun j hj=>by omega,Ext.refl wk⟩
   case round=>
    obtain ⟨wj,qZ⟩:=gN (wr);subst qZ;obtain ⟨j,hj,rfl,hoa,hx⟩:=hrel;have OA:=kI hoa;have XK:=kI hx;revert X;revert RA;revert A0;revert HO;refine lf hx ?_;intro HO A0 RA X;clear hoa hx;by_cases hlj:j < ac.length
    ·obtain ⟨ba,oa,p1,e1,p2,e2,p3,e3,rfl,zz⟩:=RA.o.at hlj;have hrd:=zz.rd;obtain ⟨⟨y0,y1,y2,y3,-⟩,y4,-⟩:=zz;have Lu:=i5.o j;obtain ⟨x,eF⟩:=gN (ac.getD j dA);rw [← eF] at y1 y2 y3 y4 hrd Lu;have hca:=fun W v (h:ee W v x)=>tZ v x ss.length W h Lu;obtain ⟨c,hc⟩:=gN (dZ ss.length x);rw [← hc] at hca;have Pi:=kI (hc.trans (congrArg (dZ ss.length) eF));have qW:=kI hca;have RD:=kI hrd;have q5:(0:Int)≤(j:Int):=Z
     have q6:(j:Int) < (ac.length:Int):=Z
     clear eF hc hca hrd Lu;obtain ⟨wo,hwo⟩:=gN (wj.alloc (.cells #[.bool x.cost.neg,.slice p1 x.cost.num.length e1,.slice p2 x.cost.den.length e2,.slice p3 x.next.length e3] 83));have hx:Ext wj wo:=by rw [hwo];exact (Ext.refl _).alloc _
     have rC:af wo wj.heap.size #[.bool x.cost.neg,.slice p1 x.cost.num.length e1,.slice p2 x.cost.den.length e2,.slice p3 x.next.length e3] 83:=by rw [hwo];exact af.new _ _ _
     revert XK;revert X;revert RD;revert RA;revert A0;revert HO;refine lf hx ?_;intro HO A0 RA RD X XK;have uV:=kI hwo;have qA:=A0.o.cell;have lA:=A0.o.lt;have fA:=A0.o.free;have qY:=rC.cell;have lY:=rC.lt;have fY:=rC.free;rw [hwo] at qA lA fA qY lY fY;clear hwo hx rC;go_wp2_with fail;clear qA lA fA qY lY fY y0 y1 y2 y3 y4;rw [← uV.o];refine (qW.o _ _ RD.o).mono ?_;rintro e w2 ⟨rfl,hx⟩;revert XK;revert X;revert RD;revert RA;revert A0;revert HO;refine lf hx ?_;intro HO A0 RA RD X XK;clear hx qW uV;exact kA7
    ·exact qLn
  ·exact qB5
theorem iF (v lv:Value) (m:MD) (l:List RR) (w:World) (h:dd w v m) (k:aT w lv l) (hl:eG m):
  Calls Tryz.prog 135 #[v,lv] w fun e w'=>e=.returned (.int .i64 (cJ m l))∧Ext w w':=by
 have hck:=fun W v (h:dd W v m)=>jz v m W h hl;obtain ⟨la,lc,rfl,hlc,hlm,f,hf⟩:=k.get;have h':=h;obtain ⟨d,ss⟩:=m;obtain ⟨a1,c1,a2,c2,a3,c3,rfl,hr,ho⟩:=h';dsimp only at hr ho;have hll:ss.length≤9223372036854775807:=by obtain ⟨_,_,_,h⟩:=ho.shape;exact h
 have QT:l.length≤9223372036854775807:=Z
 have HM:=kI h;have gY:=kI hck;clear h hck k hf hr ho hl hlc hlm f;have bb:=af.new w #[.bool d.neg,.slice a1 d.num.length c1,.slice a2 d.den.length c2,.slice a3 ss.length c3] 28;have x0:Ext w (w.alloc (.cells #[.bool d.neg,.slice a1 d.num.length c1,.slice a2 d.den.length c2,.slice a3 ss.length c3] 28)):=(Ext.refl w).alloc _;have A0:=kI bb;have X:=kI x0;have HM:=HM.x x0;clear bb x0;have EQ:=kI (show cJ ⟨d,ss⟩ l=if fS ⟨d,ss⟩≠0 then fS ⟨d,ss⟩ else if l.length≠ss.length then 16 else 0 from rfl);obtain ⟨c,hc⟩:=gN (fS ⟨d,ss⟩);rw [← hc] at EQ gY;clear hc;go_enter Tryz.func135,Tryz.ntmps135
 go_wp2_with fail;refine (gY.o _ _ HM.o).mono ?_;rintro e w1 ⟨rfl,hx⟩;revert A0 X;refine lf hx ?_;intro A0 X;clear hx HM gY;have qA:=A0.o.cell;have lA:=A0.o.lt;by_cases h1:c=0
 ·exact zR3
 ·have E:=kI (show cJ ⟨d,ss⟩ l=c by rw [EQ.o,if_pos h1]);have q1:(c != 0)=true:=by simpa using h1
  clear h1;exact Bg
theorem ir (w:World) (base:Nat) (t ty e:TypeId) (i:TypeInfo) (z:Value) (size bytes:Nat) (ht:P.underlying t=some (.slice e)) (hi:P.info? e=some i) (hz:i.zero=some z)
  (hsize:i.size=size) (hby:i.bytes=bytes) (hzs:z.cells.size=size) (hsz:0 < size)
  (v:Value) (n:Nat) (xs:List Value) (hown:w.ownsRow base e size v n xs)
  (a:Addr) (c:Nat) (news:List Value) (hl:news.length=1*size) (hnews:∀ j u,news[j]?=some u→w.cell? (a.add j)=some u) (h1:∀ u ∈ news,u.oneCell'=true)
  (h63:n+1≤maxLen) (hbytes:(n+1)*bytes≤140737488355328) (hbase:base≤w.heap.size) :
  ∃ v' w',(Builtin.append_ #[t,t] ty #[v,.slice (some a) 1 c]).run P w=.ok v' w'∧w'.ownsRow base e size v' (n+1) (xs ++ news)∧w.grownBy w' v.ownBlock∧(∀ q,v'.ownBlock=some q→v.ownBlock=some q∨w.heap.size≤q):=by
 obtain ⟨v',w',hr,h2,h3,_⟩:=run_append_own (P:=P) w base t ty e i z size bytes ht hi hz hsize hby hzs hsz v n xs hown a 1 c news hl hnews h1 h63 hbytes hbase;refine ⟨v',w',hr,h2,h3,?_⟩;have hsmall:n+1≤9223372036854775807:=by simp only [maxLen] at h63;omega
 subst hsize;subst hby;rcases hown.2 with ⟨rfl,rfl⟩|⟨g,cap,cur,rfl,hbg,hg,hnc,hcm,hcs,htake⟩
 ·have hr2:=run_append_nil (P:=P) w t ty e i z ht hi hz a 1 c news hl hnews Z Z (by have hb:=hbytes;simp only [Nat.zero_add] at hb;omega);exact jZu
 ·by_cases hroom:n+1≤cap
  ·have hfit:n*i.size+news.length≤cur.size:=by rw [hl,hcs,← Nat.add_mul];exact Nat.mul_le_mul_right _ hroom
   have hr2:=run_append_room (P:=P) w t ty e i ht hi g n cap cur hg a 1 c news hl hnews h1 hroom hfit;rw [hr] at hr2;injection hr2 with e1 _
   subst e1;intro q hq;exact .inl hq
  ·have holds:∀ j u,xs[j]?=some u→w.cell? ((⟨g,0,none⟩:Addr).add j)=some u:=hown.cells (g:=g) rfl;have hr2:=run_append_grow (P:=P) w t ty e i z ht hi hz ⟨g,0,none⟩ n cap xs hown.1 holds a 1 c news hl hnews Z Z (growslice_fits Z hbytes);exact jZu
theorem aZ (W:World) {o:Oper} {K:Act→World→Prop} (s x:Operand) (t:TypeId)
  (ho:o.op=.call { callee:=.builtin .append,args:=#[s,x],argTypes:=#[t,t] })
  (B:Nat) (e:TypeId) (z:Value) (size bytes:Nat) (ht:P.underlying t=some (.slice e)) (hinfo:(P.info? e).map (fun i=>(i.zero,i.size,i.bytes))=some (some z,size,bytes))
  (hzs:z.cells.size=size) (hsz:0 < size) {α:Type} {El:World→List Value→α→Prop} (hEl:∀ w w' h y,El w h y→Keeps B e w w'→El w' h y) (v:Value) (l:List α) (hown:au e size El B W v l) (hs:a.eval s=v)
  (cs:List Value) (hcs:cs.length=size) (h1c:∀ u ∈ cs,u.oneCell'=true) (y:α) (hy:El W cs y) (bn:Nat) (hbn:af W bn cs.toArray e) (hx:a.eval x=.slice (some ⟨bn,0,none⟩) 1 1)
  (h63:l.length+1≤9223372036854775807) (hbytes:(l.length+1)*bytes≤140737488355328) (hB:B≤W.heap.size)
  (h:∀ g cap w',au e size El B w' (.slice (some ⟨g,0,none⟩) (l.length+1) cap) (l ++ [y])→W.grownBy w' v.ownBlock→(v.ownBlock=some g∨W.heap.size≤g)→K (a.put o.dst (.slice (some ⟨g,0,none⟩) (l.length+1) cap)) w') :
  o.wp P a W K Q:=by
 obtain ⟨i0,hi,hz0,hz1,hz2⟩:=info_parts hinfo;obtain ⟨hs0,h1,h2,h3,h4⟩:=hown;have hnews:∀ j u,cs[j]?=some u→W.cell? ((⟨bn,0,none⟩:Addr).add j)=some u:=by
  exact qQo
 obtain ⟨v',w',hr,hown',hgrow,hfr⟩:=ir (P:=P) W B t o.type e i0 z size bytes ht hi hz0 hz1 hz2 hzs hsz v l.length hs0.flatten h1 ⟨bn,0,none⟩ 1 cs PK hnews h1c PH hbytes hB;unfold Oper.wp execOp;simp only [ho,resolve,invoke,builtin,Sem.run_bind,Sem.run_pure,Result.andThen_ok,List.map_toArray,List.map_cons,List.map_nil,hs,hx,hr];exact qJ3
theorem Kx {c0 c1 c2 c3:Value} (h:af W b #[c0,c1,c2,c3] t):W.cell? ⟨b,0,none⟩=some c0∧W.cell? ⟨b,1,none⟩=some c1∧W.cell? ⟨b,2,none⟩=some c2∧W.cell? ⟨b,3,none⟩=some c3:=⟨h.cell 0,h.cell 1,h.cell 2,h.cell 3⟩
theorem Ih {Goal:Prop} {G:World→Value→Value→Nat→Nat→Prop} (F:World→Value→Value→Prop) (h1:(∀ W x y n m,F W x y→G W x y n m)→Goal) (h2:∀ W x y n m,F W x y→G W x y n m):Goal:=h1 h2
theorem bI.jd {l:List RR} {row:Option Nat} (h:bI B w v l) (hg:w.grownBy w' row) (hne:v.ownBlock=none∨v.ownBlock≠row) (hB:∀ q,row=some q→∃ cur,af w q cur 25∧B≤q):bI B w' v l:=by
 obtain ⟨hs,h1,h2,h3,h4⟩:=h;have hk:Keeps B 25 w w':=⟨⟨hg.os,hg.tape,hg.output,hg.size,fun i hi=>by omega⟩,fun i hi ho=>hg.block i hi (fun e=>by
  obtain ⟨cur,hb,hq⟩:=hB i e.symm;rcases ho with ho|⟨c2,u,h5,h6⟩
  ·omega
  ·unfold af at hb h5;rw [hb] at h5;injection h5 with h5
   injection h5 with _ h7
   exact h6 h7.symm)⟩
 exact ⟨hs,World.ownsRow.kept h1 hg hne,h2,h3,fun i y hi=>by obtain ⟨q,e1,e2⟩:=h4 i y hi;exact ⟨q,e1,lg.keeps ah _ _ _ _ e2 hk⟩⟩
theorem bI.ue {l:List RR} (h:bI B w v l):∃ a c,v=.slice a l.length c:=by
 exact NH
theorem bI.cN {l:List RR} (h:bI B w v l) {q:Nat} (hq:v.ownBlock=some q):(∃ cur,af w q cur 25)∧B≤q∧q < w.heap.size:=by
 exact zUo
theorem bI.gA {l:List RR} (h:bI B w v l) (hg:w.grownBy w' v.ownBlock):Keeps B 25 w w':=
 ⟨⟨hg.os,hg.tape,hg.output,hg.size,fun i hi=>by omega⟩,fun i hi ho=>hg.block i hi (fun e=>by
  obtain ⟨⟨cur,hb⟩,hq,_⟩:=h.cN e.symm;rcases ho with ho|⟨c2,u,h5,h6⟩
  ·omega
  ·unfold af at hb h5;rw [hb] at h5;injection h5 with h5
   injection h5 with _ h7
   exact h6 h7.symm)⟩
theorem je {a b:Option Nat} (h:∀ q,a=some q→b≠some q):b=none∨b≠a:=by
 cases b with
 | none=>exact .inl rfl
 | some q=>exact .inr fun e=>h q e.symm rfl
theorem dx {a b:Option Nat} (h:∀ q,a=some q→b≠some q):∀ q,b=some q→a≠some q:=fun q hb ha=>h q ha hb
theorem fh {va vb va2:Option Nat} (hd:∀ q,va=some q→vb≠some q) (hb:∀ q,vb=some q→q < n) (h2:va2=some g) (hf:va=some g∨n≤g):∀ q,va2=some q→vb≠some q:=by
 intro q hq hv;rw [h2] at hq;injection hq with hq
 subst hq;rcases hf with hf|hf
 ·exact hd g hf hv
 ·have:=hb g hv;omega
end Go.Proofs.YtnnjbaijcaiohaaGreat
