/- Walks and lemmas. -/
import Derived.Test.YtnnjbaijcaiohaaGreatSzA1
set_option linter.unusedVariables false
set_option linter.unusedSimpArgs false
set_option maxRecDepth 100000
set_option maxHeartbeats 16000000
namespace Go.Proofs.YtnnjbaijcaiohaaGreat
open Go.RowKit
variable {a a0:Act} {listed:Array Bool} {T:Array Bool→World→Prop} {ops:Array Oper} {ps:Array Tmp} {args tmps:Array Value} {assign body:Code} {Q:Exit→Act→World→Prop} {F:Fence} {u:FrameMode} {f:FuncId} {c s:Int} {plan:List (List Int)} {ds:List Deferred} {l l1 l2 la lb lq:List Int} {rest:List Oper} {cs h vs xs:List Value} {An B C H L N b b0 bx c1 c2 cap d1 d2 fuel g i id j jn k m1 m2 n n1 n2 nf nn off xn y:Nat} {X:Nat→Prop} {oi om:Oper} {a1 a2 a3 xa:Option Addr} {P:Program} {R p p0 p1 p10 p11 p12 p13 p2 p3 p4 p5 p6 p7 p8 p9:Prop} {md:Region.Mode} {α:Type} {e t t1 t2 t3:TypeId} {lv v vb vr z:Value} {A W W' W0 w w' w0 w2 w3 w4 wB:World} {S S1 S2:World→Prop}
section
def waits (o:Oper):List Nat:=(o.after.toList.filter fun e=>Region.binds .any e).map (·.on)
def fills (l:List Oper):List Tmp:=l.filterMap (·.dst)
def gH:Nat→List Oper→List Tmp→Bool
 | _,[],_=>true
 | k,o :: r,seen=>(waits o).all (fun e=>decide (e < k)) && (match o.dst with|some d=>!seen.contains d && gH (k+1) r (d :: seen)|none=>gH (k+1) r seen)
theorem gg:∀ (l:List Oper) (k:Nat) (seen:List Tmp),gH k l seen=true→
  (∀ (j:Nat) (o:Oper),l[j]?=some o→∀ e ∈ waits o,e < k+j)∧(∀ (j:Nat) (o:Oper) (d:Tmp),l[j]?=some o→o.dst=some d→d ∉ seen)∧(∀ (i j:Nat) (oi oj:Oper) (d:Tmp),l[i]?=some oi→l[j]?=some oj→oi.dst=some d→oj.dst=some d→i=j)
 | [],_,_,_=>⟨fun _ _ h=>by simp at h,fun _ _ _ h=>by simp at h,fun _ _ _ _ _ h=>by simp at h⟩
 | o :: r,k,seen,h=>by
  simp only [gH,Bool.and_eq_true,List.all_eq_true,decide_eq_true_eq] at h;obtain ⟨h1,h2⟩:=h;have key:∃ s2,gH (k+1) r s2=true∧(∀ d,d ∈ seen→d ∈ s2)∧(∀ d,o.dst=some d→d ∉ seen∧d ∈ s2):=by
   revert h2
   cases hd:o.dst with
   | none=>intro h2;exact ⟨seen,h2,fun _ h=>h,fun _ h=>by cases h⟩
   | some d=>
    intro h2;simp only [Bool.and_eq_true,Bool.not_eq_true',List.contains_eq_mem,decide_eq_false_iff_not] at h2;exact ⟨d :: seen,h2.2,fun _ h=>List.mem_cons_of_mem _ h,fun d' h=>by cases h;exact ⟨h2.1,List.mem_cons_self⟩⟩
  obtain ⟨s2,h3,h4,h5⟩:=key;obtain ⟨a1,a2,a3⟩:=gg r (k+1) s2 h3;refine ⟨fun j o' hj e he=>?_,fun j o' d hj hd hm=>?_,fun i j oi oj d hi hj hdi hdj=>?_⟩
  ·cases j with
   | zero=>
    simp only [List.getElem?_cons_zero,Option.some.injEq] at hj;subst hj;exact h1 e he
   | succ j=>have:=a1 j o' Gl e he;omega
  ·cases j with
   | zero=>
    simp only [List.getElem?_cons_zero,Option.some.injEq] at hj;subst hj;exact (h5 d hd).1 hm
   | succ j=>exact a2 j o' d Gl hd (h4 d hm)
  ·cases i with
   | zero=>
    simp only [List.getElem?_cons_zero,Option.some.injEq] at hi;subst hi;cases j with
    | zero=>rfl
    | succ j=>exact absurd (h5 d hdi).2 (a2 j oj d Gl hdj)
   | succ i=>
    cases j with
    | zero=>
     simp only [List.getElem?_cons_zero,Option.some.injEq] at hj;subst hj;exact absurd (h5 d hdj).2 (a2 i oi d NW hdi)
    | succ j=>rw [a3 i j oi oj d NW Gl hdi hdj]
def dR (J:Nat→Value→World→Prop) (W:World) (G:Act→Prop):Nat→List Oper→Act→Prop
 | _,[],a=>G a
 | k,o :: r,a=>match o.dst with
  | some d=>∀ v,J k v W→dR J W G (k+1) r (a.put (some d) v)
  | none=>dR J W G (k+1) r a
theorem ky {t:Array Value} {d:Nat} (h:d < t.size):(t.setIfInBounds d v).getD d undef=v:=by
 simp [Array.getD_eq_getD_getElem?,h]
theorem iD {t:Array Value} {d:Nat} (h:d≠i):(t.setIfInBounds d v).getD i undef=t.getD i undef:=by
 exact zQn
theorem Ec {t u:Array Value} (hs:t.size=u.size) (h:∀ i,t.getD i undef=u.getD i undef):t=u:=by
 apply Array.ext hs;intro i h1 h2;have:=h i;simpa [Array.getD_eq_getD_getElem?,h1,h2] using this
theorem dR.o {J:Nat→Value→World→Prop} {G:Act→Prop}:∀ (r:List Oper) (k:Nat) (b:Act),b.tmps.size=a.tmps.size→b.defers=a.defers→
  (∀ i,(∀ o ∈ r,o.dst≠some i)→b.tmps.getD i undef=a.tmps.getD i undef)→(∀ (j:Nat) (o:Oper) (d:Tmp),r[j]?=some o→o.dst=some d→J (k+j) (a.tmps.getD d undef) W)→dR J W G k r b→G a
 | [],k,b,hs,hd,he,_,h=>by
  have:b=a:=by
   cases b;cases a;simp only at hs hd he;subst hd;rw [Ec hs fun i=>he i dc]
  exact this ▸ h
 | o :: r,k,b,hs,hd,he,hJ,h=>by
  unfold dR at h;cases ho:o.dst with
  | none=>
   rw [ho] at h;exact dR.o r (k+1) b hs hd (fun i hi=>he i (fun o' ho'=>(List.mem_cons.1 ho').elim (fun e=>by rw [e,ho];simp) (fun h2=>hi o' h2))) (fun j o' d hj hd'=>by have:=hJ (j+1) o' d Gl hd';rwa [show k+(j+1)=k+1+j by omega] at this) h
  | some d=>
   rw [ho] at h;have h2:=h (a.tmps.getD d undef) (by have:=hJ 0 o d dc ho;simpa using this);refine dR.o r (k+1) (b.put (some d) (a.tmps.getD d undef)) (by simp [Act.put,hs]) (by simp [Act.put,hd]) (fun i hi=>?_) (fun j o' d' hj hd'=>by have:=hJ (j+1) o' d' Gl hd';rwa [show k+(j+1)=k+1+j by omega] at this) h2;by_cases e:d=i
   ·subst e;simp only [Act.put];by_cases hlt:d < b.tmps.size
    ·exact ky hlt
    ·have h1:(b.tmps.setIfInBounds d (a.tmps.getD d undef)).getD d undef=undef:=by simp [Array.getD_eq_getD_getElem?,Nat.le_of_not_lt hlt]
     have h3:a.tmps.getD d undef=undef:=by rw [Array.getD_eq_getD_getElem?,Array.getElem?_eq_none (hs ▸ Nat.le_of_not_lt hlt)];rfl
     rw [h1,h3]
   ·simp only [Act.put];rw [iD e];exact he i (fun o' ho'=>(List.mem_cons.1 ho').elim (fun e2=>by rw [e2,ho];simpa using e) (fun h3=>hi o' h3))
section
variable {P:Program} {l:List Oper} {n:Nat} {Q:Exit→Act→World→Prop} {J:Nat→Value→World→Prop}
def vY (P:Program) (l:List Oper) (n:Nat) (Q:Exit→Act→World→Prop) (J:Nat→Value→World→Prop) (a0:Act) (w:World) (j:Nat) (o:Oper):Prop:=
 ∀ (a:Act) (W:World),Ext w W→(∀ i,(fills (l.take n)).contains i=false→a.tmps.getD i undef=a0.tmps.getD i undef)→
  (∀ (e:Nat) (oe:Oper) (d:Tmp),l[e]?=some oe→oe.dst=some d→((waits o).contains e && decide (e < n))=true→J e (a.tmps.getD d undef) W)→
  ∀ K:Act→World→Prop,(∀ v W',Ext W W'→J j v W'→K (a.put o.dst v) W')→if Region.wanted o (yielded l.toArray a.tmps)=true then Oper.wp P o a W K Q else K (a.put o.dst undef) W
def cE (P:Program) (l:List Oper) (n:Nat) (Q:Exit→Act→World→Prop) (J:Nat→Value→World→Prop) (a0:Act) (w:World):Nat→List Oper→Prop
 | _,[]=>True
 | k,o :: r=>vY P l n Q J a0 w k o∧cE P l n Q J a0 w (k+1) r
theorem cE.get:∀ (r:List Oper) (k:Nat),cE P l n Q J a0 w k r→∀ (j:Nat) (o:Oper),r[j]?=some o→vY P l n Q J a0 w (k+j) o
 | [],_,_,_,_,h=>by simp at h
 | o :: r,k,h,0,o',hj=>by
  simp only [List.getElem?_cons_zero,Option.some.injEq] at hj;subst hj;exact h.1
 | o :: r,k,h,j+1,o',hj=>by
  have:=cE.get r (k+1) h.2 j o' Gl;rwa [show k+(j+1)=k+1+j by omega]
structure cP (l:List Oper) (n:Nat) (J:Nat→Value→World→Prop) (a0:Act) (w:World) (listed:Array Bool) (a:Act) (W:World):Prop where
 ext:Ext w W
 size:a.tmps.size=a0.tmps.size
 defers:a.defers=a0.defers
 base:∀ i,(fills (l.take n)).contains i=false→a.tmps.getD i undef=a0.tmps.getD i undef
 done:∀ (j:Nat) (o:Oper) (d:Tmp),(l.take n)[j]?=some o→o.dst=some d→listed.getD j false=true→J j (a.tmps.getD d undef) W
 head:HeadInv .any l.toArray n listed
def still (n:Nat) (listed:Array Bool):List Nat:=(List.range n).filter fun j=>!listed.getD j true
theorem sm (hi:i < n) (hs:n≤listed.size) (h:listed.getD i true=false):(still n (listed.setIfInBounds i true)).length+1=(still n listed).length:=by
 have h1:still n (listed.setIfInBounds i true)=(still n listed).erase i:=by
  unfold still;rw [List.Nodup.erase_eq_filter (List.nodup_range.filter _)];rw [List.filter_filter];apply List.filter_congr;intro j _;by_cases e:i=j
  ·subst e;simp [Array.getD_eq_getD_getElem?,show i < listed.size by omega]
  ·rw [getD_set_ne true e];have:(j != i)=true:=by simp;exact fun h=>e h.symm
   simp [this]
 have h2:i ∈ still n listed:=by unfold still;rw [List.mem_filter];exact ⟨List.mem_range.2 hi,by rw [h];rfl⟩
 rw [h1,List.length_erase_of_mem h2];have:=List.length_pos_of_mem h2;omega
theorem pR {o:Oper} {e:Edge} (he:e ∈ o.after) (hb:Region.binds .any e=true):e.on ∈ waits o:=by
 unfold waits;exact List.mem_map.2 ⟨e,List.mem_filter.2 ⟨by simpa using he,hb⟩,rfl⟩
theorem oU {o:Oper} (h:k ∈ waits o):∃ e ∈ o.after,Region.binds .any e=true∧e.on=k:=by
 unfold waits at h;obtain ⟨e,h1,h2⟩:=List.mem_map.1 h;obtain ⟨h3,h4⟩:=List.mem_filter.1 h1;exact ⟨e,by simpa using h3,h4,h2⟩
theorem ig (h:j < n):(l.take n)[j]?=l[j]?:=by rw [List.getElem?_take,if_pos h]
theorem oW (hn:n≤l.length) (hB:gH 0 (l.take n) []=true) (hs:listed.size=l.length) (hr:∀ j,j < n→j ∉ Region.ready .any l.toArray listed):∀ j,j < n→listed.getD j false=true:=by
 intro j;induction j using Nat.strongRecOn with
 | _ j ih=>
  intro hj;refine Classical.byContradiction fun hc=>?_;have hc':listed.getD j false=false:=by simpa using hc
  have hjl:j < l.length:=Z
  exact hr j hj (mem_ready.2 ⟨getD_in Z hc',l[j],by simp [hjl],fun e he hb=>by
   have h1:=(gg (l.take n) 0 [] hB).1 j l[j] (by rw [ig hj];simp [hjl]) e.on (pR he hb);exact ih e.on Z Z⟩)
theorem cP.step {o:Oper} (hB:gH 0 (l.take n) []=true) (hR:∀ d ∈ fills (l.take n),d < a0.tmps.size) (hJ:∀ j v W W',J j v W→Ext W W'→J j v W') (inv:cP l n J a0 w listed a W) (hjn:j < n)
  (hj:l[j]?=some o) (hm:j ∈ Region.ready .any l.toArray listed) {v:Value} {W':World} (hx:Ext W W') (hv:J j v W'):cP l n J a0 w (listed.setIfInBounds j true) (a.put o.dst v) W':=by
 obtain ⟨hw,ag1,Ye⟩:=gg (l.take n) 0 [] hB;obtain ⟨h1,h2,h3,h4,h5,h6⟩:=inv;have hj':(l.take n)[j]?=some o:=by rw [ig hjn];exact hj
 cases hd:o.dst with
 | none=>
  refine ⟨h1.trans hx,h2,h3,h4,fun i oi d hi hdi hl=>?_,h6.set hm hjn⟩;have:j≠i:=fun e=>by subst e;rw [hj'] at hi;cases hi;rw [hd] at hdi;cases hdi
  rw [getD_set_ne false this] at hl;exact hJ _ _ _ _ (h5 i oi d hi hdi hl) hx
 | some d=>
  refine ⟨h1.trans hx,by simp [Act.put,h2],h3,fun i hi=>?_,fun i oi d' hi hdi hl=>?_,h6.set hm hjn⟩
  ·have hne:d≠i:=fun e=>by
    subst e;have:d ∈ fills (l.take n):=List.mem_filterMap.2 ⟨o,List.mem_of_getElem? hj',hd⟩;simp [this] at hi
   simp only [Act.put];rw [iD hne];exact h4 i hi
  ·by_cases e:j=i
   ·subst e;rw [hj'] at hi;cases hi;rw [hd] at hdi;cases hdi;simp only [Act.put];rw [ky (by rw [h2];exact hR d (List.mem_filterMap.2 ⟨o,List.mem_of_getElem? hj',hd⟩))];exact hv
   ·rw [getD_set_ne false e] at hl;have hne:d≠d':=fun e2=>e (Ye j i o oi d hj' hi hd (e2 ▸ hdi));simp only [Act.put];rw [iD hne];exact hJ _ _ _ _ (h5 i oi d' hi hdi hl) hx
theorem cP.fin {G:Act→Prop} (hn:n≤l.length) (inv:cP l n J a0 w listed a W) (hall:∀ j,j < n→listed.getD j false=true) (hend:dR J W G 0 (l.take n) a0):G a:=by
 refine dR.o (J:=J) (W:=W) (G:=G) (a:=a) (l.take n) 0 a0 inv.size.symm inv.defers.symm (fun i hi=>(inv.base i ?_).symm) (fun j o d hj hd=>?_) hend
 ·simp only [fills,List.contains_eq_mem,decide_eq_false_iff_not,List.mem_filterMap,not_exists,not_and];exact fun o ho=>hi o ho
 ·have hlt:j < n:=by
   have:=(List.getElem?_eq_some_iff.1 hj).1;rw [List.length_take] at this;omega
  have:=inv.done j o d hj hd (hall j hlt);rwa [Nat.zero_add]
theorem pS (hn:n≤l.length) (hB:gH 0 (l.take n) []=true) (hR:∀ d ∈ fills (l.take n),d < a0.tmps.size) (hJ:∀ j v W W',J j v W→Ext W W'→J j v W') (hS:cE P l n Q J a0 w 0 (l.take n))
  (zX:∀ listed,HeadInv .any l.toArray n listed→∀ i,i < n→listed.getD i true=false→∀ j ∈ Region.ready .any l.toArray listed,j < n)
  (hfin:∀ listed a W,cP l n J a0 w listed a W→(∀ j,j < n→listed.getD j false=true)→wpAny P .any l.toArray Q g listed a W):∀ (k:Nat) (listed:Array Bool) (a:Act) (W:World),(still n listed).length=k→cP l n J a0 w listed a W→wpAny P .any l.toArray Q (k+g) listed a W:=by
 intro k;induction k with
 | zero=>
  exact Wq
 | succ k ih=>
  intro listed a W hf inv;rw [show k+1+g=(k+g)+1 by omega];obtain ⟨i,hi,hiu⟩:∃ i,i < n∧listed.getD i true=false:=by
   exact Wy
  refine ⟨fun hr=>?_,fun j hj=>?_⟩
  ·exact kW1
  ·have hjn:=zX listed inv.head i hi hiu j hj;exact zJd
theorem cP.start (a0:Act) (w:World):cP l n J a0 w (Array.replicate l.toArray.size false) a0 w.drew:=
 ⟨(Ext.refl w).drew,rfl,rfl,fun _ _=>rfl,fun j o d hj hd hl=>absurd hl Ud,⟨by simp,fun j oj _ hl=>absurd hl Ud,fun t _ ht=>getD_in (by simpa using ht) (getD_replicate_false _ _)⟩⟩
theorem gI (hn:n≤l.length):(still n (Array.replicate l.toArray.size false)).length=n:=by
 unfold still;rw [List.filter_eq_self.2 fun j hj=>?_]
 ·simp
 ·have:=List.mem_range.1 hj;rw [getD_in oZ (getD_replicate_false _ _)];rfl
theorem di (J:Nat→Value→World→Prop) (hm:P.follows .mixedOrders=true) (hB:gH 0 l []=true) (hR0:(fills l).all (fun d=>decide (d < a0.tmps.size))=true) (hJ:∀ j v W W',J j v W→Ext W W'→J j v W')
  (hS:cE P l l.length Q J a0 w 0 l) (hend:∀ W,Ext w W→dR J W (fun a=>Q .normal a W) 0 l a0):(Code.region id l.toArray true).wp P Q a0 w:=by
 have hR:∀ d ∈ fills l,d < a0.tmps.size:=fun d hd=>by simpa using List.all_eq_true.1 hR0 d hd
 have ht:l.take l.length=l:=List.take_length;have h:=pS (P:=P) (l:=l) (n:=l.length) (Q:=Q) (J:=J) (a0:=a0) (w:=w) (g:=0) (Nat.le_refl _) (by rw [ht];exact hB) (by rw [ht];exact hR) hJ (by rw [ht];exact hS)
  (fun listed _ _ _ _ j hj=>by obtain ⟨_,o,h2,_⟩:=mem_ready.1 hj;simpa using (Array.getElem?_eq_some_iff.1 h2).1)
  (fun listed a W inv hall=>⟨List.eq_nil_iff_forall_not_mem.2 (fun j hj=>by
   obtain ⟨h1,o,h2,_⟩:=mem_ready.1 hj;have hlt:j < l.length:=by simpa using (Array.getElem?_eq_some_iff.1 h2).1
   have h3:=hall j hlt;rw [getD_both h1] at h3;cases h3),inv.fin (G:=fun a=>Q .normal a W) (Nat.le_refl _) hall (by rw [ht];exact hend W inv.ext)⟩) l.length _ _ _ (gI (Nat.le_refl _)) (cP.start a0 w)
 rw [Nat.add_zero] at h;exact wp_region_any hm iw
def dK (n m:Nat):Array Bool:=(List.replicate n true ++ List.replicate (m - n) false).toArray
def sF (l:List Oper) (n:Nat):Bool:=
 decide (n < l.length) && Region.sinkB .any l.toArray n && Region.chainB .any l.toArray n && Region.seqB .any l.toArray (l.length - n) n (dK n l.length) && gH 0 (l.take n) []
theorem tT {m:Nat} (h:i < (dK n m).size):(dK n m)[i]=decide (i < n):=by
 simp only [dK,List.getElem_toArray,List.getElem_append,List.length_replicate,List.getElem_replicate];split <;> simp [*]
theorem ju (hn:n≤l.length) (hs:listed.size=l.length) (hall:∀ j,j < n→listed.getD j false=true) (ht:∀ t,n≤t→t < l.length→listed.getD t true=false):listed=dK n l.length:=by
 apply Array.ext
 ·unfold dK;simp [hs];omega
 ·intro i h1 h2;rw [tT];by_cases hi:i < n
  ·have:=hall i hi;simp [h1] at this;simp [this,hi]
  ·have:=ht i Z Z;simp [h1] at this;simp [this,hi]
theorem bE (n:Nat) (J:Nat→Value→World→Prop) (hm:P.follows .mixedOrders=true) (hT:sF l n=true) (hR0:(fills (l.take n)).all (fun d=>decide (d < a0.tmps.size))=true) (hJ:∀ j v W W',J j v W→Ext W W'→J j v W')
  (hS:cE P l n Q J a0 w 0 (l.take n)) (hend:∀ W,Ext w W→dR J W (fun a=>wpList P l.toArray Q (l.drop n) a W) 0 (l.take n) a0):(Code.region id l.toArray true).wp P Q a0 w:=by
 have hR:∀ d ∈ fills (l.take n),d < a0.tmps.size:=fun d hd=>by simpa using List.all_eq_true.1 hR0 d hd
 simp only [sF,Bool.and_eq_true,decide_eq_true_eq] at hT;obtain ⟨⟨⟨⟨hn,hs⟩,hc⟩,hq⟩,hB⟩:=hT;have h:=pS (P:=P) (l:=l) (n:=n) (Q:=Q) (J:=J) (a0:=a0) (w:=w) (g:=l.length - n) Z hB hR hJ hS
  (fun listed hi i hin hun j hj=>Nat.lt_of_not_le fun hge=>tail_waits hs hc (by simpa using hn) hi _ i rfl hin hun j hge hj)
  (fun listed a W inv hall=>by
   have he:=ju (l:=l) Z Pc hall (fun t h1 h2=>inv.head.tail t h1 Bk);subst he;have:=wpAny_of_seq (md:=.any) (Q':=Q) (l.drop n) n (dK n l.length) a W (fun j=>by simp [List.getElem?_drop]) Xm (inv.fin (G:=fun a=>wpList P l.toArray Q (l.drop n) a W) Z hall (hend W inv.ext));rwa [List.length_drop] at this) n _ _ _ (gI Z) (cP.start a0 w)
 exact WT
end
theorem aX {o:Oper} {f:Nat→Option Bool} (h:o.guard=none):Region.wanted o f=true:=by unfold Region.wanted;rw [h]
theorem vZ {bytes:Nat} (W:World) (n:Nat) (ht:Tryz.prog.underlying t=some (.slice e)) (hinfo:(Tryz.prog.info? e).map (fun i=>(i.zero,i.size,i.bytes))=some (some z,k,bytes)) (hn:bytes*n≤1000000000000) (hn2:n≤1000000000):
  (Instr.makeSlice t (.int .i64 (n:Int)) (.int .i64 (n:Int))).run Tryz.prog W=.ok (.slice (some ⟨W.heap.size,0,none⟩) n n) (W.alloc (.cells (madeCells z.cells (n*k)) e)):=by
 obtain ⟨i0,hi,hz0,hz1,hz2⟩:=info_parts hinfo;have hr:=run_make (P:=Tryz.prog) W t e i0 z ht hi hz0 .i64 .i64 n n Z (Int.le_refl _) (by rw [hz2,← Int.natCast_mul];omega) Z;simp only [Int.toNat_natCast,hz1] at hr;exact hr
end
end Go.Proofs.YtnnjbaijcaiohaaGreat
