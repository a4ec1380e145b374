/- Lemmas and walks of this claim. Conditions: as each states. -/
import Derived.Test.YtfflknbeidihoaaStGB
set_option linter.unusedVariables false
set_option linter.unusedSimpArgs false
namespace Go.Proofs.Ytfflknbeidihoaa
open Go.RowKit
def waits (o:Oper):List Nat:=(o.after.toList.filter fun e=>Region.binds .any e).map (·.on)
def fills (l:List Oper):List Tmp:=l.filterMap (·.dst)
def eachB:Nat→List Oper→List Tmp→Bool
 | _,[],_=>true
 | k,o :: r,seen=>(waits o).all (fun e=>decide (e < k)) && (match o.dst with|some d=>!seen.contains d && eachB (k+1) r (d :: seen)|none=>eachB (k+1) r seen)
theorem eachB_spec:∀ (l:List Oper) (k:Nat) (seen:List Tmp),eachB k l seen=true→
  (∀ (j:Nat) (o:Oper),l[j]?=some o→∀ e ∈ waits o,e < k+j)∧(∀ (j:Nat) (o:Oper) (d:Tmp),l[j]?=some o→o.dst=some d→d ∉ seen)∧(∀ (i j:Nat) (oi oj:Oper) (d:Tmp),l[i]?=some oi→l[j]?=some oj→oi.dst=some d→oj.dst=some d→i=j)
 | [],_,_,_=>⟨fun _ _ h=>by simp at h,fun _ _ _ h=>by simp at h,fun _ _ _ _ _ h=>by simp at h⟩
 | o :: r,k,seen,h=>by
  simp only [eachB,Bool.and_eq_true,List.all_eq_true,decide_eq_true_eq] at h
  obtain ⟨h1,h2⟩:=h
  have key:∃ s2,eachB (k+1) r s2=true∧(∀ d,d ∈ seen→d ∈ s2)∧(∀ d,o.dst=some d→d ∉ seen∧d ∈ s2):=by
   revert h2
   cases hd:o.dst with
   | none=>intro h2;exact ⟨seen,h2,fun _ h=>h,fun _ h=>by cases h⟩
   | some d=>
    intro h2
    simp only [Bool.and_eq_true,Bool.not_eq_true',List.contains_eq_mem,decide_eq_false_iff_not] at h2
    exact ⟨d :: seen,h2.2,fun _ h=>List.mem_cons_of_mem _ h,fun d' h=>by cases h;exact ⟨h2.1,List.mem_cons_self⟩⟩
  obtain ⟨s2,h3,h4,h5⟩:=key
  obtain ⟨a1,a2,a3⟩:=eachB_spec r (k+1) s2 h3
  refine ⟨fun j o' hj e he=>?_,fun j o' d hj hd hm=>?_,fun i j oi oj d hi hj hdi hdj=>?_⟩
  ·cases j with
   | zero=>
    simp only [List.getElem?_cons_zero,Option.some.injEq] at hj
    subst hj
    exact h1 e he
   | succ j=>have:=a1 j o' (by simpa using hj) e he;omega
  ·cases j with
   | zero=>
    simp only [List.getElem?_cons_zero,Option.some.injEq] at hj
    subst hj
    exact (h5 d hd).1 hm
   | succ j=>exact a2 j o' d (by simpa using hj) hd (h4 d hm)
  ·cases i with
   | zero=>
    simp only [List.getElem?_cons_zero,Option.some.injEq] at hi
    subst hi
    cases j with
    | zero=>rfl
    | succ j=>exact absurd (h5 d hdi).2 (a2 j oj d (by simpa using hj) hdj)
   | succ i=>
    cases j with
    | zero=>
     simp only [List.getElem?_cons_zero,Option.some.injEq] at hj
     subst hj
     exact absurd (h5 d hdj).2 (a2 i oi d (by simpa using hi) hdi)
    | succ j=>rw [a3 i j oi oj d (by simpa using hi) (by simpa using hj) hdi hdj]
def Vals (J:Nat→Value→World→Prop) (W:World) (G:Act→Prop):Nat→List Oper→Act→Prop
 | _,[],a=>G a
 | k,o :: r,a=>match o.dst with
  | some d=>∀ v,J k v W→Vals J W G (k+1) r (a.put (some d) v)
  | none=>Vals J W G (k+1) r a
theorem getD_set_self {t:Array Value} {d:Nat} {v:Value} (h:d < t.size):(t.setIfInBounds d v).getD d undef=v:=by
 simp [Array.getD_eq_getD_getElem?,h]
theorem getD_set_far {t:Array Value} {d i:Nat} {v:Value} (h:d≠i):(t.setIfInBounds d v).getD i undef=t.getD i undef:=by
 simp only [Array.getD_eq_getD_getElem?,Array.getElem?_setIfInBounds_ne h]
theorem tmps_ext {t u:Array Value} (hs:t.size=u.size) (h:∀ i,t.getD i undef=u.getD i undef):t=u:=by
 apply Array.ext hs
 intro i h1 h2
 have:=h i
 simpa [Array.getD_eq_getD_getElem?,h1,h2] using this
theorem Vals.o {J:Nat→Value→World→Prop} {W:World} {G:Act→Prop} {a:Act}:∀ (r:List Oper) (k:Nat) (b:Act),b.tmps.size=a.tmps.size→b.defers=a.defers→
  (∀ i,(∀ o ∈ r,o.dst≠some i)→b.tmps.getD i undef=a.tmps.getD i undef)→(∀ (j:Nat) (o:Oper) (d:Tmp),r[j]?=some o→o.dst=some d→J (k+j) (a.tmps.getD d undef) W)→Vals J W G k r b→G a
 | [],k,b,hs,hd,he,_,h=>by
  have:b=a:=by
   cases b;cases a
   simp only at hs hd he
   subst hd
   rw [tmps_ext hs fun i=>he i (by simp)]
  exact this ▸ h
 | o :: r,k,b,hs,hd,he,hJ,h=>by
  unfold Vals at h
  cases ho:o.dst with
  | none=>
   rw [ho] at h
   exact Vals.o r (k+1) b hs hd (fun i hi=>he i (fun o' ho'=>(List.mem_cons.1 ho').elim (fun e=>by rw [e,ho];simp) (fun h2=>hi o' h2))) (fun j o' d hj hd'=>by have:=hJ (j+1) o' d (by simpa using hj) hd';rwa [show k+(j+1)=k+1+j by omega] at this) h
  | some d=>
   rw [ho] at h
   have h2:=h (a.tmps.getD d undef) (by have:=hJ 0 o d (by simp) ho;simpa using this)
   refine Vals.o r (k+1) (b.put (some d) (a.tmps.getD d undef)) (by simp [Act.put,hs]) (by simp [Act.put,hd]) (fun i hi=>?_) (fun j o' d' hj hd'=>by have:=hJ (j+1) o' d' (by simpa using hj) hd';rwa [show k+(j+1)=k+1+j by omega] at this) h2
   by_cases e:d=i
   ·subst e
    simp only [Act.put]
    by_cases hlt:d < b.tmps.size
    ·exact getD_set_self hlt
    ·have h1:(b.tmps.setIfInBounds d (a.tmps.getD d undef)).getD d undef=undef:=by simp [Array.getD_eq_getD_getElem?,Nat.le_of_not_lt hlt]
     have h3:a.tmps.getD d undef=undef:=by rw [Array.getD_eq_getD_getElem?,Array.getElem?_eq_none (hs ▸ Nat.le_of_not_lt hlt)];rfl
     rw [h1,h3]
   ·simp only [Act.put]
    rw [getD_set_far e]
    exact he i (fun o' ho'=>(List.mem_cons.1 ho').elim (fun e2=>by rw [e2,ho];simpa using e) (fun h3=>hi o' h3))
section
variable {P:Program} {l:List Oper} {n:Nat} {Q:Exit→Act→World→Prop} {J:Nat→Value→World→Prop}
def EachStep (P:Program) (l:List Oper) (n:Nat) (Q:Exit→Act→World→Prop) (J:Nat→Value→World→Prop) (a0:Act) (w:World) (j:Nat) (o:Oper):Prop:=
 ∀ (a:Act) (W:World),Ext w W→(∀ i,(fills (l.take n)).contains i=false→a.tmps.getD i undef=a0.tmps.getD i undef)→
  (∀ (e:Nat) (oe:Oper) (d:Tmp),l[e]?=some oe→oe.dst=some d→((waits o).contains e && decide (e < n))=true→J e (a.tmps.getD d undef) W)→
  ∀ K:Act→World→Prop,(∀ v W',Ext W W'→J j v W'→K (a.put o.dst v) W')→if Region.wanted o (yielded l.toArray a.tmps)=true then Oper.wp P o a W K Q else K (a.put o.dst undef) W
def EachSteps (P:Program) (l:List Oper) (n:Nat) (Q:Exit→Act→World→Prop) (J:Nat→Value→World→Prop) (a0:Act) (w:World):Nat→List Oper→Prop
 | _,[]=>True
 | k,o :: r=>EachStep P l n Q J a0 w k o∧EachSteps P l n Q J a0 w (k+1) r
theorem EachSteps.get {a0:Act} {w:World}:∀ (r:List Oper) (k:Nat),EachSteps P l n Q J a0 w k r→∀ (j:Nat) (o:Oper),r[j]?=some o→EachStep P l n Q J a0 w (k+j) o
 | [],_,_,_,_,h=>by simp at h
 | o :: r,k,h,0,o',hj=>by
  simp only [List.getElem?_cons_zero,Option.some.injEq] at hj
  subst hj
  exact h.1
 | o :: r,k,h,j+1,o',hj=>by
  have:=EachSteps.get r (k+1) h.2 j o' (by simpa using hj)
  rwa [show k+(j+1)=k+1+j by omega]
structure EachInv (l:List Oper) (n:Nat) (J:Nat→Value→World→Prop) (a0:Act) (w:World) (listed:Array Bool) (a:Act) (W:World):Prop where
 ext:Ext w W
 size:a.tmps.size=a0.tmps.size
 defers:a.defers=a0.defers
 base:∀ i,(fills (l.take n)).contains i=false→a.tmps.getD i undef=a0.tmps.getD i undef
 done:∀ (j:Nat) (o:Oper) (d:Tmp),(l.take n)[j]?=some o→o.dst=some d→listed.getD j false=true→J j (a.tmps.getD d undef) W
 head:HeadInv .any l.toArray n listed
def still (n:Nat) (listed:Array Bool):List Nat:=(List.range n).filter fun j=>!listed.getD j true
theorem still_set {listed:Array Bool} {i:Nat} (hi:i < n) (hs:n≤listed.size) (h:listed.getD i true=false):(still n (listed.setIfInBounds i true)).length+1=(still n listed).length:=by
 have h1:still n (listed.setIfInBounds i true)=(still n listed).erase i:=by
  unfold still
  rw [List.Nodup.erase_eq_filter (List.nodup_range.filter _)]
  rw [List.filter_filter]
  apply List.filter_congr
  intro j _
  by_cases e:i=j
  ·subst e
   simp [Array.getD_eq_getD_getElem?,show i < listed.size by omega]
  ·rw [getD_set_ne true e]
   have:(j != i)=true:=by simp;exact fun h=>e h.symm
   simp [this]
 have h2:i ∈ still n listed:=by unfold still;rw [List.mem_filter];exact ⟨List.mem_range.2 hi,by rw [h];rfl⟩
 rw [h1,List.length_erase_of_mem h2]
 have:=List.length_pos_of_mem h2
 omega
theorem waits_of {o:Oper} {e:Edge} (he:e ∈ o.after) (hb:Region.binds .any e=true):e.on ∈ waits o:=by
 unfold waits
 exact List.mem_map.2 ⟨e,List.mem_filter.2 ⟨by simpa using he,hb⟩,rfl⟩
theorem of_waits {o:Oper} {k:Nat} (h:k ∈ waits o):∃ e ∈ o.after,Region.binds .any e=true∧e.on=k:=by
 unfold waits at h
 obtain ⟨e,h1,h2⟩:=List.mem_map.1 h
 obtain ⟨h3,h4⟩:=List.mem_filter.1 h1
 exact ⟨e,by simpa using h3,h4,h2⟩
theorem take_get {j:Nat} (h:j < n):(l.take n)[j]?=l[j]?:=by rw [List.getElem?_take,if_pos h]
theorem none_still {listed:Array Bool} (hn:n≤l.length) (hB:eachB 0 (l.take n) []=true) (hs:listed.size=l.length) (hr:∀ j,j < n→j ∉ Region.ready .any l.toArray listed):∀ j,j < n→listed.getD j false=true:=by
 intro j
 induction j using Nat.strongRecOn with
 | _ j ih=>
  intro hj
  refine Classical.byContradiction fun hc=>?_
  have hc':listed.getD j false=false:=by simpa using hc
  have hjl:j < l.length:=by omega
  exact hr j hj (mem_ready.2 ⟨getD_in (by omega) hc',l[j],by simp [hjl],fun e he hb=>by
   have h1:=(eachB_spec (l.take n) 0 [] hB).1 j l[j] (by rw [take_get hj];simp [hjl]) e.on (waits_of he hb)
   exact ih e.on (by omega) (by omega)⟩)
theorem EachInv.step {a0 a:Act} {w W:World} {listed:Array Bool} {j:Nat} {o:Oper} (hB:eachB 0 (l.take n) []=true) (hR:∀ d ∈ fills (l.take n),d < a0.tmps.size) (hJ:∀ j v W W',J j v W→Ext W W'→J j v W') (inv:EachInv l n J a0 w listed a W) (hjn:j < n)
  (hj:l[j]?=some o) (hm:j ∈ Region.ready .any l.toArray listed) {v:Value} {W':World} (hx:Ext W W') (hv:J j v W'):EachInv l n J a0 w (listed.setIfInBounds j true) (a.put o.dst v) W':=by
 obtain ⟨hw,hseen,huni⟩:=eachB_spec (l.take n) 0 [] hB
 obtain ⟨h1,h2,h3,h4,h5,h6⟩:=inv
 have hj':(l.take n)[j]?=some o:=by rw [take_get hjn];exact hj
 cases hd:o.dst with
 | none=>
  refine ⟨h1.trans hx,h2,h3,h4,fun i oi d hi hdi hl=>?_,h6.set hm hjn⟩
  have:j≠i:=fun e=>by subst e;rw [hj'] at hi;cases hi;rw [hd] at hdi;cases hdi
  rw [getD_set_ne false this] at hl
  exact hJ _ _ _ _ (h5 i oi d hi hdi hl) hx
 | some d=>
  refine ⟨h1.trans hx,by simp [Act.put,h2],h3,fun i hi=>?_,fun i oi d' hi hdi hl=>?_,h6.set hm hjn⟩
  ·have hne:d≠i:=fun e=>by
    subst e
    have:d ∈ fills (l.take n):=List.mem_filterMap.2 ⟨o,List.mem_of_getElem? hj',hd⟩
    simp [this] at hi
   simp only [Act.put]
   rw [getD_set_far hne]
   exact h4 i hi
  ·by_cases e:j=i
   ·subst e
    rw [hj'] at hi
    cases hi
    rw [hd] at hdi
    cases hdi
    simp only [Act.put]
    rw [getD_set_self (by rw [h2];exact hR d (List.mem_filterMap.2 ⟨o,List.mem_of_getElem? hj',hd⟩))]
    exact hv
   ·rw [getD_set_ne false e] at hl
    have hne:d≠d':=fun e2=>e (huni j i o oi d hj' hi hd (e2 ▸ hdi))
    simp only [Act.put]
    rw [getD_set_far hne]
    exact hJ _ _ _ _ (h5 i oi d' hi hdi hl) hx
theorem EachInv.fin {a0 a:Act} {w W:World} {listed:Array Bool} {G:Act→Prop} (hn:n≤l.length) (inv:EachInv l n J a0 w listed a W) (hall:∀ j,j < n→listed.getD j false=true) (hend:Vals J W G 0 (l.take n) a0):G a:=by
 refine Vals.o (J:=J) (W:=W) (G:=G) (a:=a) (l.take n) 0 a0 inv.size.symm inv.defers.symm (fun i hi=>(inv.base i ?_).symm) (fun j o d hj hd=>?_) hend
 ·simp only [fills,List.contains_eq_mem,decide_eq_false_iff_not,List.mem_filterMap,not_exists,not_and]
  exact fun o ho=>hi o ho
 ·have hlt:j < n:=by
   have:=(List.getElem?_eq_some_iff.1 hj).1
   rw [List.length_take] at this
   omega
  have:=inv.done j o d hj hd (hall j hlt)
  rwa [Nat.zero_add]
theorem wpAny_each {a0:Act} {w:World} {g:Nat} (hn:n≤l.length) (hB:eachB 0 (l.take n) []=true) (hR:∀ d ∈ fills (l.take n),d < a0.tmps.size) (hJ:∀ j v W W',J j v W→Ext W W'→J j v W') (hS:EachSteps P l n Q J a0 w 0 (l.take n))
  (hwait:∀ listed,HeadInv .any l.toArray n listed→∀ i,i < n→listed.getD i true=false→∀ j ∈ Region.ready .any l.toArray listed,j < n)
  (hfin:∀ listed a W,EachInv l n J a0 w listed a W→(∀ j,j < n→listed.getD j false=true)→wpAny P .any l.toArray Q g listed a W):∀ (k:Nat) (listed:Array Bool) (a:Act) (W:World),(still n listed).length=k→EachInv l n J a0 w listed a W→wpAny P .any l.toArray Q (k+g) listed a W:=by
 intro k
 induction k with
 | zero=>
  intro listed a W hf inv
  rw [Nat.zero_add]
  refine hfin listed a W inv (none_still hn hB (by simpa using inv.head.size) fun j hj hm=>?_)
  have h1:=(mem_ready.1 hm).1
  have h3:j ∈ still n listed:=List.mem_filter.2 ⟨List.mem_range.2 hj,by rw [h1];rfl⟩
  rw [List.length_eq_zero_iff.1 hf] at h3
  cases h3
 | succ k ih=>
  intro listed a W hf inv
  rw [show k+1+g=(k+g)+1 by omega]
  obtain ⟨i,hi,hiu⟩:∃ i,i < n∧listed.getD i true=false:=by
   have hne:still n listed≠[]:=fun e=>by rw [e] at hf;cases hf
   obtain ⟨i,hi⟩:=List.exists_mem_of_ne_nil _ hne
   obtain ⟨h1,h2⟩:=List.mem_filter.1 hi
   exact ⟨i,List.mem_range.1 h1,by simpa using h2⟩
  refine ⟨fun hr=>?_,fun j hj=>?_⟩
  ·exfalso
   have:=none_still hn hB (by simpa using inv.head.size) (fun j _ hm=>by rw [hr] at hm;cases hm) i hi
   rw [getD_both hiu] at this
   cases this
  ·have hjn:=hwait listed inv.head i hi hiu j hj
   obtain ⟨h1,o,h2,h3⟩:=mem_ready.1 hj
   have h2':l[j]?=some o:=by simpa using h2
   have hst:=EachSteps.get (l.take n) 0 hS j o (by rw [take_get hjn];exact h2')
   rw [Nat.zero_add] at hst
   refine wpOp_step h2 fun K' hK=>hst a W inv.ext inv.base (fun e oe d he hd hwt=>?_) K' fun v W' hx hv=>hK _ _ (ih _ _ _ ?_ (inv.step hB hR hJ hjn h2' hj hx hv))
   ·simp only [Bool.and_eq_true,decide_eq_true_eq] at hwt
    obtain ⟨eg,k1,k2,k3⟩:=of_waits (by simpa using hwt.1)
    exact inv.done e oe d (by rw [take_get hwt.2];exact he) hd (by rw [← k3];exact h3 eg k1 k2)
   ·have:=still_set hjn (by have:=inv.head.size;simp at this;omega) h1
    omega
theorem EachInv.start (a0:Act) (w:World):EachInv l n J a0 w (Array.replicate l.toArray.size false) a0 w.drew:=
 ⟨(Ext.refl w).drew,rfl,rfl,fun _ _=>rfl,fun j o d hj hd hl=>absurd hl (by rw [getD_replicate_false];simp),⟨by simp,fun j oj _ hl=>absurd hl (by rw [getD_replicate_false];simp),fun t _ ht=>getD_in (by simpa using ht) (getD_replicate_false _ _)⟩⟩
theorem still_start (hn:n≤l.length):(still n (Array.replicate l.toArray.size false)).length=n:=by
 unfold still
 rw [List.filter_eq_self.2 fun j hj=>?_]
 ·simp
 ·have:=List.mem_range.1 hj
  rw [getD_in (by simp;omega) (getD_replicate_false _ _)];rfl
theorem wp_region_each {id:Nat} {a0:Act} {w:World} (J:Nat→Value→World→Prop) (hm:P.follows .mixedOrders=true) (hB:eachB 0 l []=true) (hR0:(fills l).all (fun d=>decide (d < a0.tmps.size))=true) (hJ:∀ j v W W',J j v W→Ext W W'→J j v W')
  (hS:EachSteps P l l.length Q J a0 w 0 l) (hend:∀ W,Ext w W→Vals J W (fun a=>Q .normal a W) 0 l a0):(Code.region id l.toArray true).wp P Q a0 w:=by
 have hR:∀ d ∈ fills l,d < a0.tmps.size:=fun d hd=>by simpa using List.all_eq_true.1 hR0 d hd
 have ht:l.take l.length=l:=List.take_length
 have h:=wpAny_each (P:=P) (l:=l) (n:=l.length) (Q:=Q) (J:=J) (a0:=a0) (w:=w) (g:=0) (Nat.le_refl _) (by rw [ht];exact hB) (by rw [ht];exact hR) hJ (by rw [ht];exact hS)
  (fun listed _ _ _ _ j hj=>by obtain ⟨_,o,h2,_⟩:=mem_ready.1 hj;simpa using (Array.getElem?_eq_some_iff.1 h2).1)
  (fun listed a W inv hall=>⟨List.eq_nil_iff_forall_not_mem.2 (fun j hj=>by
   obtain ⟨h1,o,h2,_⟩:=mem_ready.1 hj
   have hlt:j < l.length:=by simpa using (Array.getElem?_eq_some_iff.1 h2).1
   have h3:=hall j hlt
   rw [getD_both h1] at h3
   cases h3),inv.fin (G:=fun a=>Q .normal a W) (Nat.le_refl _) hall (by rw [ht];exact hend W inv.ext)⟩) l.length _ _ _ (still_start (Nat.le_refl _)) (EachInv.start a0 w)
 rw [Nat.add_zero] at h
 exact wp_region_any hm (by simpa using h)
def headDone (n m:Nat):Array Bool:=(List.replicate n true ++ List.replicate (m - n) false).toArray
def eachTailB (l:List Oper) (n:Nat):Bool:=
 decide (n < l.length) && Region.sinkB .any l.toArray n && Region.chainB .any l.toArray n && Region.seqB .any l.toArray (l.length - n) n (headDone n l.length) && eachB 0 (l.take n) []
theorem headDone_get {n m i:Nat} (h:i < (headDone n m).size):(headDone n m)[i]=decide (i < n):=by
 simp only [headDone,List.getElem_toArray,List.getElem_append,List.length_replicate,List.getElem_replicate]
 split <;> simp [*]
theorem headDone_eq {listed:Array Bool} (hn:n≤l.length) (hs:listed.size=l.length) (hall:∀ j,j < n→listed.getD j false=true) (ht:∀ t,n≤t→t < l.length→listed.getD t true=false):listed=headDone n l.length:=by
 apply Array.ext
 ·unfold headDone;simp [hs];omega
 ·intro i h1 h2
  rw [headDone_get]
  by_cases hi:i < n
  ·have:=hall i hi
   simp [h1] at this
   simp [this,hi]
  ·have:=ht i (by omega) (by omega)
   simp [h1] at this
   simp [this,hi]
theorem wp_region_each_tail {id:Nat} {a0:Act} {w:World} (n:Nat) (J:Nat→Value→World→Prop) (hm:P.follows .mixedOrders=true) (hT:eachTailB l n=true) (hR0:(fills (l.take n)).all (fun d=>decide (d < a0.tmps.size))=true) (hJ:∀ j v W W',J j v W→Ext W W'→J j v W')
  (hS:EachSteps P l n Q J a0 w 0 (l.take n)) (hend:∀ W,Ext w W→Vals J W (fun a=>wpList P l.toArray Q (l.drop n) a W) 0 (l.take n) a0):(Code.region id l.toArray true).wp P Q a0 w:=by
 have hR:∀ d ∈ fills (l.take n),d < a0.tmps.size:=fun d hd=>by simpa using List.all_eq_true.1 hR0 d hd
 simp only [eachTailB,Bool.and_eq_true,decide_eq_true_eq] at hT
 obtain ⟨⟨⟨⟨hn,hs⟩,hc⟩,hq⟩,hB⟩:=hT
 have h:=wpAny_each (P:=P) (l:=l) (n:=n) (Q:=Q) (J:=J) (a0:=a0) (w:=w) (g:=l.length - n) (by omega) hB hR hJ hS
  (fun listed hi i hin hun j hj=>Nat.lt_of_not_le fun hge=>tail_waits hs hc (by simpa using hn) hi _ i rfl hin hun j hge hj)
  (fun listed a W inv hall=>by
   have he:=headDone_eq (l:=l) (by omega) (by simpa using inv.head.size) hall (fun t h1 h2=>inv.head.tail t h1 (by simpa using h2))
   subst he
   have:=wpAny_of_seq (md:=.any) (Q':=Q) (l.drop n) n (headDone n l.length) a W (fun j=>by simp [List.getElem?_drop]) (by rw [List.length_drop];exact hq) (inv.fin (G:=fun a=>wpList P l.toArray Q (l.drop n) a W) (by omega) hall (hend W inv.ext))
   rwa [List.length_drop] at this) n _ _ _ (still_start (by omega)) (EachInv.start a0 w)
 rw [show n+(l.length - n)=l.toArray.size by simp;omega] at h
 exact wp_region_any hm h
end
theorem wanted_none {o:Oper} {f:Nat→Option Bool} (h:o.guard=none):Region.wanted o f=true:=by unfold Region.wanted;rw [h]
theorem make_run {t e:TypeId} {z:Value} {k bytes:Nat} (W:World) (n:Nat) (ht:Try.prog.underlying t=some (.slice e)) (hinfo:(Try.prog.info? e).map (fun i=>(i.zero,i.size,i.bytes))=some (some z,k,bytes)) (hn:bytes*n≤1000000000000) (hn2:n≤1000000000) :
  (Instr.makeSlice t (.int .i64 (n:Int)) (.int .i64 (n:Int))).run Try.prog W=.ok (.slice (some ⟨W.heap.size,0,none⟩) n n) (W.alloc (.cells (madeCells z.cells (n*k)) e)):=by
 obtain ⟨i0,hi,hz0,hz1,hz2⟩:=info_parts hinfo
 have hr:=run_make (P:=Try.prog) W t e i0 z ht hi hz0 .i64 .i64 n n (by omega) (Int.le_refl _) (by rw [hz2,← Int.natCast_mul];omega) (by omega)
 simp only [Int.toNat_natCast,hz1] at hr
 exact hr
end Go.Proofs.Ytfflknbeidihoaa
