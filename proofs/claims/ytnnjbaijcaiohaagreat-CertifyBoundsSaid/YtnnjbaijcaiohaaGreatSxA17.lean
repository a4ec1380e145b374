/- Walks and lemmas. -/
import Derived.Test.YtnnjbaijcaiohaaGreatSxA7
import Derived.Test.YtnnjbaijcaiohaaGreatSxA13
import Derived.RangeFuncLeaves
import Derived.RangeFuncIn
import Derived.Test.YtnnjbaijcaiohaaGreatSxA14
import Derived.Sort.LoopGhostIn
import Derived.Test.YtnnjbaijcaiohaaGreatSxA3
import Derived.Test.YtnnjbaijcaiohaaGreatSxA16
import Derived.Laws.MakeOwn
import Derived.Test.YtnnjbaijcaiohaaGreatSxA11
import Derived.OwnWalkIn
set_option linter.unusedVariables false
set_option linter.unusedSimpArgs false
set_option maxRecDepth 100000
set_option maxHeartbeats 16000000
namespace Go.Proofs.YtnnjbaijcaiohaaGreat
open Go.RowKit
section
section
variable {P:Program} {l:List Oper} {n:Nat} {Q:Exit→Act→World→Prop} {J:Nat→Value→World→Prop}
def ri (P:Program) (l:List Oper) (n:Nat) (Q:Exit→Act→World→Prop) (J:Nat→Value→World→Prop) (a0:Act) (w:World) (j:Nat) (o:Oper):Prop:=
 ∀ (a:Act) (W:World),Ext w W→a.defers=a0.defers→(∀ i,(fills (l.take n)).contains i=false→a.tmps.getD i undef=a0.tmps.getD i undef)→
  (∀ (e:Nat) (oe:Oper) (d:Tmp),l[e]?=some oe→oe.dst=some d→((waits o).contains e && decide (e < n))=true→J e (a.tmps.getD d undef) W)→
  ∀ K:Act→World→Prop,(∀ v W',Ext W W'→J j v W'→K (a.put o.dst v) W')→if Region.wanted o (yielded l.toArray a.tmps)=true then Oper.wp P o a W K Q else K (a.put o.dst undef) W
def dz (P:Program) (l:List Oper) (n:Nat) (Q:Exit→Act→World→Prop) (J:Nat→Value→World→Prop) (a0:Act) (w:World):Nat→List Oper→Prop
 | _,[]=>True
 | k,o :: r=>ri P l n Q J a0 w k o∧dz P l n Q J a0 w (k+1) r
theorem dz.get {a0:Act} {w:World}:∀ (r:List Oper) (k:Nat),dz P l n Q J a0 w k r→∀ (j:Nat) (o:Oper),r[j]?=some o→ri P l n Q J a0 w (k+j) o
 | [],_,_,_,_,h=>by simp at h
 | o :: r,k,h,0,o',hj=>by
  simp only [List.getElem?_cons_zero,Option.some.injEq] at hj;subst hj;exact h.1
 | o :: r,k,h,j+1,o',hj=>by
  have:=dz.get r (k+1) h.2 j o' (by simpa using hj);rwa [show k+(j+1)=k+1+j by omega]
theorem mS {a0:Act} {w:World} {g:Nat} (hn:n≤l.length) (hB:gF 0 (l.take n) []=true) (hR:∀ d ∈ fills (l.take n),d < a0.tmps.size) (hJ:∀ j v W W',J j v W→Ext W W'→J j v W') (hS:dz P l n Q J a0 w 0 (l.take n))
  (tR:∀ listed,HeadInv .any l.toArray n listed→∀ i,i < n→listed.getD i true=false→∀ j ∈ Region.ready .any l.toArray listed,j < n)
  (hfin:∀ listed a W,cz l n J a0 w listed a W→(∀ j,j < n→listed.getD j false=true)→wpAny P .any l.toArray Q g listed a W):∀ (k:Nat) (listed:Array Bool) (a:Act) (W:World),(still n listed).length=k→cz l n J a0 w listed a W→wpAny P .any l.toArray Q (k+g) listed a W:=by
 intro k;induction k with
 | zero=>
  intro listed a W hf inv;rw [Nat.zero_add];refine hfin listed a W inv (eJ hn hB (by simpa using inv.head.size) fun j hj hm=>?_);have h1:=(mem_ready.1 hm).1;have h3:j ∈ still n listed:=List.mem_filter.2 ⟨List.mem_range.2 hj,by rw [h1];rfl⟩;rw [List.length_eq_zero_iff.1 hf] at h3;cases h3
 | succ k ih=>
  intro listed a W hf inv;rw [show k+1+g=(k+g)+1 by omega];obtain ⟨i,hi,hiu⟩:∃ i,i < n∧listed.getD i true=false:=by
   have hne:still n listed≠[]:=fun e=>by rw [e] at hf;cases hf
   obtain ⟨i,hi⟩:=List.exists_mem_of_ne_nil _ hne;obtain ⟨h1,h2⟩:=List.mem_filter.1 hi;exact ⟨i,List.mem_range.1 h1,by simpa using h2⟩
  refine ⟨fun hr=>?_,fun j hj=>?_⟩
  ·exfalso
   have:=eJ hn hB (by simpa using inv.head.size) (fun j _ hm=>by rw [hr] at hm;cases hm) i hi;rw [getD_both hiu] at this;cases this
  ·have hjn:=tR listed inv.head i hi hiu j hj;obtain ⟨h1,o,h2,h3⟩:=mem_ready.1 hj;have h2':l[j]?=some o:=by simpa using h2
   have hst:=dz.get (l.take n) 0 hS j o (by rw [dJ hjn];exact h2');rw [Nat.zero_add] at hst;refine wpOp_step h2 fun K' hK=>hst a W inv.ext inv.defers inv.base (fun e oe d he hd hwt=>?_) K' fun v W' hx hv=>hK _ _ (ih _ _ _ ?_ (inv.step hB hR hJ hjn h2' hj hx hv))
   ·simp only [Bool.and_eq_true,decide_eq_true_eq] at hwt;obtain ⟨eg,k1,k2,k3⟩:=lg (by simpa using hwt.1);exact inv.done e oe d (by rw [dJ hwt.2];exact he) hd (by rw [← k3];exact h3 eg k1 k2)
   ·have:=jO hjn (by have:=inv.head.size;simp at this;omega) h1;omega
theorem fo {id:Nat} {a0:Act} {w:World} (J:Nat→Value→World→Prop) (hm:P.follows .mixedOrders=true) (hB:gF 0 l []=true) (hR0:(fills l).all (fun d=>decide (d < a0.tmps.size))=true) (hJ:∀ j v W W',J j v W→Ext W W'→J j v W')
  (hS:dz P l l.length Q J a0 w 0 l) (hend:∀ W,Ext w W→cX J W (fun a=>Q .normal a W) 0 l a0):(Code.region id l.toArray true).wp P Q a0 w:=by
 have hR:∀ d ∈ fills l,d < a0.tmps.size:=fun d hd=>by simpa using List.all_eq_true.1 hR0 d hd
 have ht:l.take l.length=l:=List.take_length;have h:=mS (P:=P) (l:=l) (n:=l.length) (Q:=Q) (J:=J) (a0:=a0) (w:=w) (g:=0) (Nat.le_refl _) (by rw [ht];exact hB) (by rw [ht];exact hR) hJ (by rw [ht];exact hS)
  (fun listed _ _ _ _ j hj=>by obtain ⟨_,o,h2,_⟩:=mem_ready.1 hj;simpa using (Array.getElem?_eq_some_iff.1 h2).1)
  (fun listed a W inv hall=>⟨List.eq_nil_iff_forall_not_mem.2 (fun j hj=>by
   obtain ⟨h1,o,h2,_⟩:=mem_ready.1 hj;have hlt:j < l.length:=by simpa using (Array.getElem?_eq_some_iff.1 h2).1
   have h3:=hall j hlt;rw [getD_both h1] at h3;cases h3),inv.fin (G:=fun a=>Q .normal a W) (Nat.le_refl _) hall (by rw [ht];exact hend W inv.ext)⟩) l.length _ _ _ (eU (Nat.le_refl _)) (cz.start a0 w)
 rw [Nat.add_zero] at h;exact wp_region_any hm (by simpa using h)
theorem aD {id:Nat} {a0:Act} {w:World} (n:Nat) (J:Nat→Value→World→Prop) (hm:P.follows .mixedOrders=true) (hT:jP l n=true) (hR0:(fills (l.take n)).all (fun d=>decide (d < a0.tmps.size))=true) (hJ:∀ j v W W',J j v W→Ext W W'→J j v W')
  (hS:dz P l n Q J a0 w 0 (l.take n)) (hend:∀ W,Ext w W→cX J W (fun a=>wpList P l.toArray Q (l.drop n) a W) 0 (l.take n) a0):(Code.region id l.toArray true).wp P Q a0 w:=by
 have hR:∀ d ∈ fills (l.take n),d < a0.tmps.size:=fun d hd=>by simpa using List.all_eq_true.1 hR0 d hd
 simp only [jP,Bool.and_eq_true,decide_eq_true_eq] at hT;obtain ⟨⟨⟨⟨hn,hs⟩,hc⟩,hq⟩,hB⟩:=hT;have h:=mS (P:=P) (l:=l) (n:=n) (Q:=Q) (J:=J) (a0:=a0) (w:=w) (g:=l.length - n) (by omega) hB hR hJ hS
  (fun listed hi i hin hun j hj=>Nat.lt_of_not_le fun hge=>tail_waits hs hc (by simpa using hn) hi _ i rfl hin hun j hge hj)
  (fun listed a W inv hall=>by
   have he:=i5 (l:=l) (by omega) (by simpa using inv.head.size) hall (fun t h1 h2=>inv.head.tail t h1 (by simpa using h2));subst he;have:=wpAny_of_seq (md:=.any) (Q':=Q) (l.drop n) n (dK n l.length) a W (fun j=>by simp [List.getElem?_drop]) (by rw [List.length_drop];exact hq) (inv.fin (G:=fun a=>wpList P l.toArray Q (l.drop n) a W) (by omega) hall (hend W inv.ext));rwa [List.length_drop] at this) n _ _ _ (eU (by omega)) (cz.start a0 w)
 rw [show n+(l.length - n)=l.toArray.size by simp;omega] at h;exact wp_region_any hm h
end
end
section
def Mq (m:MD) (p:List Int):Int:=if p.length≠m.states.length then 16 else bF (ia m p) p.length
theorem ES {m:MD} {p:List Int} (h:Mq m p=0):p.length=m.states.length∧∀ u,u < m.states.length→0≤p.getD u 0∧p.getD u 0 < ((m.states.getD u []).length:Int):=by
 unfold Mq at h;by_cases h1:p.length=m.states.length
 ·rw [if_neg (by simpa using h1)] at h;refine ⟨h1,fun u hu=>?_⟩;have:=bm h u (by omega);unfold ia at this;by_cases h2:p.getD u 0 < 0∨((m.states.getD u []).length:Int)≤p.getD u 0
  ·rw [if_pos h2] at this;cases this
  ·omega
 ·rw [if_pos h1] at h;cases h
section
variable {F:Fence} {n:Nat} {P:Program} {ops:Array Oper} {Q:Exit→Act→World→Prop} {md:Region.Mode} {T:Array Bool→World→Prop}
theorem YieldsIf.yh {S:World→Prop} (hF:iu F) {i:Nat} {o:Oper} {v:Value} {a:Act} (hd:∀ c,o.op≠.defer c) (hi:ops[i]?=some o) (hy:YieldsIf P ops S o v a)
  {K:Act→World→Prop} {w:World} (hS:S w) (h:K (a.put o.dst v) w):wpOpIn F n P ops Q i K a w:=by
 unfold Go.wpOpIn;simp only [hi];rcases hy with ⟨hw,hv⟩|⟨hw,rfl⟩
 ·simp only [hw,if_true,Oper.wpIn,fP _ _ _ hd,hv w hS,Oper.uponIn];exact ⟨fun f _=>hF.fn f,h⟩
 ·simp only [hw,Bool.false_eq_true,if_false];exact ⟨fun f _=>hF.fn f,h⟩
theorem uw {F:Fence} {S:World→Prop} (hF:iu F) {ops:Array Oper} {Q:Exit→Act→World→Prop} {j:Nat} {oi oj:Oper} {v:Value} (hdj:∀ c,oj.op≠.defer c) (hj:ops[j]?=some oj) (hap:oi.apart ops oj=true)
  (hsi:∀ cs b,oi.op≠.select cs b) (hsj:∀ cs b,oj.op≠.select cs b)
  (hQ:∀ c a w,Q (.panic c) (a.put oi.dst v) w→Q (.panic c) a w) {K:Act→World→Prop} {a:Act} {w:World}
  (hy:YieldsIf P ops S oi v a) (h:wpOpIn F n P ops Q j K (a.put oi.dst v) w) :
  wpOpIn F n P ops Q j (fun a' w'=>YieldsIf P ops S oi v a'∧K (a'.put oi.dst v) w') a w:=by
 obtain ⟨h1,h2,h3⟩:=Oper.apart_spec hap;have keep:∀ (a:Act),YieldsIf P ops S oi v a→∀ u,YieldsIf P ops S oi v (a.put oj.dst u):=fun a hy u=>
  hy.of_same (execOp_put oi hsi a oj.dst u h3) (wanted_put oi a oj.dst u h3)
 have keepD:∀ d,YieldsIf P ops S oi v { a with defers:=d :: a.defers }:=fun d=>hy.of_same rfl rfl;unfold wpOpIn at *;simp only [hj] at *;rw [wanted_put oj a oi.dst v h1] at h;split
 ·rename_i hw;simp only [hw,if_true] at h;refine ⟨fun f _=>hF.fn f,?_⟩;have h:=h.2;rw [fP _ _ _ hdj,execOp_put oj hsj a oi.dst v h1] at h;rw [fP _ _ _ hdj];generalize (execOp a.eval oj).run P w=r at *
  cases r with
  | ok x w'=>
   cases x <;> simp only [Oper.uponIn] at h ⊢
   case value u=>exact ⟨keep a hy u,by rw [← Act.put_comm a v u h2];exact h⟩
   case skip=>exact ⟨keep a hy _,by rw [← Act.put_comm a v undef h2];exact h⟩
   case defer d=>
    refine ⟨keep _ (keepD d) _,?_⟩;rw [← Act.put_comm _ v undef h2,← Act.put_defers];exact h
   case enter f args=>
    refine ⟨h.1,CallsIn.mono h.2 fun e w'' he=>?_⟩;cases e with
    | returned u=>exact ⟨keep a hy u,by rw [← Act.put_comm a v u h2];exact he⟩
    | panicked c=>exact hQ _ _ _ he
    | outgrown=>exact he
   case row row args=>exact ⟨h.1,RowsIn.mono h.2 fun u w'' he=>⟨keep a hy u,by rw [← Act.put_comm a v u h2];exact he⟩⟩
   case round l f tmps assign body=>
    refine ⟨h.1,RoundIn.mono h.2 fun e w'' he=>?_⟩;cases e with
    | returned u=>exact ⟨keep a hy u,by rw [← Act.put_comm a v u h2];exact he⟩
    | panicked c=>exact hQ _ _ _ he
    | outgrown=>exact he
  | halt x w'=>
   cases x <;> simp only [Oper.uponIn] at h ⊢
   case panic u=>exact hQ _ _ _ h
 ·rename_i hw;simp only [hw] at h;exact ⟨fun f _=>hF.fn f,keep a hy _,by rw [← Act.put_comm a v undef h2];exact h.2⟩
def bW (F:Fence) (n:Nat) (P:Program) (md:Region.Mode) (ops:Array Oper) (Q:Exit→Act→World→Prop) (T:Array Bool→World→Prop):Nat→Array Bool→Act→World→Prop
 | 0,listed,a,w=>Region.ready md ops listed=[]∧Q .normal a w
 | fuel+1,listed,a,w=>
  (Region.ready md ops listed=[]→Q .normal a w)∧
  ∀ i ∈ Region.ready md ops listed,wpOpIn F n P ops Q i (fun a' w'=>T (listed.setIfInBounds i true) w'∧bW F n P md ops Q T fuel (listed.setIfInBounds i true) a' w') a w
theorem mT:∀ (fuel:Nat) (listed:Array Bool) (a:Act) (w:World),bW F n P md ops Q T fuel listed a w→wpAnyIn F n P md ops Q fuel listed a w
 | 0,_,_,_,h=>h
 | fuel+1,_,_,_,h=>⟨h.1,fun i hi=>wpOpIn_mono (fun a' w' h'=>mT fuel _ a' w' h'.2) (h.2 i hi)⟩
theorem ko (hF:iu F) (hd:∀ (j:Nat) (o:Oper),ops[j]?=some o→∀ c,o.op≠.defer c) {S:World→Prop} {C:Array Bool→Prop} {i:Nat} {oi:Oper} {v:Value} (hi:ops[i]?=some oi) (hsel:∀ (j:Nat) (o:Oper) cs b,ops[j]?=some o→o.op≠.select cs b)
  (hQ:∀ c a w,Q (.panic c) (a.put oi.dst v) w→Q (.panic c) a w)
  (hC:∀ l j oj,ops[j]?=some oj→(∀ e ∈ oj.after,Region.binds md e=true→e.on≠i)→C l→C (l.setIfInBounds j true)) (hS:∀ l w,C l→T l w→S w) (hT:∀ l w,T (l.setIfInBounds i true) w↔T l w) :
  ∀ (fuel:Nat) (listed:Array Bool) (a:Act) (w:World),
   (∀ j oj,ops[j]?=some oj→j≠i→listed.getD j true=false→(∀ e ∈ oj.after,Region.binds md e=true→e.on≠i)→oi.apart ops oj=true)→
   i ∈ Region.ready md ops listed→YieldsIf P ops S oi v a→C listed→T listed w→
   bW F n P md ops Q T fuel (listed.setIfInBounds i true) (a.put oi.dst v) w→bW F n P md ops Q T (fuel+1) listed a w:=by
 intro fuel;induction fuel with
 | zero=>
  intro listed a w _ hr hy hc ht H;refine ⟨fun h=>(by rw [h] at hr;cases hr),fun j hj=>?_⟩;by_cases hji:j=i
  ·subst hji;exact YieldsIf.yh hF (hd _ _ hi) hi hy (hS _ _ hc ht) ⟨(hT _ _).2 ht,H⟩
  ·have:=ready_mono hj hji;rw [H.1] at this;cases this
 | succ fuel ih=>
  intro listed a w hfree hr hy hc ht H;refine ⟨fun h=>(by rw [h] at hr;cases hr),fun j hj=>?_⟩;by_cases hji:j=i
  ·subst hji;exact YieldsIf.yh hF (hd _ _ hi) hi hy (hS _ _ hc ht) ⟨(hT _ _).2 ht,H⟩
  ·have h1:=H.2 j (ready_mono hj hji);obtain ⟨hjun,oj,hoj,hall⟩:=mem_ready.1 hj;have hnot:∀ e ∈ oj.after,Region.binds md e=true→e.on≠i:=fun e he hb heq=>by
    have h1:=hall e he hb;have h0:=(mem_ready.1 hr).1;rw [heq] at h1;rcases Nat.lt_or_ge i listed.size with h'|h'
    ·simp [h'] at h0 h1;rw [h0] at h1;cases h1
    ·simp [Array.getElem?_eq_none h'] at h1
   have h2:=uw hF (hd j oj hoj) hoj (hfree j oj hoj hji hjun hnot) (fun cs b=>hsel i oi cs b hi) (fun cs b=>hsel j oj cs b hoj) hQ hy h1;have hfree':∀ k ok,ops[k]?=some ok→k≠i→(listed.setIfInBounds j true).getD k true=false→
     (∀ e ∈ ok.after,Region.binds md e=true→e.on≠i)→oi.apart ops ok=true:=fun k ok hk hki hun hno=>by
    refine hfree k ok hk hki ?_ hno;by_cases hjk:j=k
    ·subst hjk;exact hjun
    ·rw [getD_set_ne true hjk] at hun;exact hun
   refine wpOpIn_mono (fun a' w' h3=>?_) h2;have h4:T (listed.setIfInBounds j true) w':=by
    have:=h3.2.1;rw [Array.setIfInBounds_comm _ _ (Ne.symm hji)] at this;exact (hT _ _).1 this
   refine ⟨h4,ih (listed.setIfInBounds j true) a' w' hfree' (ready_mono hr (Ne.symm hji)) h3.1 (hC _ j oj hoj hnot hc) h4 ?_⟩;rw [Array.setIfInBounds_comm _ _ hji];exact h3.2.2
theorem qk (hF:iu F) (hdf:yM ops.toList=true) {S1 S2:World→Prop} {m1 m2:Nat} {i:Nat} {oi om:Oper} {v:Value} {fuel:Nat} {listed:Array Bool} {a:Act} {w:World} (hi:ops[i]?=some oi) (hm:ops[m1]?=some om) (hw:om.after.any (fun e=>Region.binds md e && e.on == i)=true)
  (h1:i≠m1) (h2:i≠m2) (hs:Region.noSelect ops=true) (hf:Region.free md ops listed i=true) (hr:(Region.ready md ops listed).contains i=true)
  (hQ:∀ c a w,Q (.panic c) (a.put oi.dst v) w→Q (.panic c) a w) (hy:YieldsIf P ops S1 oi v a) (hc:listed.getD m1 false=false) (ht:T2 m1 m2 S1 S2 listed w)
  (h:bW F n P md ops Q (T2 m1 m2 S1 S2) fuel (listed.setIfInBounds i true) (a.put oi.dst v) w):bW F n P md ops Q (T2 m1 m2 S1 S2) (fuel+1) listed a w:=
 ko hF (fun j o ho=>mb hdf j o (by simpa using ho)) (S:=S1) (C:=fun l=>l.getD m1 false=false) hi (Region.noSelect_spec hs) hQ (fun l j oj hj hn hc=>(fI (sC hm hw hj hn)).trans hc) (fun l w hc ht=>ht.1 hc) (T2.set h1 h2) fuel listed a w (Region.free_spec hi hf) (by simpa using hr) hy hc ht h
theorem ql (hF:iu F) (hdf:yM ops.toList=true) {S1 S2:World→Prop} {m1 m2:Nat} {i:Nat} {oi om:Oper} {v:Value} {fuel:Nat} {listed:Array Bool} {a:Act} {w:World} (hi:ops[i]?=some oi) (hm:ops[m2]?=some om) (hw:om.after.any (fun e=>Region.binds md e && e.on == i)=true)
  (h1:i≠m1) (h2:i≠m2) (hs:Region.noSelect ops=true) (hf:Region.free md ops listed i=true) (hr:(Region.ready md ops listed).contains i=true)
  (hQ:∀ c a w,Q (.panic c) (a.put oi.dst v) w→Q (.panic c) a w) (hy:YieldsIf P ops S2 oi v a) (hc:listed.getD m2 false=false) (ht:T2 m1 m2 S1 S2 listed w)
  (h:bW F n P md ops Q (T2 m1 m2 S1 S2) fuel (listed.setIfInBounds i true) (a.put oi.dst v) w):bW F n P md ops Q (T2 m1 m2 S1 S2) (fuel+1) listed a w:=
 ko hF (fun j o ho=>mb hdf j o (by simpa using ho)) (S:=S2) (C:=fun l=>l.getD m2 false=false) hi (Region.noSelect_spec hs) hQ (fun l j oj hj hn hc=>(fI (sC hm hw hj hn)).trans hc) (fun l w hc ht=>ht.2 hc) (T2.set h1 h2) fuel listed a w (Region.free_spec hi hf) (by simpa using hr) hy hc ht h
theorem Ux (i:Nat) {P:Program} {md:Region.Mode} {ops:Array Oper} {Q:Exit→Act→World→Prop} {oi:Oper} {v:Value} {fuel:Nat} {l:Array Bool} {a:Act} {w:World} {R:Prop} {F:Fence} {n:Nat} {m1 m2:Nat} {S1 S2:World→Prop} {om:Oper} (r:R) (hF:iu F:=by exact Or.inr ⟨_,rfl⟩) (hdf:yM ops.toList=true:=by kernel_rfl) (hi:ops[i]?=some oi:=by rfl) (hm:ops[m2]?=some om:=by rfl) (hw:om.after.any (fun e=>Region.binds md e && e.on == i)=true:=by kernel_rfl) (h1:i≠m1:=by decide) (h2:i≠m2:=by decide) (hs:Region.noSelect ops=true:=by kernel_rfl) (hf:Region.free md ops l i=true:=by kernel_rfl) (hr:(Region.ready md ops l).contains i=true:=by kernel_rfl) (hy:YieldsIf P ops S2 oi v a:=by refine Or.inl ⟨by rfl,?_⟩;intro w hSw;(try dsimp only at hSw);go_simp;first|done|with_reducible rfl) (hc:l.getD m2 false=false:=by kernel_rfl) (hT:T2 m1 m2 S1 S2 l w:=by exact ht _) (k:R→bW F n P md ops (Qn Q) (T2 m1 m2 S1 S2) fuel (l.setIfInBounds i true) (a.put oi.dst v) w:=by intro k;(try simp only [sP]);exact k):bW F n P md ops (Qn Q) (T2 m1 m2 S1 S2) (fuel+1) l a w:=ql hF hdf hi hm hw h1 h2 hs hf hr Qn.Od hy hc hT (k r)
theorem Uy (i:Nat) {P:Program} {md:Region.Mode} {ops:Array Oper} {Q:Exit→Act→World→Prop} {oi:Oper} {v:Value} {fuel:Nat} {l:Array Bool} {a:Act} {w:World} {R:Prop} {F:Fence} {n:Nat} {m1 m2:Nat} {S1 S2:World→Prop} {om:Oper} (r:R) (hF:iu F:=by exact Or.inr ⟨_,rfl⟩) (hdf:yM ops.toList=true:=by kernel_rfl) (hi:ops[i]?=some oi:=by rfl) (hm:ops[m1]?=some om:=by rfl) (hw:om.after.any (fun e=>Region.binds md e && e.on == i)=true:=by kernel_rfl) (h1:i≠m1:=by decide) (h2:i≠m2:=by decide) (hs:Region.noSelect ops=true:=by kernel_rfl) (hf:Region.free md ops l i=true:=by kernel_rfl) (hr:(Region.ready md ops l).contains i=true:=by kernel_rfl) (hy:YieldsIf P ops S1 oi v a:=by refine Or.inl ⟨by rfl,?_⟩;intro w hSw;(try dsimp only at hSw);go_simp;first|done|with_reducible rfl) (hc:l.getD m1 false=false:=by kernel_rfl) (hT:T2 m1 m2 S1 S2 l w:=by exact ht _) (k:R→bW F n P md ops (Qn Q) (T2 m1 m2 S1 S2) fuel (l.setIfInBounds i true) (a.put oi.dst v) w:=by intro k;(try simp only [sP]);exact k):bW F n P md ops (Qn Q) (T2 m1 m2 S1 S2) (fuel+1) l a w:=qk hF hdf hi hm hw h1 h2 hs hf hr Qn.Od hy hc hT (k r)
def bv (F:Fence) (n:Nat) (P:Program) (md:Region.Mode) (ops:Array Oper) (Q:Exit→Act→World→Prop) (T:Array Bool→World→Prop) (fuel:Nat) (listed:Array Bool) (a:Act) (w:World) (rs:List Nat):Prop:=
 ∀ i ∈ rs,wpOpIn F n P ops Q i (fun a' w'=>T (listed.setIfInBounds i true) w'∧bW F n P md ops Q T fuel (listed.setIfInBounds i true) a' w') a w
theorem bv.nil {fuel:Nat} {listed:Array Bool} {a:Act} {w:World}:bv F n P md ops Q T fuel listed a w []:=fun _ h=>by cases h
theorem bv.cons {fuel:Nat} {listed:Array Bool} {a:Act} {w:World} {i:Nat} {o:Oper} {rs:List Nat} (ho:ops[i]?=some o)
  (h:∀ K':Act→World→Prop,Shut (∀ a w,T (listed.setIfInBounds i true) w→bW F n P md ops Q T fuel (listed.setIfInBounds i true) a w→K' a w)→if Region.wanted o (yielded ops a.tmps)=true then Oper.wpIn F n P o a w K' Q else (∀ f,o.about P w a.eval=some f→F.fn f)∧K' (a.put o.dst undef) w)
  (hs:bv F n P md ops Q T fuel listed a w rs):bv F n P md ops Q T fuel listed a w (i :: rs):=fun j hj=>by
 rcases List.mem_cons.1 hj with rfl|hj
 ·exact wpOpIn_step ho (fun K' hK=>h K' (fun a w hS hW=>hK a w ⟨hS,hW⟩))
 ·exact hs j hj
theorem yc {F:Fence} {n:Nat} {P:Program} {md:Region.Mode} {ops:Array Oper} {Q:Exit→Act→World→Prop} {T:Array Bool→World→Prop} {fuel:Nat} {l:Array Bool} {a:Act} {w:World} {i:Nat} {o:Oper} (h:∀ K:Act→World→Prop,Shut (∀ a w,T (l.setIfInBounds i true) w→bW F n P md ops Q T fuel (l.setIfInBounds i true) a w→K a w)→if Region.wanted o (yielded ops a.tmps)=true then Oper.wpIn F n P o a w K Q else (∀ f,o.about P w a.eval=some f→F.fn f)∧K (a.put o.dst undef) w) (ho:ops[i]?=some o:=by rfl):bv F n P md ops Q T fuel l a w [i]:=bv.cons ho h bv.nil
theorem qm {rs:List Nat} {fuel:Nat} {listed:Array Bool} {a:Act} {w:World} (hr:Region.ready md ops listed=rs) (hne:rs≠[])
  (h:bv F n P md ops Q T fuel listed a w rs):bW F n P md ops Q T (fuel+1) listed a w:=⟨fun h0=>absurd (hr ▸ h0) hne,hr ▸ h⟩
theorem yr (rs:List Nat) {P:Program} {md:Region.Mode} {ops:Array Oper} {Q:Exit→Act→World→Prop} {T:Array Bool→World→Prop} {fuel:Nat} {l:Array Bool} {a:Act} {w:World} {F:Fence} {n:Nat} (h:bv F n P md ops Q T fuel l a w rs) (hr:Region.ready md ops l=rs:=by kernel_rfl) (hn:rs≠[]:=by simp):bW F n P md ops Q T (fuel+1) l a w:=qm hr hn h
theorem sI {listed:Array Bool} {a:Act} {w:World} (hr:Region.ready md ops listed=[]) (h:Q .normal a w) :
  ∀ fuel,bW F n P md ops Q T fuel listed a w
 | 0=>⟨hr,h⟩
 | _+1=>⟨fun _=>h,by rw [hr];simp⟩
theorem qn {id:Nat} {a:Act} {w:World} (hm:P.follows .mixedOrders=true) (h:bW F n P .any ops Q T ops.size (Array.replicate ops.size false) a w.drew):(Code.region id ops true).wpIn F n P Q a w:=
 wpIn_region_any hm (mT _ _ _ _ h)
theorem pg {id:Nat} {a:Act} {w:World} (hm:P.follows .mixedOrders=true) (h:bW F n P .any ops (Qn Q) T ops.size (Array.replicate ops.size false) a w.drew):(Code.region id ops true).wpIn F n P Q a w:=
 wpIn_mono (qn hm h) (fun e a w h=>by obtain ⟨rfl,h⟩:=h;exact h)
end
end
theorem jt {w:World} {b:Nat} {t:TypeId} (l:List Int) (n:Nat) (h:af w b (l.map (Value.int .i64)).toArray t) (hn:l.length=n) (hs:l.length≤1000):aV .i64 w (.slice (some ⟨b,0,none⟩) n n) l:=by
 subst hn;refine ⟨some ⟨b,0,none⟩,l.length,by simp,by simp,by omega,fun i hi=>?_⟩;simp only [List.length_map] at hi;exact ⟨b,0,rfl,h.lt,by rw [h.cell];simp [hi]⟩
theorem bT.Xw {B:Nat} {w:World} {v:Value} {l:List RR} (h:bT B w v l) {i:Nat} (hi:i < l.length):∃ g n cap a1 c1 a2 c2,v=.slice (some ⟨g,0,none⟩) n cap∧g < w.heap.size∧w.cell? ⟨g,i*3,none⟩=some (.bool (l.getD i zR).neg)∧w.cell? ⟨g,i*3+1,none⟩=some (.slice a1 (l.getD i zR).num.length c1)∧w.cell? ⟨g,i*3+2,none⟩=some (.slice a2 (l.getD i zR).den.length c2)∧
  dg B w [.bool (l.getD i zR).neg,.slice a1 (l.getD i zR).num.length c1,.slice a2 (l.getD i zR).den.length c2] (l.getD i zR):=by
 obtain ⟨a,cap,hv,_,_,hr⟩:=ay.vi h;have hl:l[i]?=some (l.getD i zR):=by rw [List.getD_eq_getElem?_getD,List.getElem?_eq_getElem hi];rfl
 obtain ⟨b,h',e1,hb,e2,e3,e4,hel⟩:=hr i _ hl;have Iw:=hel;obtain ⟨a1,c1,a2,c2,rfl,s1,s2⟩:=Iw;subst hv;subst e1;have x0:=e4 0 (by omega);have x1:=e4 1 (by omega);have x2:=e4 2 (by omega);exact ⟨b,_,_,a1,c1,a2,c2,rfl,e2,x0,x1,x2,hel⟩
theorem BE (n:Nat):madeCells (Value.int .i64 0).cells (n*1)=((List.replicate n (0:Int)).map (Value.int .i64)).toArray:=by
 rw [Nat.mul_one];apply Array.ext
 ·simp [madeCells]
 ·intro i h1 h2;simp [madeCells,Value.cells,Nat.mod_one]
abbrev BF (An:Nat):Deferred:={ target:=.fn (.func 70) #[.pointer (some ⟨An+1+1+1,0,none⟩),.pointer (some ⟨An+1,0,none⟩),.pointer (some ⟨An+1+1,0,none⟩)],args:=#[] }
def ID (tmps:Array Value) (An:Nat):Prop:=tmps.getD 6 undef=.pointer (some ⟨An+1,0,none⟩)∧tmps.getD 7 undef=.pointer (some ⟨An+1+1,0,none⟩)∧tmps.getD 8 undef=.pointer (some ⟨An+1+1+1,0,none⟩)
theorem mU {tmps:Array Value} {An:Nat} (h:ID tmps An) {W:World} {xa ya:Option Addr} {xn xc yn yc:Nat} {c:Int} {t1 t2 t3:TypeId} (b1:af W (An+1) #[.slice xa xn xc] t1) (b2:af W (An+1+1) #[.slice ya yn yc] t2) (b3:af W (An+1+1+1) #[.int .i64 c] t3) :
  (results Tryz.f18 tmps).run Tryz.prog W=.ok (.tuple #[.slice xa xn xc,.slice ya yn yc,.int .i64 c]) W:=by
 obtain ⟨h6,h7,h8⟩:=h;have k1:=b1.cell 0;have k2:=b2.cell 0;have k3:=b3.cell 0;simp only [List.getElem?_toArray,List.getElem?_cons_zero] at k1 k2 k3;have l1:=b1.lt;have l2:=b2.lt;have l3:=b3.lt;simp only [Array.getD_eq_getD_getElem?] at h6 h7 h8;simp only [results,Tryz.results18];simp [h6,h7,h8,go_sem,k1,k2,k3]
theorem sJ {a:Act} {d:Nat} {v:Value} (h6:d≠6) (h7:d≠7) (h8:d≠8):results Tryz.f18 (a.put (some d) v).tmps=results Tryz.f18 a.tmps:=by
 have e:∀ i,i≠d→(a.put (some d) v).tmps.getD i undef=a.tmps.getD i undef:=fun i hi=>by
  simp only [Act.put,Array.getD_eq_getD_getElem?,Array.getElem?_setIfInBounds_ne (Ne.symm hi)]
 simp only [Array.getD_eq_getD_getElem?] at e;simp [results,Tryz.results18,e 6 (Ne.symm h6),e 7 (Ne.symm h7),e 8 (Ne.symm h8)]
theorem eQ {mm:MD} {vals:List RR} {k:Int} {w W:World} {An:Nat} {c e0:Int} (hc:c≠0) {tmps:Array Value} (ht:ID tmps An) {x1 x2:Value} {t1 t2:TypeId} (b1:af W (An+1) #[x1] t1) (b2:af W (An+1+1) #[x2] t2) (b3:af W (An+1+1+1) #[.int .i64 e0] 37) (hx:Ext w W) (hA:w.heap.size≤An) (he:bP mm vals k=([],[],c)) :
  LeavesInM Fence.wide 8 Tryz.prog Tryz.f18 tmps (fun e w'=>wG w w' e (bP mm vals k)∧Ext w w') [BF An] (.panicking [aY c]) W:=by
 refine oQ (f:=70) (args:=#[.pointer (some ⟨An+1+1+1,0,none⟩),.pointer (some ⟨An+1,0,none⟩),.pointer (some ⟨An+1+1,0,none⟩)]) (by simp) (by simp [go_sem]) ?_;refine (oV (An+1+1+1) (An+1) (An+1+1) c e0 hc [] W _ _ _ _ b3 b1 (by omega) b2 (by omega) (by omega)).mono ?_;rintro e u' w'' ⟨rfl,rfl,rfl⟩;obtain ⟨wf,hwf⟩:=gN (((W.setCell ⟨An+1+1+1,0,none⟩ (.int .i64 c)).setCell ⟨An+1,0,none⟩ (.slice none 0 0)).setCell ⟨An+1+1,0,none⟩ (.slice none 0 0));have f1:af wf (An+1) #[.slice none 0 0] t1:=by
  rw [hwf];exact ((b1.setOther (a:=⟨An+1+1+1,0,none⟩) (by dsimp only;omega) _).set 0 _).setOther (a:=⟨An+1+1,0,none⟩) (by dsimp only;omega) _
 have f2:af wf (An+1+1) #[.slice none 0 0] t2:=by
  rw [hwf];exact ((b2.setOther (a:=⟨An+1+1+1,0,none⟩) (by dsimp only;omega) _).setOther (a:=⟨An+1,0,none⟩) (by dsimp only;omega) _).set 0 _
 have f3:af wf (An+1+1+1) #[.int .i64 c] 37:=by
  rw [hwf];exact ((b3.set 0 (.int .i64 c)).setOther (a:=⟨An+1,0,none⟩) (by dsimp only;omega) _).setOther (a:=⟨An+1+1,0,none⟩) (by dsimp only;omega) _
 have cp:Ext w wf:=by
  rw [hwf];exact Below.setCell (Below.setCell (Below.setCell hx (by dsimp only;omega) _) (by dsimp only;omega) _) (by dsimp only;omega) _
 rw [← hwf];clear hwf;have hr:=mU ht f1.drew f2.drew f3.drew;simp only [LeavesInM,LeavesIn,settle,aY];exact ⟨_,hr,wG.mk (cg.nil _ _) (cO.nil _ _) he,cp.drew⟩
theorem qo {mm:MD} {vals:List RR} {k:Int} {w W:World} {An:Nat} {tmps:Array Value} (ht:ID tmps An) {xa ya:Option Addr} {xn xc yn yc:Nat} {g:List (List RR)} {p:List (List Int)} (b1:af W (An+1) #[.slice xa xn xc] 36) (b2:af W (An+1+1) #[.slice ya yn yc] 30) (b3:af W (An+1+1+1) #[.int .i64 0] 37) (hx:Ext w W) (hA:w.heap.size≤An)
  (ov:cg w.heap.size W (.slice xa xn xc) g) (op:cO w.heap.size W (.slice ya yn yc) p) (he:bP mm vals k=(g,p,0)) :
  LeavesInM Fence.wide 8 Tryz.prog Tryz.f18 tmps (fun e w'=>wG w w' e (bP mm vals k)∧Ext w w') [BF An] .returning W:=by
 refine oQ (f:=70) (args:=#[.pointer (some ⟨An+1+1+1,0,none⟩),.pointer (some ⟨An+1,0,none⟩),.pointer (some ⟨An+1+1,0,none⟩)]) (by simp) (by simp [go_sem]) ?_;refine (oU (An+1+1+1) (An+1) (An+1+1) W b3).mono ?_;rintro e u' w'' ⟨rfl,rfl,rfl⟩;obtain ⟨wf,hwf⟩:=gN (W.setCell ⟨An+1+1+1,0,none⟩ (.int .i64 0));have hk:Keeps 0 37 W wf:=by rw [hwf];exact aT b3 0 _
 have f1:=b1.keeps hk (by decide);have f2:=b2.keeps hk (by decide);have f3:af wf (An+1+1+1) #[.int .i64 0] 37:=by rw [hwf];exact b3.set 0 (.int .i64 0)
 have cp:Ext w wf:=by rw [hwf];exact Below.setCell hx (by dsimp only;omega) _
 have Xx:=cg.ext' (ov.keeps hk (by decide) (by decide) (by decide)) (Ext.refl wf).drew;have op2:=cO.ext' (op.keeps hk (by decide) (by decide)) (Ext.refl wf).drew;rw [← hwf];clear hwf;have hr:=mU ht f1.drew f2.drew f3.drew;simp only [LeavesInM,LeavesIn,settle];exact ⟨_,hr,wG.mk Xx op2 he,cp.drew⟩
theorem BH {m:MD} {v:List RR} {k:Int} {c:Int} (h:c=gw m v) (hc:c≠0):bP m v k=([],[],c):=by unfold bP;rw [← h,if_pos hc]
theorem BM {m:MD} {v:List RR} {k:Int} (h:gw m v=0) (h2:k < 0∨24 < k):bP m v k=([],[],1):=by unfold bP;rw [if_neg (by simpa using h),if_pos h2]
theorem BP {m:MD} {v:List RR} {k:Int} {j:Nat} {c:Int} (h0:0≤k) (qS:k≤24) (h:gw m v=0) (hj:j < k.toNat) (hz:∀ i,i < j→(ah m (aZ m v i)).2.2=0) (hc:(ah m (aZ m v j)).2.2=c) (hn:c≠0):bP m v k=([],[],c):=by
 have e:tU m v k.toNat=c:=(dv (f:=fun j=>(ah m (aZ m v j)).2.2) hz (by rw [hc];exact hn) hj).trans hc;unfold bP;rw [if_neg (by simpa using h),if_neg (by omega),e,if_pos hn]
theorem BQ {m:MD} {v:List RR} {k:Int} (h0:0≤k) (qS:k≤24) (h:gw m v=0) (hz:∀ i,i < k.toNat→(ah m (aZ m v i)).2.2=0) :
  bP m v k=((List.range (k.toNat+1)).map (aZ m v),(List.range k.toNat).map (fun j=>(ah m (aZ m v j)).2.1),0):=by
 have e:tU m v k.toNat=0:=bE hz;unfold bP;rw [if_neg (by simpa using h),if_neg (by omega),if_neg (by simpa using e)]
theorem cu {F:Fence} {nf:Nat} {P:Program} (W:World) {o:Oper} {a:Act} {K:Act→World→Prop} {Q:Exit→Act→World→Prop} (s x:Operand) (t:TypeId)
  (ho:o.op=.call { callee:=.builtin .append,args:=#[s,x],argTypes:=#[t,t] })
  (B:Nat) (e:TypeId) (z:Value) (size bytes:Nat) (ht:P.underlying t=some (.slice e)) (hinfo:(P.info? e).map (fun i=>(i.zero,i.size,i.bytes))=some (some z,size,bytes))
  (hzs:z.cells.size=size) (hsz:0 < size) {α:Type} {El:World→List Value→α→Prop} (hEl:∀ w w' h y,El w h y→Keeps B e w w'→El w' h y) (v:Value) (l:List α) (hown:ay e size El B W v l) (hs:a.eval s=v)
  (cs:List Value) (hcs:cs.length=size) (h1c:∀ u ∈ cs,u.oneCell'=true) (y:α) (hy:El W cs y) (bn:Nat) (hbn:af W bn cs.toArray e) (hx:a.eval x=.slice (some ⟨bn,0,none⟩) 1 1)
  (h63:l.length+1≤9223372036854775807) (hbytes:(l.length+1)*bytes≤140737488355328) (hB:B≤W.heap.size)
  (h:∀ g cap w',ay e size El B w' (.slice (some ⟨g,0,none⟩) (l.length+1) cap) (l ++ [y])→W.grownBy w' v.ownBlock→(v.ownBlock=some g∨W.heap.size≤g)→K (a.put o.dst (.slice (some ⟨g,0,none⟩) (l.length+1) cap)) w') :
  o.wpIn F nf P a W K Q:=by
 obtain ⟨i0,hi,hz0,hz1,hz2⟩:=info_parts hinfo;obtain ⟨hs0,h1,h2,h3,h4⟩:=hown;have hnews:∀ j u,cs[j]?=some u→W.cell? ((⟨bn,0,none⟩:Addr).add j)=some u:=by
  intro j u hj;have hlt:j < cs.length:=(List.getElem?_eq_some_iff.1 hj).1;have hadd:(⟨bn,0,none⟩:Addr).add j=⟨bn,j,none⟩:=by unfold Addr.add;split <;> simp_all
  rw [hadd,hbn.cell];simpa using hj
 obtain ⟨v',w',hr,hown',hgrow,hfr⟩:=ic (P:=P) W B t o.type e i0 z size bytes ht hi hz0 hz1 hz2 hzs hsz v l.length hs0.flatten h1 ⟨bn,0,none⟩ 1 cs (by simp [hcs]) hnews h1c (by unfold maxLen;omega) hbytes hB;unfold Oper.wpIn;refine ⟨by simp [Oper.about,ho,resolve,Target.leads,Sem.run_pure],?_⟩;rw [Oper.semAt_plain F _ _ (by rw [ho];intro c hc';cases hc')];simp only [execOp,ho,resolve,invoke,builtin,Sem.run_bind,Sem.run_pure,Result.andThen_ok,List.map_toArray,List.map_cons,List.map_nil,hs,hx,hr];have hk:Keeps B e W w':=by
  refine ⟨⟨hgrow.os,hgrow.tape,hgrow.output,hgrow.size,fun i hi=>by omega⟩,fun i hi ho=>hgrow.block i hi ?_⟩;intro heq;rcases h1.2 with ⟨rfl,_⟩|⟨g,cap,cur,rfl,hb,hg,_⟩
  ·simp [Value.ownBlock] at heq
  ·simp [Value.ownBlock] at heq;subst heq;have hg2:af W i cur e:=hg;rcases ho with ho|⟨c2,u,h5,h6⟩
   ·omega
   ·unfold af at hg2 h5;rw [hg2] at h5;injection h5 with h5
    injection h5 with _ h7
    exact h6 h7.symm
 have hrow:ay e size El B w' v' (l ++ [y]):=by
  refine ⟨hs0 ++ [cs],?_,by simp [h2],?_,?_⟩
  ·rw [List.flatten_append,List.length_append];simpa using hown'
  ·intro q hq;rcases List.mem_append.1 hq with hq|hq
   ·exact h3 q hq
   ·rw [List.mem_singleton.1 hq];exact hcs
  ·intro i x0 hi0;by_cases hlt:i < l.length
   ·rw [List.getElem?_append_left hlt] at hi0;obtain ⟨q,e1,e2⟩:=h4 i x0 hi0;exact ⟨q,by rw [List.getElem?_append_left (by omega)];exact e1,hEl _ _ _ _ e2 hk⟩
   ·have hil:i=l.length:=by
     have:=(List.getElem?_eq_some_iff.1 hi0).1;simp at this;omega
    subst hil;rw [List.getElem?_append_right (Nat.le_refl _)] at hi0;simp at hi0;subst hi0;exact ⟨cs,by rw [List.getElem?_append_right (by omega),h2];simp,hEl _ _ _ _ hy hk⟩
 have h5:=hown'.2;rcases h5 with ⟨_,h0⟩|⟨g,cap,cur,rfl,_⟩
 ·omega
 ·exact h g cap w' hrow hgrow (hfr g rfl)
end Go.Proofs.YtnnjbaijcaiohaaGreat
