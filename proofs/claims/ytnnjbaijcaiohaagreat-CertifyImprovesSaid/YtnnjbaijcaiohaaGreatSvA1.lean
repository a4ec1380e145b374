/- Walks and lemmas. -/
import Derived.Test.YtnnjbaijcaiohaaGreatSvA0
import Derived.RangeFuncNested
import Derived.RangeFuncBound
import Derived.RangeFuncCalls
import Derived.RangeFuncLeaves
import Derived.Shelf.Abstract
import Derived.Shelf.RegionOpen
import Derived.WalkKit
import Derived.OwnWalkIn
import Derived.TacticsInMore
import Derived.LoopNIn
import Derived.LoopIn
set_option linter.unusedVariables false
set_option linter.unusedSimpArgs false
set_option maxRecDepth 100000
set_option maxHeartbeats 16000000
namespace Go.Proofs.YtnnjbaijcaiohaaGreat
open Go.RowKit
section
section
variable {P:Program} {ops:Array Oper} {md:Region.Mode} {C:World→Prop}
def needs (md:Region.Mode) (ops:Array Oper):Nat→Nat→Nat→Bool
 | 0,_,_=>false
 | f+1,t,i=>match ops[t]? with
  | some o=>o.after.any fun e=>Region.binds md e && (e.on == i || needs md ops f e.on i)
  | none=>false
theorem Fa {n:Nat} {listed:Array Bool} (inv:HeadInv md ops n listed):∀ (f t i:Nat),listed.getD t false=true→needs md ops f t i=true→listed.getD i false=true:=by
 intro f;induction f with
 | zero=>intro t i _ h;cases h
 | succ f ih=>
  intro t i ht h;unfold needs at h;cases ho:ops[t]? with
  | none=>simp [ho] at h
  | some o=>
   simp only [ho] at h;obtain ⟨e,he,h2⟩:=Array.any_eq_true'.1 h;simp only [Bool.and_eq_true,Bool.or_eq_true,beq_iff_eq] at h2;have hl:=inv.closed t o ho ht e he h2.1;rcases h2.2 with h3|h3
   ·exact h3 ▸ hl
   ·exact ih e.on i hl h3
def upto (listed:Array Bool) (k:Nat):Prop:=∀ j,j < k→listed.getD j true=true
theorem oS {listed:Array Bool} {k:Nat} (h:upto listed k):upto (listed.setIfInBounds k true) (k+1):=by
 intro j hj;by_cases hjk:k=j
 ·subst hjk;rcases Nat.lt_or_ge k listed.size with h'|h'
  ·simp [h']
  ·simp [Array.getElem?_eq_none h']
 ·rw [getD_set_ne true hjk];exact h j Z
def hM:Op→Bool
 | .move _|.assign _|.extract .. | .field .. | .build .. | .binOp .. | .unOp .. | .pick .. | .convert ..=>true
 | _=>false
theorem zG {s:Sem Value} {w w':World} {n:Next} (h:(do pure (Next.value (← s)):Sem Next).run P w=.ok n w'):∃ v,n=.value v:=by
 rw [Sem.run_bind] at h;cases hs:s.run P w with
 | ok a w1=>rw [hs] at h;simp [Result.andThen,pure,Sem.run] at h;exact ⟨_,h.1.symm⟩
 | halt x w1=>rw [hs] at h;simp [Result.andThen] at h
theorem wZ {o:Oper} {ρ:Operand→Value} {w w':World} {n:Next} (hp:hM o.op=true) (h:(execOp ρ o).run P w=.ok n w'):∃ v,n=.value v:=by
 obtain ⟨dst,op,type,pos,after,guard⟩:=o;cases op <;> simp only [hM,Bool.false_eq_true] at hp <;> simp only [execOp] at h
 case move x=>simp [pure,Sem.run] at h;exact ⟨_,h.1.symm⟩
 case assign x=>simp [pure,Sem.run] at h;exact ⟨_,h.1.symm⟩
 case pick c a b=>
  rw [Sem.run_bind] at h;cases hs:(asBool (ρ c)).run P w with
  | ok x w1=>rw [hs] at h;simp [Result.andThen,pure,Sem.run] at h;exact ⟨_,h.1.symm⟩
  | halt x w1=>rw [hs] at h;simp [Result.andThen] at h
 all_goals exact zG h
theorem oT {o:Oper} {v:Value} {a:Act} (hp:hM o.op=true) (h:YieldsIn P ops (fun _=>True) o v a):Yields P ops o v a:=by
 rcases h with ⟨hw,h⟩|h
 ·refine .inl ⟨hw,fun w=>?_⟩;have h1:=h w trivial;unfold Oper.quietAt at h1;cases hr:(execOp a.eval o).run P w with
  | ok n w'=>
   obtain ⟨u,rfl⟩:=wZ hp hr;rw [hr] at h1;obtain ⟨rfl,rfl⟩:=h1;rfl
  | halt x w'=>rw [hr] at h1;exact h1.elim
 ·exact .inr h
end
end
section
section
variable {P:Program} {ops:Array Oper} {md:Region.Mode} {C:World→Prop}
def yE (md:Region.Mode) (ops:Array Oper) (j i:Nat):Bool:=match ops[j]? with
 | some o=>o.after.any fun e=>Region.binds md e && e.on == i
 | none=>false
def sE (md:Region.Mode) (ops:Array Oper) (p n:Nat):Bool:=
 ((List.range n).all fun i=>decide (i < p) || (List.range ops.size).any fun j=>decide (i < j) && (decide (j≤n) && yE md ops j i)) &&
 (List.range ops.size).all fun t=>decide (t≤n) || match ops[t]? with
  | some o=>o.after.any fun e=>Region.binds md e && decide (n≤e.on∧e.on < ops.size)
  | none=>false
theorem nt {p n:Nat} {listed:Array Bool} (hh:sE md ops p n=true) (inv:HeadInv md ops n listed) {i:Nat} (hp:p≤i) (hi:i < n) (hun:listed.getD i true=false):∀ t,n≤t→t ∉ Region.ready md ops listed:=by
 intro t ht hr;simp only [sE,Bool.and_eq_true] at hh;obtain ⟨hh1,hh2⟩:=hh;obtain ⟨_,ot,hot,hall⟩:=mem_ready.1 hr;have htlt:t < ops.size:=(Array.getElem?_eq_some_iff.1 hot).1;have htn:t=n:=by
  have h1:=List.all_eq_true.1 hh2 t (List.mem_range.2 htlt);simp only [Bool.or_eq_true,decide_eq_true_eq,hot] at h1;rcases h1 with h1|h1
  ·omega
  ·obtain ⟨e,he,h2⟩:=Array.any_eq_true'.1 h1;simp only [Bool.and_eq_true,decide_eq_true_eq] at h2;have h3:=hall e he h2.1;have h4:=getD_both (inv.tail e.on h2.2.1 h2.2.2);rw [h3] at h4;cases h4
 subst htn;have key:∀ d i,p≤i→i < t→t - i≤d→listed.getD i false=true:=by
  intro d;induction d with
  | zero=>intro i _ h1 h2;omega
  | succ d ih=>
   intro i hp hi hd;have h1:=List.all_eq_true.1 hh1 i (List.mem_range.2 hi);simp only [Bool.or_eq_true,decide_eq_true_eq] at h1;rcases h1 with h1|h1
   ·omega
   obtain ⟨j,_,h2⟩:=List.any_eq_true.1 h1;simp only [Bool.and_eq_true,decide_eq_true_eq] at h2;obtain ⟨hij,hjt,he⟩:=h2;unfold yE at he;cases ho:ops[j]? with
   | none=>simp [ho] at he
   | some o=>
    simp only [ho] at he;obtain ⟨e,hem,h3⟩:=Array.any_eq_true'.1 he;simp only [Bool.and_eq_true,beq_iff_eq] at h3;rcases Nat.lt_or_ge j t with hjl|hjl
    ·have:=inv.closed j o ho (ih j Z hjl Z) e hem h3.1;rwa [h3.2] at this
    ·obtain rfl:j=t:=Z
     rw [hot] at ho;cases ho;have:=hall e hem h3.1;rwa [h3.2] at this
 have:=key _ i hp hi (Nat.le_refl _);rw [getD_both hun] at this;cases this
theorem yF {listed:Array Bool} {p i:Nat} (h:upto listed p) (hun:listed.getD i true=false):p≤i:=
 Nat.le_of_not_lt fun hlt=>by rw [h i hlt] at hun;cases hun
theorem zH {listed:Array Bool} {p j:Nat} (h:upto listed p):upto (listed.setIfInBounds j true) p:=by
 intro i hi;by_cases hij:j=i
 ·subst hij;rcases Nat.lt_or_ge j listed.size with h'|h'
  ·simp [h']
  ·simp [Array.getElem?_eq_none h']
 ·rw [getD_set_ne true hij];exact h i hi
theorem oU {p n i:Nat} {oi:Oper} {v:Value} {L:Array Bool→Act→Prop} (hi:ops[i]?=some oi) (hsel:∀ (j:Nat) (o:Oper) cs b,ops[j]?=some o→o.op≠.select cs b)
  (hh:sE md ops p n=true) (hin:i < n)
  (hdone:∀ listed a,L listed a→∀ j,j < n→listed.getD j true=true) :
  ∀ (f:Nat) (listed:Array Bool) (a:Act),HeadInv md ops n listed→upto listed p→
   (∀ j oj,ops[j]?=some oj→j≠i→listed.getD j true=false→(∀ e ∈ oj.after,Region.binds md e=true→e.on≠i)→oi.apart ops oj=true)→
   i ∈ Region.ready md ops listed→YieldsIn P ops C oi v a→
   gL P md ops C n L f (listed.setIfInBounds i true) (a.put oi.dst v)→gL P md ops C n L (f+1) listed a:=by
 intro f;induction f with
 | zero=>
  intro listed a inv hup _ hr hy H;refine ⟨List.ne_nil_of_mem hr,fun j hj=>?_⟩;have hjn:j < n:=Nat.lt_of_not_le fun hge=>nt hh inv (yF hup (mem_ready.1 hr).1) hin (mem_ready.1 hr).1 j hge hj;by_cases hji:j=i
  ·subst hji;exact ⟨hjn,hy.qOp hi H⟩
  ·have h1:=hdone _ _ H j hjn;rw [getD_set_ne true (Ne.symm hji),(mem_ready.1 hj).1] at h1;cases h1
 | succ f ih=>
  intro listed a inv hup hfree hr hy H;refine ⟨List.ne_nil_of_mem hr,fun j hj=>?_⟩;have hjn:j < n:=Nat.lt_of_not_le fun hge=>nt hh inv (yF hup (mem_ready.1 hr).1) hin (mem_ready.1 hr).1 j hge hj;by_cases hji:j=i
  ·subst hji;exact ⟨hjn,hy.qOp hi H⟩
  refine ⟨hjn,?_⟩;obtain ⟨hjun,oj,hoj,hall⟩:=mem_ready.1 hj;have hnot:∀ e ∈ oj.after,Region.binds md e=true→e.on≠i:=fun e he hb heq=>by
   have h1:=hall e he hb;rw [heq,getD_both (mem_ready.1 hr).1] at h1;exact Bool.false_ne_true h1
  have h2:=qOp_put hoj (hfree j oj hoj hji hjun hnot) (fun cs b=>hsel i oi cs b hi) (fun cs b=>hsel j oj cs b hoj) hy (H.2 j (ready_mono hj hji)).2;refine qOp_mono (fun a' h3=>ih _ a' (inv.set hj hjn) (zH hup) (fun k ok hk hki hun hno=>?_) (ready_mono hr (Ne.symm hji)) h3.1 Wo) h2;refine hfree k ok hk hki ?_ hno;by_cases hjk:j=k
  ·exact hjk ▸ hjun
  ·rwa [getD_set_ne true hjk] at hun
theorem Fb {p n g:Nat} {Lq:Act→Prop} (hsel:Region.noSelect ops=true) (hh:sE md ops p n=true) :
  ∀ (l:List Oper) (k:Nat) (listed:Array Bool) (a:Act),(∀ j,j < l.length→l[j]?=ops[k+j]?)→k+l.length=n→p≤k→upto listed k→HeadInv md ops n listed→
  Region.lexHead md ops g l.length k listed=true→wpQuiet P ops C Lq l a→
  gL P md ops C n (fun listed' a'=>(upto listed' n∧Region.lexHead md ops g 0 n listed'=true)∧Lq a') l.length listed a:=by
 intro l;induction l with
 | nil=>
  intro k listed a _ hk _ hu _ hB h;obtain rfl:k=n:=by simpa using hk
  exact ⟨⟨hu,by simpa using hB⟩,h⟩
 | cons o l ih=>
  intro k listed a hl hk hpk hu inv hB h;have h0:ops[k]?=some o:=by simpa using (hl 0 cp).symm
  rw [List.length_cons] at hB;simp only [Region.lexHead,Bool.and_eq_true] at hB;simp only [List.length_cons] at hk;obtain ⟨⟨hr,hf⟩,hB'⟩:=hB;have hr':k ∈ Region.ready md ops listed:=by simpa using hr
  have hkn:k < n:=Z
  obtain ⟨v,hy,hK⟩:=yieldsIn_of_qOp (C:=C) (P:=P) (K:=wpQuiet P ops C Lq l) (a:=a) h0 QV;exact oU h0 (Region.noSelect_spec hsel) hh hkn (fun _ _ hL=>hL.1.1) l.length listed a inv (fun j hj=>hu j Z) (Region.free_spec h0 hf) hr' hy
   (ih (k+1) _ _ (fun j hj=>by have:=hl (j+1) qC;simpa [Nat.add_assoc,Nat.add_comm 1 j] using this) Z Z (oS hu) (inv.set hr' hkn) hB' hK)
end
end
section
section
variable {P:Program} {ops:Array Oper} {md:Region.Mode} {C:World→Prop}
def gj (n m i:Nat):Bool:=!(decide (n≤i) && decide (i < n+m))
def lS (md:Region.Mode) (ops:Array Oper) (n m N:Nat):Bool:=
 ((List.range N).all fun i=>!gj n m i || (List.range ops.size).any fun j=>decide (i < j) && (decide (j≤N) && (gj n m j && yE md ops j i))) &&
 (List.range ops.size).all fun t=>decide (t≤N) || match ops[t]? with
  | some o=>o.after.any fun e=>Region.binds md e && decide (N≤e.on∧e.on < ops.size)
  | none=>false
theorem nu {n m N:Nat} {listed:Array Bool} (hh:lS md ops n m N=true) (inv:HeadInv md ops N listed) {i:Nat} (hf:gj n m i=true) (hi:i < N) (hun:listed.getD i true=false):∀ t,N≤t→t ∉ Region.ready md ops listed:=by
 intro t ht hr;simp only [lS,Bool.and_eq_true] at hh;obtain ⟨hh1,hh2⟩:=hh;obtain ⟨_,ot,hot,hall⟩:=mem_ready.1 hr;have htlt:t < ops.size:=(Array.getElem?_eq_some_iff.1 hot).1;have htn:t=N:=by
  have h1:=List.all_eq_true.1 hh2 t (List.mem_range.2 htlt);simp only [Bool.or_eq_true,decide_eq_true_eq,hot] at h1;rcases h1 with h1|h1
  ·omega
  ·obtain ⟨e,he,h2⟩:=Array.any_eq_true'.1 h1;simp only [Bool.and_eq_true,decide_eq_true_eq] at h2;have h3:=hall e he h2.1;have h4:=getD_both (inv.tail e.on h2.2.1 h2.2.2);rw [h3] at h4;cases h4
 subst htn;have key:∀ d i,gj n m i=true→i < t→t - i≤d→listed.getD i false=true:=by
  intro d;induction d with
  | zero=>intro i _ h1 h2;omega
  | succ d ih=>
   intro i hp hi hd;have h1:=List.all_eq_true.1 hh1 i (List.mem_range.2 hi);simp only [Bool.or_eq_true,hp,Bool.not_true,Bool.false_eq_true,false_or] at h1;obtain ⟨j,_,h2⟩:=List.any_eq_true.1 h1;simp only [Bool.and_eq_true,decide_eq_true_eq] at h2;obtain ⟨hij,hjt,hfj,he⟩:=h2;unfold yE at he;cases ho:ops[j]? with
   | none=>simp [ho] at he
   | some o=>
    simp only [ho] at he;obtain ⟨e,hem,h3⟩:=Array.any_eq_true'.1 he;simp only [Bool.and_eq_true,beq_iff_eq] at h3;rcases Nat.lt_or_ge j t with hjl|hjl
    ·have:=inv.closed j o ho (ih j hfj hjl Z) e hem h3.1;rwa [h3.2] at this
    ·obtain rfl:j=t:=Z
     rw [hot] at ho;cases ho;have:=hall e hem h3.1;rwa [h3.2] at this
 have:=key _ i hf hi (Nat.le_refl _);rw [getD_both hun] at this;cases this
def uy (n m N:Nat) (listed:Array Bool):Prop:=∀ i,i < N→gj n m i=true→listed.getD i true=true
def sF (P:Program) (md:Region.Mode) (ops:Array Oper) (C:World→Prop) (A:Nat→Array Bool→Act→World→Prop) (n m N g:Nat):Nat→Array Bool→Act→Prop
 | 0,listed,a=>upto listed N∧∀ w,C w→A g listed a w
 | f+1,listed,a=>(uy n m N listed→∀ w,C w→A (f+1+g) listed a w)∧(¬ uy n m N listed→Region.ready md ops listed≠[]∧∀ i ∈ Region.ready md ops listed,i < N)∧
   ∀ i ∈ Region.ready md ops listed,i < N→qOp P ops C i (sF P md ops C A n m N g f (listed.setIfInBounds i true)) a
structure xd (P:Program) (md:Region.Mode) (ops:Array Oper) (C:World→Prop) (A:Nat→Array Bool→Act→World→Prop):Prop where
 all:∀ (f:Nat) (listed:Array Bool) (a:Act) (w:World),C w→Region.ready md ops listed≠[]→(∀ i ∈ Region.ready md ops listed,qOp P ops C i (fun a'=>∀ w',C w'→A f (listed.setIfInBounds i true) a' w') a)→A (f+1) listed a w
 first:∀ (i:Nat) (oi:Oper) (v:Value) (f:Nat) (listed:Array Bool) (a:Act) (w:World),ops[i]?=some oi→
   (∀ j oj,ops[j]?=some oj→j≠i→listed.getD j true=false→(∀ e ∈ oj.after,Region.binds md e=true→e.on≠i)→oi.apart ops oj=true)→
   i ∈ Region.ready md ops listed→hM oi.op=true→Yields P ops oi v a→A f (listed.setIfInBounds i true) (a.put oi.dst v) w→A (f+1) listed a w
theorem oV {A:Nat→Array Bool→Act→World→Prop} (hA:xd P md ops C A) {n m N g:Nat}:∀ (f:Nat) (listed:Array Bool) (a:Act) (w:World),C w→sF P md ops C A n m N g f listed a→A (f+g) listed a w:=by
 intro f;induction f with
 | zero=>intro listed a w hw h;rw [Nat.zero_add];exact h.2 w hw
 | succ f ih=>
  intro listed a w hw h;by_cases hd:uy n m N listed
  ·exact h.1 hd w hw
  ·rw [Nat.succ_add];obtain ⟨h1,h2⟩:=h.2.1 hd;exact hA.all _ _ _ _ hw h1 fun i hi=>qOp_mono (fun a' ha' w' hw'=>ih _ a' w' hw' ha') (h.2.2 i hi (h2 i hi))
theorem oW {A:Nat→Array Bool→Act→World→Prop} (hA:xd P md ops C A) {n m N g i:Nat} {oi:Oper} {v:Value} (hi:ops[i]?=some oi) (hsel:Region.noSelect ops=true)
  (hh:lS md ops n m N=true) (hin:i < N) :
  ∀ (f:Nat) (listed:Array Bool) (a:Act),HeadInv md ops N listed→
   (∀ j oj,ops[j]?=some oj→j≠i→listed.getD j true=false→(∀ e ∈ oj.after,Region.binds md e=true→e.on≠i)→oi.apart ops oj=true)→
   i ∈ Region.ready md ops listed→YieldsIn P ops C oi v a→(gj n m i=true∨(hM oi.op=true∧Yields P ops oi v a))→
   sF P md ops C A n m N g f (listed.setIfInBounds i true) (a.put oi.dst v)→sF P md ops C A n m N g (f+1) listed a:=by
 have hs':=Region.noSelect_spec hsel
 -- what the case 'all fixed ones have come' asks
 have hD:∀ (f:Nat) (listed:Array Bool) (a:Act),
   (∀ j oj,ops[j]?=some oj→j≠i→listed.getD j true=false→(∀ e ∈ oj.after,Region.binds md e=true→e.on≠i)→oi.apart ops oj=true)→
   i ∈ Region.ready md ops listed→(gj n m i=true∨(hM oi.op=true∧Yields P ops oi v a))→
   sF P md ops C A n m N g f (listed.setIfInBounds i true) (a.put oi.dst v)→uy n m N listed→∀ w,C w→A (f+1+g) listed a w:=by
  intro f listed a hfree hr hfl H hd w hw;rcases hfl with hfx|hfl
  ·have:=hd i hin hfx;rw [(mem_ready.1 hr).1] at this;cases this
  ·have h1:=oV hA f _ _ w hw H;rw [Nat.add_right_comm];exact hA.first i oi v (f+g) listed a w hi hfree hr hfl.1 hfl.2 h1
 have hN:∀ (listed:Array Bool),HeadInv md ops N listed→i ∈ Region.ready md ops listed→¬ uy n m N listed→Region.ready md ops listed≠[]∧∀ j ∈ Region.ready md ops listed,j < N:=by
  intro listed inv hr hnd;refine ⟨List.ne_nil_of_mem hr,fun j hj=>Nat.lt_of_not_le fun hge=>?_⟩;apply hnd;intro k hk hfk;by_cases hun:listed.getD k true=true
  ·exact hun
  ·exact absurd hj (nu hh inv hfk hk (by simpa using hun) j hge)
 intro f;induction f with
 | zero=>
  intro listed a inv hfree hr hy hfl H;refine ⟨hD 0 listed a hfree hr hfl H,hN listed inv hr,fun j hj hjn=>?_⟩;by_cases hji:j=i
  ·subst hji;exact hy.qOp hi H
  ·have h1:=H.1 j hjn;rw [getD_set_ne true (Ne.symm hji),(mem_ready.1 hj).1] at h1;cases h1
 | succ f ih=>
  intro listed a inv hfree hr hy hfl H;refine ⟨hD (f+1) listed a hfree hr hfl H,hN listed inv hr,fun j hj hjn=>?_⟩;by_cases hji:j=i
  ·subst hji;exact hy.qOp hi H
  obtain ⟨hjun,oj,hoj,hall⟩:=mem_ready.1 hj;have hnot:∀ e ∈ oj.after,Region.binds md e=true→e.on≠i:=fun e he hb heq=>by
   have h1:=hall e he hb;rw [heq,getD_both (mem_ready.1 hr).1] at h1;exact Bool.false_ne_true h1
  have hap:=hfree j oj hoj hji hjun hnot;have h2:=qOp_put hoj hap (fun cs b=>hs' i oi cs b hi) (fun cs b=>hs' j oj cs b hoj) hy (H.2.2 j (ready_mono hj hji) hjn);obtain ⟨u,hyj,h3,h4⟩:=yieldsIn_of_qOp hoj h2;refine hyj.qOp hoj ?_;obtain ⟨g1,g2,g3⟩:=Oper.apart_spec hap;refine ih _ _ (inv.set hj hjn) (fun k ok hk hki hun hno=>?_) (ready_mono hr (Ne.symm hji)) h3 (hfl.imp id fun hfl=>?_) (by rw [Array.setIfInBounds_comm _ _ hji];exact h4)
  ·refine hfree k ok hk hki ?_ hno;by_cases hjk:j=k
   ·exact hjk ▸ hjun
   ·rwa [getD_set_ne true hjk] at hun
  ·exact ⟨hfl.1,hfl.2.of_same (execOp_put oi (fun cs b=>hs' i oi cs b hi) a oj.dst u g3) (wanted_put oi a oj.dst u g3)⟩
theorem rA {A:Nat→Array Bool→Act→World→Prop} (hA:xd P md ops C A) {n m N g G M F e:Nat} (hsel:Region.noSelect ops=true) (hh:lS md ops n m N=true) (Kq:Act→Prop) (Zl:e≤N)
  (hK:∀ a' listed',Kq a'→HeadInv md ops N listed'→upto listed' e→Region.lexHead md ops G M e listed'=true→sF P md ops C A n m N g F listed' a') :
  ∀ (l:List Oper) (k:Nat) (listed:Array Bool) (a:Act),(∀ j,j < l.length→l[j]?=ops[k+j]?)→(∀ j,k≤j→j < e→gj n m j=true)→k+l.length=e→upto listed k→HeadInv md ops N listed→
  Region.lexHead md ops G (l.length+M) k listed=true→wpQuiet P ops C Kq l a→sF P md ops C A n m N g (l.length+F) listed a:=by
 intro l;induction l with
 | nil=>
  intro k listed a _ _ hk hu inv hB h;simp only [List.length_nil,Nat.zero_add,Nat.add_zero] at *;subst hk;exact hK _ listed h inv hu hB
 | cons o l ih=>
  intro k listed a hl hfx hk hu inv hB h;have h0:ops[k]?=some o:=by simpa using (hl 0 cp).symm
  rw [List.length_cons,Nat.add_right_comm] at hB;simp only [Region.lexHead,Bool.and_eq_true] at hB;simp only [List.length_cons] at hk;obtain ⟨⟨hr,hf⟩,hB'⟩:=hB;have hr':k ∈ Region.ready md ops listed:=by simpa using hr
  obtain ⟨v,hy,hK'⟩:=yieldsIn_of_qOp (C:=C) (P:=P) (K:=wpQuiet P ops C Kq l) (a:=a) h0 QV;rw [List.length_cons,Nat.add_right_comm];exact oW hA h0 hsel hh Z (l.length+F) listed a inv (Region.free_spec h0 hf) hr' hy (.inl (hfx k (Nat.le_refl _) Z))
   (ih (k+1) _ _ (fun j hj=>by have:=hl (j+1) qC;simpa [Nat.add_assoc,Nat.add_comm 1 j] using this) (fun j h1 h2=>hfx j Z h2) Z (oS hu) (inv.set hr' Z) hB' hK')
theorem zI {A:Nat→Array Bool→Act→World→Prop} (hA:xd P md ops C A) {n m N g G M F e:Nat} (hsel:Region.noSelect ops=true) (hh:lS md ops n m N=true) (Kq:Act→Prop) (Zl:e≤N)
  (hK:∀ a' listed',Kq a'→HeadInv md ops N listed'→upto listed' e→Region.lexHead md ops G M e listed'=true→sF P md ops C A n m N g F listed' a') (hC0:∃ w,C w) :
  ∀ (l:List Oper) (k:Nat) (listed:Array Bool) (a:Act),(∀ j,j < l.length→l[j]?=ops[k+j]?)→(l.all fun o=>hM o.op)=true→k+l.length=e→upto listed k→HeadInv md ops N listed→
  Region.lexHead md ops G (l.length+M) k listed=true→wpQuiet P ops (fun _=>True) Kq l a→sF P md ops C A n m N g (l.length+F) listed a:=by
 intro l;induction l with
 | nil=>
  intro k listed a _ _ hk hu inv hB h;simp only [List.length_nil,Nat.zero_add,Nat.add_zero] at *;subst hk;exact hK _ listed h inv hu hB
 | cons o l ih=>
  intro k listed a hl hp hk hu inv hB h;have h0:ops[k]?=some o:=by simpa using (hl 0 cp).symm
  rw [List.length_cons,Nat.add_right_comm] at hB;simp only [Region.lexHead,Bool.and_eq_true] at hB;simp only [List.all_cons,Bool.and_eq_true] at hp;simp only [List.length_cons] at hk;obtain ⟨⟨hr,hf⟩,hB'⟩:=hB;have hr':k ∈ Region.ready md ops listed:=by simpa using hr
  obtain ⟨v,hy,hK'⟩:=yieldsIn_of_qOp (C:=fun _=>True) (P:=P) (K:=wpQuiet P ops (fun _=>True) Kq l) (a:=a) h0 QV;have hy2:=oT hp.1 hy;have hy3:YieldsIn P ops C o v a:=by
   rcases hy2 with ⟨hw,h1⟩|h1
   ·exact .inl ⟨hw,fun w _=>by unfold Oper.quietAt;rw [h1 w];exact ⟨rfl,rfl⟩⟩
   ·exact .inr h1
  rw [List.length_cons,Nat.add_right_comm];exact oW hA h0 hsel hh Z (l.length+F) listed a inv (Region.free_spec h0 hf) hr' hy3 (.inr ⟨hp.1,hy2⟩)
   (ih (k+1) _ _ (fun j hj=>by have:=hl (j+1) qC;simpa [Nat.add_assoc,Nat.add_comm 1 j] using this) hp.2 Z (oS hu) (inv.set hr' Z) hB' hK')
theorem xi {Q:Exit→Act→World→Prop} (hsel:Region.noSelect ops=true) (hQ:∀ c (a:Act) d v w,Q (.panic c) (a.put d v) w→Q (.panic c) a w):xd P md ops C (wpAny P md ops Q) where
 all:=fun f listed a w hw hne h=>⟨fun h0=>absurd h0 hne,fun i hi=>wpOp_of_qOp hw (fun a' w' hw' h'=>h' w' hw') (h i hi)⟩
 first:=fun i oi v f listed a w hi hfree hr _ hy h=>wpAny_first hi (Region.noSelect_spec hsel) (fun c a w'=>hQ c a _ _ w') f listed a w hfree hr hy h
theorem yG {A:Nat→Array Bool→Act→World→Prop} {T:Act→World→Prop} {a:Act} {w:World} {l:List Oper} (n m k:Nat) (hA:xd P .any l.toArray C A)
  (hB:(Region.noSelect l.toArray && (lS .any l.toArray n m (n+m+k) && (decide (n+m+k≤l.length) && (Region.lexHead .any l.toArray (l.length - (n+m+k)) (n+m+k) 0 (Array.replicate l.length false) && ((l.drop n).take m).all fun o=>hM o.op))))=true)
  (hC:C w) (hT:∀ listed a w,Region.seqB .any l.toArray (l.length - (n+m+k)) (n+m+k) listed=true→T a w→A (l.length - (n+m+k)) listed a w)
  (h:wpQuiet P l.toArray C (fun a0=>wpQuiet P l.toArray (fun _=>True) (fun a1=>wpQuiet P l.toArray C (fun a'=>∀ w',C w'→T a' w') ((l.drop (n+m)).take k) a1) ((l.drop n).take m) a0) (l.take n) a) :
  A l.length (Array.replicate l.length false) a w:=by
 simp only [Bool.and_eq_true,decide_eq_true_eq] at hB;obtain ⟨hsel,hh,hn,hlex,hpure⟩:=hB;have l1:(l.take n).length=n:=by simp;omega
 have l2:((l.drop n).take m).length=m:=by simp;omega
 have l3:((l.drop (n+m)).take k).length=k:=by simp;omega
 have inv0:HeadInv .any l.toArray (n+m+k) (Array.replicate l.length false):=
  ⟨by simp,fun j oj _ hl=>absurd hl Na,fun t _ ht=>getD_in (by simpa using ht) (getD_replicate_false _ _)⟩
 have H:=rA (P:=P) (md:=.any) (ops:=l.toArray) (C:=C) hA (n:=n) (m:=m) (N:=n+m+k) (g:=l.length - (n+m+k)) (G:=l.length - (n+m+k)) (M:=m+k) (F:=m+k) (e:=n) hsel hh _ Z
  (fun a0 Fc h0 inv hu hlx=>by
   have:=zI (P:=P) (md:=.any) (ops:=l.toArray) (C:=C) hA (n:=n) (m:=m) (N:=n+m+k) (g:=l.length - (n+m+k)) (G:=l.length - (n+m+k)) (M:=k) (F:=k) (e:=n+m) hsel hh _ Z
    (fun a1 Fd h1 inv hu hlx=>by
     have:=rA (P:=P) (md:=.any) (ops:=l.toArray) (C:=C) hA (n:=n) (m:=m) (N:=n+m+k) (g:=l.length - (n+m+k)) (G:=l.length - (n+m+k)) (M:=0) (F:=0) (e:=n+m+k) hsel hh _ Z
      (fun a' listed' h' inv hu hlx=>⟨hu,fun w' hw'=>hT listed' a' w' (by simpa [Region.lexHead] using hlx) (h' w' hw')⟩)
      ((l.drop (n+m)).take k) (n+m) Fd a1 (fun j hj=>by rw [l3] at hj;simp [List.getElem?_take_of_lt hj,List.getElem?_drop]) (fun j hj _=>by simp [gj];omega) (by rw [l3]) hu inv (by rw [l3];exact hlx) h1
     rwa [l3] at this)
    ⟨_,hC⟩ ((l.drop n).take m) n Fc a0 (fun j hj=>by rw [l2] at hj;simp [List.getElem?_take_of_lt hj,List.getElem?_drop]) hpure (by rw [l2]) hu inv (by rw [l2];exact hlx) h0
   rwa [l2] at this)
  (l.take n) 0 _ a (fun j hj=>by rw [l1] at hj;simp [List.getElem?_take_of_lt hj]) (fun j _ hj=>by simp [gj];omega) (by rw [l1];omega) (fun j hj=>by omega) inv0 (by rw [l1,show n+(m+k)=n+m+k by omega];exact hlex) h
 have R:=oV hA _ _ _ w hC H;rwa [l1,show n+(m+k)+(l.length - (n+m+k))=l.length by omega] at R
theorem uz {l:List Oper} {b:Bool} (hB:(Region.noSelect l.toArray && b)=true):Region.noSelect l.toArray=true:=by
 simp only [Bool.and_eq_true] at hB;exact hB.1
theorem oX {id:Nat} {Q:Exit→Act→World→Prop} {a:Act} {w:World} {l:List Oper} (n m k:Nat) (hm:P.follows .mixedOrders=true)
  (hB:(Region.noSelect l.toArray && (lS .any l.toArray n m (n+m+k) && (decide (n+m+k≤l.length) && (Region.lexHead .any l.toArray (l.length - (n+m+k)) (n+m+k) 0 (Array.replicate l.length false) && ((l.drop n).take m).all fun o=>hM o.op))))=true)
  (hQ:∀ c (a:Act) d v w,Q (.panic c) (a.put d v) w→Q (.panic c) a w)
  (h:wpQuiet P l.toArray (fun w'=>∃ y:Later w,w'=y.at') (fun a0=>wpQuiet P l.toArray (fun _=>True) (fun a1=>wpQuiet P l.toArray (fun w'=>∃ y:Later w,w'=y.at') (fun a'=>∀ w',(∃ y:Later w,w'=y.at')→wpList P l.toArray Q (l.drop (n+m+k)) a' w') ((l.drop (n+m)).take k) a1) ((l.drop n).take m) a0) (l.take n) a) :
  (Code.region id l.toArray true).wp P Q a w:=by
 have R:=yG (C:=fun w'=>∃ y:Later w,w'=y.at') (w:=w.drew) (T:=fun a' w'=>wpList P l.toArray Q (l.drop (n+m+k)) a' w') n m k (xi (uz hB) hQ) hB ⟨⟨w.drew,(Ext.refl w).drew⟩,rfl⟩
  (fun listed a w hs h=>by
   have:=wpAny_of_seq (md:=.any) (Q':=Q) (P:=P) (ops:=l.toArray) (l.drop (n+m+k)) (n+m+k) listed a w (fun j=>by simp [List.getElem?_drop]) (by rw [List.length_drop];exact hs) h;rwa [List.length_drop] at this) h
 exact wp_region_any hm (by simpa using R)
end
end
section
structure Fr (p:Nat→Prop) (w w':World):Prop where
 zero:Below 0 w w'
 block:∀ k,k < w.heap.size→¬ p k→w'.heap[k]?=w.heap[k]?
theorem Fr.ext {p:Nat→Prop} {w w':World} (h:Ext w w'):Fr p w w':=⟨h.mono (Nat.zero_le _),fun k hk _=>h.block k hk⟩
theorem Fr.set {p:Nat→Prop} {a b:World} (h:Fr p a b) {x:Addr} (hp:p x.block) (v:Value):Fr p a (b.setCell x v):=
 ⟨h.zero.setCell (Nat.zero_le _) v,fun k hk hn=>(Below.heap_setCell _ _ _ _ (fun e=>hn (by rw [e];exact hp))).trans (h.block k hk hn)⟩
theorem Fr.gr {p:Nat→Prop} {o:Option Nat} {a b c:World} (g:Gr o a b) (h:Fr p b c) (hp:∀ k,k < a.heap.size→p k→o=some k):Gr o a c:=
 ⟨h.zero.os.trans g.os,h.zero.tape.trans g.tape,h.zero.output.trans g.output,Nat.le_trans g.size h.zero.size,
  fun k hk hn=>(h.block k (Nat.lt_of_lt_of_le hk g.size) (fun hpk=>hn (hp k hk hpk).symm)).trans (g.block k hk hn)⟩
theorem ag.fr {p:Nat→Prop} {w w':World} {b:Nat} {c:Array Value} {t:TypeId} (h:ag w b c t) (e:Fr p w w') (hn:¬ p b):ag w' b c t:=(e.block b h.lt hn).trans h
theorem bm.setOther {w:World} {g cap:Nat} {l:List Int} (h:bm w g cap l) {x:Addr} (hx:x.block≠g) (v:Value):bm (w.setCell x v) g cap l:=by
 obtain ⟨cur,hb,hs,ht⟩:=h.blk;exact ⟨⟨cur,hb.setOther (Ne.symm hx) v,hs,ht⟩,h.le,h.most⟩
theorem put_any (g cap:Nat) (l:List Int) (ba bc:Nat) (i:Nat) (x c:Int) (w:World) (h:bm w g cap l) (hl:br l)
  (ha:ag w ba #[.slice (some ⟨g,0,none⟩) l.length cap] 23) (hc:ag w bc #[.int .u32 c] 157) (hi:i < l.length) (hx:0≤x∧x < 4294967296) (hc1:0≤c∧c≤1) (hbc:bc≠g) :
  Calls Tryz.prog 203 #[.int .i64 i,.int .u32 x,.pointer (some ⟨ba,0,none⟩),.pointer (some ⟨bc,0,none⟩)] w fun e w'=>e=.returned (.tuple #[])∧
   bm w' g cap (l.set i ((l.getD i 0+x+c) % 4294967296))∧ag w' bc #[.int .u32 ((l.getD i 0+x+c) / 4294967296)] 157∧Fr (fun k=>k=g∨k=bc) w w':=by
 have hyl:=bv hl i;have hle:=h.le;have rq:=h.most;have c1:=ha.cell;have c2:=hc.cell;have c3:=h.cell hi;have f1:=h.free;have f2:=hc.free;have l1:=ha.lt;have l2:=hc.lt;have l3:=h.lt;have q1:(0:Int)≤(i:Int):=Z
 have q2:(i:Int) < (l.length:Int):=Z
 obtain ⟨y,hy⟩:=gN (l.getD i 0);rw [← hy] at c3 hyl;have HY:=kI hy;have H:=kI h;have HC:=kI hc;clear hy h hc ha hl;go_enter Tryz.func203,Tryz.ntmps203
 go_wp2_with fail;(refine oX 10 2 1 ax ax (fun _ _ d _ _ h=>by cases d <;> exact h) ?_;simp only [Nat.reduceAdd,Nat.reduceSub,List.take_succ_cons,List.take_zero,List.take_nil,List.drop_succ_cons,List.drop_zero];(repeat (go_big_quiet_step ((go_at_call 204;exact wT (zF _ _ _ _ hyl hx hc1)))));refine wpQuiet_nil ?_;(try dsimp only);(repeat (go_big_quiet_step (fail)));refine wpQuiet_nil ?_;(try dsimp only);(repeat (go_big_quiet_step (fail)));refine wpQuiet_nil ?_;rintro w1 ⟨⟨_,hx1⟩,rfl⟩;(try dsimp only);have hz1:=hx1.size;(try simp only [World.size_alloc,World.size_setCell,World.size_drew,gh] at hz1);obtain ⟨hc1,hf1⟩:=hx1.old (B:=w.heap.size) QP)
 go_wp2
 go_end0
 rw [← HY.o];refine ⟨rfl,?_,?_,?_⟩
 ·exact ((H.o.ext hx1).set i _ hi).setOther hbc _
 ·have:=((HC.o.ext hx1).setOther (a:=⟨g,i,none⟩) hbc (.int .u32 ((y+x+c) % 4294967296))).set 0 (.int .u32 ((y+x+c) / 4294967296));simpa using this
 ·exact ((Fr.ext hx1).set (.inl rfl) _).set (.inr rfl) _
def BA (w:World) (g cap:Nat) (l:List Int) (T:Nat) (i:Nat) (wr:World) (c:Int):Prop:=
 ∃ lk,lk.length=l.length∧br lk∧nv lk+4294967296 ^ i*c.toNat=T∧bm wr g cap lk∧ag wr (w.heap.size+1) #[.int .u32 c] 157∧Gr (some g) w wr∧ag wr w.heap.size #[.slice (some ⟨g,0,none⟩) l.length cap] 23
theorem add_any (g cap:Nat) (l:List Int) (vb:Value) (lb:List Int) (s:Nat) (w:World) (h:bm w g cap l) (hl:br l) (hb:no (·≠g) w vb lb) (hlb:br lb)
  (hs:lb.length+s≤l.length) (hfit:nv l+4294967296 ^ s*nv lb < 4294967296 ^ l.length) :
  Calls Tryz.prog 189 #[.slice (some ⟨g,0,none⟩) l.length cap,vb,.int .i64 s] w fun e w'=>e=.returned (.tuple #[])∧
   (∃ l',l'.length=l.length∧br l'∧nv l'=nv l+4294967296 ^ s*nv lb∧bm w' g cap l')∧Gr (some g) w w':=by
 have hle:=h.le;have rq:=h.most;have hg:=h.lt;obtain ⟨a,Nn,rfl,hc2,hm2,hr⟩:=hb;have hA:ag ((w.alloc (.cells #[.slice (some ⟨g,0,none⟩) l.length cap] 23)).alloc (.cells #[.int .u32 0] 157)) w.heap.size #[.slice (some ⟨g,0,none⟩) l.length cap] 23:=(ag.new w _ _).alloc _;have hC:ag ((w.alloc (.cells #[.slice (some ⟨g,0,none⟩) l.length cap] 23)).alloc (.cells #[.int .u32 0] 157)) (w.heap.size+1) #[.int .u32 0] 157:=by
  have:=ag.new (w.alloc (.cells #[.slice (some ⟨g,0,none⟩) l.length cap] 23)) #[.int .u32 0] 157;rwa [World.size_alloc] at this
 have hG:Gr (some g) w ((w.alloc (.cells #[.slice (some ⟨g,0,none⟩) l.length cap] 23)).alloc (.cells #[.int .u32 0] 157)):=((Gr.refl _ w).alloc _).alloc _;have hR:bm ((w.alloc (.cells #[.slice (some ⟨g,0,none⟩) l.length cap] 23)).alloc (.cells #[.int .u32 0] 157)) g cap l:=h.ext (((Ext.refl w).alloc _).alloc _);have H:=kI h;have HL:=kI hl;have HB:=kI hr;have zJ:=kI hlb;have HF:=kI hfit;have HA:=kI hA;have HC:=kI hC;have HG:=kI hG;have HR:=kI hR;clear h hl hr hlb hfit hA hC hG hR;go_enter Tryz.func189,Tryz.ntmps189
 go_wp2_with fail;go_loopw [8,9,14] (fun _ _ i wr=>∃ (k:Nat) (c:Int),k≤lb.length∧i=.int .i64 k∧0≤c∧c≤1∧BA w g cap l (nv l+4294967296 ^ s*nv (lb.take k)) (k+s) wr c)
  (fun _ _ i _=>lb.length - (intOf i).toNat)
 case atStart=>exact ⟨0,0,Nat.zero_le _,rfl,by omega,by omega,l,rfl,HL.o,by simp [nv],HR.o,HC.o,HG.o,HA.o⟩
 case round=>
  obtain ⟨k,c,hk,rfl,c0,c1,hrel⟩:=hrel;by_cases hlt:k < lb.length
  ·obtain ⟨b,off,rfl,hbg,hbl,hx⟩:=HB.o k hlt;obtain ⟨lk,e1,e2,e3,e4,e5,e6,e7⟩:=hrel;have hxl:=bv zJ.o k;have hx':wr.cell? ⟨b,off+k,none⟩=some (.int .u32 (lb.getD k 0)):=(e6.cell (p:=⟨b,off+k,none⟩) hbl (by simpa using hbg)).trans hx;have ht:=dS hlt;obtain ⟨x,hxx⟩:=gN (lb.getD k 0);rw [← hxx] at hx' ht hxl;have G1:=kI e1;have G2:=kI e2;have G3:=kI e3;have G4:=kI e4;have G5:=kI e5;have G6:=kI e6;have G7:=kI e7;have GT:=kI ht;clear e1 e2 e3 e4 e5 e6 e7 hx ht hxx;go_wp2_with fail;rw [show ((k:Int)+(s:Int))=((k+s:Nat):Int) by omega];rw [← G1.o] at G7 ⊢;refine (put_any g cap lk w.heap.size (w.heap.size+1) (k+s) x c wr G4.o G2.o G7.o G5.o IK hxl ⟨c0,c1⟩ Z).mono ?_;rintro e w1 ⟨rfl,r1,r2,r3⟩;have P1:=kI r1;have P2:=kI r2;have P3:=kI r3;clear r1 r2 r3;have hst:=kI (lQ (x:=x) (c:=c) G2.o (show k+s < lk.length by have:=G1.o;omega) hxl.1 c0);have hcb:=uu (bv G2.o (k+s)) hxl ⟨c0,c1⟩;rw [G1.o] at G7 ⊢;go_wp2_with fail;go_roundw
   case rel=>
    refine ⟨k+1,_,by omega,by go_num,hcb.1,hcb.2,_,(List.length_set).trans G1.o,eM G2.o _ _,?_,P1.o,P2.o,Fr.gr G6.o P3.o (fun j hj hp=>by rcases hp with rfl|rfl <;> first|rfl|omega),G7.o.fr P3.o Z⟩;rw [GT.o,show k+1+s=k+s+1 by omega,hst.out];have:=G3.o;rw [Nat.mul_add,Nat.mul_add,← Nat.mul_assoc,← Nat.pow_add,Nat.add_comm s k];omega
   case measure=>simp [intOf];omega
  ·obtain rfl:k=lb.length:=Z
   rw [List.take_length] at hrel;have IT:=kI hrel;clear hrel;go_wp2_with fail;obtain ⟨wo,hwo⟩:∃ wo:World,wo=wr:=⟨_,rfl⟩;rw [← hwo] at IT ⊢;clear hwo;go_loopw [10] (fun i wq=>∃ (j:Nat) (c:Int),j≤l.length∧i=.int .i64 j∧0≤c∧c≤1∧BA w g cap l (nv l+4294967296 ^ s*nv lb) j wq c)
    (fun i _=>l.length - (intOf i).toNat)
   case atStart=>exact ⟨lb.length+s,c,by omega,by go_num,c0,c1,IT.o⟩
   case round=>
    clear IT;obtain ⟨j,c,hj,rfl,c0,c1,lk,e1,e2,e3,e4,e5,e6,e7⟩:=hrel;have cc:=e5.cell;have G1:=kI e1;have G2:=kI e2;have G3:=kI e3;have G4:=kI e4;have G5:=kI e5;have G6:=kI e6;have G7:=kI e7;by_cases hcz:c=0
    ·subst hcz;clear e1 e2 e3 e4 e5 e6 e7;go_wp2_with fail;go_end0
     exact ⟨rfl,⟨lk,G1.o,G2.o,by simpa using G3.o,G4.o⟩,G6.o⟩
    ·have SH:(c != 0)=true:=by simpa using hcz
     have hjl:j < l.length:=by
      have h1:=HF.o;rw [← e3] at h1;refine iD (n:=nv lk+4294967296 ^ j*c.toNat) ?_ h1;have:4294967296 ^ j*1≤4294967296 ^ j*c.toNat:=Nat.mul_le_mul_left _ Z;omega
     clear e1 e2 e3 e4 e5 e6 e7;go_wp2_with fail;rw [← G1.o] at G7 ⊢;refine (put_any g cap lk w.heap.size (w.heap.size+1) j 0 c wr G4.o G2.o G7.o G5.o IK Z ⟨c0,c1⟩ Z).mono ?_;rintro e w1 ⟨rfl,r1,r2,r3⟩;have P1:=kI r1;have P2:=kI r2;have P3:=kI r3;clear r1 r2 r3;have hst:=kI (lQ (x:=0) (c:=c) G2.o (show j < lk.length by have:=G1.o;omega) Z c0);have hcb:=uu (bv G2.o j) (x:=0) Z ⟨c0,c1⟩;rw [G1.o] at G7 ⊢;go_wp2_with fail;go_roundw
     case rel=>
      refine ⟨j+1,_,by omega,by go_num,hcb.1,hcb.2,_,(List.length_set).trans G1.o,eM G2.o _ _,?_,P1.o,P2.o,Fr.gr G6.o P3.o (fun j hj hp=>by rcases hp with rfl|rfl <;> first|rfl|omega),G7.o.fr P3.o Z⟩;rw [hst.out];have:=G3.o;simpa using this
     case measure=>simp [intOf];omega
theorem bm.getD {w:World} {g cap:Nat} {l:List Int} (h:bm w g cap l) {i:Nat} (hi:i < l.length) {y:Int} (hy:y=l.getD i 0):w.cell? ⟨g,i,none⟩=some (.int .u32 y):=by rw [hy];exact h.cell hi
theorem sG (g cap:Nat) (l:List Int) (vb:Value) (lb:List Int) (w:World) (h:bm w g cap l) (hl:br l) (hb:no (·≠g) w vb lb) (hlb:br lb)
  (hs:lb.length≤l.length) (hge:nv lb≤nv l) :
  Calls Tryz.prog 186 #[.slice (some ⟨g,0,none⟩) l.length cap,vb] w fun e w'=>e=.returned (.slice (some ⟨g,0,none⟩) (lim (nv l - nv lb)).length cap)∧
   bm w' g cap (lim (nv l - nv lb))∧Gr (some g) w w':=by
 have hle:=h.le;have rq:=h.most;have hg:=h.lt;obtain ⟨a,Nn,rfl,hc2,hm2,hr⟩:=hb;have H:=kI h;have HL:=kI hl;have HB:=kI hr;have zJ:=kI hlb;have HF:=kI hge;clear h hl hr hlb hge;go_enter Tryz.func186,Tryz.ntmps186
 go_wp2_with fail;go_loopw [5,6,7,11] (fun vc _ _ i wr=>∃ (k:Nat) (c:Int) (lk:List Int),k≤lb.length∧i=.int .i64 k∧vc=.int .u32 c∧0≤c∧c≤1∧lk.length=l.length∧br lk∧nv lk+nv (lb.take k)=nv l+4294967296 ^ k*c.toNat∧bm wr g cap lk∧Gr (some g) w wr)
  (fun _ _ _ i _=>lb.length - (intOf i).toNat)
 case atStart=>exact ⟨0,0,l,Nat.zero_le _,rfl,rfl,by omega,by omega,rfl,HL.o,by simp [nv],H.o,Gr.refl _ _⟩
 case round=>
  obtain ⟨k,c,lk,hk,rfl,rfl,c0,c1,e1,e2,e3,e4,e6⟩:=hrel;by_cases hlt:k < lb.length
  ·obtain ⟨b,off,rfl,hbg,hbl,hx⟩:=HB.o k hlt;have hxl:=bv zJ.o k;have hyl:=bv e2 k;have hx':wr.cell? ⟨b,off+k,none⟩=some (.int .u32 (lb.getD k 0)):=(e6.cell (p:=⟨b,off+k,none⟩) hbl (by simpa using hbg)).trans hx;have ht:=dS hlt;obtain ⟨x,hxx⟩:=gN (lb.getD k 0);obtain ⟨y,kO⟩:=gN (lk.getD k 0);have hst:=ut (x:=x) (c:=c) e2 (show k < lk.length by omega) (by rw [hxx];exact hxl) ⟨c0,c1⟩;have hy':=e4.getD (i:=k) Z kO;rw [← kO] at hst hyl;rw [← hxx] at hx' ht hxl;have fy:=e4.free;have l3:=e4.lt;have Q9:=Nat.lt_of_lt_of_le hbl e6.size;have G1:=kI e1;have G2:=kI e2;have G3:=kI e3;have G4:=kI e4;have G6:=kI e6;have GT:=kI ht;have GS:=kI hst;have q1:(0:Int)≤(k:Int):=Z
   have q2:(k:Int) < (l.length:Int):=Z
   have q3:(k:Int) < (lb.length:Int):=Z
   clear e1 e2 e3 e4 e6 hx ht hxx kO hst;go_wp2_with fail;refine (ru _ _ _ _ hyl hxl ⟨c0,c1⟩).mono ?_;rintro e w1 ⟨rfl,hx1⟩;have fz:=(G4.o.ext hx1).free;have c9:=(G4.o.ext hx1).getD (i:=k) IK rfl;have l9:=(G4.o.ext hx1).lt;have GX:=kI hx1;clear hx1;have hbd:=Bw y x c;go_wp2_with fail;go_roundw
   case rel=>
    refine ⟨k+1,_,lk.set k ((y - x - c) % 4294967296),by omega,by go_num,rfl,hbd.1,hbd.2,(List.length_set).trans G1.o,eM G2.o _ _,?_,(G4.o.ext GX.o).set k _ IK,(G6.o.trans (Gr.dM GX.o)).set _ _⟩;have h1:=G3.o;have h2:=GT.o;have h3:=GS.o;rw [Nat.mul_add] at h3;omega
   case measure=>simp [intOf];omega
  ·obtain rfl:k=lb.length:=Z
   rw [List.take_length] at e3;have G1:=kI e1;have G2:=kI e2;have G3:=kI e3;have G4:=kI e4;have G6:=kI e6;clear e1 e2 e3 e4 e6;go_wp2_with fail;obtain ⟨wo,hwo⟩:∃ wo:World,wo=wr:=⟨_,rfl⟩;rw [← hwo] at G4 G6 ⊢;clear hwo;go_loopw [5,8] (fun vc i wq=>∃ (j:Nat) (c:Int) (lk:List Int),j≤l.length∧i=.int .i64 j∧vc=.int .u32 c∧0≤c∧c≤1∧lk.length=l.length∧br lk∧nv lk+nv lb=nv l+4294967296 ^ j*c.toNat∧bm wq g cap lk∧Gr (some g) w wq)
    (fun _ i _=>l.length - (intOf i).toNat)
   case atStart=>exact ⟨lb.length,c,lk,hs,rfl,rfl,c0,c1,G1.o,G2.o,G3.o,G4.o,G6.o⟩
   case round=>
    clear G1 G2 G3 G4 G6 c0 c1;obtain ⟨j,c,lk,hj,rfl,rfl,c0,c1,e1,e2,e3,e4,e6⟩:=hrel;by_cases hcz:c=0
    ·subst hcz;have e5:nv lk=nv l - nv lb:=by have:=HF.o;simp at e3;omega
     have G1:=kI e1;have G2:=kI e2;have G4:=kI e4;have G5:=kI e5;have G6:=kI e6;clear e1 e2 e3 e4 e5 e6;go_wp2_with fail;rw [← G1.o];refine (jh g cap lk wr G4.o G2.o).mono ?_;rintro e w1 ⟨rfl,r1,r2⟩;have P1:=kI r1;have P2:=kI r2;clear r1 r2;go_wp2_with fail;go_ret;rw [← G5.o];exact ⟨rfl,P1.o,G6.o.trans (Gr.dM P2.o)⟩
    ·have SH:(c != 0)=true:=by simpa using hcz
     have hjl:j < l.length:=by
      have h1:=bX e2;rw [e1] at h1;refine iD (n:=nv lk) ?_ h1;have h2:4294967296 ^ j*1≤4294967296 ^ j*c.toNat:=Nat.mul_le_mul_left _ Z;have:=HF.o;omega
     have hyl:=bv e2 j;obtain ⟨y,kO⟩:=gN (lk.getD j 0);have hst:=ut (x:=0) (c:=c) e2 (show j < lk.length by omega) Z ⟨c0,c1⟩;rw [Int.sub_zero] at hst;have hy':=e4.getD (i:=j) Z kO;rw [← kO] at hst hyl;have fy:=e4.free;have l3:=e4.lt;have G1:=kI e1;have G2:=kI e2;have G3:=kI e3;have G4:=kI e4;have G6:=kI e6;have GS:=kI hst;have q1:(0:Int)≤(j:Int):=Z
     have q2:(j:Int) < (l.length:Int):=Z
     clear e1 e2 e3 e4 e6 kO hst;go_wp2_with fail;refine (ru _ _ _ _ hyl Z ⟨c0,c1⟩).mono ?_;rintro e w1 ⟨rfl,hx1⟩;have fz:=(G4.o.ext hx1).free;have c9:=(G4.o.ext hx1).getD (i:=j) IK rfl;have l9:=(G4.o.ext hx1).lt;have GX:=kI hx1;clear hx1;have hbd:=Bw y 0 c;go_wp2_with fail;go_roundw
     case rel=>
      refine ⟨j+1,_,lk.set j ((y - c) % 4294967296),by omega,by go_num,rfl,hbd.1,hbd.2,(List.length_set).trans G1.o,eM G2.o _ _,?_,(G4.o.ext GX.o).set j _ IK,(G6.o.trans (Gr.dM GX.o)).set _ _⟩;have h1:=G3.o;have h3:=GS.o;rw [Nat.mul_add] at h3;simp at h3;omega
     case measure=>simp [intOf];omega
theorem xj {a b:List Int} (ha:br a) (za:cL a) (hb:br b) (h:nv a≤nv b):a.length≤b.length:=by
 have h1:=bX hb;rw [← dx ha za];exact aL.2 Z
theorem sH (a:Option Addr) (vb:Value) (w:World) (hb:no (fun _=>True) w vb []) :
  Calls Tryz.prog 186 #[.slice a 0 0,vb] w fun e w'=>e=.returned (.slice a 0 0)∧Ext w w':=by
 obtain ⟨b,Nn,rfl,hc2,hm2,hr⟩:=hb;clear hr;simp only [List.length_nil] at *;go_enter Tryz.func186,Tryz.ntmps186
 go_wp2_with fail;refine wp_loop_rounds 1 ?_;rw [rounds_succ];go_wp2_with fail;refine wp_loop_rounds 1 ?_;rw [rounds_succ];go_wp2_with fail;refine (uw a _).mono ?_;rintro e w1 ⟨rfl,hx1⟩;go_wp2
 go_ret;exact ⟨rfl,eX⟩
theorem fK (o:Option Nat) (v vb:Value) (l lb:List Int) (w:World) (h:gI w o v l) (hl:br l) (hb:no (fun b=>o≠some b) w vb lb) (hlb:br lb) (hz:cL lb) (hge:nv lb≤nv l) :
  Calls Tryz.prog 186 #[v,vb] w fun e w'=>∃ v',e=.returned v'∧gI w' o v' (lim (nv l - nv lb))∧Gr o w w':=by
 rcases h with ⟨rfl,rfl,a,ha,rfl⟩|⟨g,cap,rfl,rfl,h⟩
 ·have e:lb=[]:=by
   by_cases h0:lb=[]
   ·exact h0
   ·have:=gY hlb hz h0;simp only [IN] at hge;omega
  subst e;exact (sH a vb w (hb.mono fun _ _=>trivial)).mono fun e w' ⟨he,hx⟩=>⟨_,he,.inl ⟨rfl,rfl,a,ha,rfl⟩,Gr.dM hx⟩
 ·exact (sG g cap l vb lb w h hl (hb.mono fun b hb e=>hb (by rw [e])) hlb (xj hlb hz hl hge) hge).mono fun e w' ⟨he,hr,hx⟩=>⟨_,he,.row hr,hx⟩
structure Kz (m:Nat) (A B:World):Prop where
 zero:Below 0 A B
 block:∀ i,i < A.heap.size→(i < m∨m+1 < i)→B.heap[i]?=A.heap[i]?
def Kd (m:Nat) (A B:World):Prop:=A.heap.size≤B.heap.size∧B.heap[m]?=A.heap[m]?∧B.heap[m+1]?=A.heap[m+1]?
theorem Kz.size {m:Nat} {A B:World} (h:Kz m A B):A.heap.size≤B.heap.size:=h.zero.size
theorem Kz.ext {m:Nat} {A B:World} (h:Ext A B):Kz m A B:=⟨h.mono (Nat.zero_le _),fun i hi _=>h.block i hi⟩
theorem Kz.sI {m:Nat} (A:World) (o:Obj):Kz m A (A.putObj m o):=⟨⟨rfl,rfl,rfl,by simp,fun i hi=>by omega⟩,fun i _ ho=>World.putObj_heap_other Z⟩
theorem Kz.kt {m:Nat} (A:World) (o:Obj):Kz m A (A.putObj (m+1) o):=⟨⟨rfl,rfl,rfl,by simp,fun i hi=>by omega⟩,fun i _ ho=>World.putObj_heap_other Z⟩
theorem ag.kz {m:Nat} {A B:World} {b:Nat} {c:Array Value} {t:TypeId} (h:ag A b c t) (k:Kz m A B) (hb:b < m∨m+1 < b):ag B b c t:=(k.block b h.lt hb).trans h
theorem bm.kz {m:Nat} {A B:World} {g cap:Nat} {l:List Int} (h:bm A g cap l) (k:Kz m A B) (hb:g < m∨m+1 < g):bm B g cap l:=by
 obtain ⟨cur,hb',hs,ht⟩:=h.blk;exact ⟨⟨cur,hb'.kz k hb,hs,ht⟩,h.le,h.most⟩
theorem Kz.cell {m:Nat} {A B:World} (k:Kz m A B) {p:Addr} (hp:p.block < A.heap.size) (hb:p.block < m∨m+1 < p.block):B.cell? p=A.cell? p:=World.cell?_of_block (k.block _ hp hb)
theorem Kd.No {m:Nat} {p:Nat→Prop} {A B:World} (h:Fr p A B) (hm:m+1 < A.heap.size) (h0:¬ p m) (h1:¬ p (m+1)):Kd m A B:=
 ⟨h.zero.size,h.block m Z h0,h.block (m+1) hm h1⟩
theorem Kd.dM {m:Nat} {A B:World} (h:Ext A B) (hm:m+1 < A.heap.size):Kd m A B:=⟨h.size,h.block m Z,h.block (m+1) hm⟩
def IU (m:Nat) (I:Nat→World→Prop) (Ix:Code→Nat→World→Prop) (k:Nat) (W:World):Exit→Act→World→Prop
 | .normal,_,W'=>Kd m W W'∧I k W'
 | .ret,_,W'=>Kd m W W'∧Ix .ret k W'
 | .exit id,_,W'=>Kd m W W'∧Ix (.exit id) k W'
 | _,_,_=>False
def ka {α:Type} (F:Fence) (n:Nat) (P:Program) (gf:Nat) (lb:Array Value) (N:Nat) (encs:Nat→α→Array Value) (Rd:Nat→World→α→Prop) (l:Nat) (W1:World):Prop:=
 ∀ (J Jx:Nat→World→Prop),(∀ k A B,J k A→Ext A B→J k B)→(∀ k W,k < N→J (k+1) W→∃ y,Rd k W y)→
  (∀ k W y,k < N→J (k+1) W→Rd k W y→YieldAt F (n - 1) P l (encs k y) W fun e W'=>(e=.returned (.bool true)∧J k W')∨(e=.returned (.bool false)∧Jx k W'))→
  J N W1→CallsIn F n P gf (#[.func (.yield l) #[] #[]] ++ lb) W1 fun e W'=>(∃ v,e=.returned v)∧(J 0 W'∨∃ k,k < N∧Jx k W')
variable {F:Fence} {n:Nat} {P:Program}
theorem fu {α:Type} {g:Operand} {ps:Array Tmp} {assign body:Code} {Q:Exit→Act→World→Prop} {a:Act} {w:World}
  (hro:F.round=none) (h1:1≤n) {gf:Nat} {lb:Array Value} (hg:a.eval g=.func (.func gf) #[] lb) (hFg:F.fn gf) (eg:∀ args w,(callFunc gf args).run P w=.ok (.enter gf args) w)
  (N:Nat) {encs:Nat→α→Array Value} {Rd:Nat→World→α→Prop}
  (hseq:∀ W1,Ext w W1→ka F (n - 1) P gf lb N encs Rd (w.heap.size+1) W1) (hps:∀ k y,(encs k y).size=ps.size)
  (I:Nat→World→Prop) (Ix:Code→Nat→World→Prop) (hI:∀ k A B,I k A→Kz w.heap.size A B→I k B) (hIx:∀ c k A B,Ix c k A→Kz w.heap.size A B→Ix c k B)
  (IX:∀ k W,k < N→I (k+1) W→∃ y,Rd k W y) (h0:I N w)
  (Ax:Nat→α→Act→World→Prop) (hAx:∀ k y a1 A B,Ax k y a1 A→Kz w.heap.size A B→Ax k y a1 B)
  (hassign:∀ (l k:Nat) (y:α) (W:World) (K:Act→World→Prop),k < N→I (k+1) W→Rd k W y→w.heap.size+1 < W.heap.size→(∀ a1 W1,Ext W W1→Ax k y a1 W1→K a1 W1)→
   assign.wpIn (F.inRound l) (n - 1 - 1) P (Exit.then K (fun _ _ _=>False)) { tmps:=(ps.zip (encs k y)).foldl (fun t (p,v)=>t.setIfInBounds p v) a.tmps,defers:=[] } W)
  (hbody:∀ (l k:Nat) (y:α) (a1:Act) (W:World),k < N→Ax k y a1 W→w.heap.size+1 < W.heap.size→body.wpIn (F.inRound l) (n - 1 - 1) P (IU w.heap.size I Ix k W) a1 W)
  (hdone:∀ (W:World),I 0 W→W.heap[w.heap.size]?=some (.deferred (some []))→Q .normal { a with defers:={ target:=.collected w.heap.size,args:=#[] } :: a.defers } W)
  (hstop:∀ (c:Code) (k:Nat) (W:World),k < N→Ix c k W→W.heap[w.heap.size]?=some (.deferred (some []))→c.wpIn F n P Q { a with defers:={ target:=.collected w.heap.size,args:=#[] } :: a.defers } W) :
  (Code.rangeFunc g ps assign body).wpIn F n P Q a w:=by
 refine wpIn_rangeFunc ?_;intro fn hfn;rw [hro];obtain ⟨rec,hrec⟩:∃ rec:LoopState→Option Code→Loop,rec=fun st pe=>{ state:=st,pending:=pe,fn,tmps:=a.tmps,params:=ps,assign,body,defers:=w.heap.size }:=⟨_,rfl⟩;obtain ⟨W1,hW1⟩:∃ W1,(w.alloc (.deferred (some []))).alloc (.loop (rec .ready none))=W1:=⟨_,rfl⟩;have hL1:W1.heap[w.heap.size+1]?=some (.loop (rec .ready none)):=by
  rw [← hW1];have:=World.alloc_heap_new (w.alloc (.deferred (some []))) (.loop (rec .ready none));rwa [World.size_alloc] at this
 have hK1:W1.heap[w.heap.size]?=some (.deferred (some [])):=by
  rw [← hW1];exact (Below.heap_alloc _ _ _ cp).trans (World.alloc_heap_new w _)
 have hx1:Ext w W1:=by rw [← hW1];exact ((Ext.refl w).alloc _).alloc _
 have hI1:I N W1:=hI _ _ _ h0 (.ext hx1);refine ⟨w.heap.size+1,[{ target:=.collected w.heap.size,args:=#[] }],W1,{ target:=.fn (.func gf) lb,args:=#[.func (.yield (w.heap.size+1)) #[] #[]] },W1,gf,
  #[.func (.yield (w.heap.size+1)) #[] #[]] ++ lb,W1,?_,?_,?_,?_,fun _=>h1,?_⟩
 ·rw [← hW1,hrec];exact run_enterLoop_outer _ _ _ _ _
 ·simp only [resolve,hg];simp [go_sem]
 ·intro f' hf';simp [Target.leads] at hf';subst hf';exact hFg
 ·simp [invoke,go_sem,eg]
 ·refine (hseq W1 hx1
   (fun k W=>I k W∧W.heap[w.heap.size+1]?=some (.loop (rec .ready none))∧W.heap[w.heap.size]?=some (.deferred (some [])))
   (fun k W=>∃ c,Ix c k W∧W.heap[w.heap.size+1]?=some (.loop (rec .done (some c)))∧W.heap[w.heap.size]?=some (.deferred (some [])))
   (fun k A B hs x=>⟨hI _ _ _ hs.1 (.ext x),(x.block _ (Array.getElem?_eq_some_iff.1 hs.2.1).1).trans hs.2.1,(x.block _ (Array.getElem?_eq_some_iff.1 hs.2.2).1).trans hs.2.2⟩)
   (fun k W hk hs=>IX k W hk hs.1)
   ?_ ⟨hI1,hL1,hK1⟩).mono ?_
  ·rintro k W y hkN ⟨hi,hl,hk⟩ hrd;have hlt:w.heap.size+1 < W.heap.size:=(Array.getElem?_eq_some_iff.1 hl).1;have hy:=run_yield (P:=P) (args:=encs k y) hl (by rw [hrec];exact hps k y);rw [hrec] at hy;refine ⟨fn,_,assign,body,hy,roundIn_of_wpIn hfn (hassign _ k y W _ hkN hi hrd hlt ?_)⟩;intro a1 V IY hax;have I1:=(IY.block _ (Array.getElem?_eq_some_iff.1 hl).1).trans hl;have SJ:=(IY.block _ (Array.getElem?_eq_some_iff.1 hk).1).trans hk;refine ⟨_,run_beginRound I1 (by rw [hrec]),?_⟩;have BB:w.heap.size+1 < V.heap.size:=(Array.getElem?_eq_some_iff.1 I1).1;have hl2:(V.putObj (w.heap.size+1) (.loop { rec .ready none with state:=.busy })).heap[w.heap.size+1]?=some (.loop { rec .ready none with state:=.busy }):=World.putObj_heap_same BB;have hk2:(V.putObj (w.heap.size+1) (.loop { rec .ready none with state:=.busy })).heap[w.heap.size]?=some (.deferred (some [])):=(World.putObj_heap_other Z).trans SJ;have fin:∀ (jump:Option Code) (W3:World),Kd w.heap.size (V.putObj (w.heap.size+1) (.loop { rec .ready none with state:=.busy })) W3→
     (Instr.endRound (w.heap.size+1) jump).run P W3=.ok (.bool jump.isNone) (W3.putObj (w.heap.size+1) (.loop (rec (if jump.isNone then .ready else .done) jump)))∧
     (W3.putObj (w.heap.size+1) (.loop (rec (if jump.isNone then .ready else .done) jump))).heap[w.heap.size+1]?=some (.loop (rec (if jump.isNone then .ready else .done) jump))∧
     (W3.putObj (w.heap.size+1) (.loop (rec (if jump.isNone then .ready else .done) jump))).heap[w.heap.size]?=some (.deferred (some [])):=fun jump W3 hk3=>by
    have hl3:=hk3.2.2.trans hl2;have:=run_endRound (P:=P) jump hl3;rw [hrec] at this ⊢;exact ⟨this,World.putObj_heap_same (Array.getElem?_eq_some_iff.1 hl3).1,(World.putObj_heap_other Z).trans (hk3.2.1.trans hk2)⟩
   refine wpIn_mono (hbody _ k y a1 _ hkN (hAx _ _ _ _ _ hax (Kz.kt V _)) (by simpa using BB)) ?_;rintro e a3 W3 hp;cases e with
   | normal=>
    obtain ⟨hk3,hi3⟩:=hp;obtain ⟨hr,hl4,hk4⟩:=fin none W3 hk3;exact ⟨_,_,hr,.inl ⟨rfl,hI _ _ _ hi3 (Kz.kt W3 _),hl4,hk4⟩⟩
   | ret=>
    obtain ⟨hk3,hi3⟩:=hp;obtain ⟨hr,hl4,hk4⟩:=fin (some .ret) W3 hk3;exact ⟨_,_,hr,.inr ⟨rfl,.ret,hIx _ _ _ _ hi3 (Kz.kt W3 _),hl4,hk4⟩⟩
   | exit id=>
    obtain ⟨hk3,hi3⟩:=hp;obtain ⟨hr,hl4,hk4⟩:=fin (some (.exit id)) W3 hk3;exact ⟨_,_,hr,.inr ⟨rfl,.exit id,hIx _ _ _ _ hi3 (Kz.kt W3 _),hl4,hk4⟩⟩
   | goto t=>exact hp.elim
   | panic ch=>exact hp.elim
   | outgrown=>exact hp.elim
  ·rintro e W2 ⟨⟨v,rfl⟩,(⟨hi,hl,hk⟩|⟨k,hkN,c,hi,hl,hk⟩)⟩
   ·exact ⟨none,_,by have:=run_endLoop (P:=P) hl Q8;rw [hrec] at this;exact this,hdone _ (hI _ _ _ hi (Kz.kt W2 _)) ((World.putObj_heap_other Z).trans hk)⟩
   ·exact ⟨some c,_,by have:=run_endLoop (P:=P) hl Q8;rw [hrec] at this;exact this,hstop c k _ hkN (hIx _ _ _ _ hi (Kz.kt W2 _)) ((World.putObj_heap_other Z).trans hk)⟩
end
section
open Go.RowKit Go.Shelf
attribute [local go_sem] Oper.semAt_some
theorem lT (a:Option Addr) (n c:Nat) (w:World) :
  Calls Tryz.prog 199 #[.slice a n c] w fun e w'=>e=.returned (.func (.func 208) #[] #[.pointer (some ⟨w.heap.size,0,none⟩)])∧w'=w.alloc (.cells #[.slice a n c] 23):=by
 go_enter Tryz.func199,Tryz.ntmps199
 go_wp2
 go_ret;exact ⟨rfl,rfl⟩
def zK (Bx:Nat) (v:Value) (k:Nat) (W:World) (x:Int):Prop:=
 W.cell? ⟨Bx,0,none⟩=some v∧∃ b off n cap,v=.slice (some ⟨b,off,none⟩) n cap∧W.cell? ⟨b,off+k,none⟩=some (.int .u32 x)
theorem rB (n:Nat) (hn:1≤n) (a:Option Addr) (N cap Bx lb:Nat) (W1:World) (hb:W1.cell? ⟨Bx,0,none⟩=some (.slice a N cap)) (hc:N≤cap) (hm:cap≤9223372036854775807) :
  ka Fence.wide n Tryz.prog 208 #[.pointer (some ⟨Bx,0,none⟩)] N (fun k (x:Int)=>#[.int .i64 k,.int .u32 x]) (zK Bx (.slice a N cap)) lb W1:=by
 intro J Jx hJ Ra hY h0;refine callsIn_of_wp Tryz.func208 rfl trivial ?_ rfl;simp only [Tryz.ntmps208,List.size_toArray,List.length_cons,List.length_nil,Nat.reduceAdd,Nat.reduceSub,Array.replicate_succ,Array.replicate_zero,List.push_toArray,List.append_toArray,List.nil_append,List.cons_append];gi_wp2_with fail;gi_loopw [3] (fun i wr=>(i=.int .i64 (-1)∧J 0 wr)∨∃ j:Nat,j < N∧i=.int .i64 j∧J (j+1) wr) (fun i _=>(intOf i+1).toNat)
 case atStart=>
  rcases Nat.eq_zero_or_pos N with h|h
  ·subst h;exact .inl ⟨rfl,h0⟩
  ·exact .inr ⟨N - 1,by omega,by go_num,by rw [show N - 1+1=N by omega];exact h0⟩
 case round=>
  rcases hrel with ⟨rfl,hj⟩|⟨j,hj,rfl,Fe⟩
  ·have HJ:=kI hj;clear hj;gi_wp2
   go_end0
   exact ⟨⟨_,rfl⟩,.inl HJ.o⟩
  ·obtain ⟨x,hbx,b,off,n1,cap1,ha,hcx⟩:=Ra j wr hj Fe;obtain ⟨fn,tmps,assign,body,hy,hR⟩:=hY j wr x hj Fe ⟨hbx,b,off,n1,cap1,ha,hcx⟩;injection ha with ha hn1 hcap1
   subst ha;have q1:(0:Int)≤(j:Int):=Z
   have q2:(j:Int) < (N:Int):=Z
   have HJ:=kI Fe;clear Fe hn1 hcap1;gi_wp2
   refine hR.mono ?_;rintro e W3 (⟨rfl,hJ3⟩|⟨rfl,hJ3⟩)
   ·have uA:=kI hJ3;clear hJ3;gi_wp2
    go_roundw
    case rel=>
     rcases Nat.eq_zero_or_pos j with h|h
     ·subst h;exact .inl ⟨rfl,uA.o⟩
     ·exact .inr ⟨j - 1,by omega,by go_num,by rw [show j - 1+1=j by omega];exact uA.o⟩
    case measure=>simp [intOf] <;> omega
   ·have uA:=kI hJ3;clear hJ3;gi_wp2
    refine bodyPost_ret (v:=.tuple #[]) ?_ rfl ⟨⟨_,rfl⟩,.inr ⟨j,hj,uA.o⟩⟩;first|rfl|(simp only [results,Tryz.results208];go_simp)
end
def eP (x y:Nat):Int:=iW x y
theorem kb {x y:Nat} (h:x < y):eP x y = -1:=by unfold eP iW;rw [if_pos Z]
theorem lU {x y:Nat} (h:y < x):eP x y=1:=by unfold eP iW;rw [if_neg Z,if_pos Z]
theorem oC (x:Nat):eP x x=0:=by unfold eP iW;rw [if_neg Z,if_neg Z]
theorem kP {a b:List Int} (ha:br a) (hb:br b) (zb:cL b) (h:a.length < b.length):nv a < nv b:=by
 have h1:=bX ha;have h2:=Bv hb zb (by intro e;subst e;simp at h);have h3:=gZ (show a.length≤b.length - 1 by omega);omega
theorem kQ {a b:List Int} (ha:br a) (hb:br b) (hl:a.length=b.length) {k:Nat} (hk:k < a.length) (hd:a.drop (k+1)=b.drop (k+1)) (h:a.getD k 0 < b.getD k 0):nv a < nv b:=by
 have h1:=lO a (k+1) Z;have h2:=lO b (k+1) Z;have h3:=bX (gi ha k);rw [List.length_take_of_le Z] at h3;have ga:=bv ha k;have gb:=bv hb k;rw [h1,h2,hd,dS hk,dS (show k < b.length by omega)];have:4294967296 ^ k*((a.getD k 0).toNat+1)≤4294967296 ^ k*(b.getD k 0).toNat:=Nat.mul_le_mul_left _ Z;rw [Nat.mul_add] at this;omega
theorem sJ {a b:List Int} (hl:a.length=b.length) {k:Nat} (hk:k < a.length) (hd:a.drop (k+1)=b.drop (k+1)) (h:a.getD k 0=b.getD k 0):a.drop k=b.drop k:=by
 rw [List.drop_eq_getElem_cons hk,List.drop_eq_getElem_cons (show k < b.length by omega),hd];rw [List.getD_eq_getElem?_getD,List.getD_eq_getElem?_getD,List.getElem?_eq_getElem hk,List.getElem?_eq_getElem (show k < b.length by omega)] at h;rw [show a[k]=b[k] from h]
theorem Ff (l:List Int):nv l=(l.getD 0 0).toNat+4294967296*nv l.tail:=by cases l <;> simp [nv]
section
open Go.RowKit Go.Shelf
attribute [local go_sem] Oper.semAt_some
theorem Ext.kz {w A B:World} (h:Ext w A) {m:Nat} (k:Kz m A B) (hm:w.heap.size≤m):Ext w B:=
 ⟨k.zero.os.trans h.os,k.zero.tape.trans h.tape,k.zero.output.trans h.output,Nat.le_trans h.size k.size,fun i hi=>(k.block i (Nat.lt_of_lt_of_le hi h.size) (.inl Z)).trans (h.block i hi)⟩
theorem Fr.kz {p:Nat→Prop} {w A B:World} (h:Fr p w A) {m:Nat} (k:Kz m A B) (hm:w.heap.size≤m):Fr p w B:=
 ⟨h.zero.trans k.zero,fun i hi hn=>(k.block i (Nat.lt_of_lt_of_le hi h.zero.size) (.inl Z)).trans (h.block i hi hn)⟩
theorem Ext.fr {p:Nat→Prop} {w A B:World} (h:Ext w A) (k:Fr p A B) (hp:∀ i,i < w.heap.size→¬ p i):Ext w B:=
 ⟨k.zero.os.trans h.os,k.zero.tape.trans h.tape,k.zero.output.trans h.output,Nat.le_trans h.size k.zero.size,fun i hi=>(k.block i (Nat.lt_of_lt_of_le hi h.size) (hp i hi)).trans (h.block i hi)⟩
def Np (w3:World) (H0:Nat) (va:Value) (la lb:List Int) (Bx k:Nat) (x:Int) (a1:Act) (W:World):Prop:=
 k < la.length∧la.drop (k+1)=lb.drop (k+1)∧Ext w3 W∧zK Bx va k W x∧∃ t0 t1 t2 t5 t8 t9 t10 t11 t12 t13 t14 t15 t16 t17 rC t19 t20 t21 t22 t23 t24 t25 t26 t27 t28 t29:Value,
  a1={ tmps:=#[t0,t1,t2,.pointer (some ⟨H0,0,none⟩),.pointer (some ⟨H0+1,0,none⟩),t5,.int .i64 k,.int .u32 x,t8,t9,t10,t11,t12,t13,t14,t15,t16,t17,rC,t19,t20,t21,t22,t23,t24,t25,t26,t27,t28,t29],defers:=[] }
theorem fT (va vb:Value) (la lb:List Int) (w:World) (ha:bj .u32 w va la) (hb:bj .u32 w vb lb) (hla:br la) (hlb:br lb) (za:cL la) (zb:cL lb) :
  Calls Tryz.prog 185 #[va,vb] w fun e w'=>e=.returned (.int .i64 (eP (nv la) (nv lb)))∧Ext w w':=by
 obtain ⟨aa,ca,rfl,hca,hma,hra⟩:=jZ ha;obtain ⟨ab,cb,rfl,hcb,hmb,hrb⟩:=jZ hb;have HA:=kI hra;have HB:=kI hrb;clear ha hb hra hrb;have hbx:ag ((w.alloc (.cells #[.slice ab lb.length cb] 23)).alloc (.cells #[.int .i64 0] 3)) w.heap.size #[.slice ab lb.length cb] 23:=(ag.new w _ _).alloc _;have hrs:ag ((w.alloc (.cells #[.slice ab lb.length cb] 23)).alloc (.cells #[.int .i64 0] 3)) (w.heap.size+1) #[.int .i64 0] 3:=by
  have:=ag.new (w.alloc (.cells #[.slice ab lb.length cb] 23)) #[.int .i64 0] 3;rwa [World.size_alloc] at this
 have hx0:Ext w ((w.alloc (.cells #[.slice ab lb.length cb] 23)).alloc (.cells #[.int .i64 0] 3)):=((Ext.refl w).alloc _).alloc _;have GX:=kI hx0;have GB:=kI hbx;have GR:=kI hrs;clear hx0 hbx hrs;refine (callsIn_wide (n:=8)).1 ?_;refine callsIn_of_wp_marks Tryz.func185 rfl trivial ?_ rfl;simp only [Tryz.ntmps185,List.size_toArray,List.length_cons,List.length_nil,Nat.reduceAdd,Nat.reduceSub,Array.replicate_succ,Array.replicate_zero,List.push_toArray,List.append_toArray,List.nil_append,List.cons_append];gi_wp2_with fail;refine ⟨trivial,(callsIn_wide.2 (wY _ _ _)).mono ?_⟩;rintro e w1 ⟨rfl,hx1⟩;have Rc:=kI (GX.o.trans hx1);have Nq:=kI (GB.o.ext hx1);have If:=kI (GR.o.ext hx1);clear GX GB GR hx1;rcases Int.lt_trichotomy (la.length:Int) (lb.length:Int) with hlt|heq|hgt
 ·have e1:iW la.length lb.length = -1:=by unfold iW;rw [if_pos hlt]
  have e2:=kI (kb (kP hla hlb zb Z));rw [e1];have c1:=If.o.cell;have f1:=If.o.free;have l1:=If.o.lt;have HE:=kI e1;clear e1;gi_wp2_with fail;refine ⟨.int .i64 (-1),?_,by rw [e2.out],Rc.o.set au _⟩;simp only [results,Tryz.results185];go_simp
 ·have heq':la.length=lb.length:=Z
  have e1:iW la.length lb.length=0:=by unfold iW;rw [if_neg Z,if_neg Z]
  rw [e1];have HQ:=kI heq';clear e1 heq heq';gi_wp2_with fail;refine ⟨trivial,(callsIn_wide.2 (lT aa la.length ca w1)).mono ?_⟩;rintro e w3 ⟨rfl,hw3⟩;have hx3:Ext w1 w3:=by rw [hw3];exact (Ext.refl w1).alloc _
  have Wp:w1.heap.size < w3.heap.size:=by rw [hw3];simp
  have hBx:ag w3 w1.heap.size #[.slice aa la.length ca] 23:=by rw [hw3];exact ag.new w1 _ _
  have Nr:=kI (Rc.o.trans hx3);have Wq:=kI (Nq.o.ext hx3);have SN:=kI (If.o.ext hx3);have GK:=kI hBx;clear Rc Nq If hw3 hx3 hBx;have lR:=SN.o.lt;have lB:=Wq.o.lt;have lx:=Nr.o.size;gi_wp2_with fail;have hseq:∀ W1,Ext w3 W1→ka Fence.wide 7 Tryz.prog 208 #[.pointer (some ⟨w1.heap.size,0,none⟩)] la.length (fun k (x:Int)=>#[.int .i64 k,.int .u32 x]) (zK w1.heap.size (.slice aa la.length ca)) (w3.heap.size+1) W1:=
   fun W1 hx=>rB 7 Z aa la.length ca w1.heap.size _ W1 (by have:=(GK.o.ext hx).cell 0;simpa using this) hca hma
  have hrd:∀ k,k < la.length→∀ W,Ext w3 W→zK w1.heap.size (.slice aa la.length ca) k W (la.getD k 0):=by
   intro k hk W hx;obtain ⟨b,off,rfl,hb,hc⟩:=HA.o k hk;exact ⟨by have:=(GK.o.ext hx).cell 0;simpa using this,b,off,_,_,rfl,((Nr.o.trans hx).cell (p:=⟨b,off+k,none⟩) hb).trans hc⟩
  have hZ:∀ k,k < la.length→∀ W x,Ext w3 W→zK w1.heap.size (.slice aa la.length ca) k W x→x=la.getD k 0:=by
   rintro k hk W x hx ⟨_,b,off,n,cap,e,hc⟩;obtain ⟨_,b2,off2,n2,cap2,e2,hc2⟩:=hrd k hk W hx;rw [e] at e2;injection e2 with e2 _ _
   injection e2 with e2
   injection e2 with e3 e4
   subst e3;subst e4;rw [hc] at hc2;injection hc2 with hc2
   injection hc2
  refine fu rfl Z (gf:=208) (lb:=#[.pointer (some ⟨w1.heap.size,0,none⟩)]) rfl trivial (enters_of Tryz.func208 ax rfl) la.length hseq (fun _ _=>rfl)
   (fun k W=>la.drop k=lb.drop k∧Ext w3 W)
   (fun c k W=>c=.ret∧eP (nv la) (nv lb)=iW (la.getD k 0) (lb.getD k 0)∧ag W (w.heap.size+1) #[.int .i64 (iW (la.getD k 0) (lb.getD k 0))] 3∧Fr (· = w.heap.size+1) w3 W)
   (fun k A B h z=>⟨h.1,h.2.kz z (Nat.le_refl _)⟩)
   (fun c k A B h z=>⟨h.1,h.2.1,h.2.2.1.kz z Z,h.2.2.2.kz z (Nat.le_refl _)⟩)
   (fun k W hk h=>⟨_,hrd k hk W h.2⟩)
   ⟨by rw [List.drop_length,List.drop_of_length_le (by have:=HQ.o;omega)],Ext.refl _⟩
   (Np w3 w.heap.size (.slice aa la.length ca) la lb w1.heap.size) ?hAx ?hassign ?hbody ?hdone ?hstop
  case hAx=>
   rintro k y a1 A B ⟨hkl,h1,h2,⟨h3,b,off,n,cap,e,h4⟩,h5⟩ z;have hk:w1.heap.size < w3.heap.size:=Z
   refine ⟨hkl,h1,h2.kz z (Nat.le_refl _),?_,h5⟩;injection e with e _ _
   subst e;obtain ⟨b2,off2,e2,hb2,_⟩:=HA.o k hkl;injection e2 with e2
   injection e2 with e3 e4
   subst e3;subst e4;exact ⟨(z.cell (p:=⟨w1.heap.size,0,none⟩) (by have:=h2.size;dsimp only;omega) (.inl hk)).trans h3,_,_,_,_,rfl,(z.cell (p:=⟨b,off+k,none⟩) (by have:=h2.size;dsimp only;omega) (.inl au)).trans h4⟩
  case hassign=>
   rintro ll k y W K hk ⟨h1,h2⟩ h3 hlt hK;gi_wp2
   refine hK _ _ (Ext.refl W) ⟨hk,h1,h2,h3,_,_,_,_,_,_,_,_,_,_,_,_,_,_,_,_,_,_,_,_,_,_,_,_,_,_,rfl⟩
  case hbody=>
   rintro ll k x a1 W hk ⟨_,h1,h2,h3,t0,t1,t2,t5,t8,t9,t10,t11,t12,t13,t14,t15,t16,t17,rC,t19,t20,t21,t22,t23,t24,t25,t26,t27,t28,t29,rfl⟩ hlt;have hxx:=hZ k hk W x h2 h3;obtain ⟨b,off,rfl,hb,Ns⟩:=HB.o k (by have:=HQ.o;omega);have hcb2:=((Nr.o.trans h2).cell (p:=⟨b,off+k,none⟩) hb).trans Ns;obtain ⟨y,kO⟩:=gN (lb.getD k 0);rw [← kO] at hcb2;have cB:=(Wq.o.ext h2).cell;have q1:(0:Int)≤(k:Int):=Z
   have q2:(k:Int) < (lb.length:Int):=by have:=HQ.o;omega
   have HD:=kI h1;have H2:=kI h2;have HX:=kI hxx;have HY:=kI kO;clear h1 h2 h3 hxx kO Ns;gi_wp2_with fail;refine ⟨trivial,CallsIn.inRound ll ((callsIn_wide.2 (By _ _ _)).mono ?_)⟩;rintro e w4 ⟨rfl,hx4⟩;have G2:=kI (H2.o.trans hx4);have R4:=SN.o.ext G2.o;have cR:=R4.cell;have fR:=R4.free;have lR4:=R4.lt;have HR4:=kI R4;have H4:=kI hx4;clear R4 hx4;rcases Int.lt_trichotomy x y with hc|hc|hc
   ·have e:iW x y = -1:=by unfold iW;rw [if_pos hc]
    have ec:=kI (kb (kQ hla hlb HQ.o hk HD.o SD));rw [e];have HE:=kI e;clear e;gi_wp2
    refine ⟨⟨by have:=H4.o.size;simpa [World.setCell] using this,?_,?_⟩,rfl,?_,?_,Fr.set (p:=(· = w.heap.size+1)) (Fr.ext G2.o) (x:=⟨w.heap.size+1,0,none⟩) rfl _⟩
    ·exact (Below.heap_setCell _ _ _ _ au).trans (H4.o.block _ Z)
    ·exact (Below.heap_setCell _ _ _ _ au).trans (H4.o.block _ Z)
    ·rw [ec.out,← HX.o,← HY.o,HE.o]
    ·rw [← HX.o,← HY.o,HE.o];have:=HR4.o.set 0 (.int .i64 (-1));simpa using this
   ·have e:iW x y=0:=by unfold iW;rw [if_neg Z,if_neg Z]
    have hdk:=kI (sJ HQ.o hk HD.o SD);rw [e];clear hc e;gi_wp2
    exact ⟨Kd.dM H4.o hlt,hdk.out,G2.o⟩
   ·have e:iW x y=1:=by unfold iW;rw [if_neg Z,if_pos hc]
    have ec:=kI (lU (kQ hlb hla HQ.o.symm (by have:=HQ.o;omega) HD.o.symm SD));rw [e];have HE:=kI e;clear e;gi_wp2
    refine ⟨⟨by have:=H4.o.size;simpa [World.setCell] using this,?_,?_⟩,rfl,?_,?_,Fr.set (p:=(· = w.heap.size+1)) (Fr.ext G2.o) (x:=⟨w.heap.size+1,0,none⟩) rfl _⟩
    ·exact (Below.heap_setCell _ _ _ _ au).trans (H4.o.block _ Z)
    ·exact (Below.heap_setCell _ _ _ _ au).trans (H4.o.block _ Z)
    ·rw [ec.out,← HX.o,← HY.o,HE.o]
    ·rw [← HX.o,← HY.o,HE.o];have:=HR4.o.set 0 (.int .i64 1);simpa using this
  case hdone=>
   rintro W ⟨h1,h2⟩ hD;have R:=SN.o.ext h2;have fR:=R.free;have lW:=R.lt;have cR:=R.cell;have HR:=kI R;have H2:=kI h2;have e2:=kI (show eP (nv la) (nv lb)=0 by rw [List.drop_zero,List.drop_zero] at h1;rw [h1];exact oC _);have HD:=kI hD;clear R h1 h2 hD;gi_wp2
   have Zm:(W.setCell ⟨w.heap.size+1,0,none⟩ (.int .i64 0)).heap[w3.heap.size]?=some (.deferred (some [])):=(Below.heap_setCell _ _ _ _ au).trans HD.o;have hBW:ag (W.setCell ⟨w.heap.size+1,0,none⟩ (.int .i64 0)) (w.heap.size+1) #[.int .i64 0] 3:=by have:=HR.o.set 0 (.int .i64 0);simpa using this
   have cV:=(hBW.kz (Kz.sI (m:=w3.heap.size) _ (.deferred none)) Z).cell;refine ⟨by simp,.inl ⟨_,_,rfl,run_takeDeferred Zm,?_⟩⟩;refine ⟨.int .i64 0,by (simp only [results,Tryz.results185];go_simp),by rw [e2.out],?_⟩;exact ((Nr.o.trans H2.o).set au _).kz (Kz.sI _ _) Z
  case hstop=>
   rintro c k W hk ⟨rfl,h1,h2,h3⟩ hD;obtain ⟨z,hz⟩:=gN (iW (la.getD k 0) (lb.getD k 0));rw [← hz] at h1 h2;clear hz;have cV:=(h2.kz (Kz.sI (m:=w3.heap.size) _ (.deferred none)) Z).cell;have H1:=kI h1;have H3:=kI h3;have HD:=kI hD;clear h1 h2 h3 hD;gi_wp2
   refine ⟨by simp,.inl ⟨_,_,rfl,run_takeDeferred HD.o,?_⟩⟩;refine ⟨.int .i64 z,by (simp only [results,Tryz.results185];go_simp),by rw [H1.o],?_⟩;exact (Nr.o.fr H3.o (fun i hi e=>by omega)).kz (Kz.sI _ _) Z
 ·have e1:iW la.length lb.length=1:=by unfold iW;rw [if_neg Z,if_pos hgt]
  have e2:=kI (lU (kP hlb hla za Z));rw [e1];have c1:=If.o.cell;have f1:=If.o.free;have l1:=If.o.lt;have HE:=kI e1;clear e1;gi_wp2_with fail;refine ⟨.int .i64 1,?_,by rw [e2.out],Rc.o.set au _⟩;simp only [results,Tryz.results185];go_simp
end
def bM (w w':World) (v:Value) (l:List Int):Prop:=∃ o,gI w' o v l∧∀ g,o=some g→w.heap.size≤g
theorem bM.rd {w w':World} {v:Value} {l:List Int} (h:bM w w' v l):bj .u32 w' v l:=by obtain ⟨o,h1,_⟩:=h;exact h1.uh
theorem bM.ext {w w' w2:World} {v:Value} {l:List Int} (h:bM w w' v l) (x:Ext w' w2):bM w w2 v l:=by obtain ⟨o,h1,h2⟩:=h;exact ⟨o,h1.ext x,h2⟩
theorem bM.from {w0 w w':World} {v:Value} {l:List Int} (h:bM w w' v l) (x:Ext w0 w):bM w0 w' v l:=by obtain ⟨o,h1,h2⟩:=h;exact ⟨o,h1,fun g hg=>Nat.le_trans x.size (h2 g hg)⟩
theorem bM.BC {w w':World} {v:Value} {l:List Int} (h:w'.ownsRow w.heap.size 157 1 v l.length (l.map (Value.int .u32))):bM w w' v l:=gI.own h
theorem bM.nil (w w':World):bM w w' (.slice none 0 0) []:=⟨none,.nil w',fun g h=>by cases h⟩
theorem oY (v1 v2:Value) (l1 l2:List Int) (w:World) (h1:bj .u32 w v1 l1) (h2:bj .u32 w v2 l2) :
  Calls Tryz.prog 165 #[v1,v2] w fun e w'=>e=.returned (.bool (decide (l1=l2)))∧Ext w w':=by
 obtain ⟨a1,c1,rfl,hc1,hm1,hr1⟩:=jZ h1;obtain ⟨a2,c2,rfl,hc2,hm2,hr2⟩:=jZ h2;clear h1 h2;by_cases hlen:l1.length=l2.length
 ·have H1:=kI hr1;clear hr1;have H2:=kI hr2;clear hr2;rw [← hlen];rw [← hlen] at H2 hc2;have HL:=kI hlen;clear hlen;go_enter Tryz.func165,Tryz.ntmps165
  go_wp2
  go_loopw [5] (fun i wr=>∃ k:Nat,k≤l1.length∧i=.int .i64 k∧l1.take k=l2.take k∧∃ n,wr=w.drewN n)
   (fun i _=>l1.length - (intOf i).toNat)
  case atStart=>exact ⟨0,Nat.zero_le _,rfl,rfl,0,rfl⟩
  case round=>
   obtain ⟨k,hk,rfl,htake,n,rfl⟩:=hrel;have HT:=kI htake;clear htake;by_cases hlt:k < l1.length
   ·obtain ⟨b1,o1,rfl,hb1,hx1⟩:=H1.o k hlt;obtain ⟨b2,o2,rfl,hb2,hx2⟩:=H2.o k hlt;go_wp2_with fail;go_quiet (fail)
    go_wp2
    ·have hne:(l1[k] != l2[k]?.getD 0)=true:=by assumption
     go_ret;refine ⟨cT ?_,((Ext.refl w).drewN _).drewN _⟩;rw [eq_comm,decide_eq_false_iff_not];rintro rfl;simp [hlt] at hne
    ·have he:(l1[k] != l2[k]?.getD 0)=false:=by assumption
     have hlt2:k < l2.length:=HL.o ▸ hlt;go_roundw
     case rel=>exact ⟨k+1,by omega,by go_num,iC HT.o hlt hlt2 SF,_,rfl⟩
     case measure=>simp [intOf];omega
   ·go_wp2
    go_ret;refine ⟨cT ?_,(Ext.refl w).drewN _⟩;have:=HT.o;rw [List.take_of_length_le Z,List.take_of_length_le Q5] at this;simp [this]
 ·have hb:(l1.length != l2.length)=true:=by simpa using hlen
  go_enter Tryz.func165,Tryz.ntmps165
  go_wp2
  go_ret;refine ⟨cT ?_,Ext.refl w⟩;rw [eq_comm,decide_eq_false_iff_not];rintro rfl;exact hlen rfl
theorem lX (v1 v2:Value) (l1 l2:List Int) (w:World) (h1:bj .u32 w v1 l1) (h2:bj .u32 w v2 l2) :
  Calls Tryz.prog 117 #[v1,v2] w fun e w'=>e=.returned (.bool (decide (l1=l2)))∧Ext w w':=by
 have H1:=kI h1;have H2:=kI h2;obtain ⟨a1,c1,rfl,hc1,hm1,hr1⟩:=jZ h1;obtain ⟨a2,c2,rfl,hc2,hm2,hr2⟩:=jZ h2;clear h1 h2 hr1 hr2;go_enter Tryz.func117,Tryz.ntmps117
 go_wp2_with fail;refine (oY _ _ l1 l2 _ H1.o H2.o).mono ?_;rintro e w1 ⟨rfl,hx1⟩;go_wp2
 go_ret;exact ⟨rfl,hx1⟩
abbrev Nt (w:World) (B:Nat) (v:Value) (l:List Int):Prop:=w.ownsRow B 157 1 v l.length (l.map (Value.int .u32))
theorem oZ {α β:Type} (f:α→β) (l:List α) (k:Nat) (h:k < l.length):(l.take (k+1)).map f=(l.take k).map f ++ [f l[k]]:=by
 rw [List.take_succ_eq_append_getElem h,List.map_append];rfl
theorem qJ (v1:Value) (l1:List Int) (w:World) (h1:bj .u32 w v1 l1) (hs:l1.length≤1000000000) :
  Calls Tryz.prog 170 #[v1] w fun e w'=>(∃ v,e=.returned v∧bM w w' v l1)∧Ext w w':=by
 obtain ⟨a1,c1,rfl,hc1,hm1,hr1⟩:=jZ h1;clear h1;have H1:=kI hr1;clear hr1;go_enter Tryz.func170,Tryz.ntmps170
 go_wp2
 go_loopw [3,4] (fun v i wr=>∃ k:Nat,k≤l1.length∧i=.int .i64 k∧Nt wr w.heap.size v (l1.take k)∧Ext w wr)
  (fun _ i _=>l1.length - (intOf i).toNat)
 case atStart=>exact ⟨0,Nat.zero_le _,rfl,World.ownsRow_nil _ _ _ _,Ext.refl w⟩
 case round=>
  obtain ⟨k,hk,rfl,hown,hext⟩:=hrel;by_cases hlt:k < l1.length
  ·obtain ⟨b1,o1,rfl,hb1,hx1⟩:=H1.o k hlt;have hx2:=(hext.cell (p:=⟨b1,o1+k,none⟩) hb1).trans hx1;clear hx1;have hz:=hext.size;have hl:=List.length_take_of_le (Nat.le_of_lt hlt);rw [Nt,hl] at hown;have HO:=kI hown;clear hown;have HE:=kI hext;clear hext;have HL:=kI hl;clear hl;go_wp2_with (at_builtin;(refine dv wr rfl _ _ 22 rfl w.heap.size 157 (.int .u32 0) 1 4 Tryz.underlying22 Tryz.rp rfl ap _ _ _ HO.o rfl [_] rfl mQ rfl Z Z hz ?_))
   intro g cap w1 hown1 hb1;have Nu:=kI hown1;clear hown1;have HB1:=kI hb1;clear hb1;go_wp2
   go_roundw
   case rel=>
    refine ⟨k+1,by omega,by go_num,?_,Below.trans HE.o HB1.o⟩;have:=Nu.o;rw [Nt,oZ _ _ _ hlt,List.length_take_of_le Z];simpa [hlt] using this
   case measure=>simp [intOf];omega
  ·rw [List.take_of_length_le Z] at hown;have HO:=kI (bM.BC hown);have HE:=kI hext;clear hown hext;go_wp2
   go_ret;exact ⟨⟨_,rfl,HO.o⟩,HE.o⟩
theorem nw (v1:Value) (l1:List Int) (w:World) (h1:bj .u32 w v1 l1) (hs:l1.length≤1000000000) :
  Calls Tryz.prog 124 #[v1] w fun e w'=>(∃ v,e=.returned v∧bM w w' v l1)∧Ext w w':=by
 have H1:=kI h1;obtain ⟨a1,c1,rfl,hc1,hm1,hr1⟩:=jZ h1;clear h1 hr1;go_enter Tryz.func124,Tryz.ntmps124
 go_wp2_with fail;refine (qJ _ l1 _ H1.o hs).mono ?_;rintro e w1 ⟨⟨v,rfl,ho⟩,hx1⟩;have HO:=kI ho;have HX:=kI hx1;clear hx1 ho;go_wp2
 go_ret;exact ⟨⟨_,rfl,HO.o⟩,HX.o⟩
end Go.Proofs.YtnnjbaijcaiohaaGreat
