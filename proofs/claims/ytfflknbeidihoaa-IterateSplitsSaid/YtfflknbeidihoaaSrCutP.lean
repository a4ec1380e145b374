/- Lemmas and walks of this claim. Conditions: as each states. -/
import Derived.Test.YtfflknbeidihoaaSrItO
import Derived.Test.YtfflknbeidihoaaSrUpR
import Derived.Test.YtfflknbeidihoaaSrScP
set_option linter.unusedVariables false
set_option linter.unusedSimpArgs false
namespace Go.Proofs.Ytfflknbeidihoaa
open Go.RowKit
theorem least_of {p:Nat→Prop} (n:Nat):p n→∃ i,p i∧∀ j,j < i→¬ p j:=by
 induction n using Nat.strongRecOn with
 | _ n ih=>
  intro h
  by_cases e:∃ j,j < n∧p j
  ·obtain ⟨j,hj,hp⟩:=e
   exact ih j hj hp
  ·exact ⟨n,h,fun j hj hp=>e ⟨j,hj,hp⟩⟩
section
variable {P:Program} {l:List Oper} {n:Nat} {Q:Exit→Act→World→Prop} {J:Nat→Value→World→Prop}
def eachFloatsB (l:List Oper) (n f c:Nat):Bool:=
 decide (n < l.length) && (decide (f+c≤n) && (Region.noSelect l.toArray && (headX .any l.toArray f c n && (Region.seqB .any l.toArray (l.length - n) n (headDone n l.length) && (eachB 0 (l.take n) [] &&
  ((List.range l.length).all fun i=>!(decide (f≤i) && decide (i < f+c)) || ((List.range l.length).all fun j=>(decide (j < n) && !(decide (f≤j) && decide (j < f+c))) || (decide (j=i) || match l[i]?,l[j]? with
   | some o,some oj=>o.guard.isNone && (o.apart l.toArray oj || oj.after.any fun e=>Region.binds .any e && e.on == i)
   | _,_=>false))))))))
theorem wpAny_eachG {a0:Act} {w:World} {g f c:Nat} (hn:n≤l.length) (hfn:f+c≤n) (hg9:∀ i o,f≤i→i < f+c→l[i]?=some o→o.guard=none) (hsel:Region.noSelect l.toArray=true) (hQ:∀ c (a:Act) d v w,Q (.panic c) (a.put d v) w→Q (.panic c) a w)
  (hB:eachB 0 (l.take n) []=true) (hR:∀ d ∈ fills (l.take n),d < a0.tmps.size) (hJ:∀ j v W W',J j v W→Ext W W'→J j v W') (hS:EachSteps P l n Q J a0 w 0 (l.take n))
  (hap:∀ i o,f≤i→i < f+c→l[i]?=some o→∀ j oj,l[j]?=some oj→j≠i→(n≤j∨(f≤j∧j < f+c))→(∀ e ∈ oj.after,Region.binds .any e=true→e.on≠i)→o.apart l.toArray oj=true)
  (hF:∀ i o,f≤i→i < f+c→l[i]?=some o→FloatStep P l n J a0 w i o)
  (hwait:∀ listed,HeadInv .any l.toArray n listed→∀ i,i < n→¬ (f≤i∧i < f+c)→listed.getD i true=false→∀ j ∈ Region.ready .any l.toArray listed,j < n)
  (hfin:∀ listed a W,EachInv l n J a0 w listed a W→(∀ j,j < n→listed.getD j false=true)→wpAny P .any l.toArray Q g listed a W):∀ (k:Nat) (listed:Array Bool) (a:Act) (W:World),(still n listed).length=k→EachInv l n J a0 w listed a W→wpAny P .any l.toArray Q (k+g) listed a W:=by
 intro k
 induction k with
 | zero=>
  intro listed a W hf inv
  rw [Nat.zero_add]
  refine hfin listed a W inv (none_still hn hB (by simpa using inv.head.size) fun j hj hm=>?_)
  have h1:=(mem_ready.1 hm).1
  have h3:j ∈ still n listed:=List.mem_filter.2 ⟨List.mem_range.2 hj,by rw [h1];rfl⟩
  rw [List.length_eq_zero_iff.1 hf] at h3
  cases h3
 | succ k ih=>
  intro listed a W hf inv
  rw [show k+1+g=(k+g)+1 by omega]
  by_cases hex:∃ i,i < n∧¬ (f≤i∧i < f+c)∧listed.getD i true=false
  ·obtain ⟨i,hi,hif,hiu⟩:=hex
   refine ⟨fun hr=>?_,fun j hj=>?_⟩
   ·exfalso
    have:=none_still hn hB (by simpa using inv.head.size) (fun j _ hm=>by rw [hr] at hm;cases hm) i hi
    rw [getD_both hiu] at this
    cases this
   ·have hjn:=hwait listed inv.head i hi hif hiu j hj
    obtain ⟨h1,o,h2,h3⟩:=mem_ready.1 hj
    have h2':l[j]?=some o:=by simpa using h2
    have hst:=EachSteps.get (l.take n) 0 hS j o (by rw [take_get hjn];exact h2')
    rw [Nat.zero_add] at hst
    refine wpOp_step h2 fun K' hK=>hst a W inv.ext inv.base (fun e oe d he hd hwt=>?_) K' fun v W' hx hv=>hK _ _ (ih _ _ _ ?_ (inv.step hB hR hJ hjn h2' hj hx hv))
    ·simp only [Bool.and_eq_true,decide_eq_true_eq] at hwt
     obtain ⟨eg,k1,k2,k3⟩:=of_waits (by simpa using hwt.1)
     exact inv.done e oe d (by rw [take_get hwt.2];exact he) hd (by rw [← k3];exact h3 eg k1 k2)
    ·have:=still_set hjn (by have:=inv.head.size;simp at this;omega) h1
     omega
  ·have hall:∀ i,i < n→¬ (f≤i∧i < f+c)→listed.getD i false=true:=fun i hi hif=>by
    refine Classical.byContradiction fun hc=>hex ⟨i,hi,hif,getD_in (by have:=inv.head.size;simp at this;omega) (by simpa using hc)⟩
   obtain ⟨i0,hi0⟩:∃ i,i < n∧listed.getD i true=false:=by
    have hne:still n listed≠[]:=fun e=>by rw [e] at hf;cases hf
    obtain ⟨i,hi⟩:=List.exists_mem_of_ne_nil _ hne
    obtain ⟨h1,h2⟩:=List.mem_filter.1 hi
    exact ⟨i,List.mem_range.1 h1,by simpa using h2⟩
   obtain ⟨i,⟨hi,hiu⟩,hmin0⟩:=least_of (p:=fun i=>i < n∧listed.getD i true=false) i0 hi0
   have hmin:∀ j,j < i→listed.getD j false=true:=fun j hj=>Classical.byContradiction fun hc=>hmin0 j hj ⟨by omega,getD_in (by have:=inv.head.size;simp at this;omega) (by simpa using hc)⟩
   obtain ⟨hf1,hf2⟩:f≤i∧i < f+c:=Classical.byContradiction fun hc=>by
    have:=hall i hi hc
    rw [getD_both hiu] at this
    cases this
   obtain ⟨o9,hof⟩:∃ o,l[i]?=some o:=⟨_,List.getElem?_eq_getElem (Nat.lt_of_lt_of_le hi hn)⟩
   have hwf:∀ e ∈ o9.after,Region.binds .any e=true→e.on < i:=fun e he hb=>(eachB_spec (l.take n) 0 [] hB).1 i o9 (by rw [take_get hi];exact hof) e.on (waits_of he hb) |> fun h=>by omega
   have hready:i ∈ Region.ready .any l.toArray listed:=mem_ready.2 ⟨hiu,o9,by simpa using hof,fun e he hb=>hmin e.on (hwf e he hb)⟩
   obtain ⟨v,hy,hv⟩:=hF i o9 hf1 hf2 hof a W inv.ext inv.base (fun e oe d he hd hwt=>by
    simp only [Bool.and_eq_true,decide_eq_true_eq] at hwt
    obtain ⟨eg,k1,k2,k3⟩:=of_waits (by simpa using hwt.1)
    have:=hwf eg k1 k2
    exact inv.done e oe d (by rw [take_get hwt.2];exact he) hd (by rw [← k3];exact hmin eg.on (by omega)))
   refine wpAny_first (oi:=o9) (v:=v) (by simpa using hof) (Region.noSelect_spec hsel) (fun c a w'=>hQ c a _ _ w') (k+g) listed a W (fun j oj hj hji hju hje=>?_) hready (.inl ⟨wanted_none (hg9 i o9 hf1 hf2 hof),hy⟩) (ih _ _ _ ?_ (inv.step hB hR hJ hi hof hready (Ext.refl _) hv))
   ·refine hap i o9 hf1 hf2 hof j oj (by simpa using hj) hji (Classical.byContradiction fun hnot=>?_) hje
    have hjn:j < n:=Nat.lt_of_not_le fun h=>hnot (.inl h)
    have:=hall j hjn (fun h=>hnot (.inr h))
    rw [getD_both hju] at this
    cases this
   ·have:=still_set hi (by have:=inv.head.size;simp at this;omega) hiu
    omega
theorem wp_region_each_floats {id:Nat} {a0:Act} {w:World} (n f c:Nat) (J:Nat→Value→World→Prop) (hm:P.follows .mixedOrders=true) (hT:eachFloatsB l n f c=true) (hR0:(fills (l.take n)).all (fun d=>decide (d < a0.tmps.size))=true) (hJ:∀ j v W W',J j v W→Ext W W'→J j v W')
  (hQ:∀ c (a:Act) d v w,Q (.panic c) (a.put d v) w→Q (.panic c) a w)
  (hS:EachSteps P l n Q J a0 w 0 (l.take n)) (hF:∀ i o,f≤i→i < f+c→l[i]?=some o→FloatStep P l n J a0 w i o) (hend:∀ W,Ext w W→Vals J W (fun a=>wpList P l.toArray Q (l.drop n) a W) 0 (l.take n) a0):(Code.region id l.toArray true).wp P Q a0 w:=by
 have hR:∀ d ∈ fills (l.take n),d < a0.tmps.size:=fun d hd=>by simpa using List.all_eq_true.1 hR0 d hd
 simp only [eachFloatsB,Bool.and_eq_true,decide_eq_true_eq] at hT
 obtain ⟨hn,hfn,hsel,hh,hq,hB,hap⟩:=hT
 have hap2:∀ i o,f≤i→i < f+c→l[i]?=some o→∀ j oj,l[j]?=some oj→j≠i→(n≤j∨(f≤j∧j < f+c))→o.guard=none∧((∀ e ∈ oj.after,Region.binds .any e=true→e.on≠i)→o.apart l.toArray oj=true):=fun i o hi1 hi2 ho j oj hj hji hnj=>by
  have hil:i < l.length:=(List.getElem?_eq_some_iff.1 ho).1
  have hjl:j < l.length:=(List.getElem?_eq_some_iff.1 hj).1
  have h1:=List.all_eq_true.1 hap i (List.mem_range.2 hil)
  simp only [Bool.or_eq_true,Bool.not_eq_true',Bool.and_eq_false_iff,decide_eq_false_iff_not] at h1
  rcases h1 with h1|h1
  ·omega
  have h1:=List.all_eq_true.1 h1 j (List.mem_range.2 hjl)
  simp only [ho,hj,Bool.or_eq_true,decide_eq_true_eq,Bool.and_eq_true,Bool.not_eq_true',Bool.and_eq_false_iff,decide_eq_false_iff_not] at h1
  rcases h1 with h1|h1|⟨h0,h1⟩
  ·omega
  ·omega
  ·refine ⟨by simpa using h0,fun hje=>?_⟩
   rcases h1 with h1|h1
   ·exact h1
   ·obtain ⟨e,he,h2⟩:=Array.any_eq_true'.1 h1
    simp only [Bool.and_eq_true,beq_iff_eq] at h2
    exact absurd h2.2 (hje e he h2.1)
 have hg9:∀ i o,f≤i→i < f+c→l[i]?=some o→o.guard=none:=fun i o h1 h2 h3=>(hap2 i o h1 h2 h3 n l[n] (List.getElem?_eq_getElem hn) (by omega) (.inl (Nat.le_refl _))).1
 have h:=wpAny_eachG (P:=P) (l:=l) (n:=n) (Q:=Q) (J:=J) (a0:=a0) (w:=w) (g:=l.length - n) (by omega) hfn hg9 hsel hQ hB hR hJ hS (fun i o h1 h2 h3 j oj hj hji hnj hje=>(hap2 i o h1 h2 h3 j oj hj hji hnj).2 hje) hF
  (fun listed hi i hin hif hun j hj=>Nat.lt_of_not_le fun hge=>head_waitsX hh hi (i:=i) (by simp [fixedB];omega) hin hun j hge hj)
  (fun listed a W inv hall=>by
   have he:=headDone_eq (l:=l) (by omega) (by simpa using inv.head.size) hall (fun t h1 h2=>inv.head.tail t h1 (by simpa using h2))
   subst he
   have:=wpAny_of_seq (md:=.any) (Q':=Q) (l.drop n) n (headDone n l.length) a W (fun j=>by simp [List.getElem?_drop]) (by rw [List.length_drop];exact hq) (inv.fin (G:=fun a=>wpList P l.toArray Q (l.drop n) a W) (by omega) hall (hend W inv.ext))
   rwa [List.length_drop] at this) n _ _ _ (still_start (by omega)) (EachInv.start a0 w)
 rw [show n+(l.length - n)=l.toArray.size by simp;omega] at h
 exact wp_region_any hm h
theorem wp_region_each_float2 {id:Nat} {a0:Act} {w:World} (n f f2:Nat) (J:Nat→Value→World→Prop) {o8 o9:Oper} (ho8:l[f]?=some o8) (ho9:l[f2]?=some o9) (hff:f2=f+1) (hm:P.follows .mixedOrders=true) (hT:eachFloatsB l n f 2=true) (hR0:(fills (l.take n)).all (fun d=>decide (d < a0.tmps.size))=true) (hJ:∀ j v W W',J j v W→Ext W W'→J j v W')
  (hQ:∀ c (a:Act) d v w,Q (.panic c) (a.put d v) w→Q (.panic c) a w)
  (hS:EachSteps P l n Q J a0 w 0 (l.take n)) (hF8:FloatStep P l n J a0 w f o8) (hF9:FloatStep P l n J a0 w f2 o9) (hend:∀ W,Ext w W→Vals J W (fun a=>wpList P l.toArray Q (l.drop n) a W) 0 (l.take n) a0):(Code.region id l.toArray true).wp P Q a0 w:=by
 subst hff
 refine wp_region_each_floats n f 2 J hm hT hR0 hJ hQ hS (fun i o h1 h2 h3=>?_) hend
 rcases (by omega:i=f∨i=f+1) with rfl|rfl
 ·rw [ho8] at h3;injection h3 with h3;subst h3;exact hF8
 ·rw [ho9] at h3;injection h3 with h3;subst h3;exact hF9
end
end Go.Proofs.Ytfflknbeidihoaa
namespace Go.Proofs.Ytfflknbeidihoaa
open Go.RowKit
theorem getD_tk {α:Type} {l:List α} {k i:Nat} (h:i < k) (d:α):(l.take k).getD i d=l.getD i d:=by
 rw [List.getD_eq_getElem?_getD,List.getD_eq_getElem?_getD,List.getElem?_take,if_pos h]
theorem getD_dr {α:Type} {l:List α} {k i:Nat} (d:α):(l.drop k).getD i d=l.getD (k+i) d:=by
 rw [List.getD_eq_getElem?_getD,List.getD_eq_getElem?_getD,List.getElem?_drop]
theorem RdGR.take {w:World} {a:Option Addr} {n c k:Nat} {g:List (List RR)} (h:RdGR w (.slice a n c) g) (hk:k≤g.length):RdGR w (.slice a k c) (g.take k):=by
 obtain ⟨a',cap',e,h1,h2,h3⟩:=h
 injection e with e1 e2 e3
 subst e1;subst e3
 have hl:(g.take k).length=k:=by rw [List.length_take];omega
 refine ⟨a,c,by rw [hl],by omega,h2,fun i hi=>?_⟩
 rw [hl] at hi
 obtain ⟨b,off,ai,ci,f1,f2,f3,f4⟩:=h3 i (by omega)
 rw [← getD_tk hi] at f3 f4
 exact ⟨b,off,ai,ci,f1,f2,f3,f4⟩
theorem RdGR.drop {w:World} {b off n c k:Nat} {g:List (List RR)} (h:RdGR w (.slice (some ⟨b,off,none⟩) n c) g) (hk:k≤g.length):RdGR w (.slice (some ⟨b,off+k,none⟩) (g.length - k) (c - k)) (g.drop k):=by
 obtain ⟨a',cap',e,h1,h2,h3⟩:=h
 injection e with e1 e2 e3
 subst e1;subst e3
 refine ⟨_,_,by rw [List.length_drop],by rw [List.length_drop];omega,by omega,fun i hi=>?_⟩
 rw [List.length_drop] at hi
 obtain ⟨b',off',ai,ci,f1,f2,f3,f4⟩:=h3 (k+i) (by omega)
 injection f1 with f1
 injection f1 with f1 f5 _
 subst f1;subst f5
 rw [← getD_dr] at f3 f4
 exact ⟨b,off+k,ai,ci,rfl,f2,by rw [Nat.add_assoc];exact f3,f4⟩
theorem RdPl.take {w:World} {a:Option Addr} {n c k:Nat} {g:List (List Int)} (h:RdPl w (.slice a n c) g) (hk:k≤g.length):RdPl w (.slice a k c) (g.take k):=by
 obtain ⟨a',cap',e,h1,h2,h3⟩:=h
 injection e with e1 e2 e3
 subst e1;subst e3
 have hl:(g.take k).length=k:=by rw [List.length_take];omega
 refine ⟨a,c,by rw [hl],by omega,h2,fun i hi=>?_⟩
 rw [hl] at hi
 obtain ⟨b,off,ai,ci,f1,f2,f3,f4⟩:=h3 i (by omega)
 rw [← getD_tk hi] at f3 f4
 exact ⟨b,off,ai,ci,f1,f2,f3,f4⟩
theorem RdPl.drop {w:World} {b off n c k:Nat} {g:List (List Int)} (h:RdPl w (.slice (some ⟨b,off,none⟩) n c) g) (hk:k≤g.length):RdPl w (.slice (some ⟨b,off+k,none⟩) (g.length - k) (c - k)) (g.drop k):=by
 obtain ⟨a',cap',e,h1,h2,h3⟩:=h
 injection e with e1 e2 e3
 subst e1;subst e3
 refine ⟨_,_,by rw [List.length_drop],by rw [List.length_drop];omega,by omega,fun i hi=>?_⟩
 rw [List.length_drop] at hi
 obtain ⟨b',off',ai,ci,f1,f2,f3,f4⟩:=h3 (k+i) (by omega)
 injection f1 with f1
 injection f1 with f1 f5 _
 subst f1;subst f5
 rw [← getD_dr] at f3 f4
 exact ⟨b,off+k,ai,ci,rfl,f2,by rw [Nat.add_assoc];exact f3,f4⟩
def ElRd (w:World) (h:List Value) (l:List Int):Prop:=∃ a c,h=[.slice a l.length c]∧RdI .i64 w (.slice a l.length c) l
theorem rdPl_of_el {B:Nat} {w:World} {v:Value} {g:List (List Int)} (h:OwRow 58 1 ElRd B w v g):RdPl w v g:=by
 obtain ⟨a,cap,hv,hc,hm,hr⟩:=OwRow.rdN h
 refine ⟨a,cap,hv,hc,hm,fun i hi=>?_⟩
 have hl:g[i]?=some (g.getD i []):=by rw [List.getD_eq_getElem?_getD,List.getElem?_eq_getElem hi];rfl
 obtain ⟨b,h,e1,_,e2,e3,e4,a1,c1,e5,e6⟩:=hr i _ hl
 subst e5
 refine ⟨b,0,a1,c1,e1,e2,?_,e6⟩
 have:=e4 0 (by omega)
 rw [Nat.mul_one,Nat.add_zero] at this
 rw [Nat.zero_add];exact this
theorem run_append_noneP {w:World} (ty:TypeId) (c:Nat) (v:Value) (n:Nat) (xs:List Value) (base:Nat) (hown:w.ownsRow base 58 1 v n xs) :
  (Builtin.append_ #[30,30] ty #[v,.slice none 0 c]).run Try.prog w=.ok v w:=by
 obtain ⟨i0,hi,hz0,hz1,hz2⟩:=info_parts Try.infoRowP
 rcases hown.2 with ⟨rfl,rfl⟩|⟨g,cap,cur,rfl,_,_,hnc,_⟩
 ·simp [Builtin.append_,run_underlying Try.underlying30,sizeOf,typeInfo,hi,Builtin.lenOf,Builtin.firstCells]
 ·simp [Builtin.append_,run_underlying Try.underlying30,sizeOf,typeInfo,hi,Builtin.lenOf,Builtin.firstCells,hnc,storeCells]
theorem run_append_pl (w0 W:World) (ty:TypeId) (v vx:Value) (p q:List (List Int))
  (hp:OwPl w0.heap.size W v p) (hq:RdPl w0 vx q) (hw:Ext w0 W) (hpn:p.length≤1000000) (hqn:q.length≤1000000) :
  ∃ v' w',(Builtin.append_ #[30,30] ty #[v,vx]).run Try.prog W=.ok v' w'∧RdPl w' v' (p ++ q)∧Ext w0 w':=by
 obtain ⟨hs0,h1,h2,h3,h4⟩:=hp
 obtain ⟨xa,xc,rfl,hc1,hm1,hrd⟩:=hq
 cases xa with
 | none=>
  have e:q=[]:=by
   cases q with
   | nil=>rfl
   | cons y ys=>obtain ⟨b,off,ai,ci,e,_⟩:=hrd 0 (by simp);cases e
  subst e
  refine ⟨v,W,run_append_noneP (w:=W) ty xc v p.length hs0.flatten w0.heap.size h1,?_,hw⟩
  rw [List.append_nil]
  exact OwPl.rdP ⟨hs0,h1,h2,h3,h4⟩
 | some ad=>
  obtain ⟨news,hnl,hnw⟩:=list_of (.slice none 0 0) q.length (fun i u=>∃ b off ai ci,ad=⟨b,off,none⟩∧b < w0.heap.size∧w0.cell? ⟨b,off+i,none⟩=some u∧u=.slice ai (q.getD i []).length ci∧RdI .i64 w0 (.slice ai (q.getD i []).length ci) (q.getD i [])) (fun i hi=>by
   obtain ⟨b,off,ai,ci,e1,e2,e3,e4⟩:=hrd i hi
   exact ⟨_,b,off,ai,ci,Option.some.inj e1,e2,e3,rfl,e4⟩)
  have hget:∀ j u,news[j]?=some u→j < q.length∧news.getD j (.slice none 0 0)=u:=fun j u hj=>by
   have h5:=(List.getElem?_eq_some_iff.1 hj).1
   exact ⟨by omega,by rw [List.getD_eq_getElem?_getD,hj];rfl⟩
  obtain ⟨i0,hi,hz0,hz1,hz2⟩:=info_parts Try.infoRowP
  have hfl:(news.map fun u=>[u]).flatten=news:=by
   clear hnl hnw hget
   induction news with
   | nil=>rfl
   | cons y ys ih=>rw [List.map_cons,List.flatten_cons,ih];rfl
  have c1:∀ j u,news[j]?=some u→W.cell? (ad.add j)=some u:=by
   intro j u hj
   obtain ⟨hjl,e⟩:=hget j u hj
   obtain ⟨b,off,ai,ci,rfl,e2,e3,_⟩:=hnw j hjl
   rw [e] at e3
   rw [Go.WideShapes.add_plain]
   exact (hw.cell (p:=⟨b,off+j,none⟩) e2).trans e3
  have c2:∀ u ∈ news,u.oneCell'=true:=by
   intro u hu
   obtain ⟨j,hj⟩:=List.mem_iff_getElem?.1 hu
   obtain ⟨hjl,e⟩:=hget j u hj
   obtain ⟨b,off,ai,ci,_,_,_,e4,_⟩:=hnw j hjl
   rw [e] at e4
   rw [e4];rfl
  obtain ⟨v',w',hrun,hown',hgrow,_⟩:=run_append_own (P:=Try.prog) W w0.heap.size 30 ty 58 i0 (.slice none 0 0) 1 24 Try.underlying30 hi hz0 hz1 hz2 rfl (by decide) v p.length hs0.flatten h1 ad q.length xc news (by omega) c1 c2 (by unfold maxLen;omega) (by omega) hw.size
  have hk:Keeps w0.heap.size 58 W w':=by
   refine ⟨⟨hgrow.os,hgrow.tape,hgrow.output,hgrow.size,fun i hi=>by omega⟩,fun i hi ho=>hgrow.block i hi ?_⟩
   intro heq
   rcases h1.2 with ⟨rfl,_⟩|⟨g,cap,cur,rfl,hb,hg,_⟩
   ·simp [Value.ownBlock] at heq
   ·simp [Value.ownBlock] at heq
    subst heq
    have hg2:Blk W i cur 58:=hg
    rcases ho with ho|⟨c2,u,h5,h6⟩
    ·omega
    ·unfold Blk at hg2 h5
     rw [hg2] at h5
     injection h5 with h5
     injection h5 with _ h7
     exact h6 h7.symm
  have hx2:Ext w0 w':=Below.trans hw (hk.below hw.size)
  refine ⟨v',w',hrun,rdPl_of_el (B:=w0.heap.size) ⟨hs0 ++ news.map (fun u=>[u]),?_,by simp [h2,hnl],?_,?_⟩,hx2⟩
  ·rw [List.flatten_append,hfl,List.length_append];exact hown'
  ·intro z hz
   rcases List.mem_append.1 hz with hz|hz
   ·exact h3 z hz
   ·obtain ⟨u,_,rfl⟩:=List.mem_map.1 hz;rfl
  ·intro i x0 hi0
   by_cases hlt:i < p.length
   ·rw [List.getElem?_append_left hlt] at hi0
    obtain ⟨z,e1,e2⟩:=h4 i x0 hi0
    obtain ⟨a1,c1,rfl,e3⟩:=ElPl.keeps (by decide) _ _ _ _ e2 hk
    exact ⟨_,by rw [List.getElem?_append_left (by omega)];exact e1,a1,c1,rfl,e3.rdIP⟩
   ·rw [List.getElem?_append_right (by omega)] at hi0
    have hil:=(List.getElem?_eq_some_iff.1 hi0).1
    obtain ⟨b,off,ai,ci,e1,e2,e3,e4,e5⟩:=hnw (i - p.length) hil
    have hq0:q.getD (i - p.length) []=x0:=by rw [List.getD_eq_getElem?_getD,hi0];rfl
    rw [hq0] at e4 e5
    refine ⟨[.slice ai x0.length ci],?_,ai,ci,rfl,e5.ext hx2⟩
    rw [List.getElem?_append_right (by omega),h2,List.getElem?_map]
    have hn9:news[i - p.length]?=some (.slice ai x0.length ci):=by
     rw [← e4,List.getD_eq_getElem?_getD,List.getElem?_eq_getElem (by omega)];rfl
    rw [hn9];rfl
end Go.Proofs.Ytfflknbeidihoaa
