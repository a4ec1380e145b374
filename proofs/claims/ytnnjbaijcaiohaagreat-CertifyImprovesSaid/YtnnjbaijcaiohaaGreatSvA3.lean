/- Walks and lemmas. -/
import Derived.Test.YtnnjbaijcaiohaaGreatSvA1
import Derived.Test.YtnnjbaijcaiohaaGreatSvA2
import Derived.Sort.LoopGhostIn
import Derived.Deep.LoopGhost
import Derived.WalkMore
set_option linter.unusedVariables false
set_option linter.unusedSimpArgs false
set_option maxRecDepth 100000
set_option maxHeartbeats 16000000
namespace Go.Proofs.YtnnjbaijcaiohaaGreat
open Go.RowKit
section
section
variable {P:Program} {n:Nat}
def iG (F:Fence):Prop:=F=Fence.wide∨∃ l,F=Fence.wide.inRound l
theorem iG.calls {F:Fence} (h:iG F) {m:Nat} {f:FuncId} {args:Array Value} {w:World} {R:Ending→World→Prop} (hc:Calls P f args w R):CallsIn F m P f args w R:=by
 rcases h with rfl|⟨l,rfl⟩
 ·exact callsIn_wide.2 hc
 ·exact CallsIn.inRound l (callsIn_wide.2 hc)
theorem iG.fn {F:Fence} (h:iG F) (f:FuncId):F.fn f:=by
 rcases h with rfl|⟨l,rfl⟩ <;> trivial
theorem iG.depth {F:Fence} (h:iG F):F.depth.isSome=true→1≤n:=by
 rcases h with rfl|⟨l,rfl⟩ <;> (intro h;cases h)
theorem gm (r:Option Nat) (ρ:Operand→Value) (o:Oper) (h:∀ c,o.op≠.defer c):o.semAt r ρ=execOp ρ o:=by
 unfold Oper.semAt;split
 ·rename_i c hc;exact absurd hc (h _)
 ·rfl
theorem xA {F:Fence} (hF:iG F) {ops:Array Oper} {C:World→Prop} {Q:Exit→Act→World→Prop} {i:Nat} {a:Act} {K:Act→Prop} {K':Act→World→Prop} {w:World} (hd:∀ (j:Nat) (o:Oper),ops[j]?=some o→∀ c,o.op≠.defer c)
  (hC:C w) (h:∀ a w',C w'→K a→K' a w') (hh:qOp P ops C i K a):wpOpIn F n P ops Q i K' a w:=by
 unfold qOp at hh;unfold wpOpIn;split
 ·rename_i ho;simp only [ho] at hh;exact h _ _ hC hh
 ·rename_i o ho;simp only [ho] at hh;split
  ·rename_i hw;simp only [hw,if_true] at hh;obtain ⟨v,h1,h2⟩:=hh;have h3:=h1 w hC;refine ⟨fun f _=>hF.fn f,?_⟩;rw [gm _ _ _ (hd i o ho)];unfold Oper.quietAt at h3;generalize (execOp a.eval o).run P w=r at h3
   cases r with
   | ok x w'=>
    cases x <;> simp only [Oper.quietUpon] at h3
    case value u=>obtain ⟨rfl,rfl⟩:=h3;exact h _ _ hC h2
    case skip=>obtain ⟨rfl,rfl⟩:=h3;exact h _ _ hC h2
    case enter f args=>
     obtain ⟨rfl,h4⟩:=h3;refine ⟨hF.depth,hF.calls (Calls.mono h4 ?_)⟩;rintro e w'' ⟨rfl,hw''⟩;exact h _ _ hw'' h2
   | halt x w'=>simp only [Oper.quietUpon] at h3
  ·rename_i hw;simp only [hw] at hh;exact ⟨fun f _=>hF.fn f,h _ _ hC hh⟩
theorem ji {F:Fence} (hF:iG F) {ops:Array Oper} {Q:Exit→Act→World→Prop} {i:Nat} {o:Oper} {v:Value} {a:Act} (hd:∀ c,o.op≠.defer c) (hi:ops[i]?=some o) (hy:Yields P ops o v a)
  {K:Act→World→Prop} {w:World} (h:K (a.put o.dst v) w):wpOpIn F n P ops Q i K a w:=by
 unfold Go.wpOpIn;simp only [hi];rcases hy with ⟨hw,hv⟩|⟨hw,rfl⟩
 ·simp only [hw,if_true,Oper.wpIn,gm _ _ _ hd,hv w,Oper.uponIn];exact ⟨fun f _=>hF.fn f,h⟩
 ·simp only [hw,Bool.false_eq_true,if_false];exact ⟨fun f _=>hF.fn f,h⟩
theorem uG {F:Fence} (hF:iG F) {ops:Array Oper} {Q:Exit→Act→World→Prop} {j:Nat} {oi oj:Oper} {v:Value} (hdj:∀ c,oj.op≠.defer c) (hj:ops[j]?=some oj) (hap:oi.apart ops oj=true)
  (hsi:∀ cs b,oi.op≠.select cs b) (hsj:∀ cs b,oj.op≠.select cs b)
  (hQ:∀ c a w,Q (.panic c) (a.put oi.dst v) w→Q (.panic c) a w) {K:Act→World→Prop} {a:Act} {w:World}
  (hy:Yields P ops oi v a) (h:wpOpIn F n P ops Q j K (a.put oi.dst v) w) :
  wpOpIn F n P ops Q j (fun a' w'=>Yields P ops oi v a'∧K (a'.put oi.dst v) w') a w:=by
 obtain ⟨h1,h2,h3⟩:=Oper.apart_spec hap;have keep:∀ (a:Act),Yields P ops oi v a→∀ u,Yields P ops oi v (a.put oj.dst u):=fun a hy u=>
  hy.of_same (execOp_put oi hsi a oj.dst u h3) (wanted_put oi a oj.dst u h3)
 have keepD:∀ d,Yields P ops oi v { a with defers:=d :: a.defers }:=fun d=>hy.of_same rfl rfl;unfold wpOpIn at *;simp only [hj] at *;rw [wanted_put oj a oi.dst v h1] at h;split
 ·rename_i hw;simp only [hw,if_true] at h;refine ⟨fun f _=>hF.fn f,?_⟩;have h:=h.2;rw [gm _ _ _ hdj,execOp_put oj hsj a oi.dst v h1] at h;rw [gm _ _ _ hdj];generalize (execOp a.eval oj).run P w=r at *
  cases r with
  | ok x w'=>
   cases x <;> simp only [Oper.uponIn] at h ⊢
   case value u=>exact ⟨keep a hy u,by rw [← Act.put_comm a v u h2];exact h⟩
   case skip=>exact ⟨keep a hy _,by rw [← Act.put_comm a v undef h2];exact h⟩
   case defer d=>
    refine ⟨keep _ (keepD d) _,?_⟩;rw [← Act.put_comm _ v undef h2,← Act.put_defers];exact h
   case enter f args=>
    refine ⟨h.1,CallsIn.mono h.2 fun e w'' he=>?_⟩;cases e with
    | returned u=>exact ⟨keep a hy u,by rw [← Act.put_comm a v u h2];exact he⟩
    | panicked c=>exact hQ _ _ _ he
    | outgrown=>exact he
   case row row args=>exact ⟨h.1,RowsIn.mono h.2 fun u w'' he=>⟨keep a hy u,by rw [← Act.put_comm a v u h2];exact he⟩⟩
   case round l f tmps assign body=>
    refine ⟨h.1,RoundIn.mono h.2 fun e w'' he=>?_⟩;cases e with
    | returned u=>exact ⟨keep a hy u,by rw [← Act.put_comm a v u h2];exact he⟩
    | panicked c=>exact hQ _ _ _ he
    | outgrown=>exact he
  | halt x w'=>
   cases x <;> simp only [Oper.uponIn] at h ⊢
   case panic u=>exact hQ _ _ _ h
 ·rename_i hw;simp only [hw] at h;exact ⟨fun f _=>hF.fn f,keep a hy _,by rw [← Act.put_comm a v undef h2];exact h.2⟩
theorem pj {F:Fence} (hF:iG F) {ops:Array Oper} {md:Region.Mode} {Q:Exit→Act→World→Prop} {i:Nat} {oi:Oper} {v:Value} (hd:∀ (j:Nat) (o:Oper),ops[j]?=some o→∀ c,o.op≠.defer c) (hi:ops[i]?=some oi)
  (hsel:∀ (j:Nat) (o:Oper) cs b,ops[j]?=some o→o.op≠.select cs b) (hQ:∀ c a w,Q (.panic c) (a.put oi.dst v) w→Q (.panic c) a w) :
  ∀ (fuel:Nat) (listed:Array Bool) (a:Act) (w:World),
   (∀ j oj,ops[j]?=some oj→j≠i→listed.getD j true=false→(∀ e ∈ oj.after,Region.binds md e=true→e.on≠i)→oi.apart ops oj=true)→
   i ∈ Region.ready md ops listed→Yields P ops oi v a→
   wpAnyIn F n P md ops Q fuel (listed.setIfInBounds i true) (a.put oi.dst v) w→wpAnyIn F n P md ops Q (fuel+1) listed a w:=by
 intro fuel;induction fuel with
 | zero=>
  intro listed a w _ hr hy H;refine ⟨fun h=>Ml,fun j hj=>?_⟩;by_cases hji:j=i
  ·subst hji;exact ji hF (hd _ _ hi) hi hy H
  ·have:=ready_mono hj hji;rw [H.1] at this;cases this
 | succ fuel ih=>
  intro listed a w hfree hr hy H;refine ⟨fun h=>Ml,fun j hj=>?_⟩;by_cases hji:j=i
  ·subst hji;exact ji hF (hd _ _ hi) hi hy H
  ·have h1:=H.2 j (ready_mono hj hji);obtain ⟨hjun,oj,hoj,hall⟩:=mem_ready.1 hj;have hnot:∀ e ∈ oj.after,Region.binds md e=true→e.on≠i:=fun e he hb heq=>by
    have h1:=hall e he hb;rw [heq,getD_both (mem_ready.1 hr).1] at h1;exact Bool.false_ne_true h1
   have h2:=uG hF (hd _ _ hoj) hoj (hfree j oj hoj hji hjun hnot) (fun cs b=>hsel i oi cs b hi) (fun cs b=>hsel j oj cs b hoj) hQ hy h1;refine wpOpIn_mono (fun a' w' h3=>ih (listed.setIfInBounds j true) a' w' (fun k ok hk hki hun hno=>?_) (ready_mono hr (Ne.symm hji)) h3.1 ?_) h2
   ·refine hfree k ok hk hki ?_ hno;by_cases hjk:j=k
    ·exact hjk ▸ hjun
    ·rwa [getD_set_ne true hjk] at hun
   ·rw [Array.setIfInBounds_comm _ _ hji];exact h3.2
theorem Fo {F:Fence} (hF:iG F) {ops:Array Oper} {md:Region.Mode} {C:World→Prop} {Q:Exit→Act→World→Prop} (hd:∀ (j:Nat) (o:Oper),ops[j]?=some o→∀ c,o.op≠.defer c) (hsel:Region.noSelect ops=true)
  (hQ:∀ c (a:Act) d v w,Q (.panic c) (a.put d v) w→Q (.panic c) a w):xd P md ops C (wpAnyIn F n P md ops Q) where
 all:=fun f listed a w hw hne h=>⟨fun h0=>absurd h0 hne,fun i hi=>xA hF hd hw (fun a' w' hw' h'=>h' w' hw') (h i hi)⟩
 first:=fun i oi v f listed a w hi hfree hr _ hy h=>pj hF hd hi (Region.noSelect_spec hsel) (fun c a w'=>hQ c a _ _ w') f listed a w hfree hr hy h
theorem jj {F:Fence} {ops:Array Oper} {md:Region.Mode} {Q':Exit→Act→World→Prop}:∀ (l:List Oper) (k:Nat) (listed:Array Bool) (a:Act) (w:World),(∀ j,l[j]?=ops[k+j]?)→
  Region.seqB md ops l.length k listed=true→wpListIn F n P ops Q' l a w→wpAnyIn F n P md ops Q' l.length listed a w
 | [],_,_,_,_,_,hB,h=>⟨by simpa [Region.seqB] using hB,h⟩
 | o :: l,k,listed,a,w,hl,hB,h=>by
  have h0:ops[k]?=some o:=by simpa using (hl 0).symm
  simp only [List.length_cons,Region.seqB,Bool.and_eq_true,decide_eq_true_eq] at hB;refine ⟨fun h1=>(by rw [hB.1] at h1;cases h1),fun i hi=>?_⟩;rw [hB.1] at hi;have hik:i=k:=by simpa using hi
  subst hik;have hw:wpOpIn F n P ops Q' i (wpListIn F n P ops Q' l) a w:=by unfold wpOpIn;simp only [h0];exact h
  exact wpOpIn_mono (fun a' w' h'=>jj l (i+1) _ a' w' (fun j=>by have:=hl (j+1);simpa [Nat.add_assoc,Nat.add_comm 1 j] using this) hB.2 h') hw
def zS (l:List Oper):Bool:=l.all fun o=>match o.op with|.defer _=>false|_=>true
theorem mT {l:List Oper} (h:zS l=true) (j:Nat) (o:Oper) (ho:l.toArray[j]?=some o):∀ c,o.op≠.defer c:=by
 intro c heq;have hm:o ∈ l:=List.mem_of_getElem? (by simpa using ho);have:=List.all_eq_true.1 h o hm;simp [heq] at this
theorem mU {F:Fence} (hF:iG F) {id:Nat} {Q:Exit→Act→World→Prop} {a:Act} {w:World} {l:List Oper} (n' m k:Nat) (hm:P.follows .mixedOrders=true) (hd:zS l=true)
  (hB:(Region.noSelect l.toArray && (lS .any l.toArray n' m (n'+m+k) && (decide (n'+m+k≤l.length) && (Region.lexHead .any l.toArray (l.length - (n'+m+k)) (n'+m+k) 0 (Array.replicate l.length false) && ((l.drop n').take m).all fun o=>hM o.op))))=true)
  (hQ:∀ c (a:Act) d v w,Q (.panic c) (a.put d v) w→Q (.panic c) a w)
  (h:wpQuiet P l.toArray (fun w'=>∃ y:Later w,w'=y.at') (fun a0=>wpQuiet P l.toArray (fun _=>True) (fun a1=>wpQuiet P l.toArray (fun w'=>∃ y:Later w,w'=y.at') (fun a'=>∀ w',(∃ y:Later w,w'=y.at')→wpListIn F n P l.toArray Q (l.drop (n'+m+k)) a' w') ((l.drop (n'+m)).take k) a1) ((l.drop n').take m) a0) (l.take n') a) :
  (Code.region id l.toArray true).wpIn F n P Q a w:=by
 have R:=yG (C:=fun w'=>∃ y:Later w,w'=y.at') (w:=w.drew) (T:=fun a' w'=>wpListIn F n P l.toArray Q (l.drop (n'+m+k)) a' w') n' m k (Fo (n:=n) hF (mT hd) (uz hB) hQ) hB ⟨⟨w.drew,(Ext.refl w).drew⟩,rfl⟩
  (fun listed a w hs h=>by
   have:=jj (F:=F) (n:=n) (md:=.any) (Q':=Q) (P:=P) (ops:=l.toArray) (l.drop (n'+m+k)) (n'+m+k) listed a w (fun j=>by simp [List.getElem?_drop]) (by rw [List.length_drop];exact hs) h;rwa [List.length_drop] at this) h
 exact wpIn_region_any hm (by simpa using R)
def Marks (B:Nat) (ds:List Deferred) (W:World):Prop:=
 ∃ rs:List Nat,ds=rs.map (fun r=>{ target:=.collected r,args:=#[] })∧rs.Nodup∧∀ r ∈ rs,B < r∧W.heap[r]?=some (.deferred (some []))
theorem Marks.nil (B:Nat) (W:World):Marks B [] W:=⟨[],rfl,List.nodup_nil,fun r h=>by cases h⟩
theorem Marks.fr {B:Nat} {ds:List Deferred} {W W':World} (h:Marks B ds W) (e:∀ i,i < W.heap.size→B < i→W'.heap[i]?=W.heap[i]?):Marks B ds W':=by
 obtain ⟨rs,h1,h2,h3⟩:=h;exact ⟨rs,h1,h2,fun r hr=>⟨(h3 r hr).1,(e r (Array.getElem?_eq_some_iff.1 (h3 r hr).2).1 (h3 r hr).1).trans (h3 r hr).2⟩⟩
theorem Marks.cons {B m:Nat} {ds:List Deferred} {W W0:World} (h:Marks B ds W) (h0:Marks B ds W0) (hm:W0.heap.size≤m) (hB:B < m) (hD:W.heap[m]?=some (.deferred (some []))):Marks B ({ target:=.collected m,args:=#[] } :: ds) W:=by
 obtain ⟨rs,h1,h2,h3⟩:=h;obtain ⟨Wt,g1,g2,g3⟩:=h0;have e:Wt=rs:=by
  have:=g1.symm.trans h1;have inj:Function.Injective (fun r:Nat=>({ target:=.collected r,args:=#[] }:Deferred)):=fun a b h=>by injection h with h;injection h
  exact (List.map_inj_right (fun a b h=>inj h)).1 this
 subst e;refine ⟨m :: Wt,by rw [h1];rfl,List.nodup_cons.2 ⟨fun hm'=>?_,h2⟩,fun r hr=>?_⟩
 ·have:=(Array.getElem?_eq_some_iff.1 (g3 m hm').2).1;omega
 ·rcases List.mem_cons.1 hr with rfl|hr
  ·exact ⟨hB,hD⟩
  ·exact h3 r hr
theorem sS {F:Fence} {fn:Func} {tmps:Array Value} {R:Ending→World→Prop} {B:Nat}:∀ (rs:List Nat) (W:World),rs.Nodup→(∀ r ∈ rs,B < r∧W.heap[r]?=some (.deferred (some [])))→
  (∀ W',Below (B+1) W W'→LeavesInM F n P fn tmps R [] .returning W')→LeavesInM F n P fn tmps R (rs.map (fun r=>{ target:=.collected r,args:=#[] })) .returning W:=by
 intro rs;induction rs with
 | nil=>intro W _ _ h;exact h W (Below.refl _ _)
 | cons r rs ih=>
  intro W hn hm h;obtain ⟨hr,hk⟩:=hm r cp;refine ⟨by simp,.inl ⟨r,_,rfl,run_takeDeferred hk,?_⟩⟩;have hb:Below (B+1) W (W.putObj r (.deferred none)):=⟨rfl,rfl,rfl,by simp,fun i hi=>World.putObj_heap_other Z⟩;refine ih _ (List.nodup_cons.1 hn).2 (fun r' hr'=>⟨(hm r' (by simp [hr'])).1,?_⟩) (fun W' hb'=>h W' (hb.trans hb'));have hne:r'≠r:=fun e=>by subst e;exact (List.nodup_cons.1 hn).1 hr'
  exact (World.putObj_heap_other hne).trans (hm r' (by simp [hr'])).2
theorem Marks.leaves {F:Fence} {fn:Func} {tmps:Array Value} {R:Ending→World→Prop} {B:Nat} {ds:List Deferred} {W:World} (h:Marks B ds W)
  (hr:∀ W',Below (B+1) W W'→LeavesInM F n P fn tmps R [] .returning W'):LeavesInM F n P fn tmps R ds .returning W:=by
 obtain ⟨rs,rfl,h2,h3⟩:=h;exact sS rs W h2 h3 hr
end
end
section
open Go.RowKit Go.Shelf
attribute [local go_sem] Oper.semAt_some
def Cc (w3:World) (la lb:List Int) (vb:Value) (H g m k:Nat) (W:World):Prop:=
 ∃ (lq:List Int) (vr:Value),lq.length=la.length∧br lq∧nv lq=nv la / 2 ^ k / nv lb*2 ^ k∧bm W g la.length lq∧
  ag W (H+1+1) #[vr] 23∧bZ W (m+2) vr (lim (nv la / 2 ^ k % nv lb))∧ag W H #[vb] 23∧ag W (H+1) #[.slice (some ⟨g,0,none⟩) la.length la.length] 23∧
  (∀ i,i < m→i≠g→i≠H+1+1→W.heap[i]?=w3.heap[i]?)∧Below 0 w3 W
theorem Cc.kz {w3:World} {la lb:List Int} {vb:Value} {H g m k:Nat} {A B:World} (h:Cc w3 la lb vb H g m k A) (z:Kz m A B) (hH:H+1+1 < m) (hg:g < m) (hm:w3.heap.size=m):Cc w3 la lb vb H g m k B:=by
 obtain ⟨lq,vr,h1,h2,h3,h4,h5,h6,h7,h8,h9,h10⟩:=h;exact ⟨lq,vr,h1,h2,h3,h4.kz z (.inl hg),h5.kz z (.inl hH),h6.kz z Z,h7.kz z (.inl Z),h8.kz z (.inl Z),
  fun i hi h1 h2=>(z.block i (by have:=h10.size;omega) (.inl hi)).trans (h9 i hi h1 h2),h10.trans z.zero⟩
structure Bp (w3:World) (vb:Value) (H g m n:Nat) (lq:List Int) (vr:Value) (W0 W:World):Prop where
 row:bm W g n lq
 r:ag W (H+1+1) #[vr] 23
 b:ag W H #[vb] 23
 q:ag W (H+1) #[.slice (some ⟨g,0,none⟩) n n] 23
 frame:∀ i,i < m→i≠g→i≠H+1+1→W.heap[i]?=w3.heap[i]?
 zero:Below 0 w3 W
 keep:Kd m W0 W
 lt:m+1 < W.heap.size
theorem Bp.below {w3:World} {vb:Value} {H g m n:Nat} {lq:List Int} {vr:Value} {W0 A B:World} (h:Bp w3 vb H g m n lq vr W0 A) (x:Below (m+2) A B) (hH:H+1+1 < m) (hg:g < m):Bp w3 vb H g m n lq vr W0 B:=by
 have e:∀ i,i < m+2→B.heap[i]?=A.heap[i]?:=x.block;obtain ⟨cur,hb,hs,ht⟩:=h.row.blk;exact ⟨⟨⟨cur,(e g Z).trans hb,hs,ht⟩,h.row.le,h.row.most⟩,(e _ Z).trans h.r,(e _ Z).trans h.b,(e _ Z).trans h.q,
  fun i hi h1 h2=>(e i Z).trans (h.frame i hi h1 h2),h.zero.trans (x.mono (Nat.zero_le _)),⟨Nat.le_trans h.keep.1 x.size,(e m Z).trans h.keep.2.1,(e (m+1) Z).trans h.keep.2.2⟩,Nat.lt_of_lt_of_le h.lt x.size⟩
theorem Bp.NG {w3:World} {vb:Value} {H g m n:Nat} {lq:List Int} {vr:Value} {W0 A:World} (h:Bp w3 vb H g m n lq vr W0 A) (v:Value) (hH:H+1+1 < m) (hg:g≠H+1+1):Bp w3 vb H g m n lq v W0 (A.setCell ⟨H+1+1,0,none⟩ v):=by
 have e:∀ i,i≠H+1+1→(A.setCell ⟨H+1+1,0,none⟩ v).heap[i]?=A.heap[i]?:=fun i hi=>Below.heap_setCell _ _ _ _ hi;exact ⟨h.row.setOther au v,by have:=h.r.set 0 v;simpa using this,(e _ Z).trans h.b,(e _ Z).trans h.q,
  fun i hi h1 h2=>(e i h2).trans (h.frame i hi h1 h2),h.zero.setCell (Nat.zero_le _) v,⟨by have:=h.keep.1;simpa [World.setCell] using this,(e m Z).trans h.keep.2.1,(e (m+1) Z).trans h.keep.2.2⟩,by have:=h.lt;simpa [World.setCell] using this⟩
theorem Bp.SU {w3:World} {vb:Value} {H g m n:Nat} {lq:List Int} {vr:Value} {W0 A:World} (h:Bp w3 vb H g m n lq vr W0 A) (j:Nat) (x:Int) (hj:j < lq.length) (hg:g < m) (h1:g≠H+1+1) (h2:g≠H) (h3:g≠H+1):Bp w3 vb H g m n (lq.set j x) vr W0 (A.setCell ⟨g,j,none⟩ (.int .u32 x)):=by
 have e:∀ i,i≠g→(A.setCell ⟨g,j,none⟩ (.int .u32 x)).heap[i]?=A.heap[i]?:=fun i hi=>Below.heap_setCell _ _ _ _ hi;exact ⟨h.row.set j x hj,(e _ (Ne.symm h1)).trans h.r,(e _ (Ne.symm h2)).trans h.b,(e _ (Ne.symm h3)).trans h.q,
  fun i hi h1 h2=>(e i h1).trans (h.frame i hi h1 h2),h.zero.setCell (Nat.zero_le _) _,⟨by have:=h.keep.1;simpa [World.setCell] using this,(e m Z).trans h.keep.2.1,(e (m+1) Z).trans h.keep.2.2⟩,by have:=h.lt;simpa [World.setCell] using this⟩
theorem Bp.rd {w w3:World} {vb:Value} {H g m n:Nat} {lq:List Int} {vr:Value} {W0 W:World} (h:Bp w3 vb H g m n lq vr W0 W) {v:Value} {l:List Int} (hv:bj .u32 w v l) (hx:Ext w w3) (hm:w.heap.size≤m) (hg:w.heap.size≤g) (hH:w.heap.size≤H):bj .u32 W v l:=by
 obtain ⟨a,cap,rfl,h1,h2,h3⟩:=jZ hv;refine no.to (p:=fun _=>True) ⟨a,cap,rfl,h1,h2,fun i hi=>?_⟩;obtain ⟨b,off,e1,e2,e3⟩:=h3 i hi;refine ⟨b,off,e1,trivial,Nat.lt_of_lt_of_le (Nat.lt_of_lt_of_le e2 hx.size) h.zero.size,?_⟩;rw [← e3,← hx.cell (p:=⟨b,off+i,none⟩) e2];exact World.cell?_of_block (h.frame b Z Z Z)
theorem bZ.aB {A:World} {B:Nat} {v:Value} {l:List Int} (h:bZ A B v l) {p:Addr} (hp:p.block < B) (u:Value):bZ (A.setCell p u) B v l:=by
 obtain ⟨o,h1,h2⟩:=h;refine ⟨o,?_,h2⟩;rcases h1 with h|⟨g,cap,ho,hv,hr⟩
 ·exact .inl h
 ·exact .inr ⟨g,cap,ho,hv,hr.setOther (by have:=h2 g ho;omega) u⟩
theorem NH (q p:Nat):q*(p*2)=2*q*p:=by rw [Nat.mul_comm p 2,← Nat.mul_assoc,Nat.mul_comm q 2]
theorem yJ {x y:Nat}:decide (0≤eP x y)=decide (y≤x):=by
 rcases Nat.lt_trichotomy x y with h|h|h
 ·rw [kb h];have:¬ y≤x:=Z
  simp [this]
 ·subst h;rw [oC];simp
 ·rw [lU h];have:y≤x:=Z
  simp [this]
def NI (w3:World) (la lb:List Int) (vb:Value) (H g m Bx:Nat) (a:Option Addr) (cap:Nat) (k:Nat) (x:Int) (a1:Act) (W:World):Prop:=
 Cc w3 la lb vb H g m (k+1) W∧x=sR (nv la) k∧m+1 < W.heap.size∧∃ t0 t1 t2 t8 t9 t10 t11 t12 t13 t14 t15 t16 t17 rC t19 t20 t21 t22 t23 t24 t25 t26 t27 t28 t29 t30 t31 t32 t33 t34 t35 t36 t37:Value,
  a1={ tmps:=#[t0,t1,t2,.pointer (some ⟨H,0,none⟩),.pointer (some ⟨H+1,0,none⟩),.pointer (some ⟨H+1+1,0,none⟩),.int .i64 k,.int .u32 x,t8,t9,t10,t11,t12,t13,t14,t15,t16,t17,rC,t19,t20,t21,t22,t23,t24,t25,t26,t27,t28,t29,t30,t31,t32,t33,t34,t35,t36,t37],defers:=[] }
theorem xB (va vb:Value) (la lb:List Int) (w:World) (ha:bj .u32 w va la) (hb:bj .u32 w vb lb) (hla:br la) (hlb:br lb) (za:cL la) (zb:cL lb) (hs:la.length≤10000) (hs2:lb.length≤10000) (hpos:0 < nv lb) :
  Calls Tryz.prog 205 #[va,vb] w fun e w'=>(∃ v1 v2,e=.returned (.tuple #[v1,v2])∧bM w w' v1 (lim (nv la / nv lb))∧bM w w' v2 (lim (nv la % nv lb)))∧Ext w w':=by
 have HA:=kI ha;have HB:=kI hb;obtain ⟨aa,ca,rfl,hca,hma,hra⟩:=jZ ha;obtain ⟨ab,cb,rfl,hcb,hmb,hrb⟩:=jZ hb;have Ih:=kI hla;have zJ:=kI hlb;have Zt:=kI za;have SV:=kI zb;clear ha hb hra hrb hla hlb za zb;have b0:ag (((w.alloc (.cells #[.slice ab lb.length cb] 23)).alloc (.cells #[.slice none 0 0] 23)).alloc (.cells #[.slice none 0 0] 23)) w.heap.size #[.slice ab lb.length cb] 23:=((ag.new w _ _).alloc _).alloc _;have b1:ag (((w.alloc (.cells #[.slice ab lb.length cb] 23)).alloc (.cells #[.slice none 0 0] 23)).alloc (.cells #[.slice none 0 0] 23)) (w.heap.size+1) #[.slice none 0 0] 23:=by
  have:=(ag.new (w.alloc (.cells #[.slice ab lb.length cb] 23)) #[.slice none 0 0] 23).alloc (.cells #[.slice none 0 0] 23);rwa [World.size_alloc] at this
 have b2:ag (((w.alloc (.cells #[.slice ab lb.length cb] 23)).alloc (.cells #[.slice none 0 0] 23)).alloc (.cells #[.slice none 0 0] 23)) (w.heap.size+1+1) #[.slice none 0 0] 23:=by
  have:=ag.new ((w.alloc (.cells #[.slice ab lb.length cb] 23)).alloc (.cells #[.slice none 0 0] 23)) #[.slice none 0 0] 23;rwa [World.size_alloc,World.size_alloc] at this
 have hx0:Ext w (((w.alloc (.cells #[.slice ab lb.length cb] 23)).alloc (.cells #[.slice none 0 0] 23)).alloc (.cells #[.slice none 0 0] 23)):=(((Ext.refl w).alloc _).alloc _).alloc _;have hsz:(((w.alloc (.cells #[.slice ab lb.length cb] 23)).alloc (.cells #[.slice none 0 0] 23)).alloc (.cells #[.slice none 0 0] 23)).heap.size=w.heap.size+1+1+1:=by simp
 have Wu:=kI b0;have Nq:=kI b1;have Wv:=kI b2;have GX:=kI hx0;have GS:=kI hsz;clear b0 b1 b2 hx0 hsz;refine (callsIn_wide (n:=8)).1 ?_;refine callsIn_of_wp_marks Tryz.func205 rfl trivial ?_ rfl;simp only [Tryz.ntmps205,List.size_toArray,List.length_cons,List.length_nil,Nat.reduceAdd,Nat.reduceSub,Array.replicate_succ,Array.replicate_zero,List.push_toArray,List.append_toArray,List.nil_append,List.cons_append];gi_wp2_with (with_reducible refine nX rfl _ _ rfl _ _ la.length rfl rfl rfl rfl Z ?_)
 intro w2 hrow2 hx2 hsz2;have hz3:=kI (GX.o.trans hx2);have B0:=Wu.o.ext hx2;have B1:=Nq.o.ext hx2;have B2:=Wv.o.ext hx2;have c1:=B1.cell;have f1:=B1.free;have l1:=B1.lt;have K0:=kI (B0.setOther (a:=⟨w.heap.size+1,0,none⟩) au (.slice (some ⟨w.heap.size+1+1+1,0,none⟩) la.length la.length));have K1:=kI (B1.set 0 (.slice (some ⟨w.heap.size+1+1+1,0,none⟩) la.length la.length));have K2:=kI (B2.setOther (a:=⟨w.heap.size+1,0,none⟩) au (.slice (some ⟨w.heap.size+1+1+1,0,none⟩) la.length la.length));have KR:=kI (hrow2.setOther (x:=⟨w.heap.size+1,0,none⟩) au (.slice (some ⟨w.heap.size+1+1+1,0,none⟩) la.length la.length));have KX:=kI (hz3.out.set (p:=⟨w.heap.size+1,0,none⟩) au (.slice (some ⟨w.heap.size+1+1+1,0,none⟩) la.length la.length));have KS:=kI hsz2;clear B0 B1 B2 hrow2 hx2 hsz2 hz3 Wu Nq Wv GX GS;gi_wp2_with fail;refine ⟨trivial,(callsIn_wide.2 (xy aa la.length ca _)).mono ?_⟩;rintro e w3 ⟨rfl,hw3⟩;have hzs:(w2.setCell ⟨w.heap.size+1,0,none⟩ (.slice (some ⟨w.heap.size+1+1+1,0,none⟩) la.length la.length)).heap.size=w2.heap.size:=by simp [World.setCell]
 have hx3:Ext (w2.setCell ⟨w.heap.size+1,0,none⟩ (.slice (some ⟨w.heap.size+1+1+1,0,none⟩) la.length la.length)) w3:=by rw [hw3];exact (Ext.refl _).alloc _
 have hBx:ag w3 (w2.heap.size) #[.slice aa la.length ca] 23:=by rw [hw3,← hzs];exact ag.new _ _ _
 have hX:w.heap.size+1+1+1 < w2.heap.size:=by rw [KS.o];omega
 have Wp:w2.heap.size < w3.heap.size:=by rw [hw3];simp only [World.size_alloc];rw [hzs];omega
 have L0:=kI (K0.o.ext hx3);have L1:=kI (show ag w3 (w.heap.size+1) #[.slice (some ⟨w.heap.size+1+1+1,0,none⟩) la.length la.length] 23 by have:=K1.o.ext hx3;simpa using this);have L2:=kI (K2.o.ext hx3);have LR:=kI (KR.o.ext hx3);have LX:=kI (KX.o.trans hx3);have LB:=kI hBx;clear K0 K1 K2 KR KX KS hw3 hzs hx3 hBx c1 f1 l1;gi_wp2_with fail;have hA3:=kI (HA.o.ext LX.o);have hseq:∀ W1,Ext w3 W1→ka Fence.wide 7 Tryz.prog 212 #[.pointer (some ⟨w2.heap.size,0,none⟩)] (dy (nv la)) (fun k (x:Int)=>#[.int .i64 k,.int .u32 x]) (Ny (w2.heap.size) aa ca la) (w3.heap.size+1) W1:=
  fun W1 hx=>uF 7 Z aa ca (w2.heap.size) _ la W1 (by have:=(LB.o.ext hx).cell 0;simpa using this) hca hma (by have:=hx.size;omega) (hA3.out.ext hx) Ih.o Zt.o Z
 refine fu rfl Z (gf:=212) (lb:=#[.pointer (some ⟨w2.heap.size,0,none⟩)]) rfl trivial (enters_of Tryz.func212 ax rfl) (dy (nv la)) hseq (fun _ _=>rfl)
  (fun k W=>Cc w3 la lb (.slice ab lb.length cb) w.heap.size (w.heap.size+1+1+1) w3.heap.size k W)
  (fun c k W=>False)
  (fun k A B h z=>h.kz z Z Z rfl)
  (fun c k A B h z=>h)
  ?IX ?h0
  (NI w3 la lb (.slice ab lb.length cb) w.heap.size (w.heap.size+1+1+1) w3.heap.size (w2.heap.size) aa ca) ?hAx ?hassign ?hbody ?hdone ?hstop
 case IX=>
  rintro k W hk ⟨lq,vr,h1,h2,h3,h4,h5,h6,h7,h8,h9,h10⟩;refine ⟨_,?_,?_,rfl⟩
  ·have hb:ag W (w2.heap.size) #[.slice aa la.length ca] 23:=(h9 _ Z Z Z).trans LB.o;have:=hb.cell 0;simpa using this
  ·intro i hi;obtain ⟨b,off,rfl,hbl,hc⟩:=sM HA.o i hi;refine ⟨b,off,rfl,by have:=h10.size;omega,?_⟩;rw [← hc,← LX.o.cell (p:=⟨b,off+i,none⟩) hbl];exact World.cell?_of_block (h9 b Z Z Z)
 case h0=>
  have hz:nv la / 2 ^ dy (nv la)=0:=Nat.div_eq_of_lt (dZ.1 (Nat.le_refl _));refine ⟨List.replicate la.length 0,.slice none 0 0,by simp,jY _,by rw [lP,hz];simp,LR.o,L2.o,by rw [hz,Nat.zero_mod];exact bZ.nil _ _,L0.o,L1.o,fun _ _ _ _=>rfl,Below.refl _ _⟩
 case hAx=>
  rintro k y a1 A B ⟨h1,h2,h3,h4⟩ z;exact ⟨h1.kz z Z Z rfl,h2,by have:=z.size;omega,h4⟩
 case hassign=>
  rintro ll k y W K hk h1 ⟨_,_,h2⟩ hlt hK;have H2:=kI h2;clear h2;gi_wp2
  refine hK _ _ (Ext.refl W) ⟨h1,H2.o,hlt,_,_,_,_,_,_,_,_,_,_,_,_,_,_,_,_,_,_,_,_,_,_,_,_,_,_,_,_,_,_,_,_,_,rfl⟩
 case hbody=>
  rintro ll k x a1 W hk ⟨⟨lq,vr,h1,h2,h3,h4,h5,h6,h7,h8,h9,h10⟩,hxe,hltW,t0,t1,t2,t8,t9,t10,t11,t12,t13,t14,t15,t16,t17,rC,t19,t20,t21,t22,t23,t24,t25,t26,t27,t28,t29,t30,t31,t32,t33,t34,t35,t36,t37,rfl⟩ _;obtain ⟨ar,cr,rfl⟩:=h6.shape;have hbit:sR (nv la) k < 2:=Nat.mod_lt _ Z;have hx2:0≤x∧x≤1:=Z
  have hxn:x.toNat=sR (nv la) k:=Z
  have hsr:=Fm (nv la) k;obtain ⟨A,hA⟩:=gN (nv la / 2 ^ (k+1));rw [← hA] at h3 h5 h6 hsr;have SW:A % nv lb < nv lb:=Nat.mod_lt _ hpos;have Ww:(lim (A % nv lb)).length≤10000:=Nat.le_trans (aL.2 (Nat.lt_trans SW (bX zJ.o))) hs2;have hds:=Ca A (nv lb) (sR (nv la) k) hpos hbit;rw [← hsr,← hxn] at hds;have Zu:k / 32 < la.length:=by
   have:dy (nv la)≤32*la.length:=dZ.2 (by rw [← pow_two];exact bX Ih.o);omega
  have hB0:Bp w3 (.slice ab lb.length cb) w.heap.size (w.heap.size+1+1+1) w3.heap.size la.length lq (.slice ar (lim (A % nv lb)).length cr) W W:=
   ⟨h4,h5,h7,h8,h9,h10,⟨Nat.le_refl _,rfl,rfl⟩,hltW⟩
  have c1:=hB0.r.cell;have f1:=hB0.r.free;have l1:=hB0.r.lt;have G0:=kI hB0;have G6:=kI h6;have Q1:=kI h1;have Q2:=kI h2;have Q3:=kI h3;have DS:=kI hds;have HXE:=kI hxe;have HSR:=kI hsr;have HAA:=kI hA;have HXN:=kI hxn;clear hB0 h1 h2 h3 h4 h5 h6 h7 h8 h9 h10 hds hxe hsr hA hxn;gi_wp2_with fail;refine ⟨trivial,CallsIn.inRound ll ((callsIn_wide.2 (kZ (w3.heap.size+2) _ _ x W G6.o (aR _) (aX _) hx2 Z Z)).mono ?_)⟩;rintro e W1 ⟨⟨v1,rfl,ho1⟩,hb1⟩;rw [aG] at ho1;obtain ⟨V,hV⟩:=gN (2*(A % nv lb)+x.toNat);rw [← hV] at ho1;obtain ⟨a1',c1',rfl⟩:=ho1.shape;have hB1:=G0.o.below hb1 Z Z;have hV2:V < 2*nv lb∧nv la / 2 ^ k / nv lb=2*(A / nv lb)+(if nv lb≤V then 1 else 0)∧nv la / 2 ^ k % nv lb=if nv lb≤V then V - nv lb else V:=by rw [hV];exact DS.o
  have Wx:(lim V).length≤20000:=by
   have h1:=bX zJ.o;have h2:V < 4294967296 ^ (lb.length+1):=by rw [Nat.pow_succ];omega
   have:=aL.2 h2;omega
  have c2:=hB1.r.cell;have f2:=hB1.r.free;have l2:=hB1.r.lt;have c20:=hB1.b.cell;have Zv:=hB1.b.lt;have E1:=kI ho1;have B1:=kI hB1;have Wy:=kI hV2;clear ho1 hb1 hB1 hV hV2 c1 f1 l1;gi_wp2_with fail;have hB2:=B1.o.NG (.slice a1' (lim V).length c1') Z Z;have E2:=kI (E1.o.aB (p:=⟨w.heap.size+1+1,0,none⟩) au (.slice a1' (lim V).length c1'));have B2:=kI hB2;clear hB2 c2 f2 l2 c20 Zv;by_cases hge:nv lb≤V
  ·have hcd:decide (0≤eP V (nv lb))=true:=by rw [yJ];exact decide_eq_true hge
   have hcall:=fT _ _ (lim V) lb _ E2.o.rd (B2.o.rd HB.o LX.o Z Z Z) (aR _) zJ.o (aX _) SV.o;rw [aG] at hcall;obtain ⟨c,hc⟩:=gN (eP V (nv lb));rw [← hc] at hcall hcd;clear hc;refine ⟨trivial,CallsIn.inRound ll ((callsIn_wide.2 hcall).mono ?_)⟩;clear hcall;rintro e W3 ⟨rfl,hx3⟩;have B3:=kI (B2.o.below (hx3.mono (by have:=B2.o.lt;omega)) Z Z);have E3:=kI (E2.o.ext hx3);have c3:=B3.o.r.cell;have c4:=B3.o.b.cell;have l3:=B3.o.r.lt;have f3:=B3.o.r.free;have l4:=B3.o.b.lt;clear hx3;gi_wp2_with fail;have hcall:Calls Tryz.prog 186 #[.slice a1' (lim V).length c1',.slice ab lb.length cb] W3 fun e w'=>∃ v',e=.returned v'∧bZ w' (w3.heap.size+2) v' (lim (V - nv lb))∧Below (w3.heap.size+2) W3 w':=by
    obtain ⟨o,ho,hof⟩:=E3.o;have hrd:=B3.o.rd HB.o LX.o Z Z Z;have SX:no (fun b=>o≠some b) W3 (.slice ab lb.length cb) lb:=by
     obtain ⟨a,cap,e,h1,h2,h3⟩:=jZ HB.o;refine ⟨a,cap,e,h1,h2,fun i hi=>?_⟩;obtain ⟨b,off,e1,e2,_⟩:=h3 i hi;obtain ⟨b',off',e1',e2',e3'⟩:=sM hrd i hi;injection e with e _ _
     rw [e,e1] at e1';injection e1' with e1'
     injection e1' with e4 e5
     subst e4;subst e5;exact ⟨b,off,e1,fun e=>by have:=hof b e;have:=LX.o.size;omega,e2',e3'⟩
    refine (fK o _ _ (lim V) lb W3 ho (aR _) SX zJ.o SV.o (by rw [aG];exact hge)).mono ?_;rintro e w' ⟨v',he,h1,h2⟩;rw [aG] at h1;exact ⟨v',he,⟨o,h1,hof⟩,h2.below (by have:=B3.o.lt;omega) hof⟩
   refine ⟨trivial,CallsIn.inRound ll ((callsIn_wide.2 hcall).mono ?_)⟩;clear hcall;rintro e W4 ⟨v4,rfl,SY,hb4⟩;obtain ⟨a4,Rf,rfl⟩:=SY.shape;have hB4:=B3.o.below hb4 Z Z;have B5:=kI (hB4.NG (.slice a4 (lim (V - nv lb)).length Rf) Z Z);have E5:=kI (SY.aB (p:=⟨w.heap.size+1+1,0,none⟩) au (.slice a4 (lim (V - nv lb)).length Rf));have k1:=hB4.r.cell;have k2:=hB4.r.free;have k3:=hB4.r.lt;have Rg:=B5.o.row;have k4:=B5.o.q.cell;have k5:=Rg.free;have k6:=Rg.lt;have hzl:=bv Q2.o (k / 32);obtain ⟨z,hzz⟩:=gN (lq.getD (k / 32) 0);have k7:=Rg.getD (i:=k / 32) Q4 hzz;have hlow:=Cb Q2.o (k:=k) Q4 (by rw [Q3.o];exact Nat.mul_mod_left _ _);rw [← hzz] at hzl hlow;have hor:=or_bit z (k % 32) hzl (Nat.mod_lt _ Z) hlow;have hsb:=zQ (l:=lq) (k:=k) Q2.o Q4;rw [← hzz] at hsb;have q1:(0:Int)≤(k:Int):=Z
   have q2:(k:Int) / 32 < (la.length:Int):=Z
   have q3:(0:Int)≤(k:Int) / 32:=Z
   obtain ⟨t,ht⟩:∃ t:Int,t=((z.toNat+2 ^ (k % 32):Nat):Int):=⟨_,rfl⟩;have ht0:0≤t∧t < 4294967296:=by have:=hor.2;omega
   rw [← ht] at hsb;have Fp:=kI (hor.1.trans ht.symm);have Zw:=kI hsb;clear ht;clear hzz hor hsb hlow Rg hB4 SY hb4 c3 c4 l3 f3 l4;gi_wp2_with fail;generalize W4.setCell ⟨w.heap.size+1+1,0,none⟩ (.slice a4 (lim (V - nv lb)).length Rf)=W5 at *
   have WB:=k4 0;simp only [List.getElem?_toArray,List.getElem?_cons_zero] at WB;have Zx:=k5 (k / 32);have k60:w.heap.size+1 < W5.heap.size:=Z
   clear k1 k2 k3 k4 k5;(refine mU (by first|exact Or.inr ⟨_,rfl⟩|exact Or.inl rfl) 10 0 0 ax ax ax (fun _ _ d _ _ h=>by cases d <;> exact h) ?_;simp only [Nat.reduceAdd,Nat.reduceSub,List.take_succ_cons,List.take_zero,List.take_nil,List.drop_succ_cons,List.drop_zero];(repeat (go_big_quiet_step ((fail))));refine wpQuiet_nil ?_;(try dsimp only);(repeat (go_big_quiet_step (fail)));refine wpQuiet_nil ?_;(try dsimp only);(repeat (go_big_quiet_step (fail)));refine wpQuiet_nil ?_;rintro w1 ⟨⟨_,hx1⟩,rfl⟩;(try dsimp only);have hz1:=hx1.size;(try simp only [World.size_alloc,World.size_setCell,World.size_drew,gh] at hz1);obtain ⟨hc1,hf1⟩:=hx1.old (B:=w.heap.size) QP)
   have B6:=B5.o.below (hx1.mono (by have:=B5.o.lt;omega)) Z Z;have E6:=kI (E5.o.ext hx1);have m1:=B6.row.free (k / 32);have m2:=((B5.o.row.ext hx1).gr (Gr.refl none w1) cp).lt;have m3:w1.cell? ⟨w.heap.size+1+1+1,k / 32,none⟩=some (.int .u32 z):=(hx1.cell (p:=⟨w.heap.size+1+1+1,k / 32,none⟩) au).trans k7;have B7:=kI B6;clear B6 hx1 hc1 hf1 WB Zx k7;rw [Fp.o];gi_wp2
   have B8:=B7.o.SU (k / 32) t Q4 Z Z Z Z;obtain ⟨hv1,hv2,hv3⟩:=Wy.o;rw [if_pos hge] at hv2 hv3;refine ⟨B8.keep,lq.set (k / 32) t,.slice a4 (lim (V - nv lb)).length Rf,(List.length_set).trans Q1.o,oA Q2.o _ ht0.1 ht0.2,?_,B8.row,B8.r,?_,B8.b,B8.q,B8.frame,B8.zero⟩
   ·rw [Zw.o,Q3.o,hv2,Nat.pow_succ,NH,Nat.add_mul,Nat.one_mul]
   ·rw [hv3];exact E6.o.aB au _
  ·have hcd:decide (0≤eP V (nv lb))=false:=by rw [yJ];exact decide_eq_false hge
   have hcall:=fT _ _ (lim V) lb _ E2.o.rd (B2.o.rd HB.o LX.o Z Z Z) (aR _) zJ.o (aX _) SV.o;rw [aG] at hcall;obtain ⟨c,hc⟩:=gN (eP V (nv lb));rw [← hc] at hcall hcd;clear hc;refine ⟨trivial,CallsIn.inRound ll ((callsIn_wide.2 hcall).mono ?_)⟩;clear hcall;rintro e W3 ⟨rfl,hx3⟩;have B3:=kI (B2.o.below (hx3.mono (by have:=B2.o.lt;omega)) Z Z);have E3:=kI (E2.o.ext hx3);clear hx3;gi_wp2
   obtain ⟨hv1,hv2,hv3⟩:=Wy.o;rw [if_neg hge] at hv2 hv3;refine ⟨B3.o.keep,lq,.slice a1' (lim V).length c1',Q1.o,Q2.o,?_,B3.o.row,B3.o.r,?_,B3.o.b,B3.o.q,B3.o.frame,B3.o.zero⟩
   ·rw [Q3.o,hv2,Nat.pow_succ,NH,Nat.add_zero]
   ·rw [hv3];exact E3.o
 case hdone=>
  rintro W ⟨lq,vr,h1,h2,h3,h4,h5,h6,h7,h8,h9,h10⟩ hD;rw [Nat.pow_zero,Nat.div_one,Nat.mul_one] at h3;rw [Nat.pow_zero,Nat.div_one] at h6;obtain ⟨ar,cr,rfl⟩:=h6.shape;have hmW:w3.heap.size < W.heap.size:=(Array.getElem?_eq_some_iff.1 hD).1;have r1:=h8.cell 0;have r2:=h5.cell 0;have r3:=h8.lt;have r4:=h5.lt;have r5:=h8.free 0;have r6:=h5.free 0;have r7:=h4.lt;simp only [List.getElem?_toArray,List.getElem?_cons_zero] at r1 r2;have hcall:=fun X hx=>jh (w.heap.size+1+1+1) la.length lq X (bm.ext h4 hx) h2;rw [h1,h3] at hcall;have HC:=kI hcall;have G1:=kI h1;have G2:=kI h2;have G3:=kI h3;have G4:=kI h4;have G5:=kI h5;have G6:=kI h6;have G8:=kI h8;have G9:=kI h9;have Mv:=kI h10;have GD:=kI hD;clear h1 h2 h3 h4 h5 h6 h7 h8 h9 h10 hD hcall;gi_wp2_with fail;have hmx:Tryz.prog.follows .mixedOrders=true:=ax
  gi_region_with_o ((refine ⟨trivial,(callsIn_wide.2 (HC.o _ ((Ext.refl W).drew))).mono ?_⟩;rintro e w5 ⟨rfl,Ii,hx5⟩;have x5:=((Ext.refl W).drew).trans hx5;have n1:=(G5.o.ext x5).cell 0;simp only [List.getElem?_toArray,List.getElem?_cons_zero] at n1;have n2:=(G5.o.ext x5).free 0;have n3:=(G5.o.ext x5).lt;have n4:=(G8.o.ext x5).cell 0;have n5:=(G8.o.ext x5).free 0;have n6:=(G8.o.ext x5).lt;have Zy:=kI Ii;have NJ:=kI x5;clear Ii hx5 x5;gi_wp2))
  all_goals
   obtain ⟨s1,hs1⟩:=gN (Value.slice (some ⟨w.heap.size+1+1+1,0,none⟩) (lim (nv la / nv lb)).length la.length);obtain ⟨s2,hs2⟩:=gN (Value.slice ar (lim (nv la % nv lb)).length cr);rw [← hs1,← hs2];have p1:ag ((w5.setCell ⟨w.heap.size+1,0,none⟩ s1).setCell ⟨w.heap.size+1+1,0,none⟩ s2) (w.heap.size+1) #[s1] 23:=by
    have:=((G8.o.ext NJ.o).set 0 s1).setOther (a:=⟨w.heap.size+1+1,0,none⟩) au s2;simpa using this
   have p2:ag ((w5.setCell ⟨w.heap.size+1,0,none⟩ s1).setCell ⟨w.heap.size+1+1,0,none⟩ s2) (w.heap.size+1+1) #[s2] 23:=by
    have:=((G5.o.ext NJ.o).setOther (a:=⟨w.heap.size+1,0,none⟩) au s1).set 0 s2;simpa using this
   have p3:bm ((w5.setCell ⟨w.heap.size+1,0,none⟩ s1).setCell ⟨w.heap.size+1+1,0,none⟩ s2) (w.heap.size+1+1+1) la.length (lim (nv la / nv lb)):=(Zy.o.setOther au s1).setOther au s2;have p4:bZ ((w5.setCell ⟨w.heap.size+1,0,none⟩ s1).setCell ⟨w.heap.size+1+1,0,none⟩ s2) (w3.heap.size+2) s2 (lim (nv la % nv lb)):=by
    rw [hs2];exact ((G6.o.ext NJ.o).aB au _).aB au _
   have p5:((w5.setCell ⟨w.heap.size+1,0,none⟩ s1).setCell ⟨w.heap.size+1+1,0,none⟩ s2).heap[w3.heap.size]?=some (.deferred (some [])):=
    (Below.heap_setCell _ _ _ _ au).trans ((Below.heap_setCell _ _ _ _ au).trans ((NJ.o.block _ hmW).trans GD.o))
   have p6:Ext w W:=⟨Mv.o.os.trans LX.o.os,Mv.o.tape.trans LX.o.tape,Mv.o.output.trans LX.o.output,Nat.le_trans LX.o.size Mv.o.size,fun i hi=>(G9.o i Z Z Z).trans (LX.o.block i hi)⟩;have p7:Ext w ((w5.setCell ⟨w.heap.size+1,0,none⟩ s1).setCell ⟨w.heap.size+1+1,0,none⟩ s2):=((p6.trans NJ.o).set au s1).set au s2;generalize (w5.setCell ⟨w.heap.size+1,0,none⟩ s1).setCell ⟨w.heap.size+1+1,0,none⟩ s2=W7 at *
   have v1:=(p1.kz (Kz.sI (m:=w3.heap.size) _ (.deferred none)) Z).cell 0;have v2:=(p2.kz (Kz.sI (m:=w3.heap.size) _ (.deferred none)) Z).cell 0;simp only [List.getElem?_toArray,List.getElem?_cons_zero] at v1 v2;have P3:=kI p3;have P4:=kI p4;have P5:=kI p5;have P7:=kI p7;have S1:=kI hs1;clear n1 n2 n3 n4 n5 n6 r1 r2 r3 r4 r5 r6 r7 p1 p2 p3 p4 p5 p6 p7 hs1 hs2;gi_wp2
   refine ⟨by simp,.inl ⟨_,_,rfl,run_takeDeferred P5.o,?_⟩⟩;refine ⟨.tuple #[s1,s2],by (simp only [results,Tryz.results205];go_simp),⟨s1,s2,rfl,⟨some (w.heap.size+1+1+1),?_,fun g hg=>by cases hg;omega⟩,?_⟩,P7.o.kz (Kz.sI _ _) Z⟩
   ·rw [S1.o];exact gI.row (P3.o.kz (Kz.sI (m:=w3.heap.size) _ _) (.inl Z))
   ·obtain ⟨o,ho,hof⟩:=P4.o.kz (Kz.sI (m:=w3.heap.size) _ (.deferred none)) Z;exact ⟨o,ho,fun g hg=>by have:=hof g hg;omega⟩
 case hstop=>
  rintro c k W hk h _;exact h.elim
end
def pm (l1 l2:List Int):List Int × List Int × Int:=
 if cS l1 l2=0 then (if nv l2=0 then ([],[],14) else (lim (nv l1 / nv l2),lim (nv l1 % nv l2),0)) else ([],[],cS l1 l2)
def zT (w w':World) (e:Ending) (r:List Int × List Int × Int):Prop:=∃ v1 v2,e=.returned (.tuple #[v1,v2,.int .i64 r.2.2])∧bM w w' v1 r.1∧bM w w' v2 r.2.1
theorem zT.mk {w w':World} {v1 v2:Value} {l1 l2:List Int} {x:Int} {r:List Int × List Int × Int} (h1:bM w w' v1 l1) (h2:bM w w' v2 l2) (e:r=(l1,l2,x)):zT w w' (.returned (.tuple #[v1,v2,.int .i64 x])) r:=by subst e;exact ⟨v1,v2,rfl,h1,h2⟩
theorem ct {l:List Int} (hl:br l) (hz:cL l):nv l=0↔l.length=0:=by
 constructor
 ·intro h;by_cases h0:l=[]
  ·subst h0;rfl
  ·have:=gY hl hz h0;omega
 ·intro h;rw [List.length_eq_zero_iff.1 h];rfl
theorem pn (v1 v2:Value) (l1 l2:List Int) (w:World) (h1:bj .u32 w v1 l1) (h2:bj .u32 w v2 l2) (hl1:br l1) (hl2:br l2) :
  Calls Tryz.prog 192 #[v1,v2] w fun e w'=>zT w w' e (pm l1 l2)∧Ext w w':=by
 have H1:=kI h1;have H2:=kI h2;obtain ⟨a1,c1,rfl,hc1,hm1,hr1⟩:=jZ h1;obtain ⟨a2,c2,rfl,hc2,hm2,hr2⟩:=jZ h2;have kY:=kI hl1;have HL2:=kI hl2;clear h1 h2 hr1 hr2 hl1 hl2;by_cases hc:cS l1 l2=0
 ·have HC:=kI hc;obtain ⟨⟨g1,z1⟩,g2,z2⟩:=mS hc;have Z1:=kI z1;have Z2:=kI z2;by_cases h0:nv l2=0
  ·have e1:=kI (show pm l1 l2=([],[],14) by unfold pm;rw [if_pos hc,if_pos h0]);obtain rfl:l2=[]:=List.length_eq_zero_iff.1 ((ct HL2.o z2).1 h0);clear hc z1 z2 h0;go_enter Tryz.func192,Tryz.ntmps192
   go_wp2_with fail;refine (bN _ _ l1 [] _ H1.o H2.o).mono ?_;rintro e w1 ⟨rfl,hx1⟩;rw [HC.o];have X1:=kI hx1;clear hx1;go_wp2_with fail;go_ret3
   exact ⟨zT.mk (bM.nil _ _) (bM.nil _ _) e1.out,X1.o⟩
  ·have e1:=kI (show pm l1 l2=(lim (nv l1 / nv l2),lim (nv l1 % nv l2),0) by unfold pm;rw [if_pos hc,if_neg h0]);have hl0:((l2.length:Int) == 0)=false:=by
    have:l2.length≠0:=fun h=>h0 ((ct HL2.o z2).2 h);simp;intro h;subst h;simp at this
   have hp:=kI (show 0 < nv l2 by omega);clear hc z1 z2 h0;go_enter Tryz.func192,Tryz.ntmps192
   go_wp2_with fail;refine (bN _ _ l1 l2 _ H1.o H2.o).mono ?_;rintro e w1 ⟨rfl,hx1⟩;rw [HC.o];have X1:=kI hx1;clear hx1;go_wp2_with fail;refine (xB _ _ l1 l2 _ (H1.o.ext X1.o) (H2.o.ext X1.o) kY.o HL2.o Z1.o Z2.o Z Z hp.out).mono ?_;rintro e w2 ⟨⟨v1,v2,rfl,n1,n2⟩,hx2⟩;have N1:=kI n1;have N2:=kI n2;have X2:=kI hx2;clear n1 n2 hx2;go_wp2_with fail;go_ret3
   exact ⟨zT.mk (N1.o.from X1.o) (N2.o.from X1.o) e1.out,X1.o.trans X2.o⟩
 ·have e1:=kI (show pm l1 l2=([],[],cS l1 l2) by unfold pm;rw [if_neg hc]);have hc':(cS l1 l2 != 0)=true:=by simpa using hc
  obtain ⟨c,hcc⟩:=gN (cS l1 l2);have hk:=fun W h1 h2=>bN (.slice a1 l1.length c1) (.slice a2 l2.length c2) l1 l2 W h1 h2;rw [← hcc] at hk hc' e1;have HK:=kI hk;clear hc hcc hk;go_enter Tryz.func192,Tryz.ntmps192
  go_wp2_with fail;refine (HK.o _ H1.o H2.o).mono ?_;rintro e w1 ⟨rfl,hx1⟩;have X1:=kI hx1;clear hx1;go_wp2_with fail;go_ret3
  exact ⟨zT.mk (bM.nil _ _) (bM.nil _ _) e1.out,X1.o⟩
section
open Go.RowKit Go.Shelf
attribute [local go_sem] Oper.semAt_some
theorem zU (x h:Nat) (hx:x < 4294967296):(x+4294967296*h) / 2=(x / 2+2147483648*(h % 2))+4294967296*(h / 2)∧(x+4294967296*h) % 2=x % 2∧x / 2+2147483648*(h % 2) < 4294967296:=Z
theorem Fq (x:Int) (h:Nat) (hx:0≤x∧x < 4294967296):bits .or .u32 (x / 2) ((h % 2*2147483648:Nat):Int)=((x.toNat / 2+2147483648*(h % 2):Nat):Int):=by
 obtain ⟨a,rfl⟩:=Int.eq_ofNat_of_zero_le hx.1;rw [Int.toNat_natCast,show ((a:Int) / 2)=((a / 2:Nat):Int) by omega,(dR (a / 2) (h % 2*2147483648) Z Z).2.1];rw [Nat.or_comm,wU (h % 2*2147483648) (a / 2) 31 Z Z];omega
theorem xC (x:Int) (hx:0≤x∧x < 4294967296):x*2147483648 % 4294967296=((x.toNat % 2*2147483648:Nat):Int):=Z
theorem ma (l:List Int) (k:Nat) (hk:k < l.length):nv (l.drop k)=(l.getD k 0).toNat+4294967296*nv (l.drop (k+1)):=by
 rw [List.drop_eq_getElem_cons hk,dw,List.getD_eq_getElem?_getD,List.getElem?_eq_getElem hk];rfl
def zV (w0:World) (lk:List Int) (g cap Bc k:Nat) (W:World):Prop:=
 ∃ lj:List Int,lj.length=lk.length∧br lj∧lj.take k=lk.take k∧nv (lj.drop k)=nv (lk.drop k) / 2∧bm W g cap lj∧ag W Bc #[.int .u32 ((nv (lk.drop k) % 2*2147483648:Nat):Int)] 157∧
  Fr (fun i=>i=g∨i=Bc) w0 W
def NK (w0:World) (lk:List Int) (g cap Bc H k:Nat) (x:Int) (a1:Act) (W:World):Prop:=
 k < lk.length∧zV w0 lk g cap Bc (k+1) W∧x=lk.getD k 0∧w0.heap.size+1 < W.heap.size∧∃ t0 t2 t3 t4 t8 t9 t10 t11 t12 t13 t14 t15 t16 t17 rC t19 t20 t21 t22 t23 t24 t25 t26 t27 t28 t29 t30 t31 t32 t33 t34 t35 t36:Value,
  a1={ tmps:=#[t0,.pointer (some ⟨H,0,none⟩),t2,t3,t4,.pointer (some ⟨Bc,0,none⟩),.int .i64 k,.int .u32 x,t8,t9,t10,t11,t12,t13,t14,t15,t16,t17,rC,t19,t20,t21,t22,t23,t24,t25,t26,t27,t28,t29,t30,t31,t32,t33,t34,t35,t36],defers:=[] }
theorem zV.kz {w0:World} {lk:List Int} {g cap Bc k:Nat} {A B:World} (h:zV w0 lk g cap Bc k A) (z:Kz w0.heap.size A B) (hg:g < w0.heap.size) (hb:Bc < w0.heap.size):zV w0 lk g cap Bc k B:=by
 obtain ⟨lj,h1,h2,h3,h4,h5,h6,h7⟩:=h;exact ⟨lj,h1,h2,h3,h4,h5.kz z (.inl hg),h6.kz z (.inl hb),h7.kz z (Nat.le_refl _)⟩
theorem getD_take {l m:List Int} {k:Nat} (h:l.take (k+1)=m.take (k+1)):l.getD k 0=m.getD k 0:=by
 have h1:(l.take (k+1))[k]?=(m.take (k+1))[k]?:=by rw [h]
 rw [List.getElem?_take_of_lt Z,List.getElem?_take_of_lt Z] at h1;rw [List.getD_eq_getElem?_getD,List.getD_eq_getElem?_getD,h1]
theorem uH {l m:List Int} {k:Nat} (x:Int) (h:l.take (k+1)=m.take (k+1)):(l.set k x).take k=m.take k:=by
 rw [List.take_set_of_le (Nat.le_refl k)];have:=congrArg (List.take k) h;rwa [List.take_take,List.take_take,Nat.min_eq_left Z] at this
theorem uI {l:List Int} {k:Nat} (x:Int) (hk:k < l.length):nv ((l.set k x).drop k)=x.toNat+4294967296*nv (l.drop (k+1)):=by
 rw [ma _ k (by rw [List.length_set];exact hk),List.drop_set_of_lt Z,List.getD_eq_getElem?_getD,List.getElem?_set_self hk];rfl
theorem kc (g cap:Nat) (l:List Int) (w:World) (h:bm w g cap l) (hl:br l) (hz:cL l) (hs:l.length≤10000) :
  Calls Tryz.prog 184 #[.slice (some ⟨g,0,none⟩) l.length cap] w fun e w'=>(∃ (k m:Nat),nv l=m*2 ^ k∧(nv l=0→k=0)∧(nv l≠0→m % 2=1)∧
   e=.returned (.tuple #[.slice (some ⟨g,0,none⟩) (lim m).length cap,.int .i64 k])∧bm w' g cap (lim m))∧Gr (some g) w w':=by
 have hgl:=h.lt;have rq:=h.most;have hle:=h.le;have H:=kI h;have HL:=kI hl;have HZ:=kI hz;clear h hl hz;have hbx:ag (w.alloc (.cells #[.slice (some ⟨g,0,none⟩) l.length cap] 23)) w.heap.size #[.slice (some ⟨g,0,none⟩) l.length cap] 23:=ag.new w _ _;have GB:=kI hbx;clear hbx;refine (callsIn_wide (n:=8)).1 ?_;refine callsIn_of_wp_marks Tryz.func184 rfl trivial ?_ rfl;simp only [Tryz.ntmps184,List.size_toArray,List.length_cons,List.length_nil,Nat.reduceAdd,Nat.reduceSub,Array.replicate_succ,Array.replicate_zero,List.push_toArray,List.append_toArray,List.nil_append,List.cons_append];gi_wp2_with fail;refine wpIn_loop_ghost (fun N a W=>∃ (k:Nat) (lk:List Int) (ds:List Deferred),N=nv lk∧br lk∧cL lk∧lk.length≤l.length∧nv l=nv lk*2 ^ k∧(nv l=0→k=0)∧bm W g cap lk∧ag W w.heap.size #[.slice (some ⟨g,0,none⟩) lk.length cap] 23∧Gr (some g) w W∧Marks w.heap.size ds W∧
  ∃ t0 t2 t3 t5 t6 t7 t8 t9 t10 t11 t12 t13 t14 t15 t16 t17 rC t19 t20 t21 t22 t23 t24 t25 t26 t27 t28 t29 t30 t31 t32 t33 t34 t35 t36:Value,a={ tmps:=#[t0,.pointer (some ⟨w.heap.size,0,none⟩),t2,t3,.int .i64 k,t5,t6,t7,t8,t9,t10,t11,t12,t13,t14,t15,t16,t17,rC,t19,t20,t21,t22,t23,t24,t25,t26,t27,t28,t29,t30,t31,t32,t33,t34,t35,t36],defers:=ds }) (nv l) ?h0 ?round
 case h0=>
  exact ⟨0,l,[],rfl,HL.o,HZ.o,Nat.le_refl _,by simp,fun _=>rfl,H.o.ext ((Ext.refl w).alloc _),GB.o,(Gr.refl _ w).alloc _,Marks.nil _ _,_,_,_,_,_,_,_,_,_,_,_,_,_,_,_,_,_,_,_,_,_,_,_,_,_,_,_,_,_,_,_,_,_,_,_,rfl⟩
 case round=>
  rintro N a W ⟨k,lk,ds,rfl,h1,h2,h3,h4,h5,h6,h7,h8,h9,t0,t2,t3,t5,t6,t7,t8,t9,t10,t11,t12,t13,t14,t15,t16,t17,rC,t19,t20,t21,t22,t23,t24,t25,t26,t27,t28,t29,t30,t31,t32,t33,t34,t35,t36,rfl⟩;have hk:k≤320000:=by
   by_cases h0:nv l=0
   ·have:=h5 h0;omega
   ·have e1:2 ^ k≤nv l:=by
     rw [h4];have:nv lk≠0:=fun e=>h0 (by rw [h4,e,Nat.zero_mul]);calc 2 ^ k=1*2 ^ k:=(Nat.one_mul _).symm
      _≤nv lk*2 ^ k:=Nat.mul_le_mul_right _ Z
    have e2:=bX HL.o;rw [pow_two] at e2;have:=(Nat.pow_lt_pow_iff_right (a:=2) Z).1 (Nat.lt_of_le_of_lt e1 e2);omega
  have hc0:=h7.cell 0;have hlb:=h7.lt;have hfb:=h7.free 0;simp only [List.getElem?_toArray,List.getElem?_cons_zero] at hc0;have hlc:=h6.le;have G1:=kI h1;have G2:=kI h2;have G3:=kI h3;have G4:=kI h4;have G5:=kI h5;have G6:=kI h6;have G7:=kI h7;have G8:=kI h8;have G9:=kI h9;by_cases hne:0 < lk.length
  ·have hx:=bv h1 0;obtain ⟨x,hxx⟩:=gN (lk.getD 0 0);have hcx:=h6.getD (i:=0) hne hxx;have hpar:nv lk % 2=x.toNat % 2:=by rw [Ff lk,← hxx];omega
   have hand:=and_one x 0 (by rw [hxx];exact hx);rw [Int.pow_zero,Int.ediv_one,Nat.pow_zero,Nat.div_one] at hand;have q0:(0:Int) < (lk.length:Int):=Z
   have GP:=kI hpar;by_cases hp2:x.toNat % 2=1
   ·have hand1:(bits .and .u32 x 1 == 0)=false:=by rw [hand,hp2];rfl
    have hO:=kI hp2;clear h1 h2 h3 h4 h5 h6 h7 h8 h9 hxx hand hpar hx hp2;gi_wp2_with fail;refine G9.o.leaves (fun W' hb=>?_);have WD:=GP.o;rw [hO.out] at WD;refine ⟨.tuple #[.slice (some ⟨g,0,none⟩) lk.length cap,.int .i64 k],by simp only [results,Tryz.results184];go_simp,⟨k,nv lk,G4.o,G5.o,fun _=>WD,?_,?_⟩,?_⟩
    ·rw [dx G1.o G2.o]
    ·rw [dx G1.o G2.o];obtain ⟨cur,hbk,hs',ht⟩:=G6.o.blk;exact ⟨⟨cur,(hb.block g Z).trans hbk,hs',ht⟩,G6.o.le,G6.o.most⟩
    ·exact ⟨hb.os.trans G8.o.os,hb.tape.trans G8.o.tape,hb.output.trans G8.o.output,Nat.le_trans G8.o.size hb.size,fun i hi hn=>(hb.block i Z).trans (G8.o.block i hi hn)⟩
   ·have hand1:(bits .and .u32 x 1 == 0)=true:=by rw [hand,show x.toNat % 2=0 by omega];rfl
    have hO:=kI hp2;have hdl:nv (lk.drop 0)=nv lk:=by rw [List.drop_zero]
    clear h1 h2 h3 h4 h5 h6 h7 h8 h9 hxx hand hpar hx hp2;gi_wp2_with fail;refine ⟨trivial,(callsIn_wide.2 (lT _ lk.length cap _)).mono ?_⟩;rintro e w3 ⟨rfl,hw3⟩;have Rh:Ext W w3:=by rw [hw3];exact ((Ext.refl W).alloc _).alloc _
    have hs3:w3.heap.size=W.heap.size+1+1:=by rw [hw3];simp
    have hBc:ag w3 W.heap.size #[.int .u32 0] 157:=by rw [hw3];exact (ag.new W _ _).alloc _
    have hBx:ag w3 (W.heap.size+1) #[.slice (some ⟨g,0,none⟩) lk.length cap] 23:=by
     rw [hw3];have:=ag.new (W.alloc (.cells #[.int .u32 0] 157)) #[.slice (some ⟨g,0,none⟩) lk.length cap] 23;rwa [World.size_alloc] at this
    have KX:=kI Rh;have KC:=kI hBc;have KB:=kI hBx;have KR:=kI (G6.o.ext Rh);have KH:=kI (G7.o.ext Rh);clear hw3 Rh hBc hBx hcx hc0 hfb;gi_wp2_with fail;have hseq:∀ W1,Ext w3 W1→ka Fence.wide 7 Tryz.prog 208 #[.pointer (some ⟨W.heap.size+1,0,none⟩)] lk.length (fun k (x:Int)=>#[.int .i64 k,.int .u32 x]) (zK (W.heap.size+1) (.slice (some ⟨g,0,none⟩) lk.length cap)) (w3.heap.size+1) W1:=
     fun W1 hx=>rB 7 Z _ lk.length cap (W.heap.size+1) _ W1 (by have:=(KB.o.ext hx).cell 0;simpa using this) hlc rq
    refine fu rfl Z (gf:=208) (lb:=#[.pointer (some ⟨W.heap.size+1,0,none⟩)]) rfl trivial (enters_of Tryz.func208 ax rfl) lk.length hseq (fun _ _=>rfl)
     (fun k W2=>zV w3 lk g cap W.heap.size k W2)
     (fun c k W=>False)
     (fun k A B h z=>h.kz z Z Z)
     (fun c k A B h z=>h)
     ?IX ?h0
     (NK w3 lk g cap W.heap.size w.heap.size) ?hAx ?hassign ?hbody ?hdone ?hstop
    case IX=>
     rintro j W2 hj ⟨lj,e1,e2,e3,e4,e5,e6,e7⟩;exact ⟨lj.getD j 0,by have:=(KB.o.fr e7 Z).cell 0;simpa using this,_,_,_,_,rfl,by rw [Nat.zero_add];exact e5.getD Z rfl⟩
    case h0=>
     refine ⟨lk,rfl,G1.o,rfl,?_,KR.o,?_,Fr.ext (Ext.refl _)⟩
     ·rw [List.drop_length];rfl
     ·rw [List.drop_length];exact KC.o
    case hAx=>
     rintro j y a1 A B ⟨h1,h2,h3,h4,h5⟩ z;exact ⟨h1,h2.kz z Z Z,h3,by have:=z.size;omega,h5⟩
    case hassign=>
     rintro ll j y W2 K hj h1 ⟨_,b,off,n1,cap1,e,h2⟩ hlt hK;injection e with e en ec
     injection e with e
     injection e with e3 e4
     subst e3;subst e4;clear en ec;obtain ⟨lj,e1,e2,e3,e4,e5,e6,e7⟩:=h1;have h3:=e5.getD (i:=j) Z rfl;rw [Nat.zero_add] at h2;rw [h3] at h2;injection h2 with h2
     injection h2 with _ h2
     have h4:y=lk.getD j 0:=by rw [← h2];exact getD_take e3
     have HI:Hid (zV w3 lk g cap W.heap.size (j+1) W2):=kI ⟨lj,e1,e2,e3,e4,e5,e6,e7⟩;have H4:=kI h4;clear e1 e2 e3 e4 e5 e6 e7 h2 h3 h4;gi_wp2
     refine hK _ _ (Ext.refl W2) ⟨hj,HI.o,H4.o,hlt,_,_,_,_,_,_,_,_,_,_,_,_,_,_,_,_,_,_,_,_,_,_,_,_,_,_,_,_,_,_,_,_,_,rfl⟩
    case hbody=>
     rintro ll j y a1 W2 hj ⟨_,⟨lj,e1,e2,e3,e4,e5,e6,e7⟩,hy,hlt,t0,t2,t3,t4,t8,t9,t10,t11,t12,t13,t14,t15,t16,t17,rC,t19,t20,t21,t22,t23,t24,t25,t26,t27,t28,t29,t30,t31,t32,t33,t34,t35,t36,rfl⟩ _;have hyl:=bv G1.o j;rw [← hy] at hyl;have hnd:=ma lk j hj;rw [← hy] at hnd;have hor:=Fq y (nv (lk.drop (j+1))) hyl;have hca:=xC y hyl;obtain ⟨hs1,hs2,hs3⟩:=zU y.toNat (nv (lk.drop (j+1))) Z;rw [← hnd] at hs1 hs2;obtain ⟨c,hc⟩:∃ c:Int,c=((nv (lk.drop (j+1)) % 2*2147483648:Nat):Int):=⟨_,rfl⟩;rw [← hc] at hor e6;obtain ⟨z,hz⟩:∃ z:Int,z=((y.toNat / 2+2147483648*(nv (lk.drop (j+1)) % 2):Nat):Int):=⟨_,rfl⟩;rw [← hz] at hor;rw [← hs2] at hca;obtain ⟨c2,hc2⟩:∃ c2:Int,c2=((nv (lk.drop j) % 2*2147483648:Nat):Int):=⟨_,rfl⟩;rw [← hc2] at hca;have hH:ag W2 w.heap.size #[.slice (some ⟨g,0,none⟩) lk.length cap] 23:=KH.o.fr e7 Z;have r1:=hH.cell 0;have r2:=e6.cell 0;have r3:=e6.free 0;have r4:=e6.lt;have r5:=hH.lt;have r6:=e5.free j;have r7:=e5.lt;simp only [List.getElem?_toArray,List.getElem?_cons_zero] at r1 r2;obtain ⟨z9,Rj⟩:=gN (lj.getD j 0);have r8:=e5.getD (i:=j) (by rw [e1];exact hj) Rj;clear Rj;have q1:(0:Int)≤(j:Int):=Z
     have q2:(j:Int) < (lk.length:Int):=Z
     have E1:=kI e1;have E2:=kI e2;have E3:=kI e3;have E4:=kI e4;have E5:=kI e5;have E6:=kI e6;have E7:=kI e7;have S1:=kI hs1;have S3:=kI hs3;have HZ2:=kI hz;have HC2:=kI hc2;have Fp:=kI hor;have rD:=kI hca;clear e1 e2 e3 e4 e5 e6 e7 hs1 hs2 hs3 hz hc hc2 hor hca hH hnd hy;gi_wp2_with fail;rw [Fp.o,rD.o];have hfr:Fr (fun i=>i=g∨i=W.heap.size) W2 ((W2.setCell ⟨g,j,none⟩ (.int .u32 z)).setCell ⟨W.heap.size,0,none⟩ (.int .u32 c2)):=((Fr.ext (Ext.refl W2)).set (.inl rfl) _).set (.inr rfl) _;have hz0:0≤z∧z < 4294967296:=by have:=S3.o;have:=HZ2.o;omega
     refine ⟨Kd.No hfr hlt Z Z,lj.set j z,(List.length_set).trans E1.o,oA E2.o _ hz0.1 hz0.2,uH z E3.o,?_,?_,?_,((E7.o.set (.inl rfl) _).set (.inr rfl) _)⟩
     ·rw [uI z (by rw [E1.o];exact hj),E4.o,S1.o,HZ2.o,Int.toNat_natCast]
     ·exact (E5.o.set j z (by rw [E1.o];exact hj)).setOther au _
     ·have:=(E6.o.setOther (a:=⟨g,j,none⟩) au (.int .u32 z)).set 0 (.int .u32 c2);rw [HC2.o] at this ⊢;simpa using this
    case hdone=>
     rintro W2 ⟨lj,e1,e2,e3,e4,e5,e6,e7⟩ hD;rw [List.drop_zero,List.drop_zero] at e4;have hH:ag W2 w.heap.size #[.slice (some ⟨g,0,none⟩) lk.length cap] 23:=KH.o.fr e7 Z;have r1:=hH.cell 0;have r3:=hH.lt;have r5:=hH.free 0;have r7:=e5.lt;simp only [List.getElem?_toArray,List.getElem?_cons_zero] at r1;have hcall:=jh g cap lj W2 e5 e2;rw [e1,e4] at hcall;have hgr:Gr (some g) w W2:=Fr.gr (p:=fun i=>i=g∨i=W.heap.size) (G8.o.trans (Gr.dM KX.o)) e7 (fun i h1 h2=>h2.elim (fun h=>congrArg some h.symm) (fun h=>by omega));have hmk:Marks w.heap.size ds W2:=G9.o.fr (fun i h1 h2=>(e7.block i Z Z).trans (KX.o.block i h1));have EH:=kI hH;have E7:=kI e7;have EG:=kI hgr;have EM:=kI hmk;have ED:=kI hD;have EC:=kI hcall;clear e1 e2 e3 e4 e5 e6 e7 hH hgr hmk hD hcall;gi_wp2_with fail;refine ⟨trivial,(callsIn_wide.2 EC.o).mono ?_⟩;rintro e W3 ⟨rfl,hrow3,hx3⟩;have hH3:=EH.o.ext hx3;have s1:=hH3.cell 0;have s2:=hH3.free 0;have s3:=hH3.lt;have F3:=kI hrow3;have X3:=kI hx3;have H3:=kI hH3;clear hrow3 hx3 hH3 r1 r3 r5;gi_wp2_with fail;have hpos:nv lk≠0:=fun e=>by have:=(ct G1.o G2.o).1 e;omega
     have hev:nv lk % 2=0:=by have:=GP.o;have:=hO.out;omega
     have hnl:nv l≠0:=by rw [G4.o];exact Nat.mul_ne_zero hpos (Nat.pos_iff_ne_zero.1 (Nat.pow_pos Z))
     have hm2:Marks w.heap.size ds (W3.setCell ⟨w.heap.size,0,none⟩ (.slice (some ⟨g,0,none⟩) (lim (nv lk / 2)).length cap)):=
      EM.o.fr (fun i h1 h2=>(Below.heap_setCell _ _ _ _ au).trans (X3.o.block i h1))
     have hd2:(W3.setCell ⟨w.heap.size,0,none⟩ (.slice (some ⟨g,0,none⟩) (lim (nv lk / 2)).length cap)).heap[w3.heap.size]?=some (.deferred (some [])):=
      (Below.heap_setCell _ _ _ _ au).trans ((X3.o.block _ (Array.getElem?_eq_some_iff.1 ED.o).1).trans ED.o)
     rw [hs3] at hd2;refine ⟨nv (lim (nv lk / 2)),by rw [aG];omega,k+1,lim (nv lk / 2),_,rfl,aR _,aX _,?_,?_,fun e=>absurd e hnl,F3.o.setOther au _,?_,?_,hm2.cons G9.o Z Z hd2,_,_,_,_,_,_,_,_,_,_,_,_,_,_,_,_,_,_,_,_,_,_,_,_,_,_,_,_,_,_,_,_,_,_,_,rfl⟩
     ·have h1:=bX G1.o;exact Nat.le_trans (aL.2 (Nat.lt_of_le_of_lt (Nat.div_le_self _ _) h1)) G3.o
     ·rw [aG,G4.o,Nat.pow_succ,Nat.mul_comm (2 ^ k) 2,← Nat.mul_assoc];rw [show nv lk / 2*2=nv lk by omega]
     ·have:=H3.o.set 0 (.slice (some ⟨g,0,none⟩) (lim (nv lk / 2)).length cap);simpa using this
     ·exact (EG.o.trans (Gr.dM X3.o)).IS au _
    case hstop=>
     rintro c j W2 hj h _;exact h.elim
  ·have hn0:lk=[]:=List.eq_nil_of_length_eq_zero Z;subst hn0;clear h1 h2 h3 h4 h5 h6 h7 h8 h9;gi_wp2_with fail;refine G9.o.leaves (fun W' hb=>?_);have h0:nv l=0:=by rw [G4.o];simp [nv]
   refine ⟨.tuple #[.slice (some ⟨g,0,none⟩) 0 cap,.int .i64 k],by simp only [results,Tryz.results184];go_simp,⟨k,0,by rw [h0];simp,G5.o,fun e=>absurd h0 e,?_,?_⟩,?_⟩
   ·rfl
   ·obtain ⟨cur,hbk,hs',ht⟩:=G6.o.blk;exact ⟨⟨cur,(hb.block g Z).trans hbk,hs',ht⟩,G6.o.le,G6.o.most⟩
   ·exact ⟨hb.os.trans G8.o.os,hb.tape.trans G8.o.tape,hb.output.trans G8.o.output,Nat.le_trans G8.o.size hb.size,fun i hi hn=>(hb.block i Z).trans (G8.o.block i hi hn)⟩
end
theorem uJ {a:Nat} (h:a % 2=1) (n:Nat):Nat.Coprime (2 ^ n) a:=by
 have h2:Nat.Coprime a 2:=by
  show Nat.gcd a 2=1;rw [Nat.gcd_comm,Nat.gcd_rec,h,Nat.gcd_one_left]
 exact (Nat.Coprime.pow_right n h2).symm
theorem kR {a:Nat} (h:a % 2=1) (b n:Nat):Nat.gcd a (b*2 ^ n)=Nat.gcd a b:=Nat.Coprime.gcd_mul_right_cancel_right b (uJ h n)
theorem mb {b:Nat} (h:b % 2=1) (a n:Nat):Nat.gcd (a*2 ^ n) b=Nat.gcd a b:=by rw [Nat.gcd_comm,kR h,Nat.gcd_comm]
theorem uK {a b n m:Nat} (ha:a % 2=1) (hb:b % 2=1):Nat.gcd (a*2 ^ n) (b*2 ^ m)=Nat.gcd a b*2 ^ min n m:=by
 rcases Nat.le_total n m with h|h
 ·obtain ⟨d,rfl⟩:=Nat.exists_eq_add_of_le h;rw [Nat.min_eq_left h,Nat.pow_add,Nat.mul_comm (2 ^ n),← Nat.mul_assoc,Nat.gcd_mul_right,kR ha]
 ·obtain ⟨d,rfl⟩:=Nat.exists_eq_add_of_le h;rw [Nat.min_eq_right h,Nat.pow_add,Nat.mul_comm (2 ^ m),← Nat.mul_assoc,Nat.gcd_mul_right,mb hb]
theorem uL {a b m k:Nat} (h:b < a) (hb:b % 2=1) (e:a - b=m*2 ^ k):Nat.gcd m b=Nat.gcd a b∧m+b < a+b:=by
 refine ⟨?_,?_⟩
 ·rw [← mb hb m k,← e,Nat.gcd_sub_self_left (Nat.le_of_lt h)]
 ·have:m≤m*2 ^ k:=Nat.le_mul_of_pos_right _ (Nat.pow_pos Z);omega
def xD (l1 l2:List Int):List Int × Int:=Ig l1 l2 (lim (Nat.gcd (nv l1) (nv l2)),0)
theorem Cd {a b:Nat} (h:a=b):eP a b=0:=by subst h;exact oC _
def S0 (w0:World) (G:Nat) (N:Nat) (va vb:Value) (W:World):Prop:=
 ∃ (ga ca gb cb:Nat) (la lb:List Int),va=.slice (some ⟨ga,0,none⟩) la.length ca∧vb=.slice (some ⟨gb,0,none⟩) lb.length cb∧N=nv la+nv lb∧ga≠gb∧w0.heap.size≤ga∧w0.heap.size≤gb∧
  bm W ga ca la∧bm W gb cb lb∧br la∧br lb∧cL la∧cL lb∧nv la % 2=1∧nv lb % 2=1∧la.length≤512∧lb.length≤512∧Nat.gcd (nv la) (nv lb)=G∧Ext w0 W
theorem gI.shape {o:Option Nat} {w:World} {v:Value} {l:List Int} (h:gI w o v l):∃ a c,v=.slice a l.length c:=by
 rcases h with ⟨_,h0,a,ha,rfl⟩|⟨g,cap,_,rfl,_⟩
 ·rw [h0];exact ⟨_,_,rfl⟩
 ·exact ⟨_,_,rfl⟩
theorem gI.isRow {o:Option Nat} {w:World} {v:Value} {l:List Int} (h:gI w o v l) (h0:0 < l.length):∃ g cap,o=some g∧v=.slice (some ⟨g,0,none⟩) l.length cap∧bm w g cap l:=by
 rcases h with ⟨_,h1,_⟩|h
 ·rw [h1] at h0;cases h0
 ·exact h
theorem bm.uh {w:World} {g cap:Nat} {l:List Int} (h:bm w g cap l):bj .u32 w (.slice (some ⟨g,0,none⟩) l.length cap) l:=(h.rd (p:=fun _=>True) trivial).to
theorem Ext.own {a b c:World} {g:Nat} (h:Ext a b) (k:Gr (some g) b c) (hg:a.heap.size≤g):Ext a c:=((Gr.dM (o:=none) h).fresh k (fun g' e=>by cases e;exact .inr hg)).ext
theorem rE {x k:Nat} {l:List Int} (hl:br l) (hs:l.length≤512) (h:nv l=x*2 ^ k) (h0:nv l≠0):k≤16384:=by
 have e1:2 ^ k≤nv l:=by
  rw [h];have:x≠0:=fun e=>h0 (by rw [h,e,Nat.zero_mul]);calc 2 ^ k=1*2 ^ k:=(Nat.one_mul _).symm
   _≤x*2 ^ k:=Nat.mul_le_mul_right _ Z
 have e2:=bX hl;rw [pow_two] at e2;have:=(Nat.pow_lt_pow_iff_right (a:=2) Z).1 (Nat.lt_of_le_of_lt e1 e2);omega
theorem yK (v1 v2:Value) (l1 l2:List Int) (w:World) (h1:bj .u32 w v1 l1) (h2:bj .u32 w v2 l2) (hl1:br l1) (hl2:br l2) :
  Calls Tryz.prog 157 #[v1,v2] w fun e w'=>uC w w' e (xD l1 l2)∧Ext w w':=by
 have H1:=kI h1;have H2:=kI h2;obtain ⟨a1,c1,rfl,hc1,hm1,hr1⟩:=jZ h1;obtain ⟨a2,c2,rfl,hc2,hm2,hr2⟩:=jZ h2;have kY:=kI hl1;have HL2:=kI hl2;clear h1 h2 hr1 hr2 hl1 hl2;by_cases hc:cS l1 l2=0
 ·have HC:=kI hc;obtain ⟨⟨g1,z1⟩,g2,z2⟩:=mS hc;have Z1:=kI z1;have Z2:=kI z2;have e1:=kI (show xD l1 l2=(lim (Nat.gcd (nv l1) (nv l2)),0) from fw hc);clear hc z1 z2;go_enter Tryz.func157,Tryz.ntmps157
  go_wp2_with fail;go_step3
  go_wp2_with fail;refine (bN _ _ l1 l2 _ H1.o H2.o).mono ?_;rintro e w1 ⟨rfl,hx1⟩;rw [HC.o];have X1:=kI hx1;clear hx1;go_wp2_with fail;refine (clone_any _ l1 _ (H1.o.ext X1.o) Z).mono ?_;rintro e w2 ⟨⟨u1,rfl,n1⟩,hx2⟩;obtain ⟨o1,n1,f1⟩:=n1;have N1:=kI n1;have F1:=kI f1;have X2:=kI (X1.o.trans hx2);clear n1 f1 hx2;go_wp2_with fail;refine (clone_any _ l2 _ (H2.o.ext X2.o) Z).mono ?_;rintro e w3 ⟨⟨u2,rfl,n2⟩,hx3⟩;obtain ⟨o2,n2,f2⟩:=n2;have N2:=kI n2;have F2:=kI f2;have X3:=kI (X2.o.trans hx3);have N3:=kI (N1.o.ext hx3);have NE:Hid (∀ g1 g2,o1=some g1→o2=some g2→g1 < g2):=kI (fun g1 g2 e1 e2=>Nat.lt_of_lt_of_le (N1.o.lt e1) (f2 g2 e2));clear n2 f2 hx3;by_cases n0:l1.length=0
  ·obtain rfl:l1=[]:=List.length_eq_zero_iff.1 n0;obtain ⟨ar,cr,rfl⟩:=N3.o.shape;clear n0;go_wp2_with fail;rw [Exit.noGoto_ret];go_ret2
   refine ⟨uC.mk (l:=l2) ⟨o2,N2.o,fun g e=>Nat.le_trans X2.o.size (F2.o g e)⟩ ?_,X3.o⟩;rw [e1.out];have:nv ([]:List Int)=0:=rfl;rw [this,Nat.gcd_zero_left,dx HL2.o Z2.o]
  by_cases n1:l2.length=0
  ·obtain rfl:l2=[]:=List.length_eq_zero_iff.1 n1;obtain ⟨ar,cr,rfl⟩:=N2.o.shape;obtain ⟨ar1,cr1,rfl⟩:=N3.o.shape;have hq1:((l1.length:Int) == 0)=false:=by simp;intro h;subst h;simp at n0
   clear n1 n0;go_wp2_with fail;rw [Exit.noGoto_ret];go_ret2
   refine ⟨uC.mk (l:=l1) ⟨o1,N3.o,fun g e=>Nat.le_trans X1.o.size (F1.o g e)⟩ ?_,X3.o⟩;rw [e1.out];have:nv ([]:List Int)=0:=rfl;rw [this,Nat.gcd_zero_right,dx kY.o Z1.o]
  obtain ⟨ga,ca,ho1,rfl,ra⟩:=N3.o.isRow Z;obtain ⟨gb,cb,ho2,rfl,rb⟩:=N2.o.isRow Z;have hne:=NE.o ga gb ho1 ho2;have hga:=F1.o ga ho1;have hgb:=F2.o gb ho2;have hx1:=X1.o.size;have hx2:=X2.o.size;have hq1:((l1.length:Int) == 0)=false:=by simp;intro h;subst h;simp at n0
  have hq2:((l2.length:Int) == 0)=false:=by simp;intro h;subst h;simp at n1
  have RA:=kI ra;have RB:=kI rb;have hp1:=kI (show nv l1≠0 from fun e=>n0 ((ct kY.o Z1.o).1 e));have hp2:=kI (show nv l2≠0 from fun e=>n1 ((ct HL2.o Z2.o).1 e));clear ra rb n0 n1 N1 N2 N3 NE F1 F2 H1 H2;go_wp2_with fail;refine (kc ga ca l1 _ RA.o kY.o Z1.o Z).mono ?_;rintro e w4 ⟨⟨n,m1,k1,k2,k3,rfl,r4⟩,g4⟩;have K1:=kI k1;have K3:=kI (k3 hp1.out);have R4:=kI r4;have X4:=kI (X3.o.own g4 Z);have WF:=kI (RB.o.gr g4 qC);have hn:=rE kY.o g1 k1 hp1.out;clear k1 k2 k3 r4 g4;go_wp2_with fail;refine (kc gb cb l2 _ WF.o HL2.o Z2.o Z).mono ?_;rintro e w5 ⟨⟨m,m2,k1,k2,k3,rfl,r5⟩,g5⟩;have K2:=kI k1;have K4:=kI (k3 hp2.out);have R5:=kI r5;have X5:=kI (X4.o.own g5 Z);have WG:=kI (R4.o.gr g5 qC);have hm:=rE HL2.o g2 k1 hp2.out;clear k1 k2 k3 r5 g5;go_wp2_with fail;go_step3
  go_wp2_with fail;go_loopg [0,1] (m1+m2) (fun N va vb W=>S0 w (Nat.gcd m1 m2) N va vb W)
  case atStart=>
   have NL:(lim m1).length≤512:=by
    refine Nat.le_trans (aL.2 (Nat.lt_of_le_of_lt ?_ (bX kY.o))) g1;rw [K1.o];exact Nat.le_mul_of_pos_right _ (Nat.pow_pos Z)
   have WH:(lim m2).length≤512:=by
    refine Nat.le_trans (aL.2 (Nat.lt_of_le_of_lt ?_ (bX HL2.o))) g2;rw [K2.o];exact Nat.le_mul_of_pos_right _ (Nat.pow_pos Z)
   exact ⟨ga,ca,gb,cb,lim m1,lim m2,rfl,rfl,by rw [aG,aG],by omega,by omega,by omega,WG.o,R5.o,aR _,aR _,aX _,aX _,by rw [aG];exact K3.o,by rw [aG];exact K4.o,NL,WH,by rw [aG,aG],X5.o⟩
  case round=>
   clear RA RB R4 X4 WF R5 X5 WG ho1 ho2;obtain ⟨pa,qa,pb,qb,la,lb,rfl,rfl,hN,hab,hpa,hpb,ra,rb,WI,Q9,WJ,S5,oa,ob,sa,sb,hG,hx⟩:=hrel;have RA:=kI ra;have RB:=kI rb;have LA:=kI WI;have LB:=kI Q9;have ZA:=kI WJ;have ZB:=kI S5;have OA:=kI oa;have OB:=kI ob;have HG:=kI hG;have HX:=kI hx;have HN:=kI hN;clear ra rb WI Q9 WJ S5 oa ob hG hx hN;have hord:=fun W (hx:Ext wr W)=>fT _ _ la lb W (RA.o.ext hx).uh (RB.o.ext hx).uh LA.o LB.o ZA.o ZB.o;rcases Nat.lt_trichotomy (nv la) (nv lb) with hlt|heq|hgt
   ·rw [kb hlt] at hord;have HO:=kI hord;clear hord;go_wp2_with fail;refine (HO.o _ (Ext.refl _)).mono ?_;rintro e w6 ⟨rfl,hx6⟩;have X6:=kI (HX.o.trans hx6);have Fs:=kI (RA.o.ext hx6);have Mw:=kI (RB.o.ext hx6);clear hx6 HO RA RB;go_wp2_with fail;refine (fK (some pb) _ _ lb la _ (gI.row Mw.o) LB.o (Fs.o.rd qC) LA.o ZA.o Z).mono ?_;rintro e w7 ⟨v,rfl,hv,g7⟩;have hpos:0 < (lim (nv lb - nv la)).length:=by
     rcases Nat.eq_zero_or_pos (lim (nv lb - nv la)).length with h|h
     ·have:=(ct (aR _) (aX _)).2 h;rw [aG] at this;omega
     ·exact h
    have hle:(lim (nv lb - nv la)).length≤512:=Nat.le_trans (aL.2 (Nat.lt_of_le_of_lt (Nat.sub_le _ _) (bX LB.o))) sb;obtain ⟨_,qc,e0,rfl,r7⟩:=hv.isRow hpos;cases e0;have R7:=kI r7;have X7:=kI (X6.o.own g7 Z);have WK:=kI (Fs.o.gr g7 qC);clear hv r7 g7 X6 Mw Fs;go_wp2_with fail;refine (kc _ qc _ _ R7.o (aR _) (aX _) Z).mono ?_;rintro e w8 ⟨⟨j,mj,k1,k2,k3,rfl,r8⟩,g8⟩;rw [aG] at k1 k3;have K3:=k3 Z;have R8:=kI r8;have X8:=kI (X7.o.own g8 Z);have Zz:=kI (WK.o.gr g8 qC);obtain ⟨hs1,hs2⟩:=uL hlt OA.o k1;have KJ:=kI K3;have S1:=kI hs1;have S2:=kI hs2;have KE:=kI k1;clear r8 g8 k1 k2 k3 K3 hs1 hs2 X7 R7 WK;go_wp2_with fail;go_roundg (mj+nv la)
    case measure=>rw [HN.o];have:=S2.o;omega
    case rel=>
     have hmj:(lim mj).length≤512:=by
      refine Nat.le_trans (aL.2 (Nat.lt_of_le_of_lt ?_ (bX LB.o))) sb;have:mj≤mj*2 ^ j:=Nat.le_mul_of_pos_right _ (Nat.pow_pos Z);have:=KE.o;omega
     exact ⟨pb,qc,pa,qa,lim mj,la,rfl,rfl,by rw [aG],by omega,hpb,hpa,R8.o,Zz.o,aR _,LA.o,aX _,ZA.o,by rw [aG];exact KJ.o,OA.o,hmj,sa,by rw [aG,S1.o,Nat.gcd_comm,HG.o],X8.o⟩
   ·rw [Cd heq] at hord;have hgg:nv la=Nat.gcd m1 m2:=by rw [← HG.o,heq,Nat.gcd_self]
    have Rk:=kI hgg;have HO:=kI hord;clear hord hgg heq;have hmin:=Nat.le_total n m;go_wp2_with fail;refine (HO.o _ (Ext.refl _)).mono ?_;rintro e w6 ⟨rfl,hx6⟩;have X6:=kI (HX.o.trans hx6);have Fs:=kI (RA.o.ext hx6);clear hx6 HO RA RB;go_wp2_with fail
    ·have hq:m=min n m:=Z
     have HQ:=kI hq;clear hq;go_loopg [0,57] (m) (fun N v i W=>∃ k:Nat,k+N=m∧i=.int .i64 k∧bZ W w.heap.size v (lim (nv la*2 ^ k))∧Ext w W)
     case atStart=>
      refine ⟨0,by omega,rfl,?_,X6.o⟩;rw [Nat.pow_zero,Nat.mul_one,dx LA.o ZA.o];exact ⟨some pa,gI.row Fs.o,fun g e=>by cases e;exact hpa⟩
     case round=>
      obtain ⟨k,hk,rfl,hv,hx⟩:=hrel;obtain ⟨av,cv,rfl⟩:=hv.shape;have VV:=kI hv;have VX:=kI hx;clear hv hx;by_cases hkq:k < m
      ·have q1:(k:Int) < (m:Int):=Z
       have hb:nv la*2 ^ k≤nv l1:=by
        rw [K1.o,Rk.o];exact Nat.mul_le_mul (Nat.gcd_le_left _ (by have:=K3.o;omega)) (Nat.pow_le_pow_right Z Z)
       have hl:(lim (nv la*2 ^ k)).length≤512:=Nat.le_trans (aL.2 (Nat.lt_of_le_of_lt hb (bX kY.o))) g1;have hsz:=VX.o.size;have hcall:=kZ w.heap.size _ _ 0 _ VV.o (aR _) (aX _) Z hsz Z;have ek:2*nv (lim (nv la*2 ^ k))+(0:Int).toNat=nv la*2 ^ (k+1):=by
        rw [aG,Nat.pow_succ,Nat.mul_comm 2 (nv la*2 ^ k),Nat.mul_assoc];rfl
       rw [ek] at hcall;have HC2:=kI hcall;clear hcall hb ek;go_wp2_with fail;refine HC2.o.mono ?_;rintro e w9 ⟨⟨v',rfl,hv⟩,hb⟩;have S6:=kI hv;have S7:=kI (Below.trans (show Below w.heap.size w wr from VX.o) hb);clear hv hb;go_wp2_with fail;go_roundg (gk - 1)
       case measure=>omega
       case rel=>exact ⟨k+1,by omega,rfl,S6.o,S7.o⟩
      ·have hkk:k=m:=Z
       subst hkk;clear hkq hk hmin;go_wp2_with fail;rw [Exit.noGoto_ret];go_ret2
       refine ⟨uC.mk VV.o ?_,VX.o⟩;rw [e1.out,K1.o,K2.o,uK K3.o K4.o,← HQ.o,Rk.o]
    ·have hq:n=min n m:=Z
     have HQ:=kI hq;clear hq;go_loopg [0,57] (n) (fun N v i W=>∃ k:Nat,k+N=n∧i=.int .i64 k∧bZ W w.heap.size v (lim (nv la*2 ^ k))∧Ext w W)
     case atStart=>
      refine ⟨0,by omega,rfl,?_,X6.o⟩;rw [Nat.pow_zero,Nat.mul_one,dx LA.o ZA.o];exact ⟨some pa,gI.row Fs.o,fun g e=>by cases e;exact hpa⟩
     case round=>
      obtain ⟨k,hk,rfl,hv,hx⟩:=hrel;obtain ⟨av,cv,rfl⟩:=hv.shape;have VV:=kI hv;have VX:=kI hx;clear hv hx;by_cases hkq:k < n
      ·have q1:(k:Int) < (n:Int):=Z
       have hb:nv la*2 ^ k≤nv l1:=by
        rw [K1.o,Rk.o];exact Nat.mul_le_mul (Nat.gcd_le_left _ (by have:=K3.o;omega)) (Nat.pow_le_pow_right Z Z)
       have hl:(lim (nv la*2 ^ k)).length≤512:=Nat.le_trans (aL.2 (Nat.lt_of_le_of_lt hb (bX kY.o))) g1;have hsz:=VX.o.size;have hcall:=kZ w.heap.size _ _ 0 _ VV.o (aR _) (aX _) Z hsz Z;have ek:2*nv (lim (nv la*2 ^ k))+(0:Int).toNat=nv la*2 ^ (k+1):=by
        rw [aG,Nat.pow_succ,Nat.mul_comm 2 (nv la*2 ^ k),Nat.mul_assoc];rfl
       rw [ek] at hcall;have HC2:=kI hcall;clear hcall hb ek;go_wp2_with fail;refine HC2.o.mono ?_;rintro e w9 ⟨⟨v',rfl,hv⟩,hb⟩;have S6:=kI hv;have S7:=kI (Below.trans (show Below w.heap.size w wr from VX.o) hb);clear hv hb;go_wp2_with fail;go_roundg (gk - 1)
       case measure=>omega
       case rel=>exact ⟨k+1,by omega,rfl,S6.o,S7.o⟩
      ·have hkk:k=n:=Z
       subst hkk;clear hkq hk hmin;go_wp2_with fail;rw [Exit.noGoto_ret];go_ret2
       refine ⟨uC.mk VV.o ?_,VX.o⟩;rw [e1.out,K1.o,K2.o,uK K3.o K4.o,← HQ.o,Rk.o]
   ·rw [lU hgt] at hord;have HO:=kI hord;clear hord;go_wp2_with fail;refine (HO.o _ (Ext.refl _)).mono ?_;rintro e w6 ⟨rfl,hx6⟩;have X6:=kI (HX.o.trans hx6);have Fs:=kI (RA.o.ext hx6);have Mw:=kI (RB.o.ext hx6);clear hx6 HO RA RB;go_wp2_with fail;refine (fK (some pa) _ _ la lb _ (gI.row Fs.o) LA.o (Mw.o.rd qC) LB.o ZB.o Z).mono ?_;rintro e w7 ⟨v,rfl,hv,g7⟩;have hpos:0 < (lim (nv la - nv lb)).length:=by
     rcases Nat.eq_zero_or_pos (lim (nv la - nv lb)).length with h|h
     ·have:=(ct (aR _) (aX _)).2 h;rw [aG] at this;omega
     ·exact h
    have hle:(lim (nv la - nv lb)).length≤512:=Nat.le_trans (aL.2 (Nat.lt_of_le_of_lt (Nat.sub_le _ _) (bX LA.o))) sa;obtain ⟨_,qc,e0,rfl,r7⟩:=hv.isRow hpos;cases e0;have R7:=kI r7;have X7:=kI (X6.o.own g7 Z);have WL:=kI (Mw.o.gr g7 qC);clear hv r7 g7 X6 Mw Fs;go_wp2_with fail;refine (kc _ qc _ _ R7.o (aR _) (aX _) Z).mono ?_;rintro e w8 ⟨⟨j,mj,k1,k2,k3,rfl,r8⟩,g8⟩;rw [aG] at k1 k3;have K3:=k3 Z;have R8:=kI r8;have X8:=kI (X7.o.own g8 Z);have ZC:=kI (WL.o.gr g8 qC);obtain ⟨hs1,hs2⟩:=uL hgt OB.o k1;have KJ:=kI K3;have S1:=kI hs1;have S2:=kI hs2;have KE:=kI k1;clear r8 g8 k1 k2 k3 K3 hs1 hs2 X7 R7 WL;go_wp2_with fail;go_roundg (mj+nv lb)
    case measure=>rw [HN.o];have:=S2.o;omega
    case rel=>
     have hmj:(lim mj).length≤512:=by
      refine Nat.le_trans (aL.2 (Nat.lt_of_le_of_lt ?_ (bX LA.o))) sa;have:mj≤mj*2 ^ j:=Nat.le_mul_of_pos_right _ (Nat.pow_pos Z);have:=KE.o;omega
     exact ⟨pa,qc,pb,qb,lim mj,lb,rfl,rfl,by rw [aG],by omega,hpa,hpb,R8.o,ZC.o,aR _,LB.o,aX _,ZB.o,by rw [aG];exact KJ.o,OB.o,hmj,sb,by rw [aG,S1.o,HG.o],X8.o⟩
 ·have e1:=kI (show xD l1 l2=([],cS l1 l2) from oD hc);have hc':(cS l1 l2 != 0)=true:=by simpa using hc
  obtain ⟨c,hcc⟩:=gN (cS l1 l2);have hk:=fun W h1 h2=>bN (.slice a1 l1.length c1) (.slice a2 l2.length c2) l1 l2 W h1 h2;rw [← hcc] at hk hc' e1;have HK:=kI hk;clear hc hcc hk;go_enter Tryz.func157,Tryz.ntmps157
  go_wp2_with fail;go_step3
  go_wp2_with fail;refine (HK.o _ H1.o H2.o).mono ?_;rintro e w1 ⟨rfl,hx1⟩;have X1:=kI hx1;clear hx1;go_wp2_with fail;rw [Exit.noGoto_ret];go_ret2
  exact ⟨uC.mk (bM.nil _ _) e1.out,X1.o⟩
end Go.Proofs.YtnnjbaijcaiohaaGreat
