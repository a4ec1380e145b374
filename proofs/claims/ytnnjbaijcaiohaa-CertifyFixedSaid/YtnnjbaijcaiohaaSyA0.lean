/- Walks and lemmas. -/
import Derived.Test.YtnnjbaijcaiohaaProg
import Derived.WalkKit
import Derived.WalkSpells
import Derived.WalkLawsBesides
import Derived.Deep.QuietTactic
import Derived.BigQuiet
import Derived.Lib.Hide
import Derived.Deep.RegionHeld3
import Derived.Deep.RegionWith
import Derived.Deep.DeepFit
import Derived.Deep.DeepCutAuto
import Derived.StillTailTactics
import Derived.StillTail
import Derived.Deep.RegionHeld
import Derived.OrdersHeld
set_option linter.unusedVariables false
set_option linter.unusedSimpArgs false
set_option maxRecDepth 100000
set_option maxHeartbeats 16000000
namespace Go.Proofs.Ytnnjbaijcaiohaa
open Go.RowKit
section
theorem sP:(∀ (a:Act) (d:Tmp) (v:Value),a.put (some d) v={ a with tmps:=a.tmps.setIfInBounds d v })∧(∀ (a:Act) (v:Value),a.put none v=a)∧(∀ {α:Type} {l:List α} {i:Nat} (h:i < l.toArray.size),l.toArray[i]=l[i]'(by simpa using h))∧(∀ {α:Type} {x:α} {l:List α} (h:0 < (x :: l).length),(x :: l)[0]=x)∧(∀ {α:Type} {x:α} {l:List α} {i:Nat} (h:i+1 < (x :: l).length),(x :: l)[i+1]=l[i]'(Nat.lt_of_succ_lt_succ h))∧(∀ {α:Type} {l:List α} {i:Nat} {x:α},l.toArray.setIfInBounds i x=(l.set i x).toArray)∧(∀ {α:Type} {x y:α} {l:List α},(x :: l).set 0 y=y :: l)∧(∀ {α:Type} {x y:α} {l:List α} {i:Nat},(x :: l).set (i+1) y=x :: l.set i y):=
  ⟨fun _ _ _=>rfl,fun _ _=>rfl,fun _=>rfl,fun _=>rfl,fun _=>rfl,by intro α l i x;exact List.setIfInBounds_toArray ..,rfl,rfl⟩
theorem sB:(∀ {α:Type} {xs:Array α} {i:Nat} {d:α},xs.getD i d=xs[i]?.getD d)∧(∀ {α:Type} {l:List α} {i:Nat},l.toArray[i]?=l[i]?)∧(∀ {α:Type} {x:α} {l:List α} {i:Nat},(x :: l)[i+1]?=l[i]?)∧(∀ {α:Type} {x:α} {l:List α},(x :: l)[0]?=some x)∧(∀ {α:Type} {x d:α},(some x).getD d=x):=
  ⟨by intro α xs i d;exact Array.getD_eq_getD_getElem? ..,by intro α l i;exact List.getElem?_toArray ..,rfl,rfl,rfl⟩
theorem dpE {J:Nat→Value→World→Prop} {j t:Nat} {a:Act} {W:World} (h:J j (a.tmps.getD t undef) W):∃ x,a.tmps[t]?.getD undef=x∧J j x W:=⟨_,rfl,by rw [Array.getD_eq_getD_getElem?] at h;exact h⟩
theorem _root_.Go.RowKit.Hid.o {p:Prop} (h:Go.RowKit.Hid p):p:=h.out
theorem kI {p:Prop} (h:p):Go.RowKit.Hid p:=h
theorem tk (i:Nat) {P:Program} {md:Region.Mode} {ops:Array Oper} {Q:Exit→Act→World→Prop} {S:World→Prop} {oi:Oper} {v:Value} {fuel:Nat} {l:Array Bool} {a:Act} {w:World} {R:Prop} (r:R) (hi:ops[i]?=some oi:=by rfl) (h1:Region.noSelect ops=true:=by kernel_rfl) (h2:Region.free md ops l i=true:=by kernel_rfl) (h3:(Region.ready md ops l).contains i=true:=by kernel_rfl) (hQ:∀ c a w,Q (.panic c) (a.put oi.dst v) w→Q (.panic c) a w:=by exact fun _ _ _ h=>h) (hy:YieldsIf P ops S oi v a:=by refine Or.inl ⟨by rfl,?_⟩;intro w hSw;(try dsimp only at hSw);go_simp;first|done|with_reducible rfl) (hS:S w:=by assumption) (k:R→wpAnyH P md ops Q S fuel (l.setIfInBounds i true) (a.put oi.dst v) w:=by intro k;(try simp only [sP]);exact k):wpAnyH P md ops Q S (fuel+1) l a w:=wpAnyH_take hi h1 h2 h3 hQ hy hS (k r)
theorem rdy (rs:List Nat) {P:Program} {md:Region.Mode} {ops:Array Oper} {Q:Exit→Act→World→Prop} {S:World→Prop} {fuel:Nat} {l:Array Bool} {a:Act} {w:World} (h:AllReadyH P md ops Q S fuel l a w rs) (hr:Region.ready md ops l=rs:=by kernel_rfl) (hn:rs≠[]:=by simp):wpAnyH P md ops Q S (fuel+1) l a w:=wpAnyH_ready hr hn h
theorem rc {P:Program} {md:Region.Mode} {ops:Array Oper} {Q:Exit→Act→World→Prop} {S:World→Prop} {fuel:Nat} {l:Array Bool} {a:Act} {w:World} {i:Nat} {o:Oper} (h:∀ K:Act→World→Prop,Shut (∀ a w,S w→(S w→wpAnyH P md ops Q S fuel (l.setIfInBounds i true) a w)→K a w)→if Region.wanted o (yielded ops a.tmps)=true then Oper.wp P o a w K Q else K (a.put o.dst undef) w) (ho:ops[i]?=some o:=by rfl):AllReadyH P md ops Q S fuel l a w [i]:=AllReadyH.cons ho h AllReadyH.nil
abbrev Ext (w w':World):Prop:=Below w.heap.size w w'
theorem Ext.refl (w:World):Ext w w:=Below.refl _ _
theorem Ext.trans {a b c:World} (h:Ext a b) (k:Ext b c):Ext a c:=Below.trans h (k.mono h.size)
theorem Ext.alloc {a w:World} (h:Ext a w) (o:Obj):Ext a (w.alloc o):=Below.alloc h h.size o
theorem Ext.drew {a w:World} (h:Ext a w):Ext a w.drew:=Below.drew h
theorem Ext.drewN {a w:World} (h:Ext a w) (n:Nat):Ext a (w.drewN n):=below_drewN h n
theorem Ext.set {a w:World} (h:Ext a w) {p:Addr} (hp:a.heap.size≤p.block) (v:Value):Ext a (w.setCell p v):=Below.setCell h hp v
theorem Ext.setp {a w:World} {p:Addr} {v:Value} (hp:a.heap.size≤p.block) (h:Ext a w):Ext a (w.setCell p v):=Below.setCell h hp v
theorem eX {a b:World} (h:Ext a b:=by (repeat (first|(with_reducible first|exact Ext.refl _|assumption|refine Ext.alloc ?_ _)|((with_reducible refine Ext.setp ?_ ?_);focus (dsimp only;omega))|(with_reducible first|refine Ext.drew ?_|refine Ext.drewN ?_ _|refine Ext.trans ?_ (by assumption))))):Ext a b:=h
@[simp] theorem size_drewN (w:World) (n:Nat):(w.drewN n).heap.size=w.heap.size:=rfl
/-- What a walk wants of a later world: cells and marks below B as they were. -/
theorem Ext.old {w w1:World} (h:Ext w w1) {B:Nat} (hB:B≤w.heap.size):(∀ b o,b < B→w1.cell? ⟨b,o,none⟩=w.cell? ⟨b,o,none⟩)∧(∀ b o,b < B→w1.frozen? ⟨b,o,none⟩=w.frozen? ⟨b,o,none⟩):=
 ⟨fun _ _ hb=>h.cell (Nat.lt_of_lt_of_le hb hB),fun _ _ hb=>h.frozen (Nat.lt_of_lt_of_le hb hB)⟩
theorem Ext.block_at {w w1:World} (h:Ext w w1) {b:Nat} (hb:b < w.heap.size):(∀ o,w1.cell? ⟨b,o,none⟩=w.cell? ⟨b,o,none⟩)∧(∀ o,w1.frozen? ⟨b,o,none⟩=w.frozen? ⟨b,o,none⟩):=
 ⟨fun _=>h.cell hb,fun _=>h.frozen hb⟩
def Blk (w:World) (b:Nat) (c:Array Value) (t:TypeId):Prop:=w.heap[b]?=some (.cells c t (0,0))
theorem Blk.lt {w:World} {b:Nat} {c:Array Value} {t:TypeId} (h:Blk w b c t):b < w.heap.size:=(Array.getElem?_eq_some_iff.1 h).1
theorem Blk.cell {w:World} {b:Nat} {c:Array Value} {t:TypeId} (h:Blk w b c t) (o:Nat):w.cell? ⟨b,o,none⟩=c[o]?:=by
 unfold Blk at h;simp [World.cell?,h]
theorem Blk.free {w:World} {b:Nat} {c:Array Value} {t:TypeId} (h:Blk w b c t) (o:Nat):w.frozen? ⟨b,o,none⟩=false:=by
 unfold Blk at h;simp [World.frozen?,h]
theorem Blk.ext {w w':World} {b:Nat} {c:Array Value} {t:TypeId} (h:Blk w b c t) (e:Ext w w'):Blk w' b c t:=(e.block b h.lt).trans h
theorem Blk.alloc {w:World} {b:Nat} {c:Array Value} {t:TypeId} (h:Blk w b c t) (o:Obj):Blk (w.alloc o) b c t:=h.ext ((Ext.refl w).alloc o)
theorem Blk.drew {w:World} {b:Nat} {c:Array Value} {t:TypeId} (h:Blk w b c t):Blk w.drew b c t:=h
theorem Blk.new (w:World) (c:Array Value) (t:TypeId):Blk (w.alloc (.cells c t)) w.heap.size c t:=by
 show (w.heap.push _)[w.heap.size]?=_;simp
theorem Blk.setOther {w:World} {b:Nat} {c:Array Value} {t:TypeId} (h:Blk w b c t) {a:Addr} (ha:b≠a.block) (v:Value):Blk (w.setCell a v) b c t:=(Below.heap_setCell w a v b ha).trans h
theorem Blk.set {w:World} {b:Nat} {c:Array Value} {t:TypeId} (h:Blk w b c t) (o:Nat) (v:Value):Blk (w.setCell ⟨b,o,none⟩ v) b (c.setIfInBounds o v) t:=by
 unfold Blk at *;simp [World.setCell,Array.getElem?_modify,h]
def Rd (w:World) (v:Value) (l:List Value):Prop:=
 ∃ a cap,v=.slice a l.length cap∧l.length≤cap∧cap≤9223372036854775807∧
  ∀ i,i < l.length→∃ b off,a=some ⟨b,off,none⟩∧b < w.heap.size∧w.cell? ⟨b,off+i,none⟩=l[i]?
theorem Rd.ext {w w':World} {v:Value} {l:List Value} (h:Rd w v l) (e:Ext w w'):Rd w' v l:=by
 obtain ⟨a,cap,hv,hc,hm,hr⟩:=h;refine ⟨a,cap,hv,hc,hm,fun i hi=>?_⟩;obtain ⟨b,off,ha,hb,hx⟩:=hr i hi;exact ⟨b,off,ha,Nat.lt_of_lt_of_le hb e.size,(e.cell (p:=⟨b,off+i,none⟩) hb).trans hx⟩
abbrev RdI (k:IntKind) (w:World) (v:Value) (l:List Int):Prop:=Rd w v (l.map (Value.int k))
theorem RdI.get {k:IntKind} {w:World} {v:Value} {l:List Int} (h:RdI k w v l):∃ a cap,v=.slice a l.length cap∧l.length≤cap∧cap≤9223372036854775807∧
  ∀ i,i < l.length→∃ b off,a=some ⟨b,off,none⟩∧b < w.heap.size∧w.cell? ⟨b,off+i,none⟩=some (.int k (l.getD i 0)):=by
 obtain ⟨a,cap,hv,hc,hm,hr⟩:=h;simp only [List.length_map] at hv hc hr;refine ⟨a,cap,hv,hc,hm,fun i hi=>?_⟩;obtain ⟨b,off,ha,hb,hx⟩:=hr i hi;exact ⟨b,off,ha,hb,by rw [hx];simp [hi]⟩
def RdN (n:Nat) (w:World) (v:Value) (l:List (List Value)):Prop:=
 ∃ a cap,v=.slice a l.length cap∧l.length≤cap∧cap≤9223372036854775807∧
  ∀ i,i < l.length→∃ b off,a=some ⟨b,off,none⟩∧b < w.heap.size∧∀ j,j < n→w.cell? ⟨b,off+i*n+j,none⟩=(l.getD i [])[j]?
theorem take_succ_eq {α:Type} {l1 l2:List α} {k:Nat} (h:l1.take k=l2.take k) (h1:k < l1.length) (h2:k < l2.length) (e:l1[k]=l2[k]):l1.take (k+1)=l2.take (k+1):=by
 rw [List.take_succ_eq_append_getElem h1,List.take_succ_eq_append_getElem h2,h,e]
theorem ret_bool {a b:Bool} (h:a=b):Ending.returned (.bool a)=.returned (.bool b):=by rw [h]
theorem ret_int {k:IntKind} {a b:Int} (h:a=b):Ending.returned (.int k a)=.returned (.int k b):=by rw [h]
theorem wpList_append_new {P:Program} (W:World) {ops:Array Oper} {rest:List Oper} {o:Oper} {a:Act} {Q:Exit→Act→World→Prop} (hgd:o.guard=none) (s x:Operand) (t:TypeId)
  (ho:o.op=.call { callee:=.builtin .append,args:=#[s,x],argTypes:=#[t,t] })
  (B:Nat) (e:TypeId) (z:Value) (size bytes:Nat) (ht:P.underlying t=some (.slice e)) (hinfo:(P.info? e).map (fun i=>(i.zero,i.size,i.bytes))=some (some z,size,bytes))
  (hzs:z.cells.size=size) (hsz:0 < size) (v:Value) (n:Nat) (xs:List Value) (hown:W.ownsRow B e size v n xs) (hs:a.eval s=v)
  (cs:List Value) (hcs:cs.length=size) (h1c:∀ u ∈ cs,u.oneCell'=true) (hx:a.eval x=.slice (some ⟨W.heap.size,0,none⟩) 1 1)
  (h63:n+1≤9223372036854775807) (hbytes:(n+1)*bytes≤140737488355328) (hB:B≤W.heap.size)
  (h:∀ g cap w',w'.ownsRow B e size (.slice (some ⟨g,0,none⟩) (n+1) cap) (n+1) (xs ++ cs)→Below B W w'→wpList P ops Q rest (a.put o.dst (.slice (some ⟨g,0,none⟩) (n+1) cap)) w') :
  wpList P ops Q (o :: rest) a (W.alloc (.cells cs.toArray e)):=by
 obtain ⟨i0,hi,hz0,hz1,hz2⟩:=info_parts hinfo;refine wpList_append_own _ hgd s x t ho B e i0 z size bytes ht hi hz0 hz1 hz2 hzs hsz v n xs hs (hown.alloc _) ⟨W.heap.size,0,none⟩ 1 1 cs hx (by simp [hcs]) ?_ h1c (by unfold maxLen;omega) hbytes (by simp;omega) ?_
 ·intro j u hj;have hlt:j < cs.length:=(List.getElem?_eq_some_iff.1 hj).1;have hadd:(⟨W.heap.size,0,none⟩:Addr).add j=⟨W.heap.size,j,none⟩:=by unfold Addr.add;split <;> simp_all
  rw [hadd,World.cell?_alloc_at _ _ _ _ rfl];simpa using hj
 ·intro v' w' hown' hgrow _;have hb:Below B W w':=((Below.refl B W).alloc hB _).grown hgrow (by simp;omega) (fun k hk=>(hown.lt k hk).1);have h2:=hown'.2;rcases h2 with ⟨_,h0⟩|⟨g,cap,cur,rfl,_⟩
  ·omega
  ·exact h g cap w' hown' hb
structure Later (w:World) where
 at':World
 ext:Ext w at'
instance Later.inhabited (w:World):Nonempty (Later w):=⟨⟨w,Ext.refl w⟩⟩
@[go_sem] theorem Later.cell {w:World} (x:Later w) {b o:Nat} (h:b < w.heap.size):x.at'.cell? ⟨b,o,none⟩=w.cell? ⟨b,o,none⟩:=x.ext.cell (p:=⟨b,o,none⟩) h
@[go_sem] theorem Later.frozen {w:World} (x:Later w) {b o:Nat} (h:b < w.heap.size):x.at'.frozen? ⟨b,o,none⟩=w.frozen? ⟨b,o,none⟩:=x.ext.frozen (p:=⟨b,o,none⟩) h
/-- A contract of a callee that hands back one value and turns nothing that was there, met inside such a region. -/
theorem quietE {P:Program} {f:FuncId} {args:Array Value} {w:World} {x:Later w} {v:Value}
  (h:Calls P f args x.at' fun e w'=>e=.returned v∧Ext x.at' w'):Calls P f args x.at' fun e w''=>e=.returned v∧∃ y:Later w,w''=y.at':=
 h.mono fun _ w' ⟨he,hx⟩=>⟨he,⟨w',x.ext.trans hx⟩,rfl⟩
theorem wp_region_quietE {P:Program} {id:Nat} {Q:Exit→Act→World→Prop} {a:Act} {w:World} {l:List Oper} (hm:P.follows .mixedOrders=true) (hB:Region.lexB .any l.toArray=true)
  (h:wpQuiet P l.toArray (fun w'=>∃ y:Later w,w'=y.at') (fun a'=>∀ w',(∃ y:Later w,w'=y.at')→Q .normal a' w') l a):(Code.region id l.toArray true).wp P Q a w:=
 wp_region_quiet (C:=fun w'=>∃ y:Later w,w'=y.at') hm hB ⟨⟨w.drew,(Ext.refl w).drew⟩,rfl⟩ (by simpa using h)
section
variable {P:Program} {ops:Array Oper} {md:Region.Mode} {C:World→Prop}
def anyHead (P:Program) (md:Region.Mode) (ops:Array Oper) (C:World→Prop) (n:Nat) (L:Array Bool→Act→Prop):Nat→Array Bool→Act→Prop
 | 0,listed,a=>L listed a
 | f+1,listed,a=>Region.ready md ops listed≠[]∧∀ i ∈ Region.ready md ops listed,i < n∧qOp P ops C i (anyHead P md ops C n L f (listed.setIfInBounds i true)) a
theorem anyHead_sound {n g:Nat} {L:Array Bool→Act→Prop} {Q:Exit→Act→World→Prop} (hL:∀ listed a w,C w→L listed a→wpAny P md ops Q g listed a w) :
  ∀ (f:Nat) (listed:Array Bool) (a:Act) (w:World),C w→anyHead P md ops C n L f listed a→wpAny P md ops Q (f+g) listed a w:=by
 intro f;induction f with
 | zero=>intro listed a w hw h;rw [Nat.zero_add];exact hL _ _ _ hw h
 | succ f ih=>
  intro listed a w hw h;rw [Nat.succ_add];exact ⟨fun h0=>absurd h0 h.1,fun i hi=>wpOp_of_qOp hw (fun a' w' hw'=>ih _ a' w' hw') (h.2 i hi).2⟩
theorem anyHead_first {n i:Nat} {oi:Oper} {v:Value} {L:Array Bool→Act→Prop} (hi:ops[i]?=some oi) (hsel:∀ (j:Nat) (o:Oper) cs b,ops[j]?=some o→o.op≠.select cs b)
  (hs:Region.sinkB md ops n=true) (hc:Region.chainB md ops n=true) (hn:n < ops.size) (hin:i < n)
  (hdone:∀ listed a,L listed a→∀ j ∈ Region.ready md ops listed,n≤j) :
  ∀ (f:Nat) (listed:Array Bool) (a:Act),HeadInv md ops n listed→
   (∀ j oj,ops[j]?=some oj→j≠i→listed.getD j true=false→(∀ e ∈ oj.after,Region.binds md e=true→e.on≠i)→oi.apart ops oj=true)→
   i ∈ Region.ready md ops listed→YieldsIn P ops C oi v a→
   anyHead P md ops C n L f (listed.setIfInBounds i true) (a.put oi.dst v)→anyHead P md ops C n L (f+1) listed a:=by
 intro f;induction f with
 | zero=>
  intro listed a inv _ hr hy H;refine ⟨List.ne_nil_of_mem hr,fun j hj=>?_⟩;have hjn:j < n:=Nat.lt_of_not_le fun hge=>tail_waits hs hc hn inv _ i rfl hin (mem_ready.1 hr).1 j hge hj;by_cases hji:j=i
  ·subst hji;exact ⟨hjn,hy.qOp hi H⟩
  ·have:=hdone _ _ H j (ready_mono hj hji);omega
 | succ f ih=>
  intro listed a inv hfree hr hy H;refine ⟨List.ne_nil_of_mem hr,fun j hj=>?_⟩;have hjn:j < n:=Nat.lt_of_not_le fun hge=>tail_waits hs hc hn inv _ i rfl hin (mem_ready.1 hr).1 j hge hj;by_cases hji:j=i
  ·subst hji;exact ⟨hjn,hy.qOp hi H⟩
  refine ⟨hjn,?_⟩;obtain ⟨hjun,oj,hoj,hall⟩:=mem_ready.1 hj;have hnot:∀ e ∈ oj.after,Region.binds md e=true→e.on≠i:=fun e he hb heq=>by
   have h1:=hall e he hb;rw [heq,getD_both (mem_ready.1 hr).1] at h1;exact Bool.false_ne_true h1
  have h2:=qOp_put hoj (hfree j oj hoj hji hjun hnot) (fun cs b=>hsel i oi cs b hi) (fun cs b=>hsel j oj cs b hoj) hy (H.2 j (ready_mono hj hji)).2;refine qOp_mono (fun a' h3=>ih _ a' (inv.set hj hjn) (fun k ok hk hki hun hno=>?_) (ready_mono hr (Ne.symm hji)) h3.1 (by rw [Array.setIfInBounds_comm _ _ hji];exact h3.2)) h2;refine hfree k ok hk hki ?_ hno;by_cases hjk:j=k
  ·exact hjk ▸ hjun
  ·rwa [getD_set_ne true hjk] at hun
theorem anyHead_lex {n g:Nat} {Lq:Act→Prop} (hsel:Region.noSelect ops=true) (hs:Region.sinkB md ops n=true) (hc:Region.chainB md ops n=true) (hn:n < ops.size) :
  ∀ (l:List Oper) (k:Nat) (listed:Array Bool) (a:Act),(∀ j,j < l.length→l[j]?=ops[k+j]?)→k+l.length=n→HeadInv md ops n listed→
  Region.lexHead md ops g l.length k listed=true→wpQuiet P ops C Lq l a→
  anyHead P md ops C n (fun listed' a'=>Region.seqB md ops g n listed'=true∧Lq a') l.length listed a:=by
 intro l;induction l with
 | nil=>
  intro k listed a _ hk _ hB h;obtain rfl:k=n:=by simpa using hk
  exact ⟨by simpa [Region.lexHead] using hB,h⟩
 | cons o l ih=>
  intro k listed a hl hk inv hB h;have h0:ops[k]?=some o:=by simpa using (hl 0 (by simp)).symm
  simp only [List.length_cons,Region.lexHead,Bool.and_eq_true] at hB hk;obtain ⟨⟨hr,hf⟩,hB'⟩:=hB;have hr':k ∈ Region.ready md ops listed:=by simpa using hr
  have hkn:k < n:=by omega
  obtain ⟨v,hy,hK⟩:=yieldsIn_of_qOp (C:=C) (P:=P) (K:=wpQuiet P ops C Lq l) (a:=a) h0 (by unfold qOp;simp only [h0];exact h);exact anyHead_first h0 (Region.noSelect_spec hsel) hs hc hn hkn (fun _ _ hL=>seqB_ready hL.1) l.length listed a inv (Region.free_spec h0 hf) hr' hy
   (ih (k+1) _ _ (fun j hj=>by have:=hl (j+1) (by simp;omega);simpa [Nat.add_assoc,Nat.add_comm 1 j] using this) (by omega) (inv.set hr' hkn) hB' hK)
theorem wp_region_quiet_tail {id:Nat} {Q:Exit→Act→World→Prop} {a:Act} {w:World} {l:List Oper} (n:Nat) (hm:P.follows .mixedOrders=true) (hB:Region.lexTailB .any l.toArray n=true) (hC:C w.drew)
  (h:wpQuiet P l.toArray C (fun a'=>∀ w',C w'→wpList P l.toArray Q (l.drop n) a' w') (l.take n) a):(Code.region id l.toArray true).wp P Q a w:=by
 simp only [Region.lexTailB,Bool.and_eq_true,decide_eq_true_eq] at hB;obtain ⟨⟨⟨⟨hsel,hn⟩,hs⟩,hc⟩,hlex⟩:=hB;have hn':n < l.length:=by simpa using hn
 have htl:(l.take n).length=n:=by simp;omega
 have hdl:(l.drop n).length=l.toArray.size - n:=by simp
 have inv0:HeadInv .any l.toArray n (Array.replicate l.toArray.size false):=
  ⟨by simp,fun j oj _ hl=>absurd hl (by rw [getD_replicate_false];simp),fun t _ ht=>getD_in (by simpa using ht) (getD_replicate_false _ _)⟩
 have H:=anyHead_lex (C:=C) (P:=P) (md:=.any) (g:=l.toArray.size - n) hsel hs hc hn (l.take n) 0 _ a
  (fun j hj=>by rw [htl] at hj;simp [hj]) (by simpa using htl) inv0 (by rw [htl];exact hlex) h
 have R:=anyHead_sound (Q:=Q) (g:=l.toArray.size - n) (fun listed a' w' hw' hL=>by
  have:=wpAny_of_seq (md:=.any) (Q':=Q) (l.drop n) n listed a' w' (fun j=>by simp [List.getElem?_drop]) (by rw [hdl];exact hL.1) (hL.2 w' hw');rwa [hdl] at this) _ _ _ _ hC H
 rw [htl,show n+(l.toArray.size - n)=l.toArray.size by omega] at R;exact wp_region_any hm R
theorem wp_region_quietE_tail {id:Nat} {Q:Exit→Act→World→Prop} {a:Act} {w:World} {l:List Oper} (n:Nat) (hm:P.follows .mixedOrders=true) (hB:Region.lexTailB .any l.toArray n=true)
  (h:wpQuiet P l.toArray (fun w'=>∃ y:Later w,w'=y.at') (fun a'=>∀ w',(∃ y:Later w,w'=y.at')→wpList P l.toArray Q (l.drop n) a' w') (l.take n) a):(Code.region id l.toArray true).wp P Q a w:=
 wp_region_quiet_tail (C:=fun w'=>∃ y:Later w,w'=y.at') n hm hB ⟨⟨w.drew,(Ext.refl w).drew⟩,rfl⟩ h
end
end
theorem own_ext {w w':World} {B:Nat} {e:TypeId} {size:Nat} {v:Value} {n:Nat} {xs:List Value} (h:w.ownsRow B e size v n xs) (x:Ext w w'):w'.ownsRow B e size v n xs:=by
 refine ⟨h.1,?_⟩;rcases h.2 with hn|⟨g,cap,cur,rfl,hb,hg,rest⟩
 ·exact .inl hn
 ·exact .inr ⟨g,cap,cur,rfl,hb,(x.block g (Array.getElem?_eq_some_iff.1 hg).1).trans hg,rest⟩
theorem own_mono {w:World} {B B':Nat} {e:TypeId} {size:Nat} {v:Value} {n:Nat} {xs:List Value} (h:w.ownsRow B e size v n xs) (hB:B'≤B):w.ownsRow B' e size v n xs:=by
 refine ⟨h.1,?_⟩;rcases h.2 with hn|⟨g,cap,cur,rfl,hb,hg,rest⟩
 ·exact .inl hn
 ·exact .inr ⟨g,cap,cur,rfl,Nat.le_trans hB hb,hg,rest⟩
theorem own_rdN {w:World} {B:Nat} {e:TypeId} {m:Nat} {v:Value} {l:List (List Value)} (h:w.ownsRow B e m v l.length l.flatten) (hl:∀ x ∈ l,x.length=m):RdN m w v l:=by
 rcases h.2 with ⟨rfl,h0⟩|⟨g,cap,cur,rfl,hb,hg,hn,hm,hs,ht⟩
 ·exact ⟨none,0,by rw [h0],by omega,by omega,fun i hi=>by omega⟩
 ·refine ⟨_,cap,rfl,hn,by unfold maxLen at hm;omega,fun i hi=>⟨g,0,rfl,(Array.getElem?_eq_some_iff.1 hg).1,fun j hj=>?_⟩⟩;rw [Nat.zero_add];have hc:w.cell? ⟨g,i*m+j,none⟩=cur[i*m+j]?:=by simp [World.cell?,hg]
  rw [hc];have hlt:i*m+j < l.length*m:=by
   have:(i+1)*m≤l.length*m:=Nat.mul_le_mul_right _ hi;rw [Nat.add_mul,Nat.one_mul] at this;omega
  have e1:(cur.toList.take (l.length*m))[i*m+j]?=l.flatten[i*m+j]?:=by rw [ht]
  rw [List.getElem?_take_of_lt hlt,Array.getElem?_toList] at e1;rw [e1];clear e1 hc ht hs hg hn hm hlt h;induction l generalizing i with
  | nil=>simp at hi
  | cons x r ih=>
   have hx:x.length=m:=hl x (by simp);cases i with
   | zero=>
    rw [List.flatten_cons,Nat.zero_mul,Nat.zero_add,List.getElem?_append_left (by omega)];simp
   | succ i=>
    rw [List.flatten_cons,Nat.add_mul,Nat.one_mul,List.getElem?_append_right (by omega),hx,
     show i*m+m+j - m=i*m+j by omega]
    have:=ih (fun y hy=>hl y (by simp [hy])) i (by simpa using hi);simpa using this
def nv:List Int→Nat
 | []=>0
 | x :: xs=>x.toNat+4294967296*nv xs
def Lim (l:List Int):Prop:=∀ x ∈ l,0≤x∧x < 4294967296
def NoZ (l:List Int):Prop:=l.getLast?≠some 0
def limF:Nat→Nat→List Int
 | 0,_=>[]
 | f+1,n=>if n=0 then [] else ((n % 4294967296:Nat):Int) :: limF f (n / 4294967296)
def lim (n:Nat):List Int:=limF n n
theorem limF_more:∀ (f n:Nat),n≤f→limF f n=limF n n:=by
 intro f;induction f using Nat.strongRecOn with
 | _ f ih=>
  intro n hn;match f,n,hn with
  | 0,0,_=>rfl
  | f+1,0,_=>simp [limF]
  | f+1,n+1,hn=>
   rw [limF,limF,if_neg (by omega),if_neg (by omega)];have h1:(n+1) / 4294967296≤n:=by omega
   rw [ih f (by omega) _ (by omega)];by_cases hf:n=f
   ·subst hf;rw [ih n (by omega) _ h1]
   ·rw [ih n (by omega) _ h1]
theorem lim_zero:lim 0=[]:=rfl
theorem lim_pos {n:Nat} (h:0 < n):lim n=((n % 4294967296:Nat):Int) :: lim (n / 4294967296):=by
 obtain ⟨m,rfl⟩:∃ m,n=m+1:=⟨n - 1,by omega⟩;show limF (m+1) (m+1)=_;rw [limF,if_neg (by omega),limF_more m _ (by omega)];rfl
theorem nv_nil:nv []=0:=rfl
theorem nv_cons (x:Int) (xs:List Int):nv (x :: xs)=x.toNat+4294967296*nv xs:=rfl
theorem nv_lim:∀ n,nv (lim n)=n:=by
 intro n;induction n using Nat.strongRecOn with
 | _ n ih=>
  by_cases h:n=0
  ·subst h;rfl
  ·rw [lim_pos (by omega),nv_cons,ih _ (by omega)];omega
theorem lim_lim:∀ n,Lim (lim n):=by
 intro n;induction n using Nat.strongRecOn with
 | _ n ih=>
  by_cases h:n=0
  ·subst h;intro x hx;simp [lim_zero] at hx
  ·rw [lim_pos (by omega)];intro x hx;rcases List.mem_cons.1 hx with rfl|hx
   ·omega
   ·exact ih _ (by omega) x hx
theorem nv_pos_of_noZ {l:List Int} (hl:Lim l) (h:NoZ l) (hne:l≠[]):0 < nv l:=by
 induction l with
 | nil=>exact absurd rfl hne
 | cons x xs ih=>
  rw [nv_cons];have hx:=hl x (by simp);by_cases hxs:xs=[]
  ·subst hxs;have:x≠0:=by intro e;subst e;exact h rfl
   omega
  ·have:=ih (fun y hy=>hl y (by simp [hy])) (by
    unfold NoZ at *;rwa [List.getLast?_cons_of_ne_nil hxs] at h) hxs
   omega
theorem lim_noZ:∀ n,NoZ (lim n):=by
 intro n;induction n using Nat.strongRecOn with
 | _ n ih=>
  by_cases h:n=0
  ·subst h;simp [NoZ,lim_zero]
  ·rw [lim_pos (by omega)];by_cases h2:n / 4294967296=0
   ·rw [h2,lim_zero];simp [NoZ];omega
   ·have h3:=ih _ (show n / 4294967296 < n by omega);unfold NoZ at *;rw [List.getLast?_cons_of_ne_nil]
    ·exact h3
    ·rw [lim_pos (by omega)];simp
theorem lim_nv:∀ {l:List Int},Lim l→NoZ l→lim (nv l)=l:=by
 intro l;induction l with
 | nil=>intros;rfl
 | cons x xs ih=>
  intro hl hz;have hp:=nv_pos_of_noZ hl hz (by simp);have hx:=hl x (by simp);have hxs:NoZ xs:=by
   by_cases h:xs=[]
   ·subst h;simp [NoZ]
   ·unfold NoZ at *;rwa [List.getLast?_cons_of_ne_nil h] at hz
  rw [lim_pos hp,nv_cons];rw [nv_cons] at hp;have e1:(x.toNat+4294967296*nv xs) / 4294967296=nv xs:=by omega
  have e2:(x.toNat+4294967296*nv xs) % 4294967296=x.toNat:=by omega
  rw [e1,e2,ih (fun y hy=>hl y (by simp [hy])) hxs];congr 1
  omega
theorem nv_append (a b:List Int):nv (a ++ b)=nv a+4294967296 ^ a.length*nv b:=by
 induction a with
 | nil=>simp [nv]
 | cons x xs ih=>
  rw [List.cons_append,nv_cons,nv_cons,ih,List.length_cons,Nat.pow_succ,Nat.mul_add,Nat.mul_comm (4294967296 ^ xs.length) 4294967296,Nat.mul_assoc];omega
theorem nv_lt {l:List Int} (h:Lim l):nv l < 4294967296 ^ l.length:=by
 induction l with
 | nil=>simp [nv]
 | cons x xs ih=>
  have hx:=h x (by simp);have:=ih (fun y hy=>h y (by simp [hy]));rw [nv_cons,List.length_cons,Nat.pow_succ];omega
theorem nv_ge {l:List Int} (h:Lim l) (hz:NoZ l) (hne:l≠[]):4294967296 ^ (l.length - 1)≤nv l:=by
 induction l with
 | nil=>exact absurd rfl hne
 | cons x xs ih=>
  have hx:=h x (by simp);by_cases hxs:xs=[]
  ·subst hxs;have:x≠0:=by intro e;subst e;exact hz rfl
   simp [nv];omega
  ·have h1:=ih (fun y hy=>h y (by simp [hy])) (by unfold NoZ at *;rwa [List.getLast?_cons_of_ne_nil hxs] at hz) hxs;have hl:xs.length≠0:=by simpa using hxs
   rw [nv_cons,List.length_cons,show xs.length+1 - 1=(xs.length - 1)+1 by omega,Nat.pow_succ];omega
theorem pow_le {a b:Nat} (h:a≤b):(4294967296:Nat) ^ a≤4294967296 ^ b:=Nat.pow_le_pow_right (by omega) h
theorem lt_of_pow_le {a b n:Nat} (h1:(4294967296:Nat) ^ a≤n) (h2:n < 4294967296 ^ b):a < b:=by
 rcases Nat.lt_or_ge a b with h|h
 ·exact h
 ·have:=pow_le h;omega
theorem lim_len_le {n k:Nat}:(lim n).length≤k↔n < 4294967296 ^ k:=by
 have h1:=nv_lt (lim_lim n);rw [nv_lim] at h1;constructor
 ·intro h;exact Nat.lt_of_lt_of_le h1 (pow_le h)
 ·intro h;by_cases h0:lim n=[]
  ·simp [h0]
  ·have h2:=nv_ge (lim_lim n) (lim_noZ n) h0;rw [nv_lim] at h2;have:=lt_of_pow_le h2 h;omega
theorem nv_take_succ {l:List Int} {k:Nat} (h:k < l.length):nv (l.take (k+1))=nv (l.take k)+4294967296 ^ k*l[k].toNat:=by
 rw [List.take_succ_eq_append_getElem h,nv_append,List.length_take_of_le (by omega)];simp [nv]
theorem nv_split (l:List Int) (k:Nat) (h:k≤l.length):nv l=nv (l.take k)+4294967296 ^ k*nv (l.drop k):=by
 conv=>lhs;rw [← List.take_append_drop k l,nv_append,List.length_take_of_le h]
theorem lim_take {l:List Int} (h:Lim l) (k:Nat):Lim (l.take k):=fun x hx=>h x (List.mem_of_mem_take hx)
theorem lim_app {a b:List Int} (ha:Lim a) (hb:Lim b):Lim (a ++ b):=fun x hx=>(List.mem_append.1 hx).elim (ha x) (hb x)
theorem lim_get {l:List Int} (h:Lim l) {k:Nat} (hk:k < l.length):0≤l[k]∧l[k] < 4294967296:=h _ (List.getElem_mem hk)
theorem lim_set {l:List Int} (h:Lim l) (k:Nat) {x:Int} (h0:0≤x) (h1:x < 4294967296):Lim (l.set k x):=by
 intro y hy;rcases List.mem_or_eq_of_mem_set hy with h2|rfl
 ·exact h y h2
 ·exact ⟨h0,h1⟩
theorem nv_set {l:List Int} {k:Nat} (hk:k < l.length) (x:Int):nv (l.set k x)+4294967296 ^ k*l[k].toNat=nv l+4294967296 ^ k*x.toNat:=by
 have e1:l=l.take k ++ l[k] :: l.drop (k+1):=by simp
 have e2:l.set k x=l.take k ++ x :: l.drop (k+1):=by rw [List.set_eq_take_append_cons_drop];simp [hk]
 rw [e2,nv_append];conv=>rhs;rw [e1,nv_append]
 rw [List.length_take_of_le (by omega),nv_cons,nv_cons,Nat.mul_add,Nat.mul_add];omega
theorem nv_zeros (n:Nat):nv (List.replicate n 0)=0:=by
 induction n with
 | zero=>rfl
 | succ n ih=>rw [List.replicate_succ,nv_cons,ih];rfl
theorem lim_zeros (n:Nat):Lim (List.replicate n 0):=by
 intro x hx;obtain ⟨_,rfl⟩:=List.mem_replicate.1 hx;omega
theorem nv_take_zero {l:List Int} {k:Nat} (hk:k < l.length) (h0:l[k]=0) (he:nv (l.take (k+1))=nv l):nv (l.take k)=nv l:=by
 rw [nv_take_succ hk,h0] at he;simpa using he
section
open Go Go.RowKit
theorem bits_u32 (a b:Nat) (ha:a < 4294967296) (hb:b < 4294967296) :
  bits .and .u32 a b=((a &&& b:Nat):Int)∧bits .or .u32 a b=((a ||| b:Nat):Int)∧bits .xor .u32 a b=((a ^^^ b:Nat):Int):=by
 have h1:a &&& b < 2 ^ 32:=Nat.and_lt_two_pow _ (by omega);have h2:a ||| b < 2 ^ 32:=Nat.or_lt_two_pow (by omega) (by omega)
 have h3:a ^^^ b < 2 ^ 32:=Nat.xor_lt_two_pow (by omega) (by omega);have ea:(BitVec.ofInt 32 (a:Int)).toNat=a:=by rw [BitVec.toNat_ofInt];omega
 have eb:(BitVec.ofInt 32 (b:Int)).toNat=b:=by rw [BitVec.toNat_ofInt];omega
 refine ⟨?_,?_,?_⟩
 ·show IntKind.u32.wrap (((BitVec.ofInt 32 (a:Int) &&& BitVec.ofInt 32 (b:Int)).toNat:Nat):Int)=_;rw [BitVec.toNat_and,ea,eb];simp only [IntKind.wrap,IntKind.bits,IntKind.signed,Bool.false_and,Bool.false_eq_true,if_false];omega
 ·show IntKind.u32.wrap (((BitVec.ofInt 32 (a:Int) ||| BitVec.ofInt 32 (b:Int)).toNat:Nat):Int)=_;rw [BitVec.toNat_or,ea,eb];simp only [IntKind.wrap,IntKind.bits,IntKind.signed,Bool.false_and,Bool.false_eq_true,if_false];omega
 ·show IntKind.u32.wrap (((BitVec.ofInt 32 (a:Int) ^^^ BitVec.ofInt 32 (b:Int)).toNat:Nat):Int)=_;rw [BitVec.toNat_xor,ea,eb];simp only [IntKind.wrap,IntKind.bits,IntKind.signed,Bool.false_and,Bool.false_eq_true,if_false];omega
theorem or_add (a b k:Nat) (ha:a % 2 ^ k=0) (hb:b < 2 ^ k):a ||| b=a+b:=by
 have e:a=2 ^ k*(a / 2 ^ k):=by have:=Nat.div_add_mod a (2 ^ k);omega
 rw [e,← Nat.two_pow_add_eq_or_of_lt hb]
theorem top_bit (n:Nat) (h:n < 4294967296):n / 2147483648=if n.testBit 31 then 1 else 0:=by
 rw [Nat.testBit_eq_decide_div_mod_eq];have e:(2:Nat) ^ 31=2147483648:=rfl;rw [e];split
 ·rename_i h1;have:=of_decide_eq_true h1;omega
 ·rename_i h1;have:¬ (n / 2147483648 % 2=1):=by simpa using h1
  omega
theorem test31 (n:Nat) (h:n < 4294967296):n.testBit 31=decide (2147483648≤n):=by
 rw [Nat.testBit_eq_decide_div_mod_eq];have e:(2:Nat) ^ 31=2147483648:=rfl;rw [e,Bool.eq_iff_iff];simp only [decide_eq_true_eq];omega
def brw (x y c:Int):Int:=if x < y+c then 1 else 0
theorem sub32_bits (x y c:Int) (hx:0≤x∧x < 4294967296) (hy:0≤y∧y < 4294967296) (hc:0≤c∧c≤1) :
  bits .or .u32 (bits .and .u32 (bits .xor .u32 IntKind.u32.max x) y) (bits .and .u32 (bits .xor .u32 IntKind.u32.max (bits .xor .u32 x y)) ((x - y - c) % 4294967296)) / 2147483648=brw x y c:=by
 obtain ⟨a,rfl⟩:=Int.eq_ofNat_of_zero_le hx.1;obtain ⟨b,rfl⟩:=Int.eq_ofNat_of_zero_le hy.1;have hm:IntKind.u32.max=((4294967295:Nat):Int):=rfl;obtain ⟨d,hd⟩:∃ d:Nat,((a:Int) - b - c) % 4294967296=(d:Int):=⟨(((a:Int) - b - c) % 4294967296).toNat,by omega⟩;have ha:a < 4294967296:=by omega
 have hb:b < 4294967296:=by omega
 have hdl:d < 4294967296:=by omega
 have p1:4294967295 ^^^ a < 4294967296:=Nat.xor_lt_two_pow (n:=32) (by omega) (by omega);have p2:a ^^^ b < 4294967296:=Nat.xor_lt_two_pow (n:=32) (by omega) (by omega);have p3:4294967295 ^^^ (a ^^^ b) < 4294967296:=Nat.xor_lt_two_pow (n:=32) (by omega) (by omega);have p4:(4294967295 ^^^ a) &&& b < 4294967296:=Nat.and_lt_two_pow (n:=32) _ (by omega);have p5:(4294967295 ^^^ (a ^^^ b)) &&& d < 4294967296:=Nat.and_lt_two_pow (n:=32) _ (by omega);have p6:((4294967295 ^^^ a) &&& b) ||| ((4294967295 ^^^ (a ^^^ b)) &&& d) < 4294967296:=Nat.or_lt_two_pow (n:=32) p4 p5
 rw [hm,hd,(bits_u32 _ _ (by omega) ha).2.2,(bits_u32 _ _ p1 hb).1,(bits_u32 _ _ ha hb).2.2,(bits_u32 _ _ (by omega) p2).2.2,(bits_u32 _ _ p3 hdl).1,(bits_u32 _ _ p4 p5).2.1];have e:(((((4294967295 ^^^ a) &&& b) ||| ((4294967295 ^^^ (a ^^^ b)) &&& d):Nat):Int) / 2147483648)=(((((4294967295 ^^^ a) &&& b) ||| ((4294967295 ^^^ (a ^^^ b)) &&& d)) / 2147483648:Nat):Int):=by omega
 rw [e,top_bit _ p6];have hf:(4294967295:Nat).testBit 31=true:=by decide
 simp only [Nat.testBit_or,Nat.testBit_and,Nat.testBit_xor,hf,test31 _ ha,test31 _ hb,test31 _ hdl];unfold brw;by_cases h1:2147483648≤a <;> by_cases h2:2147483648≤b <;> by_cases h3:2147483648≤d <;> simp [h1,h2,h3] <;> first|(rw [if_pos (by omega)])|(rw [if_neg (by omega)])|omega|skip
end
abbrev Gr (o:Option Nat) (w w':World):Prop:=w.grownBy w' o
theorem Gr.refl (o:Option Nat) (w:World):Gr o w w:=⟨rfl,rfl,rfl,Nat.le_refl _,fun _ _ _=>rfl⟩
theorem Gr.trans {o:Option Nat} {a b c:World} (h:Gr o a b) (k:Gr o b c):Gr o a c:=
 ⟨k.os.trans h.os,k.tape.trans h.tape,k.output.trans h.output,Nat.le_trans h.size k.size,fun i hi hn=>(k.block i (Nat.lt_of_lt_of_le hi h.size) hn).trans (h.block i hi hn)⟩
theorem Gr.of_ext {o:Option Nat} {a b:World} (h:Ext a b):Gr o a b:=⟨h.os,h.tape,h.output,h.size,fun i hi _=>h.block i hi⟩
theorem Gr.ext {a b:World} (h:Gr none a b):Ext a b:=⟨h.os,h.tape,h.output,h.size,fun i hi=>h.block i hi (by simp)⟩
theorem Gr.below {o:Option Nat} {B:Nat} {a b:World} (h:Gr o a b) (hB:B≤a.heap.size) (ho:∀ g,o=some g→B≤g):Below B a b:=
 ⟨h.os,h.tape,h.output,h.size,fun i hi=>h.block i (by omega) (fun e=>by have:=ho i e.symm;omega)⟩
theorem Gr.fresh {o o':Option Nat} {a b c:World} (h:Gr o a b) (k:Gr o' b c) (hn:∀ g,o'=some g→o=some g∨a.heap.size≤g):Gr o a c:=
 ⟨k.os.trans h.os,k.tape.trans h.tape,k.output.trans h.output,Nat.le_trans h.size k.size,fun i hi hne=>
  (k.block i (Nat.lt_of_lt_of_le hi h.size) (fun e=>(hn i e.symm).elim (fun h1=>hne h1.symm) (fun h1=>by omega))).trans (h.block i hi hne)⟩
theorem Gr.alloc {o:Option Nat} {a b:World} (h:Gr o a b) (x:Obj):Gr o a (b.alloc x):=h.trans (Gr.of_ext ((Ext.refl b).alloc x))
theorem Gr.set {g:Nat} {a b:World} (h:Gr (some g) a b) (i:Nat) (v:Value):Gr (some g) a (b.setCell ⟨g,i,none⟩ v):=
 h.trans ⟨rfl,rfl,rfl,by simp [World.setCell],fun k hk hn=>Below.heap_setCell _ _ _ _ (by intro e;exact hn (by rw [e]))⟩
theorem Gr.setNew {o:Option Nat} {a b:World} (h:Gr o a b) {p:Addr} (hp:a.heap.size≤p.block) (v:Value):Gr o a (b.setCell p v):=
 ⟨h.os,h.tape,h.output,by simpa [World.setCell] using h.size,fun k hk hn=>(Below.heap_setCell _ _ _ _ (by omega)).trans (h.block k hk hn)⟩
theorem Gr.cell {o:Option Nat} {a b:World} (h:Gr o a b) {p:Addr} (hp:p.block < a.heap.size) (hn:some p.block≠o):b.cell? p=a.cell? p:=World.cell?_of_block (h.block _ hp hn)
theorem Blk.gr {o:Option Nat} {w w':World} {b:Nat} {c:Array Value} {t:TypeId} (h:Blk w b c t) (e:Gr o w w') (hn:some b≠o):Blk w' b c t:=(e.block b h.lt hn).trans h
def RdA (p:Nat→Prop) (w:World) (v:Value) (l:List Int):Prop:=
 ∃ a cap,v=.slice a l.length cap∧l.length≤cap∧cap≤9223372036854775807∧
  ∀ i,i < l.length→∃ b off,a=some ⟨b,off,none⟩∧p b∧b < w.heap.size∧w.cell? ⟨b,off+i,none⟩=some (.int .u32 (l.getD i 0))
theorem RdA.of {w:World} {v:Value} {l:List Int} (h:RdI .u32 w v l):RdA (fun b=>b < w.heap.size) w v l:=by
 obtain ⟨a,cap,hv,h1,h2,h3⟩:=h.get;exact ⟨a,cap,hv,h1,h2,fun i hi=>by obtain ⟨b,off,e1,e2,e3⟩:=h3 i hi;exact ⟨b,off,e1,e2,e2,e3⟩⟩
theorem RdA.to {p:Nat→Prop} {w:World} {v:Value} {l:List Int} (h:RdA p w v l):RdI .u32 w v l:=by
 obtain ⟨a,cap,hv,h1,h2,h3⟩:=h;refine ⟨a,cap,by simpa using hv,by simpa using h1,h2,fun i hi=>?_⟩;rw [List.length_map] at hi;obtain ⟨b,off,e1,_,e2,e3⟩:=h3 i hi;exact ⟨b,off,e1,e2,by rw [e3];simp [hi]⟩
theorem RdA.gr {p:Nat→Prop} {o:Option Nat} {w w':World} {v:Value} {l:List Int} (h:RdA p w v l) (e:Gr o w w') (hn:∀ b,p b→some b≠o):RdA p w' v l:=by
 obtain ⟨a,cap,hv,hc,hm,hr⟩:=h;refine ⟨a,cap,hv,hc,hm,fun i hi=>?_⟩;obtain ⟨b,off,ha,hp,hb,hx⟩:=hr i hi;exact ⟨b,off,ha,hp,Nat.lt_of_lt_of_le hb e.size,(e.cell (p:=⟨b,off+i,none⟩) hb (hn b hp)).trans hx⟩
theorem RdA.ext {p:Nat→Prop} {w w':World} {v:Value} {l:List Int} (h:RdA p w v l) (e:Ext w w'):RdA p w' v l:=h.gr (Gr.of_ext (o:=none) e) (fun _ _=>by simp)
theorem RdA.mono {p q:Nat→Prop} {w:World} {v:Value} {l:List Int} (h:RdA p w v l) (hpq:∀ b,p b→q b):RdA q w v l:=by
 obtain ⟨a,cap,hv,hc,hm,hr⟩:=h;exact ⟨a,cap,hv,hc,hm,fun i hi=>by obtain ⟨b,off,e1,e2,e3⟩:=hr i hi;exact ⟨b,off,e1,hpq b e2,e3⟩⟩
structure RowU (w:World) (g cap:Nat) (l:List Int):Prop where
 blk:∃ cur,Blk w g cur 102∧cur.size=cap∧cur.toList.take l.length=l.map (Value.int .u32)
 le:l.length≤cap
 most:cap≤9223372036854775807
theorem RowU.lt {w:World} {g cap:Nat} {l:List Int} (h:RowU w g cap l):g < w.heap.size:=by obtain ⟨cur,hb,_⟩:=h.blk;exact hb.lt
theorem RowU.free {w:World} {g cap:Nat} {l:List Int} (h:RowU w g cap l) (o:Nat):w.frozen? ⟨g,o,none⟩=false:=by obtain ⟨cur,hb,_⟩:=h.blk;exact hb.free o
theorem RowU.cell {w:World} {g cap:Nat} {l:List Int} (h:RowU w g cap l) {i:Nat} (hi:i < l.length):w.cell? ⟨g,i,none⟩=some (.int .u32 (l.getD i 0)):=by
 obtain ⟨cur,hb,hs,ht⟩:=h.blk;rw [hb.cell];have e1:(cur.toList.take l.length)[i]?=(l.map (Value.int .u32))[i]?:=by rw [ht]
 rw [List.getElem?_take_of_lt hi,Array.getElem?_toList] at e1;rw [e1];simp [hi]
theorem RowU.gr {o:Option Nat} {w w':World} {g cap:Nat} {l:List Int} (h:RowU w g cap l) (e:Gr o w w') (hn:some g≠o):RowU w' g cap l:=by
 obtain ⟨cur,hb,hs,ht⟩:=h.blk;exact ⟨⟨cur,hb.gr e hn,hs,ht⟩,h.le,h.most⟩
theorem RowU.ext {w w':World} {g cap:Nat} {l:List Int} (h:RowU w g cap l) (e:Ext w w'):RowU w' g cap l:=h.gr (Gr.of_ext (o:=none) e) (by simp)
theorem RowU.take {w:World} {g cap:Nat} {l:List Int} (h:RowU w g cap l) (k:Nat):RowU w g cap (l.take k):=by
 obtain ⟨cur,hb,hs,ht⟩:=h.blk;have hle:=h.le;refine ⟨⟨cur,hb,hs,?_⟩,by rw [List.length_take];omega,h.most⟩;rw [List.map_take,← ht,List.take_take,List.length_take]
theorem RowU.set {w:World} {g cap:Nat} {l:List Int} (h:RowU w g cap l) (i:Nat) (x:Int) (hi:i < l.length):RowU (w.setCell ⟨g,i,none⟩ (.int .u32 x)) g cap (l.set i x):=by
 obtain ⟨cur,hb,hs,ht⟩:=h.blk;refine ⟨⟨_,hb.set i (.int .u32 x),by simpa using hs,?_⟩,by simpa using h.le,h.most⟩;rw [List.length_set,Array.toList_setIfInBounds,List.take_set,ht,List.map_set]
theorem RowU.new (w:World) (l:List Int) (hm:l.length≤9223372036854775807):RowU (w.alloc (.cells (l.map (Value.int .u32)).toArray 102)) w.heap.size l.length l:=
 ⟨⟨_,Blk.new w _ _,by simp,List.take_of_length_le (by simp)⟩,Nat.le_refl _,hm⟩
theorem RowU.rd {p:Nat→Prop} {w:World} {g cap:Nat} {l:List Int} (h:RowU w g cap l) (hp:p g):RdA p w (.slice (some ⟨g,0,none⟩) l.length cap) l:=
 ⟨_,cap,rfl,h.le,h.most,fun i hi=>⟨g,0,rfl,hp,h.lt,by rw [Nat.zero_add];exact h.cell hi⟩⟩
def OwV (w:World) (o:Option Nat) (v:Value) (l:List Int):Prop:=
 (o=none∧l=[]∧∃ a,a=none∧v=.slice a 0 0)∨∃ g cap,o=some g∧v=.slice (some ⟨g,0,none⟩) l.length cap∧RowU w g cap l
theorem OwV.nil (w:World):OwV w none (.slice none 0 0) []:=.inl ⟨rfl,rfl,none,rfl,rfl⟩
theorem OwV.row {w:World} {g cap:Nat} {l:List Int} (h:RowU w g cap l):OwV w (some g) (.slice (some ⟨g,0,none⟩) l.length cap) l:=.inr ⟨g,cap,rfl,rfl,h⟩
theorem OwV.gr {o o':Option Nat} {w w':World} {v:Value} {l:List Int} (h:OwV w o v l) (e:Gr o' w w') (hn:∀ g,o=some g→some g≠o'):OwV w' o v l:=by
 rcases h with h|⟨g,cap,ho,hv,hr⟩
 ·exact .inl h
 ·exact .inr ⟨g,cap,ho,hv,hr.gr e (hn g ho)⟩
theorem OwV.ext {o:Option Nat} {w w':World} {v:Value} {l:List Int} (h:OwV w o v l) (e:Ext w w'):OwV w' o v l:=h.gr (Gr.of_ext (o:=none) e) (fun _ _=>by simp)
theorem OwV.lt {o:Option Nat} {w:World} {v:Value} {l:List Int} (h:OwV w o v l) {g:Nat} (ho:o=some g):g < w.heap.size:=by
 rcases h with ⟨h,_⟩|⟨g',cap,h,hv,hr⟩
 ·rw [ho] at h;cases h
 ·rw [ho] at h;cases h;exact hr.lt
theorem OwV.rd {p:Nat→Prop} {o:Option Nat} {w:World} {v:Value} {l:List Int} (h:OwV w o v l) (hp:∀ g,o=some g→p g):RdA p w v l:=by
 rcases h with ⟨_,rfl,a,ha,rfl⟩|⟨g,cap,ho,rfl,hr⟩
 ·exact ⟨a,0,rfl,by simp,by omega,fun i hi=>by simp at hi⟩
 ·exact hr.rd (hp g ho)
theorem OwV.rdI {o:Option Nat} {w:World} {v:Value} {l:List Int} (h:OwV w o v l):RdI .u32 w v l:=(h.rd (p:=fun _=>True) (fun _ _=>trivial)).to
theorem OwV.toOwn {w:World} {o:Option Nat} {B:Nat} {v:Value} {l:List Int} (h:OwV w o v l) (hB:∀ g,o=some g→B≤g):w.ownsRow B 102 1 v l.length (l.map (Value.int .u32)):=by
 rcases h with ⟨_,rfl,a,rfl,rfl⟩|⟨g,cap,ho,rfl,hr⟩
 ·exact World.ownsRow_nil _ _ _ _
 ·obtain ⟨cur,hb,hs,ht⟩:=hr.blk;exact ⟨by simp,.inr ⟨g,cap,cur,rfl,hB g ho,hb,hr.le,by have:=hr.most;unfold maxLen;omega,by omega,by rw [Nat.mul_one];exact ht⟩⟩
theorem OwV.own {w:World} {B:Nat} {v:Value} {l:List Int} (h:w.ownsRow B 102 1 v l.length (l.map (Value.int .u32))):∃ o,OwV w o v l∧∀ g,o=some g→B≤g:=by
 rcases h.2 with ⟨rfl,h0⟩|⟨g,cap,cur,rfl,hb,hg,hn,hm,hs,ht⟩
 ·exact ⟨none,.inl ⟨rfl,List.length_eq_zero_iff.1 h0,none,rfl,rfl⟩,fun g h=>by cases h⟩
 ·refine ⟨some g,.inr ⟨g,cap,rfl,rfl,⟨cur,hg,by omega,?_⟩,hn,by unfold maxLen at hm;omega⟩,fun g' h=>by cases h;exact hb⟩;rw [Nat.mul_one] at ht;exact ht
theorem Try.infoU:(Try.prog.info? 102).map (fun i=>(i.zero,i.size,i.bytes))=some (some (.int .u32 0),1,4):=by kernel_rfl
theorem getD_lim {l:List Int} (h:Lim l) (i:Nat):0≤l.getD i 0∧l.getD i 0 < 4294967296:=by
 rw [List.getD_eq_getElem?_getD];by_cases hi:i < l.length
 ·rw [List.getElem?_eq_getElem hi];exact lim_get h hi
 ·rw [List.getElem?_eq_none (by omega)];simp
theorem nv_setD {l:List Int} {k:Nat} (hk:k < l.length) (x:Int):nv (l.set k x)+4294967296 ^ k*(l.getD k 0).toNat=nv l+4294967296 ^ k*x.toNat:=by
 have:=nv_set hk x;rw [List.getD_eq_getElem?_getD,List.getElem?_eq_getElem hk];exact this
theorem nv_takeD {l:List Int} {k:Nat} (h:k < l.length):nv (l.take (k+1))=nv (l.take k)+4294967296 ^ k*(l.getD k 0).toNat:=by
 rw [nv_take_succ h,List.getD_eq_getElem?_getD,List.getElem?_eq_getElem h];rfl
theorem add_step {l:List Int} {i:Nat} {x c:Int} (hl:Lim l) (hi:i < l.length) (hx:0≤x) (hc:0≤c) :
  nv (l.set i ((l.getD i 0+x+c) % 4294967296))+4294967296 ^ (i+1)*((l.getD i 0+x+c) / 4294967296).toNat=nv l+4294967296 ^ i*(x.toNat+c.toNat):=by
 have h1:=nv_setD hi ((l.getD i 0+x+c) % 4294967296);have h2:=getD_lim hl i;generalize l.getD i 0=y at *
 have e1:y.toNat+x.toNat+c.toNat=4294967296*((y+x+c) / 4294967296).toNat+((y+x+c) % 4294967296).toNat:=by omega
 generalize ((y+x+c) / 4294967296).toNat=q at *
 generalize ((y+x+c) % 4294967296)=r at *
 have e2:=congrArg (4294967296 ^ i * ·) e1;simp only [Nat.mul_add] at e2 ⊢;rw [Nat.pow_succ,Nat.mul_assoc];omega
theorem sub_step {l:List Int} {i:Nat} {x c:Int} (hl:Lim l) (hi:i < l.length) (hx:0≤x∧x < 4294967296) (hc:0≤c∧c≤1) :
  nv (l.set i ((l.getD i 0 - x - c) % 4294967296))+4294967296 ^ i*(x.toNat+c.toNat)=nv l+4294967296 ^ (i+1)*(brw (l.getD i 0) x c).toNat:=by
 have h1:=nv_setD hi ((l.getD i 0 - x - c) % 4294967296);have h2:=getD_lim hl i;generalize l.getD i 0=y at *
 have e1:y.toNat+4294967296*(brw y x c).toNat=x.toNat+c.toNat+((y - x - c) % 4294967296).toNat:=by unfold brw;split <;> omega
 generalize (brw y x c).toNat=q at *
 generalize ((y - x - c) % 4294967296)=r at *
 have e2:=congrArg (4294967296 ^ i * ·) e1;simp only [Nat.mul_add] at e2 ⊢;rw [Nat.pow_succ,Nat.mul_assoc];omega
theorem lim_setMod {l:List Int} (h:Lim l) (i:Nat) (x:Int):Lim (l.set i (x % 4294967296)):=lim_set h i (by omega) (by omega)
theorem brw_bd (x y c:Int):0≤brw x y c∧brw x y c≤1:=by unfold brw;split <;> omega
theorem carry_bd {y x c:Int} (hy:0≤y∧y < 4294967296) (hx:0≤x∧x < 4294967296) (hc:0≤c∧c≤1):0≤(y+x+c) / 4294967296∧(y+x+c) / 4294967296≤1:=by omega
def slen:Value→Nat|.slice _ k _=>k|_=>0
theorem take_noZ {l:List Int} (hl:Lim l) {k:Nat} (hk:k≤l.length) (h:k=0∨l.getD (k - 1) 0≠0) (he:nv (l.take k)=nv l):l.take k=lim (nv l):=by
 rw [← he];refine (lim_nv (lim_take hl k) ?_).symm;unfold NoZ;rcases Nat.eq_zero_or_pos k with rfl|h3
 ·simp
 ·have h2:=h.resolve_left (by omega);rw [List.getLast?_eq_getElem?,List.length_take_of_le hk,List.getElem?_take_of_lt (by omega),List.getElem?_eq_getElem (by omega)];rw [List.getD_eq_getElem?_getD,List.getElem?_eq_getElem (by omega)] at h2;simpa using h2
theorem take_less {l:List Int} {k:Nat} (hk:k≤l.length) (h0:0 < k) (h:l.getD (k - 1) 0=0) (he:nv (l.take k)=nv l):nv (l.take (k - 1))=nv l:=by
 have hlt:k - 1 < l.length:=by omega
 refine nv_take_zero hlt ?_ (by rw [show k - 1+1=k by omega];exact he);rw [List.getD_eq_getElem?_getD,List.getElem?_eq_getElem hlt] at h;simpa using h
theorem RowU.lim {w:World} {g cap:Nat} {l:List Int} (h:RowU w g cap l) {k:Nat} (e:l.take k=lim (nv l)):RowU w g cap (lim (nv l)):=by rw [← e];exact h.take k
theorem trim_row (g cap:Nat) (l:List Int) (w:World) (h:RowU w g cap l) (hl:Lim l) :
  Calls Try.prog 88 #[.slice (some ⟨g,0,none⟩) l.length cap] w fun e w'=>e=.returned (.slice (some ⟨g,0,none⟩) (lim (nv l)).length cap)∧RowU w' g cap (lim (nv l))∧Ext w w':=by
 have hle:=h.le;have hmost:=h.most;have H:=kI h;clear h;have HL:=kI hl;clear hl;go_enter Try.func88,Try.ntmps88
 go_wp2
 go_loopw [0] (fun v wr=>∃ k:Nat,k≤l.length∧v=.slice (some ⟨g,0,none⟩) k cap∧nv (l.take k)=nv l∧∃ n,wr=w.drewN n)
  (fun v _=>slen v)
 case atStart=>exact ⟨l.length,Nat.le_refl _,rfl,by rw [List.take_length],0,rfl⟩
 case round=>
  obtain ⟨k,hk,rfl,htake,n,rfl⟩:=hrel;have HT:=kI htake;clear htake;by_cases h0:0 < k
  ·have hc:=H.o.cell (i:=k - 1) (by omega);obtain ⟨x,hx⟩:∃ x,x=l.getD (k - 1) 0:=⟨_,rfl⟩;rw [← hx] at hc;have HX:=kI hx;clear hx;by_cases hz:x=0
   ·subst hz;go_wp2
    go_roundw
    case rel=>exact ⟨k - 1,by omega,by go_num,take_less hk h0 HX.o.symm HT.o,_,rfl⟩
    case measure=>simp [slen];omega
   ·have hz':(x == 0)=false:=by simpa using hz
    go_wp2
    go_ret;have e:=take_noZ HL.o hk (.inr (by rw [← HX.o];exact hz)) HT.o;have el:(lim (nv l)).length=k:=by rw [← e,List.length_take_of_le hk]
    exact ⟨by rw [el];rfl,(H.o.lim e).ext ((Ext.refl w).drewN _),(Ext.refl w).drewN _⟩
  ·obtain rfl:k=0:=by omega
   go_wp2
   go_ret;have e:=take_noZ HL.o hk (.inl rfl) HT.o;have el:(lim (nv l)).length=0:=by rw [← e];rfl
   exact ⟨by rw [el];rfl,(H.o.lim e).ext ((Ext.refl w).drewN _),(Ext.refl w).drewN _⟩
theorem trim_nil (a:Option Addr) (w:World) :
  Calls Try.prog 88 #[.slice a 0 0] w fun e w'=>e=.returned (.slice a 0 0)∧Ext w w':=by
 go_enter Try.func88,Try.ntmps88
 go_wp2
 go_loopw [0] (fun v wr=>v=.slice a 0 0∧∃ n,wr=w.drewN n) (fun _ _=>0)
 case atStart=>exact ⟨rfl,0,rfl⟩
 case round=>
  obtain ⟨rfl,n,rfl⟩:=hrel;go_wp2
  go_ret;exact ⟨rfl,(Ext.refl w).drewN _⟩
theorem trim_any (o:Option Nat) (v:Value) (l:List Int) (w:World) (h:OwV w o v l) (hl:Lim l) :
  Calls Try.prog 88 #[v] w fun e w'=>∃ v',e=.returned v'∧OwV w' o v' (lim (nv l))∧Ext w w':=by
 rcases h with ⟨rfl,rfl,a,ha,rfl⟩|⟨g,cap,rfl,rfl,h⟩
 ·exact (trim_nil a w).mono fun e w' ⟨he,hx⟩=>⟨_,he,.inl ⟨rfl,rfl,a,ha,rfl⟩,hx⟩
 ·exact (trim_row g cap l w h hl).mono fun e w' ⟨he,hr,hx⟩=>⟨_,he,.row hr,hx⟩
def chkE (l:List Int):Int:=if 512 < l.length then 4 else if l.getLast?=some 0 then 2 else 0
def orE (a b:Int):Int:=if a=0 then b else a
def chk2 (l1 l2:List Int):Int:=orE (chkE l1) (chkE l2)
def sgn (a b:Int):Int:=if a < b then -1 else if b < a then 1 else 0
theorem getLast_getD (l:List Int) (h:0 < l.length):l.getLast?=some (l.getD (l.length - 1) 0):=by
 rw [List.getLast?_eq_getElem?,List.getD_eq_getElem?_getD,List.getElem?_eq_getElem (by omega)];rfl
theorem rdU {w:World} {v:Value} {l:List Int} (h:RdI .u32 w v l):∃ a cap,v=.slice a l.length cap∧l.length≤cap∧cap≤9223372036854775807∧
  ∀ i,i < l.length→∃ b off,a=some ⟨b,off,none⟩∧b < w.heap.size∧w.cell? ⟨b,off+i,none⟩=some (.int .u32 (l.getD i 0)):=h.get
theorem check1_any (v:Value) (l:List Int) (w:World) (h:RdI .u32 w v l) :
  Calls Try.prog 52 #[v] w fun e w'=>e=.returned (.int .i64 (chkE l))∧Ext w w':=by
 obtain ⟨a,cap,rfl,hc,hm,hr⟩:=rdU h;clear h;by_cases h5:512 < l.length
 ·have e:chkE l=4:=by simp [chkE,h5]
  have H:=kI e;clear e hr;have hd:decide (512 < (l.length:Int))=true:=by simp;omega
  go_enter Try.func52,Try.ntmps52
  go_wp2
  go_ret;exact ⟨by rw [H.o];rfl,Ext.refl w⟩
 ·have hd:decide (512 < (l.length:Int))=false:=by simp;omega
  by_cases h0:0 < l.length
  ·obtain ⟨b,off,rfl,hb,hx⟩:=hr (l.length - 1) (by omega);obtain ⟨x,hx'⟩:∃ x,x=l.getD (l.length - 1) 0:=⟨_,rfl⟩;rw [← hx'] at hx;have e:chkE l=if x=0 then 2 else 0:=by
    unfold chkE;rw [if_neg h5,getLast_getD l h0,← hx'];simp
   have H:=kI e;clear e hr hx';have hd0:decide (0 < (l.length:Int))=true:=by simp;omega
   by_cases hz:x=0
   ·subst hz;go_enter Try.func52,Try.ntmps52
    go_wp2
    go_ret;exact ⟨by rw [H.o];rfl,eX⟩
   ·have hz':(x == 0)=false:=by simpa using hz
    go_enter Try.func52,Try.ntmps52
    go_wp2
    go_ret;exact ⟨by rw [H.o,if_neg hz];rfl,eX⟩
  ·have hl:l.length=0:=by omega
   have e:chkE l=0:=by rw [List.length_eq_zero_iff.1 hl];rfl
   have H:=kI e;clear e hr;have hd0:decide (0 < (l.length:Int))=false:=decide_eq_false (by omega);go_enter Try.func52,Try.ntmps52
   go_wp2
   go_ret;exact ⟨by rw [H.o];rfl,eX⟩
theorem cmpInt_any (a b:Int) (w:World) :
  Calls Try.prog 89 #[.int .i64 a,.int .i64 b] w fun e w'=>e=.returned (.int .i64 (sgn a b))∧Ext w w':=by
 rcases Int.lt_trichotomy a b with h|h|h
 ·have e:sgn a b = -1:=by simp [sgn,h]
  have H:=kI e;clear e;go_enter Try.func89,Try.ntmps89
  go_wp2
  go_ret;exact ⟨by rw [H.o];rfl,eX⟩
 ·have e:sgn a b=0:=by simp [sgn,h]
  have h1:decide (a < b)=false:=decide_eq_false (by omega);have h2:decide (b < a)=false:=decide_eq_false (by omega);have H:=kI e;clear e h;go_enter Try.func89,Try.ntmps89
  go_wp2
  go_ret;exact ⟨by rw [H.o];rfl,eX⟩
 ·have e:sgn a b=1:=by
    have:¬ a < b:=by omega
    simp [sgn,h,this]
  have h1:decide (a < b)=false:=decide_eq_false (by omega);have H:=kI e;clear e;go_enter Try.func89,Try.ntmps89
  go_wp2
  go_ret;exact ⟨by rw [H.o];rfl,eX⟩
theorem cmpU_any (a b:Int) (w:World) :
  Calls Try.prog 90 #[.int .u32 a,.int .u32 b] w fun e w'=>e=.returned (.int .i64 (sgn a b))∧Ext w w':=by
 rcases Int.lt_trichotomy a b with h|h|h
 ·have e:sgn a b = -1:=by simp [sgn,h]
  have H:=kI e;clear e;go_enter Try.func90,Try.ntmps90
  go_wp2
  go_ret;exact ⟨by rw [H.o];rfl,eX⟩
 ·have e:sgn a b=0:=by simp [sgn,h]
  have h1:decide (a < b)=false:=decide_eq_false (by omega);have h2:decide (b < a)=false:=decide_eq_false (by omega);have H:=kI e;clear e h;go_enter Try.func90,Try.ntmps90
  go_wp2
  go_ret;exact ⟨by rw [H.o];rfl,eX⟩
 ·have e:sgn a b=1:=by
    have:¬ a < b:=by omega
    simp [sgn,h,this]
  have h1:decide (a < b)=false:=decide_eq_false (by omega);have H:=kI e;clear e;go_enter Try.func90,Try.ntmps90
  go_wp2
  go_ret;exact ⟨by rw [H.o];rfl,eX⟩
theorem orE_any (a b:Int) (g:Nat) (w:World) (h:Blk w g #[.int .i64 a,.int .i64 b] 33) :
  Calls Try.prog 31 #[.slice (some ⟨g,0,none⟩) 2 2] w fun e w'=>e=.returned (.int .i64 (orE a b))∧Ext w w':=by
 have c:=h.cell;have H:=kI h;clear h;by_cases ha:a=0
 ·subst ha;by_cases hb:b=0
  ·subst hb;go_enter Try.func31,Try.ntmps31
   go_wp2_with fail;refine wp_loop_rounds 3 ?_;rw [rounds_succ];go_wp2
   rw [rounds_succ];go_wp2
   rw [rounds_succ];go_wp2
   go_ret;exact ⟨rfl,eX⟩
  ·have hb':(b != 0)=true:=by simpa using hb
   have e:orE 0 b=b:=rfl;go_enter Try.func31,Try.ntmps31
   go_wp2_with fail;refine wp_loop_rounds 2 ?_;rw [rounds_succ];go_wp2
   rw [rounds_succ];go_wp2
   go_ret;exact ⟨rfl,eX⟩
 ·have ha':(a != 0)=true:=by simpa using ha
  have e:orE a b=a:=by simp [orE,ha]
  have HE:=kI e;clear e;go_enter Try.func31,Try.ntmps31
  go_wp2_with fail;refine wp_loop_rounds 1 ?_;rw [rounds_succ];go_wp2
  go_ret;exact ⟨by rw [HE.o];rfl,eX⟩
theorem check2_any (v1 v2:Value) (l1 l2:List Int) (w:World) (h1:RdI .u32 w v1 l1) (h2:RdI .u32 w v2 l2) :
  Calls Try.prog 74 #[v1,v2] w fun e w'=>e=.returned (.int .i64 (chk2 l1 l2))∧Ext w w':=by
 have H1:=kI h1;have H2:=kI h2;clear h1 h2;go_enter Try.func74,Try.ntmps74
 go_wp2_with fail;refine (check1_any v1 l1 _ H1.o).mono ?_;rintro e w1 ⟨rfl,hx1⟩;have HX:=kI hx1;clear hx1;go_wp2_with fail;refine (check1_any v2 l2 _ (H2.o.ext HX.o)).mono ?_;rintro e w2 ⟨rfl,hx2⟩;have HX2:=kI (HX.o.trans hx2);clear hx2;go_wp2_with fail;refine (orE_any (chkE l1) (chkE l2) w2.heap.size _ (Blk.new w2 _ _)).mono ?_;rintro e w3 ⟨rfl,hx3⟩;have HX3:=kI ((HX2.o.alloc _).trans hx3);clear hx3;go_wp2
 go_ret;exact ⟨rfl,HX3.o⟩
theorem add32_any (x y c:Int) (w:World) (hx:0≤x∧x < 4294967296) (hy:0≤y∧y < 4294967296) (hc:0≤c∧c≤1) :
  Calls Try.prog 99 #[.int .u32 x,.int .u32 y,.int .u32 c] w fun e w'=>e=.returned (.tuple #[.int .u32 ((x+y+c) % 4294967296),.int .u32 ((x+y+c) / 4294967296)])∧Ext w w':=by
 obtain ⟨x0,x1⟩:=hx;obtain ⟨y0,y1⟩:=hy;obtain ⟨c0,c1⟩:=hc;go_enter Try.func99,Try.ntmps99
 go_wp2
 go_ret2
 exact ⟨rfl,eX⟩
theorem sub32_any (x y c:Int) (w:World) (hx:0≤x∧x < 4294967296) (hy:0≤y∧y < 4294967296) (hc:0≤c∧c≤1) :
  Calls Try.prog 91 #[.int .u32 x,.int .u32 y,.int .u32 c] w fun e w'=>e=.returned (.tuple #[.int .u32 ((x - y - c) % 4294967296),.int .u32 (brw x y c)])∧Ext w w':=by
 have hb:=kI (sub32_bits x y c hx hy hc);obtain ⟨x0,x1⟩:=hx;obtain ⟨y0,y1⟩:=hy;obtain ⟨c0,c1⟩:=hc;go_enter Try.func91,Try.ntmps91
 go_wp2
 ·go_ret2
  exact ⟨by rw [← hb.out];rfl,eX⟩
theorem gN {α:Type} (e:α):∃ x,x=e:=⟨e,rfl⟩
theorem eR (w:World):Ext w w:=Ext.refl w
theorem eT {a b c:World} (h:Ext a b) (k:Ext b c):Ext a c:=Ext.trans h k
theorem eA {a w:World} (h:Ext a w) (o:Obj):Ext a (w.alloc o):=Ext.alloc h o
theorem eD {a w:World} (h:Ext a w):Ext a w.drew:=Ext.drew h
theorem eN {a w:World} (h:Ext a w) (n:Nat):Ext a (w.drewN n):=Ext.drewN h n
theorem eS {a w:World} {p:Addr} {v:Value} (hp:a.heap.size≤p.block) (h:Ext a w):Ext a (w.setCell p v):=Ext.setp hp h
theorem Blk.q3 {w:World} {b:Nat} {c:Array Value} {t:TypeId} (h:Blk w b c t):(∀ o:Nat,w.cell? ⟨b,o,none⟩=c[o]?)∧(∀ o:Nat,w.frozen? ⟨b,o,none⟩=false)∧b < w.heap.size:=⟨h.cell,h.free,h.lt⟩
end Go.Proofs.Ytnnjbaijcaiohaa
