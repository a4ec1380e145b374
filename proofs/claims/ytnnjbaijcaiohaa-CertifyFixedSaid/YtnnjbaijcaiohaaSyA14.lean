/- Walks and lemmas. -/
import Derived.Test.YtnnjbaijcaiohaaSyA10
import Derived.Test.YtnnjbaijcaiohaaSyA9
import Derived.WalkMore
import Derived.RangeFuncNested
import Derived.RangeFuncBound
import Derived.RangeFuncCalls
import Derived.RangeFuncLeaves
import Derived.Shelf.Abstract
import Derived.Shelf.RegionOpen
import Derived.WalkKit
import Derived.OwnWalkIn
import Derived.TacticsInMore
import Derived.LoopNIn
import Derived.LoopIn
import Derived.Test.YtnnjbaijcaiohaaSyA1
import Derived.Test.YtnnjbaijcaiohaaSyA13
import Derived.Test.YtnnjbaijcaiohaaSyA3
import Derived.Test.YtnnjbaijcaiohaaSyA7
import Derived.OrdersHeld
import Derived.Deep.RegionHeld
import Derived.Test.YtnnjbaijcaiohaaSyA0
set_option linter.unusedVariables false
set_option linter.unusedSimpArgs false
set_option maxRecDepth 100000
set_option maxHeartbeats 16000000
namespace Go.Proofs.Ytnnjbaijcaiohaa
open Go.RowKit
section
def lssR (a b:RR):Bool:=decide ((cmpR a b).1 < 0)
theorem lssR_ok {a b:RR} (ha:chkR a=0) (hb:chkR b=0):lssR a b=decide (qv a < qv b):=by
 have hc:cmpR a b=(cmpQ (qv a) (qv b),0):=by unfold cmpR;rw [if_pos (chkR2_ok ha hb)]
 unfold lssR;rw [hc];refine decide_eq_decide.2 ?_;show cmpQ (qv a) (qv b) < 0↔_;unfold cmpQ;split
 ·rename_i h;exact ⟨fun _=>h,fun _=>by decide⟩
 ·rename_i h;constructor
  ·intro e;split at e <;> omega
  ·intro e;exact absurd e h
theorem mdsmaller_any (va vb:Value) (ra rb:RR) (w:World) (ha:RdR w va ra) (hb:RdR w vb rb) (la:LimR ra) (lb:LimR rb) :
  Calls Try.prog 26 #[va,vb] w fun e w'=>e=.returned (.bool (lssR ra rb))∧Ext w w':=by
 have hcm:=fun W (x:Ext w W)=>cmpR_any va vb ra rb W (ha.ext x) (hb.ext x) la lb;unfold lssR;obtain ⟨c,hcc⟩:=gN (cmpR ra rb);rw [← hcc] at hcm ⊢;obtain ⟨c1,c2⟩:=c;dsimp only at hcm ⊢;obtain ⟨a1,a2,a3,a4,rfl⟩:=ha.shape;obtain ⟨b1,b2,b3,b4,rfl⟩:=hb.shape;have HC:=kI hcm;have X0:=kI (((Ext.refl w).alloc (.cells #[.bool ra.neg,.slice a1 ra.num.length a2,.slice a3 ra.den.length a4] 25)).alloc (.cells #[.bool rb.neg,.slice b1 rb.num.length b2,.slice b3 rb.den.length b4] 25));clear hcm hcc ha hb la lb;go_enter Try.func26,Try.ntmps26
 go_wp2_with fail;refine (HC.o _ X0.o).mono ?_;rintro e w1 ⟨rfl,hx⟩;have X1:=kI (X0.o.trans hx);clear hx;go_wp2_with fail;go_ret;exact ⟨rfl,X1.o⟩
theorem bestK_lt {l:List RR}:∀ {k:Nat},0 < k→bestK l k < k
 | 0,h=>by omega
 | k+1,_=>by
  unfold bestK;split
  ·omega
  ·rcases Nat.eq_zero_or_pos k with h0|h0
   ·subst h0;exact Nat.zero_lt_one
   ·have:=bestK_lt (l:=l) h0;omega
theorem bestK_le (l:List RR) (k n:Nat) (h:k≤n) (hn:0 < n):bestK l k < n:=by
 rcases Nat.eq_zero_or_pos k with h0|h0
 ·subst h0;exact hn
 ·have:=bestK_lt (l:=l) h0;omega
theorem least_any (v:Value) (l:List RR) (w:World) (h:RdRs w v l) (hl:LimL l) (hv:∀ i,i < l.length→chkR (l.getD i zR)=0) :
  Calls Try.prog 25 #[v,.func (.func 26) #[] #[]] w fun e w'=>e=.returned (.int .i64 (bestI l))∧Ext w w':=by
 obtain ⟨a,c,rfl,hc,hm,_⟩:=h.get;have hll:l.length≤9223372036854775807:=by omega
 have HR:=kI h;have HL:=kI hl;have HV:=kI hv;clear h hl hv hc hm;have X:=kI (Ext.refl w);go_enter Try.func25,Try.ntmps25
 go_wp2_with fail;go_loopw [5,9] (fun b i wr=>∃ k:Nat,k≤l.length∧i=.int .i64 k∧b=.int .i64 (bestK l k)∧Ext w wr) (fun _ i _=>l.length - (intOf i).toNat)
 case atStart=>exact ⟨0,by omega,rfl,rfl,Ext.refl _⟩
 case round=>
  obtain ⟨wk,hwk⟩:=gN (wr);subst hwk;obtain ⟨k,hk,rfl,rfl,hx⟩:=hrel;have XK:=kI hx;have HW:=kI (HR.o.ext hx);clear hx;by_cases hlt:k < l.length
  ·have hb:=bestK_le l k l.length hk (by omega);have hst:bestK l (k+1)=if qv (l.getD k zR) < qv (l.getD (bestK l k) zR) then k else bestK l k:=rfl;obtain ⟨j,hj⟩:=gN (bestK l k);rw [← hj] at hb hst ⊢;obtain ⟨b,off,a1,c1,a2,c2,ea,z0,z1,z2,z3,z4⟩:=HW.o.at hlt;obtain ⟨b',off',a3,c3,a4,c4,eb,y0,y1,y2,y3,y4⟩:=HW.o.at hb;rw [ea] at eb;injection eb with eb
   injection eb with eb1 eb2
   subst eb1;subst eb2;subst ea;have hl1:=HL.o k;have hl2:=HL.o j;have hlo:=lssR_ok (HV.o k hlt) (HV.o j hb);obtain ⟨r,hr⟩:=gN (l.getD k zR);obtain ⟨s,hs⟩:=gN (l.getD j zR);rw [← hr] at z1 z2 z3 z4 hl1 hlo hst;rw [← hs] at y1 y2 y3 y4 hl2 hlo hst;have NR:=kI z4;have NS:=kI y4;have H1:=kI hl1;have H2:=kI hl2;have HLO:=kI hlo;have HST:=kI hst;have HJ:=kI hj;have q1:(0:Int)≤(k:Int):=by omega
   have q2:(k:Int) < (l.length:Int):=by omega
   have q3:(0:Int)≤(j:Int):=by omega
   have q4:(j:Int) < (l.length:Int):=by omega
   clear z4 y4 hl1 hl2 hlo hst hr hs hj;go_wp2_with fail;refine wp_region_quietE_tail 9 (by kernel_rfl) (by kernel_rfl) ?_;simp only [List.take_succ_cons,List.take_zero,List.drop_succ_cons,List.drop_zero];(repeat (go_big_quiet_step (fail)))
   refine wpQuiet_nil ?_;rintro w1 ⟨⟨_,hx1⟩,rfl⟩;(try dsimp only);replace XK:=kI (XK.o.trans hx1);clear z0 z1 z2 z3 y0 y1 y2 y3 HW;go_wp2_with fail;refine (mdsmaller_any _ _ r s w1 (NR.o.ext hx1) (NS.o.ext hx1) (H1.o hlt) (H2.o hb)).mono ?_;rintro e w2 ⟨rfl,hx⟩;replace XK:=kI (XK.o.trans hx);clear hx hx1;obtain ⟨q,hq⟩:=gN (lssR r s);have HQ:=kI hq;rw [← hq];clear hq;cases q
   ·go_wp2_with fail;go_roundw
    case rel=>
     have hn:¬ qv r < qv s:=of_decide_eq_false (HLO.o.symm.trans HQ.o.symm);exact ⟨k+1,by omega,by go_num,by rw [HST.o,if_neg hn],XK.o⟩
    case measure=>simp [intOf];omega
   ·go_wp2_with fail;go_roundw
    case rel=>
     have hn:qv r < qv s:=of_decide_eq_true (HLO.o.symm.trans HQ.o.symm);exact ⟨k+1,by omega,by go_num,by rw [HST.o,if_pos hn],XK.o⟩
    case measure=>simp [intOf];omega
  ·obtain rfl:k=l.length:=by omega
   have q1:¬ (l.length:Int) < (l.length:Int):=by omega
   go_wp2_with fail;go_ret;exact ⟨rfl,XK.o⟩
structure Kq (m:Nat) (A B:World):Prop where
 kz:Kz m A B
 blk:∀ (i:Nat) (c:Array Value) (t:TypeId),Blk A i c t→Blk B i c t
theorem Kq.ext {m:Nat} {A B:World} (h:Ext A B):Kq m A B:=⟨.ext h,fun _ _ _ b=>b.ext h⟩
theorem Kq.put1 {m:Nat} {A:World} {r:Loop} (o:Obj) (h:A.heap[m+1]?=some (.loop r)):Kq m A (A.putObj (m+1) o):=⟨.put1 A o,fun i c t b=>by
 have e:i≠m+1:=fun e=>by subst e;unfold Blk at b;rw [b] at h;cases h
 exact (World.putObj_heap_other e).trans b⟩
def upPostR {α:Type} (R:World→World→Prop) (m:Nat) (I:List α→World→Prop) (Ix:Code→List α→World→Prop) (xs:List α) (W:World):Exit→Act→World→Prop
 | .normal,_,W'=>Kd m W W'∧R W W'∧I xs W'
 | .ret,_,W'=>Kd m W W'∧R W W'∧Ix .ret xs W'
 | .exit id,_,W'=>Kd m W W'∧R W W'∧Ix (.exit id) xs W'
 | _,_,_=>False
def UpSeqR {α:Type} (F:Fence) (n:Nat) (P:Program) (gf:Nat) (lb:Array Value) (R Ri:World→World→Prop) (encs:α→Array Value) (Nx:List α→α→World→Prop) (Fin:List α→Prop) (Pn:List α→List PanicEntry→Prop) (l:Nat) (W1:World):Prop:=
 ∀ (J Jx:List α→World→Prop),(∀ pre A B,J pre A→Ri A B→J pre B)→
  (∀ pre x W,J pre W→Nx pre x W→YieldAt F (n - 1) P l (encs x) W fun e W'=>R W W'∧((e=.returned (.bool true)∧J (pre ++ [x]) W')∨(e=.returned (.bool false)∧Jx (pre ++ [x]) W')))→
  J [] W1→CallsIn F n P gf (#[.func (.yield l) #[] #[]] ++ lb) W1 fun e W'=>((∃ v,e=.returned v)∧((∃ xs,Fin xs∧J xs W')∨∃ xs,Jx xs W'))∨∃ ch xs,e=.panicked ch∧Pn xs ch∧J xs W'
variable {F:Fence} {n:Nat} {P:Program}
theorem wpIn_range_upR {α:Type} {g:Operand} {ps:Array Tmp} {assign body:Code} {Q:Exit→Act→World→Prop} {a:Act} {w:World}
  (hro:F.round=none) (h1:1≤n) {gf:Nat} {lb:Array Value} (hg:a.eval g=.func (.func gf) #[] lb) (hFg:F.fn gf) (eg:∀ args w,(callFunc gf args).run P w=.ok (.enter gf args) w)
  (R Ri:World→World→Prop) (hRi:∀ A B,Ri A B→w.heap.size+1 < A.heap.size→B.heap[w.heap.size]?=A.heap[w.heap.size]?∧B.heap[w.heap.size+1]?=A.heap[w.heap.size+1]?) (hRt:∀ A B C,R A B→R B C→R A C) (hRk:∀ A B,w.heap.size≤A.heap.size→Kq w.heap.size A B→R A B) {encs:α→Array Value} {Nx:List α→α→World→Prop} {Fin:List α→Prop} {Pn:List α→List PanicEntry→Prop}
  (hseq:∀ W1,Ext w W1→UpSeqR F (n - 1) P gf lb R Ri encs Nx Fin Pn (w.heap.size+1) W1) (hps:∀ x,(encs x).size=ps.size)
  (I:List α→World→Prop) (Ix:Code→List α→World→Prop) (hI:∀ pre A B,I pre A→Kq w.heap.size A B→I pre B) (hIx:∀ c pre A B,Ix c pre A→Kq w.heap.size A B→Ix c pre B)
  (hIr:∀ pre A B,I pre A→Ri A B→I pre B) (h0:I [] w)
  (Ax:List α→α→Act→World→Prop) (hAx:∀ pre x a1 A B,Ax pre x a1 A→Kq w.heap.size A B→Ax pre x a1 B)
  (hassign:∀ (l:Nat) (pre:List α) (x:α) (W:World) (K:Act→World→Prop),I pre W→Nx pre x W→w.heap.size+1 < W.heap.size→(∀ a1 W1,Ext W W1→Ax pre x a1 W1→K a1 W1)→
   assign.wpIn (F.inRound l) (n - 1 - 1) P (Exit.then K (fun _ _ _=>False)) { tmps:=(ps.zip (encs x)).foldl (fun t (p,v)=>t.setIfInBounds p v) a.tmps,defers:=[] } W)
  (hbody:∀ (l:Nat) (pre:List α) (x:α) (a1:Act) (W:World),Ax pre x a1 W→w.heap.size+1 < W.heap.size→body.wpIn (F.inRound l) (n - 1 - 1) P (upPostR R w.heap.size I Ix (pre ++ [x]) W) a1 W)
  (hdone:∀ (xs:List α) (W:World),Fin xs→I xs W→W.heap[w.heap.size]?=some (.deferred (some []))→Q .normal { a with defers:={ target:=.collected w.heap.size,args:=#[] } :: a.defers } W)
  (hstop:∀ (c:Code) (xs:List α) (W:World),Ix c xs W→W.heap[w.heap.size]?=some (.deferred (some []))→c.wpIn F n P Q { a with defers:={ target:=.collected w.heap.size,args:=#[] } :: a.defers } W)
  (hpanic:∀ (ch:List PanicEntry) (xs:List α) (W:World),Pn xs ch→I xs W→W.heap[w.heap.size]?=some (.deferred (some []))→Q (.panic ch) { a with defers:={ target:=.collected w.heap.size,args:=#[] } :: a.defers } W) :
  (Code.rangeFunc g ps assign body).wpIn F n P Q a w:=by
 refine wpIn_rangeFunc ?_;intro fn hfn;rw [hro];obtain ⟨rec,hrec⟩:∃ rec:LoopState→Option Code→Loop,rec=fun st pe=>{ state:=st,pending:=pe,fn,tmps:=a.tmps,params:=ps,assign,body,defers:=w.heap.size }:=⟨_,rfl⟩;obtain ⟨W1,hW1⟩:∃ W1,(w.alloc (.deferred (some []))).alloc (.loop (rec .ready none))=W1:=⟨_,rfl⟩;have hL1:W1.heap[w.heap.size+1]?=some (.loop (rec .ready none)):=by
  rw [← hW1];have:=World.alloc_heap_new (w.alloc (.deferred (some []))) (.loop (rec .ready none));rwa [World.size_alloc] at this
 have hK1:W1.heap[w.heap.size]?=some (.deferred (some [])):=by
  rw [← hW1];exact (Below.heap_alloc _ _ _ (by simp)).trans (World.alloc_heap_new w _)
 have hx1:Ext w W1:=by rw [← hW1];exact ((Ext.refl w).alloc _).alloc _
 have hI1:I [] W1:=hI _ _ _ h0 (.ext hx1);refine ⟨w.heap.size+1,[{ target:=.collected w.heap.size,args:=#[] }],W1,{ target:=.fn (.func gf) lb,args:=#[.func (.yield (w.heap.size+1)) #[] #[]] },W1,gf,
  #[.func (.yield (w.heap.size+1)) #[] #[]] ++ lb,W1,?_,?_,?_,?_,fun _=>h1,?_⟩
 ·rw [← hW1,hrec];exact run_enterLoop_outer _ _ _ _ _
 ·simp only [resolve,hg];simp [go_sem]
 ·intro f' hf';simp [Target.leads] at hf';subst hf';exact hFg
 ·simp [invoke,go_sem,eg]
 ·refine (hseq W1 hx1
   (fun pre W=>I pre W∧W.heap[w.heap.size+1]?=some (.loop (rec .ready none))∧W.heap[w.heap.size]?=some (.deferred (some [])))
   (fun pre W=>∃ c,Ix c pre W∧W.heap[w.heap.size+1]?=some (.loop (rec .done (some c)))∧W.heap[w.heap.size]?=some (.deferred (some [])))
   (fun pre A B hs x=>⟨hIr _ _ _ hs.1 x,(hRi _ _ x (Array.getElem?_eq_some_iff.1 hs.2.1).1).2.trans hs.2.1,(hRi _ _ x (Array.getElem?_eq_some_iff.1 hs.2.1).1).1.trans hs.2.2⟩)
   ?_ ⟨hI1,hL1,hK1⟩).mono ?_
  ·rintro pre x W ⟨hi,hl,hk⟩ hnx;have hlt:w.heap.size+1 < W.heap.size:=(Array.getElem?_eq_some_iff.1 hl).1;have hy:=run_yield (P:=P) (args:=encs x) hl (by rw [hrec];exact hps x);rw [hrec] at hy;refine ⟨fn,_,assign,body,hy,roundIn_of_wpIn hfn (hassign _ pre x W _ hi hnx hlt ?_)⟩;intro a1 V hxV hax;have hlV:=(hxV.block _ (Array.getElem?_eq_some_iff.1 hl).1).trans hl;have hkV:=(hxV.block _ (Array.getElem?_eq_some_iff.1 hk).1).trans hk;refine ⟨_,run_beginRound hlV (by rw [hrec]),?_⟩;have hltV:w.heap.size+1 < V.heap.size:=(Array.getElem?_eq_some_iff.1 hlV).1;have hl2:(V.putObj (w.heap.size+1) (.loop { rec .ready none with state:=.busy })).heap[w.heap.size+1]?=some (.loop { rec .ready none with state:=.busy }):=World.putObj_heap_same hltV;have hk2:(V.putObj (w.heap.size+1) (.loop { rec .ready none with state:=.busy })).heap[w.heap.size]?=some (.deferred (some [])):=(World.putObj_heap_other (by omega)).trans hkV;have hV1:R W (V.putObj (w.heap.size+1) (.loop { rec .ready none with state:=.busy })):=hRt _ _ _ (hRk _ _ (by omega) (Kq.ext hxV)) (hRk _ _ (by have:=hxV.size;omega) (Kq.put1 _ hlV));have fin:∀ (jump:Option Code) (W3:World),Kd w.heap.size (V.putObj (w.heap.size+1) (.loop { rec .ready none with state:=.busy })) W3→R (V.putObj (w.heap.size+1) (.loop { rec .ready none with state:=.busy })) W3→
     (Instr.endRound (w.heap.size+1) jump).run P W3=.ok (.bool jump.isNone) (W3.putObj (w.heap.size+1) (.loop (rec (if jump.isNone then .ready else .done) jump)))∧
     (W3.putObj (w.heap.size+1) (.loop (rec (if jump.isNone then .ready else .done) jump))).heap[w.heap.size+1]?=some (.loop (rec (if jump.isNone then .ready else .done) jump))∧
     (W3.putObj (w.heap.size+1) (.loop (rec (if jump.isNone then .ready else .done) jump))).heap[w.heap.size]?=some (.deferred (some []))∧
     R W (W3.putObj (w.heap.size+1) (.loop (rec (if jump.isNone then .ready else .done) jump))):=fun jump W3 hk3 hb3=>by
    have hl3:=hk3.2.2.trans hl2;have hlt3:w.heap.size+1 < W3.heap.size:=(Array.getElem?_eq_some_iff.1 hl3).1;have:=run_endRound (P:=P) jump hl3;rw [hrec] at this ⊢;exact ⟨this,World.putObj_heap_same hlt3,(World.putObj_heap_other (by omega)).trans (hk3.2.1.trans hk2),hRt _ _ _ (hRt _ _ _ hV1 hb3) (hRk _ _ (by omega) (Kq.put1 _ (hk3.2.2.trans hl2)))⟩
   refine wpIn_mono (hbody _ pre x a1 _ (hAx _ _ _ _ _ hax (Kq.put1 _ hlV)) (by simpa using hltV)) ?_;rintro e a3 W3 hp;cases e with
   | normal=>
    obtain ⟨hk3,hb3,hi3⟩:=hp;obtain ⟨hr,hl4,hk4,hb4⟩:=fin none W3 hk3 hb3;exact ⟨_,_,hr,hb4,.inl ⟨rfl,hI _ _ _ hi3 (Kq.put1 _ (hk3.2.2.trans hl2)),hl4,hk4⟩⟩
   | ret=>
    obtain ⟨hk3,hb3,hi3⟩:=hp;obtain ⟨hr,hl4,hk4,hb4⟩:=fin (some .ret) W3 hk3 hb3;exact ⟨_,_,hr,hb4,.inr ⟨rfl,.ret,hIx _ _ _ _ hi3 (Kq.put1 _ (hk3.2.2.trans hl2)),hl4,hk4⟩⟩
   | exit id=>
    obtain ⟨hk3,hb3,hi3⟩:=hp;obtain ⟨hr,hl4,hk4,hb4⟩:=fin (some (.exit id)) W3 hk3 hb3;exact ⟨_,_,hr,hb4,.inr ⟨rfl,.exit id,hIx _ _ _ _ hi3 (Kq.put1 _ (hk3.2.2.trans hl2)),hl4,hk4⟩⟩
   | goto t=>exact hp.elim
   | panic ch=>exact hp.elim
   | outgrown=>exact hp.elim
  ·rintro e W2 (⟨⟨v,rfl⟩,(⟨xs,hF,hi,hl,hk⟩|⟨xs,c,hi,hl,hk⟩)⟩|⟨ch,xs,rfl,hP,hi,hl,hk⟩)
   ·exact ⟨none,_,by have:=run_endLoop (P:=P) hl (by rw [hrec];simp);rw [hrec] at this;exact this,hdone xs _ hF (hI _ _ _ hi (Kq.put1 _ hl)) ((World.putObj_heap_other (by omega)).trans hk)⟩
   ·exact ⟨some c,_,by have:=run_endLoop (P:=P) hl (by rw [hrec];simp);rw [hrec] at this;exact this,hstop c xs _ (hIx _ _ _ _ hi (Kq.put1 _ hl)) ((World.putObj_heap_other (by omega)).trans hk)⟩
   ·exact hpanic ch xs _ hP hi hk
structure KpB (n:Nat) (X:Nat→Prop) (A B:World):Prop where
 zero:Below 0 A B
 block:∀ i,i < A.heap.size→i < n→¬ X i→B.heap[i]?=A.heap[i]?
theorem KpB.refl (n:Nat) (X:Nat→Prop) (A:World):KpB n X A A:=⟨Below.refl _ _,fun _ _ _ _=>rfl⟩
theorem KpB.trans {n:Nat} {X:Nat→Prop} {A B C:World} (h:KpB n X A B) (k:KpB n X B C):KpB n X A C:=⟨h.zero.trans k.zero,fun i hi hn hL=>(k.block i (Nat.lt_of_lt_of_le hi h.zero.size) hn hL).trans (h.block i hi hn hL)⟩
theorem KpB.ext {n:Nat} {X:Nat→Prop} {A B:World} (h:Ext A B):KpB n X A B:=⟨h.mono (Nat.zero_le _),fun i hi _ _=>h.block i hi⟩
theorem KpB.kz {n m:Nat} {X:Nat→Prop} {A B:World} (hm:n≤m) (h:Kz m A B):KpB n X A B:=⟨h.zero,fun i hi hn _=>h.block i hi (.inl (by omega))⟩
theorem KpB.set {n:Nat} {X:Nat→Prop} {A B:World} (h:KpB n X A B) {o:Nat} (ho:X o∨n≤o) (p:Nat) (v:Value):KpB n X A (B.setCell ⟨o,p,none⟩ v):=
 ⟨h.zero.setCell (Nat.zero_le _) v,fun i hi hn hL=>(Below.heap_setCell B ⟨o,p,none⟩ v i (by
  dsimp only;intro e;subst e;rcases ho with ho|ho
  ·exact hL ho
  ·omega)).trans (h.block i hi hn hL)⟩
theorem KpB.mono {n:Nat} {X Y:Nat→Prop} {A B:World} (h:KpB n X A B) (k:∀ i,X i→Y i):KpB n Y A B:=⟨h.zero,fun i hi hn hY=>h.block i hi hn (fun hX=>hY (k i hX))⟩
theorem Blk.kpB {n:Nat} {X:Nat→Prop} {A B:World} {b:Nat} {c:Array Value} {t:TypeId} (h:Blk A b c t) (k:KpB n X A B) (hb:b < n) (hL:¬ X b):Blk B b c t:=(k.block b h.lt hb hL).trans h
theorem KpB.below {n n0:Nat} {X:Nat→Prop} {A B:World} (h:KpB n X A B) (h1:∀ i,X i→n0≤i) (h2:n0≤n) (h3:n0≤A.heap.size):Below n0 A B:=
 ⟨h.zero.os,h.zero.tape,h.zero.output,h.zero.size,fun i hi=>h.block i (by omega) (by omega) (fun hX=>by have:=h1 i hX;omega)⟩
end
section
abbrev mdC (m:MD) (m1:Option Addr) (n1:Nat) (m2:Option Addr) (n2:Nat) (m3:Option Addr) (n3:Nat):Array Value:=#[.bool m.disc.neg,.slice m1 m.disc.num.length n1,.slice m2 m.disc.den.length n2,.slice m3 m.states.length n3]
abbrev lb3 (H:Nat):Array Value:=#[.pointer (some ⟨H+2,0,none⟩),.pointer (some ⟨H,0,none⟩),.pointer (some ⟨H+1,0,none⟩)]
theorem mdscores_any (m:MD) (m1:Option Addr) (n1:Nat) (m2:Option Addr) (n2:Nat) (m3:Option Addr) (n3:Nat) (a:Option Addr) (n c:Nat) (a2:Option Addr) (k2 c2:Nat) (w:World) :
  Calls Try.prog 24 #[.agg (mdC m m1 n1 m2 n2 m3 n3),.slice a n c,.slice a2 k2 c2] w fun e w'=>e=.returned (.func (.func 48) #[] (lb3 w.heap.size))∧w'=((w.alloc (.cells (mdC m m1 n1 m2 n2 m3 n3) 28)).alloc (.cells #[.slice a n c] 32)).alloc (.cells #[.slice a2 k2 c2] 57):=by
 go_enter Try.func24,Try.ntmps24
 go_wp2
 go_ret;exact ⟨rfl,rfl⟩
def ScNx (w0:World) (m:MD) (vals:List RR) (s:Nat) (pre:List (Value × Int)) (x:Value × Int) (W:World):Prop:=
 pre.length < (m.states.getD s []).length∧x.2=(scoreS m vals (m.act s pre.length)).2∧NewR w0 W x.1 (scoreS m vals (m.act s pre.length)).1
def ScFin (m:MD) (s:Nat) (xs:List (Value × Int)):Prop:=xs.length=(m.states.getD s []).length∨∃ y ∈ xs,y.2≠0
theorem mdscores1_seq (n:Nat) (hn:1≤n) (m:MD) (m1:Option Addr) (n1:Nat) (m2:Option Addr) (n2:Nat) (m3:Option Addr) (n3:Nat) (a:Option Addr) (c:Nat) (a2:Option Addr) (c2:Nat) (vals:List RR) (s H N lb:Nat) (X:Nat→Prop) (w0 W1:World)
  (hm:RdM w0 (.agg (mdC m m1 n1 m2 n2 m3 n3)) m) (hv:RdRs w0 (.slice a vals.length c) vals) (hac:RdAs w0 (.slice a2 (m.states.getD s []).length c2) (m.states.getD s [])) (hlm:LimM m) (hlv:LimL vals) (hE:mvE m vals=0) (hs:s < m.states.length)
  (hx:Ext w0 W1) (hX:∀ i,X i→w0.heap.size≤i∧i < H) (hwH:w0.heap.size≤H) (hH:H+2 < N) (hN:N≤W1.heap.size)
  (hb0:Blk W1 H (mdC m m1 n1 m2 n2 m3 n3) 28) (hb1:Blk W1 (H+1) #[.slice a vals.length c] 32) (hb2:Blk W1 (H+2) #[.slice a2 (m.states.getD s []).length c2] 57) :
  UpSeqR Fence.wide n Try.prog 48 (lb3 H) (KpB N X) Ext (fun x:Value × Int=>#[x.1,.int .i64 x.2]) (ScNx w0 m vals s) (ScFin m s) (fun _ _=>False) lb W1:=by
 intro J Jx hJ hY h0;have hsc:=fun W xv k (x:Ext w0 W) (hx:RdAct W xv (m.act s k)) (hk:k < (m.states.getD s []).length)=>scoreOf_any _ _ xv m vals s k W (hm.ext x) (hv.ext x) hx hlm hlv hE hs hk;have hll:(m.states.getD s []).length≤9223372036854775807:=by obtain ⟨_,_,_,h⟩:=hac.shape;exact h
 have hnx:∀ (pre:List (Value × Int)) (k:Nat) (v:Value) (r:RR) (e:Int) (W:World),pre.length=k→k < (m.states.getD s []).length→scoreS m vals (m.act s k)=(r,e)→NewR w0 W v r→ScNx w0 m vals s pre (v,e) W:=by
  intro pre k v r e W h1 h2 h3 h4;subst h1;exact ⟨h2,by rw [h3],by rw [h3];exact h4⟩
 have hat:∀ k,(m.states.getD s []).getD k dA=m.act s k:=fun _=>rfl;have hfin:∀ xs:List (Value × Int),ScFin m s xs↔(xs.length=(m.states.getD s []).length∨∃ y ∈ xs,y.2≠0):=fun _=>Iff.rfl;obtain ⟨ac,hac0⟩:=gN (m.states.getD s []);rw [← hac0] at hac hb2 hsc hll hnx hat;simp only [← hac0] at hfin;have HAC:=kI hac;have HSC:=kI hsc;have HNX:=kI hnx;have HAT:=kI hat;have HFIN:=kI hfin;have HB0:=kI hb0;have HB1:=kI hb1;have HB2:=kI hb2;have HX:=kI hx;have HJ0:=kI hJ;have HY:=kI hY;clear hm hv hac hsc hnx hat hfin hac0 hx hlm hlv hE hs hJ hY;have hw0:w0.heap.size≤W1.heap.size:=HX.o.size;refine callsIn_of_wp Try.func48 rfl trivial ?_ rfl;simp only [Try.ntmps48,List.size_toArray,List.length_cons,List.length_nil,Nat.reduceAdd,Nat.reduceSub,Array.replicate_succ,Array.replicate_zero,List.push_toArray,List.append_toArray,List.nil_append,List.cons_append];have d0:=hb2.cell;have d1:=hb2.lt;gi_wp2_with fail;clear d0 d1 hb0 hb1 hb2;gi_loopw [11] (fun i wr=>∃ (k:Nat) (pre:List (Value × Int)),k≤ac.length∧i=.int .i64 k∧pre.length=k∧J pre wr∧KpB N X W1 wr) (fun i _=>ac.length - (intOf i).toNat)
 case atStart=>exact ⟨0,[],by omega,rfl,rfl,h0,KpB.refl _ _ _⟩
 case round=>
  obtain ⟨wk,hwk⟩:=gN (wr);subst hwk;obtain ⟨k,pre,hk,rfl,hpl,hj,hkp⟩:=hrel;have XK:Hid (Ext w0 wk):=kI (Below.trans HX.o (hkp.below (fun i h=>(hX i h).1) (by omega) hw0));have KP:=kI hkp;have HJ:=kI hj;have HPL:=kI hpl;have bk0:=kI (HB0.o.kpB hkp (by omega) (fun h=>by have:=(hX _ h).2;omega));have bk1:=kI (HB1.o.kpB hkp (by omega) (fun h=>by have:=(hX _ h).2;omega));have bk2:=kI (HB2.o.kpB hkp (by omega) (fun h=>by have:=(hX _ h).2;omega));clear hkp hj hpl;by_cases hlt:k < ac.length
  ·obtain ⟨b,off,p1,e1,p2,e2,p3,e3,rfl,zz⟩:=(HAC.o.ext XK.o).at hlt;have hrd:=zz.rd;obtain ⟨⟨y0,y1,y2,y3,-⟩,y4,-⟩:=zz;have hsc:=fun W xv (x:Ext w0 W) (hx:RdAct W xv (m.act s k))=>HSC.o W xv k x hx hlt;have hnx:=fun (v:Value) (r:RR) (e:Int) (W:World)=>HNX.o pre k v r e W HPL.o hlt;rw [HAT.o k] at y1 y2 y3 y4 hrd;obtain ⟨x,hxx⟩:=gN (m.act s k);rw [← hxx] at y1 y2 y3 y4 hrd hsc hnx;obtain ⟨R,hR⟩:=gN (scoreS m vals x);rw [← hR] at hsc hnx;obtain ⟨r,e⟩:=R;unfold ResR at hsc;dsimp only at hsc;have HSC2:=kI hsc;have HNX2:=kI (fun v W=>hnx v r e W rfl);have RX:=kI hrd;have q4:(0:Int)≤(k:Int):=by omega
   have q5:(k:Int) < (ac.length:Int):=by omega
   clear hsc hnx hrd hxx hR;have kb0:=bk0.out.cell;have kb1:=bk1.out.cell;have kb2:=bk0.out.lt;have kb3:=bk1.out.lt;gi_wp2_with fail;obtain ⟨wa,hwa⟩:=gN (wk.alloc (.cells #[.bool x.cost.neg,.slice p1 x.cost.num.length e1,.slice p2 x.cost.den.length e2,.slice p3 x.next.length e3] 68));have hxa:Ext wk wa:=by rw [hwa];exact (Ext.refl _).alloc _
   rw [← hwa];clear hwa;refine ⟨trivial,(callsIn_wide.2 (HSC2.o wa _ (XK.o.trans hxa) (RX.o.ext hxa))).mono ?_⟩;rintro e9 w2 ⟨⟨v,rfl,nn⟩,hx2⟩;obtain ⟨s1,s2,s3,s4,rfl⟩:=nn.shape;have NN:=kI (nn.from (XK.o.trans hxa));have X2:=kI (hxa.trans hx2);clear nn hx2 hxa y0 y1 y2 y3 y4 kb0 kb1 kb2 kb3;obtain ⟨fn,tmps,assign,body,hy,hR⟩:=HY.o pre (.agg #[.bool r.neg,.slice s1 r.num.length s2,.slice s3 r.den.length s4],e) (w2.alloc (.cells #[.bool r.neg,.slice s1 r.num.length s2,.slice s3 r.den.length s4] 25)) (HJ0.o _ _ _ HJ.o (X2.o.alloc _)) (HNX2.o _ _ (NN.o.ext ((Ext.refl _).alloc _)));have HRR:=kI hR;have KA:Hid (KpB N X W1 (w2.alloc (.cells #[.bool r.neg,.slice s1 r.num.length s2,.slice s3 r.den.length s4] 25))):=kI (KP.o.trans (.ext (X2.o.alloc _)));dsimp only at hy HRR;clear hR;by_cases he:e=0
   ·subst he;gi_wp2_with fail;refine HRR.o.mono ?_;rintro e9 W3 ⟨hb3,(⟨rfl,hJ3⟩|⟨rfl,hJ3⟩)⟩
    ·have HJ3:=kI hJ3;have KP3:=kI (KA.o.trans hb3);clear hJ3 hb3 hy HRR;gi_wp2_with fail;go_roundw
     case rel=>exact ⟨k+1,_,by omega,by go_num,by have:=HPL.o;simp [this],HJ3.o,KP3.o⟩
     case measure=>simp [intOf];omega
    ·have HJ3:=kI hJ3;clear hJ3 hb3 hy HRR;gi_wp2_with fail;refine bodyPost_ret (v:=.tuple #[]) ?_ rfl (.inl ⟨⟨_,rfl⟩,.inr ⟨_,HJ3.o⟩⟩);first|rfl|(simp only [results,Try.results48];go_simp)
   ·have q6:(e != 0)=true:=by simpa using he
    gi_wp2_with fail;refine HRR.o.mono ?_;rintro e9 W3 ⟨hb3,(⟨rfl,hJ3⟩|⟨rfl,hJ3⟩)⟩
    ·have HJ3:=kI hJ3;have F3:=kI ((HFIN.o (pre ++ [(.agg #[.bool r.neg,.slice s1 r.num.length s2,.slice s3 r.den.length s4],e)])).2 (.inr ⟨_,List.mem_append_right _ (List.mem_singleton_self _),he⟩));clear hJ3 hb3 hy HRR he;gi_wp2_with fail;refine bodyPost_ret (v:=.tuple #[]) ?_ rfl (.inl ⟨⟨_,rfl⟩,.inl ⟨_,F3.o,HJ3.o⟩⟩);first|rfl|(simp only [results,Try.results48];go_simp)
    ·have HJ3:=kI hJ3;clear hJ3 hb3 hy HRR he;gi_wp2_with fail;refine bodyPost_ret (v:=.tuple #[]) ?_ rfl (.inl ⟨⟨_,rfl⟩,.inr ⟨_,HJ3.o⟩⟩);first|rfl|(simp only [results,Try.results48];go_simp)
  ·obtain rfl:k=ac.length:=by omega
   have F3:=kI ((HFIN.o pre).2 (.inl HPL.o));have q6:¬ (ac.length:Int) < (ac.length:Int):=by omega
   gi_wp2_with fail;go_end0
   exact ⟨⟨_,rfl⟩,.inl ⟨_,F3.o,HJ.o⟩⟩
theorem keeps_blk {A B:World} (t:TypeId) (h0:Below 0 A B) (h:∀ (i:Nat) (c:Array Value) (u:TypeId),Blk A i c u→Blk B i c u):Keeps 0 t A B:=
 ⟨h0,fun i hi ho=>by
  rcases ho with ho|⟨cur,u,h1,_⟩
  ·omega
  ·have h2:=h i cur u h1;unfold Blk at h1 h2;rw [h1,h2]⟩
theorem Kq.keeps {m:Nat} {A B:World} (h:Kq m A B) (t:TypeId):Keeps 0 t A B:=keeps_blk t h.kz.zero h.blk
theorem OwRow.keepsG {α:Type} {e t:TypeId} {size:Nat} {El:World→List Value→α→Prop} {B C:Nat} {w w':World} {v:Value} {l:List α} (h:OwRow e size El B w v l) (k:Keeps C t w w') (ht:e≠t) (hEl:∀ h y,El w h y→El w' h y):OwRow e size El B w' v l:=by
 obtain ⟨hs,h1,h2,h3,h4⟩:=h;exact ⟨hs,own_keepsN h1 k ht,h2,h3,fun i y hi=>by obtain ⟨h,e1,e2⟩:=h4 i y hi;exact ⟨h,e1,hEl _ _ e2⟩⟩
def ElZ (_:World) (h:List Value) (y:Int):Prop:=h=[.int .i64 y]
abbrev OwZ (B:Nat) (w:World) (v:Value) (l:List Int):Prop:=OwRow 3 1 ElZ B w v l
theorem OwZ.nil (B:Nat) (w:World):OwZ B w (.slice none 0 0) []:=OwRow.nil _ _ _ _ _
theorem OwZ.ext' {B:Nat} {w w':World} {v:Value} {l:List Int} (h:OwZ B w v l) (x:Ext w w'):OwZ B w' v l:=OwRow.ext h x (fun _ _ e=>e)
theorem OwZ.keeps {B C:Nat} {t:TypeId} {w w':World} {v:Value} {l:List Int} (h:OwZ B w v l) (k:Keeps C t w w') (ht:3≠t):OwZ B w' v l:=OwRow.keepsG h k ht (fun _ _ e=>e)
theorem OwZ.shape {B:Nat} {w:World} {v:Value} {l:List Int} (h:OwZ B w v l):∃ a c,v=.slice a l.length c:=by
 obtain ⟨a,c,h,_⟩:=OwRow.rdN h;exact ⟨a,c,h⟩
theorem OwZ.owI {B:Nat} {w:World} {v:Value} {l:List Int} (h:OwZ B w v l):w.ownsRow B 3 1 v l.length (l.map (Value.int .i64)):=by
 obtain ⟨hs,h1,h2,h3,h4⟩:=h;have e:hs.flatten=l.map (Value.int .i64):=by
  have key:∀ (l:List Int) (hs:List (List Value)),hs.length=l.length→(∀ (i:Nat) x,l[i]?=some x→∃ h,hs[i]?=some h∧ElZ w h x)→hs.flatten=l.map (Value.int .i64):=by
   intro l;induction l with
   | nil=>intro hs h _;rw [List.length_eq_zero_iff.1 h];rfl
   | cons x r ih=>
    intro hs h hk;cases hs with
    | nil=>cases h
    | cons y t=>
     obtain ⟨h0,e0,e1⟩:=hk 0 x rfl;injection e0 with e0
     subst e0;rw [List.flatten_cons,List.map_cons,ih t (by simpa using h) (fun i x hi=>hk (i+1) x hi),show y=[.int .i64 x] from e1];rfl
  exact key l hs h2 h4
 rw [← e];exact h1
abbrev OwN2 (B C:Nat) (w:World) (v:Value) (l:List RR):Prop:=OwRow 25 3 (ElN B) C w v l
theorem OwN2.nil (B C:Nat) (w:World):OwN2 B C w (.slice none 0 0) []:=OwRow.nil _ _ _ _ _
theorem OwN2.ext' {B C:Nat} {w w':World} {v:Value} {l:List RR} (h:OwN2 B C w v l) (x:Ext w w'):OwN2 B C w' v l:=OwRow.ext h x (fun _ _ e=>e.ext x)
theorem OwN2.keeps {B C D:Nat} {t:TypeId} {w w':World} {v:Value} {l:List RR} (h:OwN2 B C w v l) (k:Keeps D t w w') (ht:25≠t) (hu:102≠t):OwN2 B C w' v l:=OwRow.keepsG h k ht (fun _ _ e=>ElN.keeps hu _ _ _ _ e k)
theorem OwN2.rd {B C:Nat} {w:World} {v:Value} {l:List RR} (h:OwN2 B C w v l):RdRs w v l:=by
 obtain ⟨hs,h1,h2,h3,h4⟩:=h;exact OwRs.rd (B:=C) ⟨hs,h1,h2,h3,fun i x hi=>by
  obtain ⟨h,e1,a1,c1,a2,c2,e2,s1,s2⟩:=h4 i x hi;exact ⟨h,e1,a1,c1,a2,c2,e2,s1.1.mono (Nat.zero_le _),s2.1.mono (Nat.zero_le _)⟩⟩
theorem OwN2.shape {B C:Nat} {w:World} {v:Value} {l:List RR} (h:OwN2 B C w v l):∃ a c,v=.slice a l.length c:=by
 obtain ⟨a,c,h,_⟩:=OwRow.rdN h;exact ⟨a,c,h⟩
theorem OwN2.at {B C:Nat} {w:World} {v:Value} {l:List RR} (h:OwN2 B C w v l) {i:Nat} (hi:i < l.length):∃ g n cap cur a1 c1 a2 c2,v=.slice (some ⟨g,0,none⟩) n cap∧C≤g∧Blk w g cur 25∧w.cell? ⟨g,i*3,none⟩=some (.bool (l.getD i zR).neg)∧w.cell? ⟨g,i*3+1,none⟩=some (.slice a1 (l.getD i zR).num.length c1)∧w.cell? ⟨g,i*3+2,none⟩=some (.slice a2 (l.getD i zR).den.length c2)∧
  ElN B w [.bool (l.getD i zR).neg,.slice a1 (l.getD i zR).num.length c1,.slice a2 (l.getD i zR).den.length c2] (l.getD i zR):=by
 obtain ⟨a,cap,hv,_,_,hr⟩:=OwRow.rdN h;have hl:l[i]?=some (l.getD i zR):=by rw [List.getD_eq_getElem?_getD,List.getElem?_eq_getElem hi];rfl
 obtain ⟨b,h',e1,hb,e2,e3,e4,hel⟩:=hr i _ hl;have hel2:=hel;obtain ⟨a1,c1,a2,c2,rfl,s1,s2⟩:=hel2;obtain ⟨hs,h1,_⟩:=h;rcases h1.2 with ⟨rfl,h0⟩|⟨g,cap',cur,rfl,hg1,hg,_⟩
 ·rw [e1] at hv;cases hv
 ·injection hv with f1 f2 f3
  rw [e1] at f1;injection f1 with f1
  injection f1 with f1
  subst f1;have x0:=e4 0 (by omega);have x1:=e4 1 (by omega);have x2:=e4 2 (by omega);exact ⟨g,_,_,cur,a1,c1,a2,c2,rfl,hb,hg,x0,x1,x2,hel⟩
section
variable {P:Program} {n:Nat}
theorem leaves_marks2 {F:Fence} {fn:Func} {tmps:Array Value} {R:Ending→World→Prop} {B:Nat}:∀ (rs:List Nat) (W:World),rs.Nodup→(∀ r ∈ rs,B < r∧W.heap[r]?=some (.deferred (some [])))→
  (∀ W',Below (B+1) W W'→(∀ (i:Nat) (c:Array Value) (t:TypeId),Blk W i c t→Blk W' i c t)→LeavesInM F n P fn tmps R [] .returning W')→LeavesInM F n P fn tmps R (rs.map (fun r=>{ target:=.collected r,args:=#[] })) .returning W:=by
 intro rs;induction rs with
 | nil=>intro W _ _ h;exact h W (Below.refl _ _) (fun _ _ _ h=>h)
 | cons r rs ih=>
  intro W hn hm h;obtain ⟨hr,hk⟩:=hm r (by simp);refine ⟨by simp,.inl ⟨r,_,rfl,run_takeDeferred hk,?_⟩⟩;have hb:Below (B+1) W (W.putObj r (.deferred none)):=⟨rfl,rfl,rfl,by simp,fun i hi=>World.putObj_heap_other (by omega)⟩;have hk2:∀ (i:Nat) (c:Array Value) (t:TypeId),Blk W i c t→Blk (W.putObj r (.deferred none)) i c t:=fun i c t b=>by
   have e:i≠r:=fun e=>by subst e;unfold Blk at b;rw [b] at hk;cases hk
   exact (World.putObj_heap_other e).trans b
  refine ih _ (List.nodup_cons.1 hn).2 (fun r' hr'=>⟨(hm r' (by simp [hr'])).1,?_⟩) (fun W' hb' hk'=>h W' (hb.trans hb') (fun i c t b=>hk' i c t (hk2 i c t b)));have hne:r'≠r:=fun e=>by subst e;exact (List.nodup_cons.1 hn).1 hr'
  exact (World.putObj_heap_other hne).trans (hm r' (by simp [hr'])).2
theorem Marks.leaves2 {F:Fence} {fn:Func} {tmps:Array Value} {R:Ending→World→Prop} {B:Nat} {ds:List Deferred} {W:World} (h:Marks B ds W)
  (hr:∀ W',Below (B+1) W W'→(∀ (i:Nat) (c:Array Value) (t:TypeId),Blk W i c t→Blk W' i c t)→LeavesInM F n P fn tmps R [] .returning W'):LeavesInM F n P fn tmps R ds .returning W:=by
 obtain ⟨rs,rfl,h2,h3⟩:=h;exact leaves_marks2 rs W h2 h3 hr
end
def ResB (w w':World) (e:Ending) (r:List RR × List Int × Int):Prop:=∃ v a,e=.returned (.tuple #[v,a,.int .i64 r.2.2])∧OwN w.heap.size w' v r.1∧OwZ w.heap.size w' a r.2.1
theorem ResB.mk {w w':World} {v a:Value} {l:List RR} {p:List Int} {x:Int} {r:List RR × List Int × Int} (h:OwN w.heap.size w' v l) (k:OwZ w.heap.size w' a p) (e:r=(l,p,x)):ResB w w' (.returned (.tuple #[v,a,.int .i64 x])) r:=by subst e;exact ⟨v,a,rfl,h,k⟩
theorem rowS_len (m:MD) (v:List RR) (ac:List DAct):(rowS m v ac).length=ac.length:=by simp [rowS]
theorem rowS_at {m:MD} {v:List RR} {ac:List DAct} {i:Nat} (h:i < ac.length):(rowS m v ac).getD i zR=(scoreS m v (ac.getD i dA)).1:=by
 unfold rowS;rw [List.getD_eq_getElem?_getD,List.getElem?_map,List.getD_eq_getElem?_getD (l:=ac),List.getElem?_eq_getElem h];rfl
theorem rowS_take {m:MD} {v:List RR} {ac:List DAct} {k:Nat} (h:k < ac.length):(rowS m v ac).take (k+1)=(rowS m v ac).take k ++ [(scoreS m v (ac.getD k dA)).1]:=by
 rw [take_snocD _ k zR (by rw [rowS_len];exact h),rowS_at h]
theorem rowS_lim (m:MD) (v:List RR) (ac:List DAct):LimL (rowS m v ac):=fun i hi=>by
 rw [rowS_len] at hi;rw [rowS_at hi];exact score_lim _ _ _
theorem bkV_len (m:MD) (v:List RR):(bkV m v).length=m.states.length:=by simp [bkV]
theorem bkA_len (m:MD) (v:List RR):(bkA m v).length=m.states.length:=by simp [bkA]
theorem bkV_take {m:MD} {v:List RR} {k:Nat} (h:k < m.states.length):(bkV m v).take (k+1)=(bkV m v).take k ++ [(rowS m v (m.states.getD k [])).getD (bestI (rowS m v (m.states.getD k []))) zR]:=by
 rw [take_snocD _ k zR (by rw [bkV_len];exact h)];congr 2
 unfold bkV;rw [List.getD_eq_getElem?_getD,List.getElem?_map,List.getD_eq_getElem?_getD (l:=m.states),List.getElem?_eq_getElem h];rfl
theorem bkA_take {m:MD} {v:List RR} {k:Nat} (h:k < m.states.length):(bkA m v).take (k+1)=(bkA m v).take k ++ [(bestI (rowS m v (m.states.getD k [])):Int)]:=by
 rw [take_snocD _ k 0 (by rw [bkA_len];exact h)];congr 2
 unfold bkA;rw [List.getD_eq_getElem?_getD,List.getElem?_map,List.getD_eq_getElem?_getD (l:=m.states),List.getElem?_eq_getElem h];rfl
theorem backup_1 {m:MD} {v:List RR} (h:mvE m v≠0):backupS m v=([],[],mvE m v):=if_pos h
theorem backup_2 {m:MD} {v:List RR} (h:mvE m v=0) {k j:Nat} (hk:k < m.states.length) (h1:∀ i,i < k→rowE m v (m.states.getD i [])=0) (hj:j < (m.states.getD k []).length) (h2:∀ i,i < j→(scoreS m v (m.act k i)).2=0) {c:Int} (h3:(scoreS m v (m.act k j)).2=c) (hc:c≠0):backupS m v=([],[],c):=by
 have e1:rowE m v (m.states.getD k [])=c:=by
  have:=frstE_at (f:=fun a=>(scoreS m v ((m.states.getD k []).getD a dA)).2) (k:=j) h2 (by rw [show (scoreS m v ((m.states.getD k []).getD j dA)).2=c from h3];exact hc) hj;exact this.trans h3
 have e2:bkE m v=c:=by
  have:=frstE_at (f:=fun s=>rowE m v (m.states.getD s [])) (k:=k) h1 (by rw [e1];exact hc) hk;exact this.trans e1
 unfold backupS;rw [if_neg (by simpa using h),e2,if_pos hc]
theorem row_zero {m:MD} {v:List RR} {k:Nat} (h2:∀ i,i < (m.states.getD k []).length→(scoreS m v (m.act k i)).2=0):rowE m v (m.states.getD k [])=0:=frstE_zero h2
theorem backup_3 {m:MD} {v:List RR} (h:mvE m v=0) (h1:∀ i,i < m.states.length→rowE m v (m.states.getD i [])=0):backupS m v=(bkV m v,bkA m v,0):=by
 have e:=frstE_zero h1;unfold backupS;rw [if_neg (by simpa using h),show bkE m v=0 from e,if_neg (fun h=>h rfl)]
end
section
theorem wpListIn_append_row {F:Fence} {nf:Nat} {P:Program} (W:World) {ops:Array Oper} {rest:List Oper} {o:Oper} {a:Act} {Q:Exit→Act→World→Prop} (hgd:o.guard=none) (s x:Operand) (t:TypeId)
  (ho:o.op=.call { callee:=.builtin .append,args:=#[s,x],argTypes:=#[t,t] })
  (B:Nat) (e:TypeId) (z:Value) (size bytes:Nat) (ht:P.underlying t=some (.slice e)) (hinfo:(P.info? e).map (fun i=>(i.zero,i.size,i.bytes))=some (some z,size,bytes))
  (hzs:z.cells.size=size) (hsz:0 < size) {α:Type} {El:World→List Value→α→Prop} (hEl:∀ w w' h y,El w h y→Keeps B e w w'→El w' h y) (v:Value) (l:List α) (hown:OwRow e size El B W v l) (hs:a.eval s=v)
  (cs:List Value) (hcs:cs.length=size) (h1c:∀ u ∈ cs,u.oneCell'=true) (y:α) (hy:El W cs y) (hx:a.eval x=.slice (some ⟨W.heap.size,0,none⟩) 1 1)
  (h63:l.length+1≤9223372036854775807) (hbytes:(l.length+1)*bytes≤140737488355328) (hB:B≤W.heap.size)
  (h:∀ g cap w',OwRow e size El B w' (.slice (some ⟨g,0,none⟩) (l.length+1) cap) (l ++ [y])→Keeps B e W w'→wpListIn F nf P ops Q rest (a.put o.dst (.slice (some ⟨g,0,none⟩) (l.length+1) cap)) w') :
  wpListIn F nf P ops Q (o :: rest) a (W.alloc (.cells cs.toArray e)):=by
 obtain ⟨i0,hi,hz0,hz1,hz2⟩:=info_parts hinfo;obtain ⟨hs0,h1,h2,h3,h4⟩:=hown;refine wpListIn_append_own _ hgd s x t ho B e i0 z size bytes ht hi hz0 hz1 hz2 hzs hsz v l.length hs0.flatten hs (h1.alloc _) ⟨W.heap.size,0,none⟩ 1 1 cs hx (by simp [hcs]) ?_ h1c (by unfold maxLen;omega) hbytes (by simp;omega) ?_
 ·intro j u hj;have hlt:j < cs.length:=(List.getElem?_eq_some_iff.1 hj).1;have hadd:(⟨W.heap.size,0,none⟩:Addr).add j=⟨W.heap.size,j,none⟩:=by unfold Addr.add;split <;> simp_all
  rw [hadd,World.cell?_alloc_at _ _ _ _ rfl];simpa using hj
 ·intro v' w' hown' hgrow _;have hk0:Keeps B e (W.alloc (.cells cs.toArray e)) w':=by
   refine ⟨⟨hgrow.os,hgrow.tape,hgrow.output,hgrow.size,fun i hi=>by omega⟩,fun i hi ho=>hgrow.block i hi ?_⟩;intro heq;rcases h1.2 with ⟨rfl,_⟩|⟨g,cap,cur,rfl,hb,hg,_⟩
   ·simp [Value.ownBlock] at heq
   ·simp [Value.ownBlock] at heq;subst heq;have hg2:Blk (W.alloc (.cells cs.toArray e)) i cur e:=Blk.alloc (show Blk W i cur e from hg) _;rcases ho with ho|⟨c2,u,h5,h6⟩
    ·omega
    ·unfold Blk at hg2 h5;rw [hg2] at h5;injection h5 with h5
     injection h5 with _ h7
     exact h6 h7.symm
  have hk:Keeps B e W w':=(Keeps.ext ((Ext.refl W).alloc _)).trans hk0;have hrow:OwRow e size El B w' v' (l ++ [y]):=by
   refine ⟨hs0 ++ [cs],?_,by simp [h2],?_,?_⟩
   ·rw [List.flatten_append,List.length_append];simpa using hown'
   ·intro q hq;rcases List.mem_append.1 hq with hq|hq
    ·exact h3 q hq
    ·rw [List.mem_singleton.1 hq];exact hcs
   ·intro i x0 hi0;by_cases hlt:i < l.length
    ·rw [List.getElem?_append_left hlt] at hi0;obtain ⟨q,e1,e2⟩:=h4 i x0 hi0;exact ⟨q,by rw [List.getElem?_append_left (by omega)];exact e1,hEl _ _ _ _ e2 hk⟩
    ·have hil:i=l.length:=by
      have:=(List.getElem?_eq_some_iff.1 hi0).1;simp at this;omega
     subst hil;rw [List.getElem?_append_right (Nat.le_refl _)] at hi0;simp at hi0;subst hi0;exact ⟨cs,by rw [List.getElem?_append_right (by omega),h2];simp,hEl _ _ _ _ hy hk⟩
  have h5:=hown'.2;rcases h5 with ⟨_,h0⟩|⟨g,cap,cur,rfl,_⟩
  ·omega
  ·exact h g cap w' hrow hk
section
variable {P:Program} {ops:Array Oper} {Q:Exit→Act→World→Prop} {md:Region.Mode} {T:Array Bool→World→Prop}
def wpAnyX (P:Program) (md:Region.Mode) (ops:Array Oper) (Q:Exit→Act→World→Prop) (T:Array Bool→World→Prop):Nat→Array Bool→Act→World→Prop
 | 0,listed,a,w=>Region.ready md ops listed=[]∧Q .normal a w
 | fuel+1,listed,a,w=>
  (Region.ready md ops listed=[]→Q .normal a w)∧
  ∀ i ∈ Region.ready md ops listed,wpOp P ops Q i (fun a' w'=>T (listed.setIfInBounds i true) w'∧wpAnyX P md ops Q T fuel (listed.setIfInBounds i true) a' w') a w
theorem wpAny_ofX:∀ (fuel:Nat) (listed:Array Bool) (a:Act) (w:World),wpAnyX P md ops Q T fuel listed a w→wpAny P md ops Q fuel listed a w
 | 0,_,_,_,h=>h
 | fuel+1,_,_,_,h=>⟨h.1,fun i hi=>wpOp_mono (fun a' w' h'=>wpAny_ofX fuel _ a' w' h'.2) (h.2 i hi)⟩
theorem wpAnyX_first {S:World→Prop} {C:Array Bool→Prop} {i:Nat} {oi:Oper} {v:Value} (hi:ops[i]?=some oi) (hsel:∀ (j:Nat) (o:Oper) cs b,ops[j]?=some o→o.op≠.select cs b)
  (hQ:∀ c a w,Q (.panic c) (a.put oi.dst v) w→Q (.panic c) a w)
  (hC:∀ l j oj,ops[j]?=some oj→(∀ e ∈ oj.after,Region.binds md e=true→e.on≠i)→C l→C (l.setIfInBounds j true)) (hS:∀ l w,C l→T l w→S w) (hT:∀ l w,T (l.setIfInBounds i true) w↔T l w) :
  ∀ (fuel:Nat) (listed:Array Bool) (a:Act) (w:World),
   (∀ j oj,ops[j]?=some oj→j≠i→listed.getD j true=false→(∀ e ∈ oj.after,Region.binds md e=true→e.on≠i)→oi.apart ops oj=true)→
   i ∈ Region.ready md ops listed→YieldsIf P ops S oi v a→C listed→T listed w→
   wpAnyX P md ops Q T fuel (listed.setIfInBounds i true) (a.put oi.dst v) w→wpAnyX P md ops Q T (fuel+1) listed a w:=by
 intro fuel;induction fuel with
 | zero=>
  intro listed a w _ hr hy hc ht H;refine ⟨fun h=>(by rw [h] at hr;cases hr),fun j hj=>?_⟩;by_cases hji:j=i
  ·subst hji;exact hy.wpOp hi (hS _ _ hc ht) ⟨(hT _ _).2 ht,H⟩
  ·have:=ready_mono hj hji;rw [H.1] at this;cases this
 | succ fuel ih=>
  intro listed a w hfree hr hy hc ht H;refine ⟨fun h=>(by rw [h] at hr;cases hr),fun j hj=>?_⟩;by_cases hji:j=i
  ·subst hji;exact hy.wpOp hi (hS _ _ hc ht) ⟨(hT _ _).2 ht,H⟩
  ·have h1:=H.2 j (ready_mono hj hji);obtain ⟨hjun,oj,hoj,hall⟩:=mem_ready.1 hj;have hnot:∀ e ∈ oj.after,Region.binds md e=true→e.on≠i:=fun e he hb heq=>by
    have h1:=hall e he hb;have h0:=(mem_ready.1 hr).1;rw [heq] at h1;rcases Nat.lt_or_ge i listed.size with h'|h'
    ·simp [h'] at h0 h1;rw [h0] at h1;cases h1
    ·simp [Array.getElem?_eq_none h'] at h1
   have h2:=wpOp_putIf hoj (hfree j oj hoj hji hjun hnot) (fun cs b=>hsel i oi cs b hi) (fun cs b=>hsel j oj cs b hoj) hQ hy h1;have hfree':∀ k ok,ops[k]?=some ok→k≠i→(listed.setIfInBounds j true).getD k true=false→
     (∀ e ∈ ok.after,Region.binds md e=true→e.on≠i)→oi.apart ops ok=true:=fun k ok hk hki hun hno=>by
    refine hfree k ok hk hki ?_ hno;by_cases hjk:j=k
    ·subst hjk;exact hjun
    ·rw [getD_set_ne true hjk] at hun;exact hun
   refine wpOp_mono (fun a' w' h3=>?_) h2;have h4:T (listed.setIfInBounds j true) w':=by
    have:=h3.2.1;rw [Array.setIfInBounds_comm _ _ (Ne.symm hji)] at this;exact (hT _ _).1 this
   refine ⟨h4,ih (listed.setIfInBounds j true) a' w' hfree' (ready_mono hr (Ne.symm hji)) h3.1 (hC _ j oj hoj hnot hc) h4 ?_⟩;rw [Array.setIfInBounds_comm _ _ hji];exact h3.2.2
def T2 (m1 m2:Nat) (S1 S2:World→Prop) (l:Array Bool) (w:World):Prop:=(l.getD m1 false=false→S1 w)∧(l.getD m2 false=false→S2 w)
theorem T2.both {m1 m2:Nat} {S1 S2:World→Prop} {l:Array Bool} {w:World} (h1:S1 w) (h2:S2 w):T2 m1 m2 S1 S2 l w:=⟨fun _=>h1,fun _=>h2⟩
theorem getD_setI {l:Array Bool} {i m:Nat} (h:i≠m):(l.setIfInBounds i true).getD m false=l.getD m false:=by
 simp only [Array.getD_eq_getD_getElem?,Array.getElem?_setIfInBounds_ne h]
theorem T2.set {m1 m2 i:Nat} {S1 S2:World→Prop} (h1:i≠m1) (h2:i≠m2) (l:Array Bool) (w:World):T2 m1 m2 S1 S2 (l.setIfInBounds i true) w↔T2 m1 m2 S1 S2 l w:=by
 unfold T2;rw [getD_setI h1,getD_setI h2]
theorem waitsX {i m:Nat} {om:Oper} (hm:ops[m]?=some om) (hw:om.after.any (fun e=>Region.binds md e && e.on == i)=true) {j:Nat} {oj:Oper} (hj:ops[j]?=some oj) (hn:∀ e ∈ oj.after,Region.binds md e=true→e.on≠i):j≠m:=fun e=>by
 subst e;rw [hm] at hj;injection hj with hj
 subst hj;obtain ⟨e,he,h⟩:=Array.any_eq_true'.1 hw;simp only [Bool.and_eq_true,beq_iff_eq] at h;exact hn e he h.1 h.2
theorem wpAnyX_take1 {S1 S2:World→Prop} {m1 m2:Nat} {i:Nat} {oi om:Oper} {v:Value} {fuel:Nat} {listed:Array Bool} {a:Act} {w:World} (hi:ops[i]?=some oi) (hm:ops[m1]?=some om) (hw:om.after.any (fun e=>Region.binds md e && e.on == i)=true)
  (h1:i≠m1) (h2:i≠m2) (hs:Region.noSelect ops=true) (hf:Region.free md ops listed i=true) (hr:(Region.ready md ops listed).contains i=true)
  (hQ:∀ c a w,Q (.panic c) (a.put oi.dst v) w→Q (.panic c) a w) (hy:YieldsIf P ops S1 oi v a) (hc:listed.getD m1 false=false) (ht:T2 m1 m2 S1 S2 listed w)
  (h:wpAnyX P md ops Q (T2 m1 m2 S1 S2) fuel (listed.setIfInBounds i true) (a.put oi.dst v) w):wpAnyX P md ops Q (T2 m1 m2 S1 S2) (fuel+1) listed a w:=
 wpAnyX_first (S:=S1) (C:=fun l=>l.getD m1 false=false) hi (Region.noSelect_spec hs) hQ (fun l j oj hj hn hc=>(getD_setI (waitsX hm hw hj hn)).trans hc) (fun l w hc ht=>ht.1 hc) (T2.set h1 h2) fuel listed a w (Region.free_spec hi hf) (by simpa using hr) hy hc ht h
theorem wpAnyX_take2 {S1 S2:World→Prop} {m1 m2:Nat} {i:Nat} {oi om:Oper} {v:Value} {fuel:Nat} {listed:Array Bool} {a:Act} {w:World} (hi:ops[i]?=some oi) (hm:ops[m2]?=some om) (hw:om.after.any (fun e=>Region.binds md e && e.on == i)=true)
  (h1:i≠m1) (h2:i≠m2) (hs:Region.noSelect ops=true) (hf:Region.free md ops listed i=true) (hr:(Region.ready md ops listed).contains i=true)
  (hQ:∀ c a w,Q (.panic c) (a.put oi.dst v) w→Q (.panic c) a w) (hy:YieldsIf P ops S2 oi v a) (hc:listed.getD m2 false=false) (ht:T2 m1 m2 S1 S2 listed w)
  (h:wpAnyX P md ops Q (T2 m1 m2 S1 S2) fuel (listed.setIfInBounds i true) (a.put oi.dst v) w):wpAnyX P md ops Q (T2 m1 m2 S1 S2) (fuel+1) listed a w:=
 wpAnyX_first (S:=S2) (C:=fun l=>l.getD m2 false=false) hi (Region.noSelect_spec hs) hQ (fun l j oj hj hn hc=>(getD_setI (waitsX hm hw hj hn)).trans hc) (fun l w hc ht=>ht.2 hc) (T2.set h1 h2) fuel listed a w (Region.free_spec hi hf) (by simpa using hr) hy hc ht h
def AllReadyX (P:Program) (md:Region.Mode) (ops:Array Oper) (Q:Exit→Act→World→Prop) (T:Array Bool→World→Prop) (fuel:Nat) (listed:Array Bool) (a:Act) (w:World) (rs:List Nat):Prop:=
 ∀ i ∈ rs,wpOp P ops Q i (fun a' w'=>T (listed.setIfInBounds i true) w'∧wpAnyX P md ops Q T fuel (listed.setIfInBounds i true) a' w') a w
theorem AllReadyX.nil {fuel:Nat} {listed:Array Bool} {a:Act} {w:World}:AllReadyX P md ops Q T fuel listed a w []:=fun _ h=>by cases h
theorem AllReadyX.cons {fuel:Nat} {listed:Array Bool} {a:Act} {w:World} {i:Nat} {o:Oper} {rs:List Nat} (ho:ops[i]?=some o)
  (h:∀ K':Act→World→Prop,Shut (∀ a w,T (listed.setIfInBounds i true) w→wpAnyX P md ops Q T fuel (listed.setIfInBounds i true) a w→K' a w)→if Region.wanted o (yielded ops a.tmps)=true then Oper.wp P o a w K' Q else K' (a.put o.dst undef) w)
  (hs:AllReadyX P md ops Q T fuel listed a w rs):AllReadyX P md ops Q T fuel listed a w (i :: rs):=fun j hj=>by
 rcases List.mem_cons.1 hj with rfl|hj
 ·exact wpOp_step ho (fun K' hK=>h K' (fun a w hS hW=>hK a w ⟨hS,hW⟩))
 ·exact hs j hj
theorem xc {P:Program} {md:Region.Mode} {ops:Array Oper} {Q:Exit→Act→World→Prop} {T:Array Bool→World→Prop} {fuel:Nat} {l:Array Bool} {a:Act} {w:World} {i:Nat} {o:Oper} (h:∀ K:Act→World→Prop,Shut (∀ a w,T (l.setIfInBounds i true) w→wpAnyX P md ops Q T fuel (l.setIfInBounds i true) a w→K a w)→if Region.wanted o (yielded ops a.tmps)=true then Oper.wp P o a w K Q else K (a.put o.dst undef) w) (ho:ops[i]?=some o:=by rfl):AllReadyX P md ops Q T fuel l a w [i]:=AllReadyX.cons ho h AllReadyX.nil
theorem wpAnyX_ready {rs:List Nat} {fuel:Nat} {listed:Array Bool} {a:Act} {w:World} (hr:Region.ready md ops listed=rs) (hne:rs≠[])
  (h:AllReadyX P md ops Q T fuel listed a w rs):wpAnyX P md ops Q T (fuel+1) listed a w:=⟨fun h0=>absurd (hr ▸ h0) hne,hr ▸ h⟩
theorem xr (rs:List Nat) {P:Program} {md:Region.Mode} {ops:Array Oper} {Q:Exit→Act→World→Prop} {T:Array Bool→World→Prop} {fuel:Nat} {l:Array Bool} {a:Act} {w:World} (h:AllReadyX P md ops Q T fuel l a w rs) (hr:Region.ready md ops l=rs:=by kernel_rfl) (hn:rs≠[]:=by simp):wpAnyX P md ops Q T (fuel+1) l a w:=wpAnyX_ready hr hn h
theorem wpAnyX_done {listed:Array Bool} {a:Act} {w:World} (hr:Region.ready md ops listed=[]) (h:Q .normal a w) :
  ∀ fuel,wpAnyX P md ops Q T fuel listed a w
 | 0=>⟨hr,h⟩
 | _+1=>⟨fun _=>h,by rw [hr];simp⟩
theorem wp_region_X {id:Nat} {a:Act} {w:World} (hm:P.follows .mixedOrders=true) (h:wpAnyX P .any ops Q T ops.size (Array.replicate ops.size false) a w.drew):(Code.region id ops true).wp P Q a w:=
 wp_region_any hm (wpAny_ofX _ _ _ _ h)
def Qn (Q:Exit→Act→World→Prop):Exit→Act→World→Prop:=fun e a w=>e=.normal∧Q .normal a w
theorem Qn.noP {Q:Exit→Act→World→Prop} {d:Option Tmp} {v:Value}:∀ c (a:Act) w,Qn Q (.panic c) (a.put d v) w→Qn Q (.panic c) a w:=fun c a w h=>by cases h.1
theorem xt2 (i:Nat) {P:Program} {md:Region.Mode} {ops:Array Oper} {Q:Exit→Act→World→Prop} {oi:Oper} {v:Value} {fuel:Nat} {l:Array Bool} {a:Act} {w:World} {R:Prop} {m1 m2:Nat} {S1 S2:World→Prop} {om:Oper} (r:R) (hi:ops[i]?=some oi:=by rfl) (hm:ops[m2]?=some om:=by rfl) (hw:om.after.any (fun e=>Region.binds md e && e.on == i)=true:=by kernel_rfl) (h1:i≠m1:=by decide) (h2:i≠m2:=by decide) (hs:Region.noSelect ops=true:=by kernel_rfl) (hf:Region.free md ops l i=true:=by kernel_rfl) (hr:(Region.ready md ops l).contains i=true:=by kernel_rfl) (hy:YieldsIf P ops S2 oi v a:=by refine Or.inl ⟨by rfl,?_⟩;intro w hSw;(try dsimp only at hSw);go_simp;first|done|with_reducible rfl) (hc:l.getD m2 false=false:=by kernel_rfl) (hT:T2 m1 m2 S1 S2 l w:=by exact ht _) (k:R→wpAnyX P md ops (Qn Q) (T2 m1 m2 S1 S2) fuel (l.setIfInBounds i true) (a.put oi.dst v) w:=by intro k;(try simp only [sP]);exact k):wpAnyX P md ops (Qn Q) (T2 m1 m2 S1 S2) (fuel+1) l a w:=wpAnyX_take2 hi hm hw h1 h2 hs hf hr Qn.noP hy hc hT (k r)
theorem xt1 (i:Nat) {P:Program} {md:Region.Mode} {ops:Array Oper} {Q:Exit→Act→World→Prop} {oi:Oper} {v:Value} {fuel:Nat} {l:Array Bool} {a:Act} {w:World} {R:Prop} {m1 m2:Nat} {S1 S2:World→Prop} {om:Oper} (r:R) (hi:ops[i]?=some oi:=by rfl) (hm:ops[m1]?=some om:=by rfl) (hw:om.after.any (fun e=>Region.binds md e && e.on == i)=true:=by kernel_rfl) (h1:i≠m1:=by decide) (h2:i≠m2:=by decide) (hs:Region.noSelect ops=true:=by kernel_rfl) (hf:Region.free md ops l i=true:=by kernel_rfl) (hr:(Region.ready md ops l).contains i=true:=by kernel_rfl) (hy:YieldsIf P ops S1 oi v a:=by refine Or.inl ⟨by rfl,?_⟩;intro w hSw;(try dsimp only at hSw);go_simp;first|done|with_reducible rfl) (hc:l.getD m1 false=false:=by kernel_rfl) (hT:T2 m1 m2 S1 S2 l w:=by exact ht _) (k:R→wpAnyX P md ops (Qn Q) (T2 m1 m2 S1 S2) fuel (l.setIfInBounds i true) (a.put oi.dst v) w:=by intro k;(try simp only [sP]);exact k):wpAnyX P md ops (Qn Q) (T2 m1 m2 S1 S2) (fuel+1) l a w:=wpAnyX_take1 hi hm hw h1 h2 hs hf hr Qn.noP hy hc hT (k r)
theorem wp_region_Xn {id:Nat} {a:Act} {w:World} (hm:P.follows .mixedOrders=true) (h:wpAnyX P .any ops (Qn Q) T ops.size (Array.replicate ops.size false) a w.drew):(Code.region id ops true).wp P Q a w:=
 wp_mono (wp_region_X hm h) (fun e a w h=>by obtain ⟨rfl,h⟩:=h;exact h)
end
end
end Go.Proofs.Ytnnjbaijcaiohaa
