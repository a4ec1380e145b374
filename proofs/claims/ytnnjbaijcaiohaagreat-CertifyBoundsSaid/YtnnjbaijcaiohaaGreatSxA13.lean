/- Walks and lemmas. -/
import Derived.Test.YtnnjbaijcaiohaaGreatSxA12
import Derived.Test.YtnnjbaijcaiohaaGreatSxA7
import Derived.Test.YtnnjbaijcaiohaaGreatSxA10
import Derived.Test.YtnnjbaijcaiohaaGreatSxA0
import Derived.Recover
import Derived.Orders
import Derived.RangeFuncLeaves
import Derived.RangeFuncRecord
import Derived.Defers
import Derived.Test.YtnnjbaijcaiohaaGreatSxA9
import Derived.WalkMore
import Derived.RangeFuncNested
import Derived.RangeFuncBound
import Derived.RangeFuncCalls
import Derived.Shelf.Abstract
import Derived.Shelf.RegionOpen
import Derived.WalkKit
import Derived.OwnWalkIn
import Derived.TacticsInMore
import Derived.LoopNIn
import Derived.LoopIn
import Derived.Test.YtnnjbaijcaiohaaGreatSxA1
set_option linter.unusedVariables false
set_option linter.unusedSimpArgs false
set_option maxRecDepth 100000
set_option maxHeartbeats 16000000
namespace Go.Proofs.YtnnjbaijcaiohaaGreat
open Go.RowKit
section
theorem bu {m:MD} (h:ew m=0):am m.ag=0∧m.states.length≠0∧m.states.length≤200∧∀ s,s < m.states.length→si m.states.length (m.states.getD s [])=0:=by
 unfold ew at h;by_cases h1:am m.ag=0
 ·rw [if_neg (by simpa using h1)] at h;by_cases h2:m.ag.neg=true∨1 < qv m.ag
  ·rw [if_pos h2] at h;cases h
  ·rw [if_neg h2] at h;by_cases h3:m.states.length=0
   ·rw [if_pos h3] at h;cases h
   ·rw [if_neg h3] at h;by_cases h4:200 < m.states.length
    ·rw [if_pos h4] at h;cases h
    ·rw [if_neg h4] at h;exact ⟨h1,h3,by omega,bm h⟩
 ·rw [if_pos h1] at h;exact absurd h h1
theorem gd {n:Nat} {ac:List aU} (h:si n ac=0):ac.length≠0∧ac.length≤6∧∀ a,a < ac.length→ex n (ac.getD a dA)=0:=by
 unfold si at h;by_cases h1:ac.length=0
 ·rw [if_pos h1] at h;cases h
 ·rw [if_neg h1] at h;by_cases h2:6 < ac.length
  ·rw [if_pos h2] at h;cases h
  ·rw [if_neg h2] at h;exact ⟨h1,by omega,bm h⟩
theorem eL {n:Nat} {x:aU} (h:ex n x=0):am x.cost=0∧x.next.length≠0∧x.next.length≤64∧(∀ i,i < x.next.length→dU n x.next i=0)∧cN zR (eV x.next)=(rep 1,0):=by
 unfold ex at h;by_cases h1:am x.cost=0
 ·rw [if_neg (by simpa using h1)] at h;by_cases h2:x.next.length=0
  ·rw [if_pos h2] at h;cases h
  ·rw [if_neg h2] at h;by_cases h3:64 < x.next.length
   ·rw [if_pos h3] at h;cases h
   ·rw [if_neg h3] at h;by_cases h4:bF (dU n x.next) x.next.length=0
    ·rw [if_neg (by simpa using h4)] at h;by_cases h5:(cN zR (eV x.next)).2=0
     ·rw [if_neg (by simpa using h5)] at h;by_cases h6:(cN zR (eV x.next)).1=rep 1
      ·exact ⟨h1,h2,by omega,bm h4,Prod.ext h6 h5⟩
      ·rw [if_neg h6] at h;cases h
     ·rw [if_pos h5] at h;exact absurd h h5
    ·rw [if_pos h4] at h;exact absurd h h4
 ·rw [if_pos h1] at h;exact absurd h h1
theorem qV {n:Nat} {l:List Out} {i:Nat} (h:dU n l i=0):0≤(l.getD i dO).1∧(l.getD i dO).1 < n∧am (l.getD i dO).2=0∧(l.getD i dO).2.neg=false:=by
 unfold dU at h;by_cases h1:(l.getD i dO).1 < 0∨(n:Int)≤(l.getD i dO).1
 ·rw [if_pos h1] at h;cases h
 ·rw [if_neg h1] at h;by_cases h2:0 < i∧(l.getD i dO).1≤(l.getD (i - 1) dO).1
  ·rw [if_pos h2] at h;cases h
  ·rw [if_neg h2] at h;by_cases h3:am (l.getD i dO).2=0
   ·rw [if_neg (by simpa using h3)] at h;by_cases h4:(l.getD i dO).2.neg=true∨(l.getD i dO).2.num=[]
    ·rw [if_pos h4] at h;cases h
    ·refine ⟨by omega,by omega,h3,?_⟩;cases hh:(l.getD i dO).2.neg
     ·rfl
     ·exact absurd (.inl hh) h4
   ·rw [if_pos h3] at h;exact absurd h h3
theorem ee {m:MD} {v:List RR} (h:gw m v=0):ew m=0∧v.length=m.states.length:=by
 unfold gw at h;by_cases h1:ew m=0
 ·rw [if_neg (by simpa using h1)] at h;by_cases h2:v.length=m.states.length
  ·exact ⟨h1,h2⟩
  ·rw [if_pos h2] at h;cases h
 ·rw [if_pos h1] at h;exact absurd h h1
theorem tY (mv vv xv:Value) (m:MD) (vals:List RR) (s a:Nat) (w:World) (hm:eK w mv m) (hv:ct w vv vals) (hx:ib w xv (m.act s a)) (hlm:iO m) (hlv:bY vals) (h:gw m vals=0) (hs:s < m.states.length) (ha:a < (m.states.getD s []).length) :
  Calls Tryz.prog 136 #[mv,vv,xv] w fun e w'=>bO w w' e (aL m vals (m.act s a))∧Ext w w':=by
 obtain ⟨h1,h2⟩:=ee h;obtain ⟨_,_,_,h3⟩:=bu h1;obtain ⟨_,_,h4⟩:=gd (h3 s hs);obtain ⟨_,_,h5,h6,_⟩:=eL (h4 a ha);exact zg mv vv xv m vals _ w hm hv hx hlm.1 hlv (hlm.2 s a) (fun i hi=>by
  obtain ⟨g1,g2,_⟩:=qV (h6 i hi);unfold MD.act;exact ⟨g1,by rw [h2];exact g2⟩) h5
theorem qW (m:MD) (v:List RR) (x:aU):au (aL m v x).1:=by
 unfold aL;split
 ·exact aM
 ·split
  ·exact aM
  ·exact i6 _ _
theorem nN (m:MD) (p:List Int) (v:List RR):(vV m p v).length=p.length:=by simp [vV]
theorem Ew {m:MD} {p:List Int} {v:List RR} (h:gw m v=0) (h2:p.length=m.states.length) (h4:∀ j,j < p.length→Ah m p v j=0):d6 m p v=(vV m p v,0):=by
 have e:=bE h4;unfold d6;rw [if_neg (by simpa using h),if_neg (by simpa using h2),e,if_neg (fun h=>h rfl)]
section
variable {P:Program} {ops:Array Oper} {Q:Exit→Act→List Frame→World→Prop} {a:Act} {cs:List Frame} {w:World}
theorem nk {id:Nat} (h:∀ t,wpOpsS P ops Q (Region.schedule (P.follows .mixedOrders) ops t) a cs { w with drawn:=w.drawn+1 }):(Code.region id ops true).wpS P Q a cs w:=
 fun b k hb hr=>let ⟨e,a',cs',w',q,r⟩:=wp_opsS _ a cs _ (h _) b k hb hr;⟨e,a',cs',w',q,.of_steps (.one step_region_draw) r⟩
theorem eW {fuel t i:Nat} {listed:Array Bool} {acc r:List Nat} (hr:Region.ready .any ops listed=r) (hi:r[t % r.length]?=some i) :
  Region.linearise.go .any ops (fuel+1) t listed acc=Region.linearise.go .any ops fuel (t / r.length) (listed.setIfInBounds i true) (i :: acc):=by
 subst hr;simp only [Region.linearise.go];change (match (Region.ready .any ops listed)[t % (Region.ready .any ops listed).length]? with
  | some i=>Region.linearise.go .any ops fuel (t / (Region.ready .any ops listed).length) (listed.setIfInBounds i true) (i :: acc)
  | none=>acc.reverse)=_
 rw [hi]
theorem Is (h0:Region.ready .any ops #[false,false,false,false]=[0,1]) (h1:Region.ready .any ops #[true,false,false,false]=[1]) (h2:Region.ready .any ops #[false,true,false,false]=[0])
  (h3:Region.ready .any ops #[true,true,false,false]=[2]) (h4:Region.ready .any ops #[true,true,true,false]=[3]) (hs:ops.size=4) (t:Nat) :
  Region.linearise.go .any ops ops.size t (Array.replicate ops.size false) []=[0,1,2,3]∨Region.linearise.go .any ops ops.size t (Array.replicate ops.size false) []=[1,0,2,3]:=by
 rw [hs];have e0:(Array.replicate 4 false)=#[false,false,false,false]:=rfl;rw [e0];have hm:t % 2=0∨t % 2=1:=by omega
 have s1:∀ n,n % 1=0:=fun n=>Nat.mod_one n;rcases hm with hm|hm
 ·left;rw [eW h0 (i:=0) (by simp [hm]),show (#[false,false,false,false]:Array Bool).setIfInBounds 0 true=#[true,false,false,false] from rfl,
   eW h1 (i:=1) (by simp [s1]),show (#[true,false,false,false]:Array Bool).setIfInBounds 1 true=#[true,true,false,false] from rfl,
   eW h3 (i:=2) (by simp [s1]),show (#[true,true,false,false]:Array Bool).setIfInBounds 2 true=#[true,true,true,false] from rfl,
   eW h4 (i:=3) (by simp [s1])]
  rfl
 ·right;rw [eW h0 (i:=1) (by simp [hm]),show (#[false,false,false,false]:Array Bool).setIfInBounds 1 true=#[false,true,false,false] from rfl,
   eW h2 (i:=0) (by simp [s1]),show (#[false,true,false,false]:Array Bool).setIfInBounds 0 true=#[true,true,false,false] from rfl,
   eW h3 (i:=2) (by simp [s1]),show (#[true,true,false,false]:Array Bool).setIfInBounds 2 true=#[true,true,true,false] from rfl,
   eW h4 (i:=3) (by simp [s1])]
  rfl
theorem aG {id:Nat} (hm:P.follows .mixedOrders=true) (h0:Region.ready .any ops #[false,false,false,false]=[0,1]) (h1:Region.ready .any ops #[true,false,false,false]=[1]) (h2:Region.ready .any ops #[false,true,false,false]=[0])
  (h3:Region.ready .any ops #[true,true,false,false]=[2]) (h4:Region.ready .any ops #[true,true,true,false]=[3]) (hs:ops.size=4)
  (g1:wpOpsS P ops Q [0,1,2,3] a cs w.drew) (g2:wpOpsS P ops Q [1,0,2,3] a cs w.drew):(Code.region id ops true).wpS P Q a cs w:=by
 refine nk fun t=>?_;simp only [Region.schedule,hm,Bool.true_or,if_true];have hd:{ w with drawn:=w.drawn+1 }=w.drew:=rfl;rw [hd];rcases Is h0 h1 h2 h3 h4 hs t with h|h
 ·rw [show Region.linearise .any ops t=Region.linearise.go .any ops ops.size t (Array.replicate ops.size false) [] from rfl,h];exact g1
 ·rw [show Region.linearise .any ops t=Region.linearise.go .any ops ops.size t (Array.replicate ops.size false) [] from rfl,h];exact g2
end
def aY (c:Int):PanicEntry:={ v:=.iface 37 (.int .i64 c),recovered:=false }
theorem aA {P:Program} {fn:Func} {R:Ending→World→Prop} {ch:List PanicEntry} {a:Act} {w:World} (hd:a.defers=[]) (h:R (.panicked ch) w):bodyPost P fn R (.panic ch) a w:=⟨hd,h⟩
theorem tZ (c:Int) (w:World):Calls Tryz.prog 73 #[.int .i64 c] w fun e w'=>e=(if c=0 then .returned (.tuple #[]) else .panicked [aY c])∧w'=w:=by
 by_cases h:c=0
 ·subst h;go_enter Tryz.func73,Tryz.ntmps73
  go_wp2
  go_end0
  exact ⟨rfl,rfl⟩
 ·have q1:(c != 0)=true:=by simpa using h
  rw [if_neg h];go_enter Tryz.func73,Tryz.ntmps73
  go_wp2
  exact aA rfl ⟨rfl,rfl⟩
theorem wh (e:Int) (w:World):Calls Tryz.prog 71 #[.nilIface,.int .i64 e] w fun en w'=>en=.returned (.int .i64 e)∧w'=w:=by
 go_enter Tryz.func71,Tryz.ntmps71
 go_wp2
 go_ret;exact ⟨rfl,rfl⟩
theorem oP (c e:Int) (w:World):Calls Tryz.prog 71 #[.iface 37 (.int .i64 c),.int .i64 e] w fun en w'=>en=.returned (.int .i64 c)∧w'=w:=by
 have hta:∀ w,(Instr.typeAssert (.iface 37 (.int .i64 c)) 20 37 true).run Tryz.prog w=.ok (.tuple #[.int .i64 c,.bool true]) w:=fun _=>by first|rfl|kernel_rfl
 go_enter Tryz.func71,Tryz.ntmps71
 go_wp2
 go_ret;exact ⟨rfl,rfl⟩
end
section
theorem aH {P:Program} {n:Nat} {f:FuncId} {fn:Func} {c:Code} {args:Array Value} {u:FrameMode} {w:World} {R:Ending→FrameMode→World→Prop}
  (hf:P.funcs[f]?=some fn) (hb:fn.body=some c)
  (h:∀ (c₀:Frame) (cs:List Frame),c₀.mode=u→
   c.wpS P (bodyPostS P fn c₀ cs R) { tmps:=args ++ Array.replicate (fn.ntmps - args.size) undef,defers:=[] } (c₀ :: cs) w) :
  CallsDIn Fence.wide n P f args u w R:=by
 refine ⟨trivial,fun c₀ cs hu _=>?_⟩;let b:Frame:={ (default:Frame) with fn:=f,kind:=.deferred }
 have henter:Frame.enter P f args .deferred =
   b.at { tmps:=args ++ Array.replicate (fn.ntmps - args.size) undef,defers:=[] } [.code c]:=by
  simp [Frame.enter,Frame.at,hf,hb,b]
 obtain ⟨e,a',cs',w',hq,harr⟩:=h c₀ cs hu b [] rfl rfl;rw [← henter] at harr;cases e with
 | normal=>
  obtain ⟨hd,u',rfl,v,hr,hR⟩:=hq;exact ⟨.returned v,u',w',_,hR,comesIn_wide.2 (Steps.trans harr (.one step_end)),rfl,rfl,rfl,hd,fn,hf,hr⟩
 | ret=>
  obtain ⟨hd,u',rfl,v,hr,hR⟩:=hq;obtain ⟨todo,hs⟩:=harr;exact ⟨.returned v,u',w',_,hR,comesIn_wide.2 hs,rfl,rfl,rfl,hd,fn,hf,hr⟩
 | panic chain=>
  obtain ⟨hd,u',rfl,hR⟩:=hq;obtain ⟨todo,hs⟩:=harr;exact ⟨.panicked chain,u',w',_,hR,comesIn_wide.2 hs,rfl,rfl,rfl,hd,fn,hf⟩
 | exit id=>exact hq.elim
 | goto l=>exact hq.elim
 | outgrown=>
  obtain ⟨u',hR⟩:=hq;exact ⟨.outgrown,u',w',b,hR,comesIn_wide.2 (harr.resolve_left (by simp [b])),rfl,rfl,trivial⟩
theorem bN {P:Program} {n:Nat} {f:FuncId} {args:Array Value} {u:FrameMode} {w:World} {R:Ending→FrameMode→World→Prop} (h:CallsDIn Fence.wide n P f args u w R):CallsD P f args u w R:=
 fun c cs hu=>let ⟨e,u',w',fr,r,s,k,_,g⟩:=h.2 c cs hu (room_wide _);⟨e,u',w',fr,r,comesIn_wide.1 s,k,g⟩
section
variable {P:Program} {fn:Func} {R:Ending→World→Prop} {n:Nat}
theorem dC {tmps Gq:Array Value} (h:results fn tmps=results fn Gq):∀ (ds:List Deferred) (u:FrameMode) (w:World),LeavesInM Fence.wide n P fn tmps R ds u w→LeavesInM Fence.wide n P fn Gq R ds u w
 | [],u,w,hl=>by
  cases u with
  | run=>exact hl
  | returning=>obtain ⟨v,h1,h2⟩:=hl;exact ⟨v,h ▸ h1,h2⟩
  | panicking ch=>exact hl
 | d :: ds,u,w,hl=>by
  obtain ⟨hu,hl⟩:=hl;refine ⟨hu,?_⟩;rcases hl with ⟨r,w',h1,h2,h3⟩|⟨hn,fv,cap,f,args,h1,h2,h3,h4⟩
  ·exact .inl ⟨r,w',h1,h2,dC h ds u w' h3⟩
  ·refine .inr ⟨hn,fv,cap,f,args,h1,h2,h3,h4.mono ?_⟩;intro e u' w' he;cases e with
   | returned v=>exact dC h ds _ _ he
   | panicked ch=>exact dC h ds _ _ he
   | outgrown=>exact he
theorem lC {tmps:Array Value} {ds:List Deferred} {u:FrameMode} {w:World} {r:Nat} (hu:u≠.run) (hk:w.heap[r]?=some (.deferred (some []))) (h:LeavesInM Fence.wide n P fn tmps R ds u (w.putObj r (.deferred none))) :
  LeavesInM Fence.wide n P fn tmps R ({ target:=.collected r,args:=#[] } :: ds) u w:=⟨hu,.inl ⟨r,_,rfl,run_takeDeferred hk,h⟩⟩
theorem oQ {tmps:Array Value} {fv:Fn} {cap dargs:Array Value} {ds:List Deferred} {u:FrameMode} {w:World} {f:FuncId} {args:Array Value} (hu:u≠.run) (hinv:(invoke (.fn fv cap) dargs).run P w=.ok (.enter f args) w)
  (h:CallsDIn Fence.wide (n - 1) P f args u w fun e u' w'=>match e with
   | .returned _=>LeavesInM Fence.wide n P fn tmps R ds (settle u') w'
   | .panicked chain=>LeavesInM Fence.wide n P fn tmps R ds (raised u' chain) w'
   | .outgrown=>R .outgrown w'):LeavesInM Fence.wide n P fn tmps R ({ target:=.fn fv cap,args:=dargs } :: ds) u w:=
 ⟨hu,.inr ⟨(fun h=>(by cases h)),fv,cap,f,args,rfl,hinv,fun _ _=>trivial,h.mono (fun e u' w' he=>by cases e <;> exact he)⟩⟩
theorem oR {w:World} {r:Nat} {o o2:Obj} (hk:w.heap[r]?=some o) (ho:∀ c t,o≠.cells c t):∀ (i:Nat) (c:Array Value) (t:TypeId),af w i c t→af (w.putObj r o2) i c t:=fun i c t b=>by
 have e:i≠r:=fun e=>by subst e;unfold af at b;rw [b] at hk;injection hk with hk;exact ho c t hk.symm
 exact (World.putObj_heap_other e).trans b
theorem oS {w0 w:World} {r:Nat} {o:Obj} (h:Ext w0 w) (hr:w0.heap.size≤r):Ext w0 (w.putObj r o):=
 ⟨h.os,h.tape,h.output,by have:=h.size;simpa using this,fun i hi=>(World.putObj_heap_other (by omega)).trans (h.block i hi)⟩
end
end
theorem Ex {nn:Nat} (be b1:Nat) (c e0:Int) (hc:c≠0) (older:List PanicEntry) (w:World) (oT:Value) (jY:TypeId) (hbe:af w be #[.int .i64 e0] 37) (hb1:af w b1 #[oT] jY) (su:b1≠be) :
  CallsDIn Fence.wide nn Tryz.prog 75 #[.pointer (some ⟨be,0,none⟩),.pointer (some ⟨b1,0,none⟩)] (.panicking (aY c :: older)) w fun e u' w'=>e=.returned (.tuple #[])∧u'=.panicking ({ aY c with recovered:=true } :: older)∧w'=((w.setCell ⟨be,0,none⟩ (.int .i64 c)).setCell ⟨b1,0,none⟩ (.slice none 0 0)).drew:=by
 have q1:(c != 0)=true:=by simpa using hc
 unfold aY;have he:=(hbe.cell 0);have hz:=hbe.free 0;simp only [List.getElem?_toArray,List.getElem?_cons_zero] at he;have ud:=hb1.cell 0;have It:=hb1.free 0;simp only [List.getElem?_toArray,List.getElem?_cons_zero] at ud;refine aH Tryz.func75 rfl fun c₀ cs hu=>?_;apply wpS_seq;refine aG (by kernel_rfl) (by kernel_rfl) (by kernel_rfl) (by kernel_rfl) (by kernel_rfl) (by kernel_rfl) rfl ?_ ?_;all_goals
  simp [wpOpsS,go_sem,recoverD,hu,Tryz.ntmps75,Exit.thenS,he,hz];refine (oP c e0 _).mono ?_;rintro e w1 ⟨rfl,rfl⟩;simp [wpOpsS,go_sem,recoverD,hu,Tryz.ntmps75,Exit.thenS,he,hz];refine wpS_of_wp ?_;go_wp2
  simp [bodyPostS,results,Tryz.results75,go_sem] <;> (cases c₀;simp_all)
theorem oU {nn:Nat} (be b1 b2:Nat) (w:World) (hbe:af w be #[.int .i64 0] 37) :
  CallsDIn Fence.wide nn Tryz.prog 70 #[.pointer (some ⟨be,0,none⟩),.pointer (some ⟨b1,0,none⟩),.pointer (some ⟨b2,0,none⟩)] .returning w fun e u' w'=>e=.returned (.tuple #[])∧u'=.returning∧w'=(w.setCell ⟨be,0,none⟩ (.int .i64 0)).drew:=by
 have he:=(hbe.cell 0);have hz:=hbe.free 0;simp only [List.getElem?_toArray,List.getElem?_cons_zero] at he;refine aH Tryz.func70 rfl fun c₀ cs hu=>?_;apply wpS_seq;refine aG (by kernel_rfl) (by kernel_rfl) (by kernel_rfl) (by kernel_rfl) (by kernel_rfl) (by kernel_rfl) rfl ?_ ?_;all_goals
  simp [wpOpsS,go_sem,recoverD,hu,Tryz.ntmps70,Exit.thenS,he,hz];refine (wh 0 _).mono ?_;rintro e w1 ⟨rfl,rfl⟩;simp [wpOpsS,go_sem,recoverD,hu,Tryz.ntmps70,Exit.thenS,he,hz];refine wpS_of_wp ?_;go_wp2
  simp [bodyPostS,results,Tryz.results70,go_sem] <;> (cases c₀;simp_all)
theorem oV {nn:Nat} (be b1 b2:Nat) (c e0:Int) (hc:c≠0) (older:List PanicEntry) (w:World) (oT xb2:Value) (jY tb2:TypeId) (hbe:af w be #[.int .i64 e0] 37) (hb1:af w b1 #[oT] jY) (su:b1≠be) (hb2:af w b2 #[xb2] tb2) (Kj:b2≠be) (n12:b2≠b1) :
  CallsDIn Fence.wide nn Tryz.prog 70 #[.pointer (some ⟨be,0,none⟩),.pointer (some ⟨b1,0,none⟩),.pointer (some ⟨b2,0,none⟩)] (.panicking (aY c :: older)) w fun e u' w'=>e=.returned (.tuple #[])∧u'=.panicking ({ aY c with recovered:=true } :: older)∧w'=(((w.setCell ⟨be,0,none⟩ (.int .i64 c)).setCell ⟨b1,0,none⟩ (.slice none 0 0)).setCell ⟨b2,0,none⟩ (.slice none 0 0)).drew:=by
 have q1:(c != 0)=true:=by simpa using hc
 unfold aY;have he:=(hbe.cell 0);have hz:=hbe.free 0;simp only [List.getElem?_toArray,List.getElem?_cons_zero] at he;have ud:=hb1.cell 0;have It:=hb1.free 0;have kb2:=hb2.cell 0;have Ua:=hb2.free 0;simp only [List.getElem?_toArray,List.getElem?_cons_zero] at ud kb2;refine aH Tryz.func70 rfl fun c₀ cs hu=>?_;apply wpS_seq;refine aG (by kernel_rfl) (by kernel_rfl) (by kernel_rfl) (by kernel_rfl) (by kernel_rfl) (by kernel_rfl) rfl ?_ ?_;all_goals
  simp [wpOpsS,go_sem,recoverD,hu,Tryz.ntmps70,Exit.thenS,he,hz];refine (oP c e0 _).mono ?_;rintro e w1 ⟨rfl,rfl⟩;simp [wpOpsS,go_sem,recoverD,hu,Tryz.ntmps70,Exit.thenS,he,hz];refine wpS_of_wp ?_;go_wp2
  simp [bodyPostS,results,Tryz.results70,go_sem] <;> (cases c₀;simp_all)
theorem xV (w:World):Calls Tryz.prog 73 #[.int .i64 0] w fun e w'=>e=.returned (.tuple #[])∧w'=w:=tZ 0 w
theorem jk {c:Int} (hc:c≠0) (w:World):Calls Tryz.prog 73 #[.int .i64 c] w fun e w'=>e=.panicked [aY c]∧w'=w:=by
 have:=tZ c w;rwa [if_neg hc] at this
def gV (B:Nat) (w':World) (e:Ending) (c:Int) (l:List RR):Prop:=if c=0 then (∃ v',e=.returned v'∧bT B w' v' l) else e=.panicked [aY c]
theorem gV.ok {B:Nat} {w':World} {c:Int} {l:List RR} {v:Value} (h:c=0) (o:bT B w' v l):gV B w' (.returned v) c l:=by unfold gV;rw [if_pos h];exact ⟨v,rfl,o⟩
theorem gV.bad {B:Nat} {w':World} {c d:Int} {l:List RR} (h:d≠0) (e:c=d):gV B w' (.panicked [aY d]) c l:=by unfold gV;rw [e,if_neg h]
theorem gV.oW {B:Nat} {w':World} {e:Ending} {l:List RR} (h:gV B w' e 0 l):∃ v',e=.returned v'∧bT B w' v' l:=by unfold gV at h;rwa [if_pos rfl] at h
theorem gV.oX {B:Nat} {w':World} {e:Ending} {c:Int} {l:List RR} (h:gV B w' e c l) (hc:c≠0):e=.panicked [aY c]:=by unfold gV at h;rwa [if_neg hc] at h
def wm (l:List RR):Prop:=∀ i,i < l.length→(l.getD i zR).num.length≤1000000∧(l.getD i zR).den.length≤1000000
theorem zi (mv vv:Value) (m:MD) (vals:List RR) (w:World) (hm:eK w mv m) (hv:ct w vv vals) (hlm:iO m) (hln:wm vals) :
  Calls Tryz.prog 72 #[mv,vv] w fun e w'=>gV w.heap.size w' e (gw m vals) vals∧Ext w w':=by
 have hck:=fun W mv (h:eK W mv m)=>ji mv m W h hlm;have HM:=kI hm;have HV:=kI hv;have Aj:=kI hln;obtain ⟨m1,n1,m2,n2,m3,n3,rfl,hmd,hst⟩:=hm;have hsl:m.states.length≤9223372036854775807:=by obtain ⟨_,_,_,h⟩:=hst.shape;exact h
 obtain ⟨av,cv,rfl,yR,hvm,fv,hvf⟩:=hv.get;have hvl:vals.length≤9223372036854775807:=by omega
 have hmv:gw m vals=if ew m≠0 then ew m else if vals.length≠m.states.length then 16 else 0:=rfl;have hvd:=fun h=>(bu (m:=m) h).2.2.1;obtain ⟨c,hc⟩:=gN (ew m);rw [← hc] at hck hmv hvd;have qe:=kI hck;have L5:=kI hmv;have WN:=kI hvd;clear hv hmd hst hck hmv hvd yR hvm hvf fv hc;have bb0:=(af.new w #[.bool m.ag.neg,.slice m1 m.ag.num.length n1,.slice m2 m.ag.den.length n2,.slice m3 m.states.length n3] 28);have x0:Ext w (w.alloc (.cells #[.bool m.ag.neg,.slice m1 m.ag.num.length n1,.slice m2 m.ag.den.length n2,.slice m3 m.states.length n3] 28)):=((Ext.refl w).alloc _);have A0:=kI bb0;have X:=kI x0;clear x0 bb0;replace HM:=kI (HM.o.ext X.o);replace HV:=kI (HV.o.ext X.o);go_enter Tryz.func72,Tryz.ntmps72
 obtain ⟨aE,fA0,aC⟩:=A0.o.q3;go_wp2_with fail;refine (qe.o _ _ HM.o).mono ?_;rintro e w1 ⟨rfl,hx⟩;clear aE fA0 aC;replace HM:=kI (HM.o.ext hx);replace HV:=kI (HV.o.ext hx);replace A0:=kI (A0.o.ext hx);replace X:=kI (X.o.trans hx);clear hx qe;by_cases h1:c=0
 rotate_left
 ·have E:=kI (L5.o.trans (if_pos h1));go_wp2_with fail;refine (jk h1 _).mono ?_;rintro e w9 ⟨rfl,rfl⟩;exact aA rfl ⟨gV.bad h1 E.o,X.o⟩
 subst h1;go_wp2_with fail;refine (xV _).mono ?_;rintro e w9 ⟨rfl,rfl⟩;by_cases h2:vals.length=m.states.length
 rotate_left
 ·have E:=kI (show gw m vals=16 by rw [L5.o,if_neg (fun h=>h rfl),if_pos h2]);have q2:((vals.length:Int) != (m.states.length:Int))=true:=bne_iff_ne.2 (by omega);clear h2;obtain ⟨aE,fA0,aC⟩:=A0.o.q3;go_wp2_with fail;refine (jk (c:=16) (by decide) _).mono ?_;rintro e w8 ⟨rfl,rfl⟩;exact aA rfl ⟨gV.bad (by decide) E.o,X.o⟩
 have E:=kI (show gw m vals=0 by rw [L5.o,if_neg (fun h=>h rfl),if_neg (fun h=>h h2)]);have q2:((vals.length:Int) != (m.states.length:Int))=false:=by rw [h2];simp
 have L6:=WN.o (by first|trivial|rfl);have AT:vals.length≤1000000:=by omega
 have PY:=kI AT;have XS:=kI X.o.size;clear h2 L6 AT;obtain ⟨aE,fA0,aC⟩:=A0.o.q3;go_wp2_with fail;refine (xT _ vals _ HV.o PY.o Aj.o).mono ?_;rintro e w2 ⟨⟨v,rfl,ho⟩,hx⟩;clear aE fA0 aC;replace HM:=kI (HM.o.ext hx);replace HV:=kI (HV.o.ext hx);replace A0:=kI (A0.o.ext hx);replace X:=kI (X.o.trans hx);have OW:=kI (ho.mono XS.o);clear ho hx;go_wp2_with fail;go_ret;exact ⟨gV.ok E.o OW.o,X.o⟩
theorem Ey {m:MD} {p:List Int} {v:List RR}:bY (vV m p v):=fun i hi=>by
 rw [nN] at hi;unfold vV;rw [List.getD_eq_getElem?_getD,List.getElem?_map,List.getElem?_range hi];exact qW _ _ _
theorem zj {m:MD} {p:List Int} {v:List RR}:bY (d6 m p v).1:=by
 unfold d6;split
 ·exact fun i hi=>by cases hi
 ·split
  ·exact fun i hi=>by cases hi
  ·split
   ·exact fun i hi=>by cases hi
   ·exact Ey
section
open Go.RowKit Go.ChangeShapes Go.WideShapes Go.ChangeAt Go.Deep
theorem nO {α:Type} (d:α):∀ (n:Nat) (P:Nat→α→Prop),(∀ i,i < n→∃ x,P i x)→∃ l:List α,l.length=n∧∀ i,i < n→P i (l.getD i d)
 | 0,_,_=>⟨[],rfl,fun i h=>by omega⟩
 | n+1,P,h=>by
  obtain ⟨l,h1,h2⟩:=nO d n P (fun i hi=>h i (by omega));obtain ⟨x,hx⟩:=h n (by omega);refine ⟨l ++ [x],by simp [h1],fun i hi=>?_⟩;by_cases e:i=n
  ·subst e;rw [List.getD_eq_getElem?_getD,List.getElem?_append_right (by omega),h1,Nat.sub_self];exact hx
  ·rw [List.getD_eq_getElem?_getD,List.getElem?_append_left (by omega),← List.getD_eq_getElem?_getD];exact h2 i (by omega)
theorem Bm {α:Type} {l:List α} (h:l.length=2):∃ a b,l=[a,b]:=by match l,h with|[a,b],_=>exact ⟨a,b,rfl⟩
theorem Bo {α:Type} {l:List α} (h:l.length=4):∃ a b c d,l=[a,b,c,d]:=by match l,h with|[a,b,c,d],_=>exact ⟨a,b,c,d,rfl⟩
theorem Tryz.xW:Tryz.prog.cellsOf 3=1:=by kernel_rfl
theorem Tryz.xX:Tryz.prog.cellsOf 80=4:=by kernel_rfl
theorem Tryz.Bp:Tryz.prog.cellsOf 81=1:=by kernel_rfl
theorem Tryz.xY:Tryz.prog.cellsOf 83=4:=by kernel_rfl
theorem Tryz.Bq:Tryz.prog.cellsOf 84=1:=by kernel_rfl
theorem Tryz.zk:Tryz.prog.cellsOf 26=1:=by kernel_rfl
theorem Tryz.Ez:Tryz.prog.cellsOf 28=4:=by kernel_rfl
section
variable {H:Type} {enc:TypeId × Value→H} {w:World} {base:Nat} {spare:Nat→Bool} {held:Bool}
theorem Df {n:Nat} {cs:List Value} {x:DataW H × List MemPlace} (h:DataW.trod enc Tryz.prog w base spare held n 53 cs=some x):∃ v l,cs=[v]∧aV .i64 w v l:=by
 obtain ⟨v',l,hcs,hr⟩:=iY (m:=1) (f:=fun x:Int=>[Value.int .i64 x]) Tryz.underlying53 Tryz.xW (by omega) (fun _=>rfl)
  (fun n cs x hx=>by obtain ⟨a,e0,_⟩:=DataW.trod_int Tryz.underlying3 hx;exact ⟨a,e0⟩) h
 exact ⟨v',l,hcs,ku hr⟩
theorem ue {n:Nat} {cs:List Value} {x:DataW H × List MemPlace} (h:DataW.trod enc Tryz.prog w base spare held n 80 cs=some x) :
  ∃ (t:Int) (b:Bool) (v u:Value) (l m:List Int),cs=[.int .i64 t,.bool b,v,u]∧aV .u32 w v l∧bh l∧aV .u32 w u m∧bh m:=by
 obtain ⟨xs,m,_,_,hl,hx,hf⟩:=DataW.trod_struct Tryz.underlying80 h;obtain ⟨c0,c1,c2,c3,rfl⟩:=Bo (hl.trans Tryz.xX);obtain ⟨y0,y1,rfl⟩:=Bm hx;have h0:=hf 0 _ rfl;have h1:=hf 1 _ rfl;simp [Tryz.xW,Tryz.oF] at h0 h1;obtain ⟨t,e0,_⟩:=DataW.trod_int Tryz.underlying3 h0;obtain ⟨b,v,u,l,m,e1,k1,k2,k3,k4⟩:=fQ h1;simp at e0 e1;exact ⟨t,b,v,u,l,m,by rw [e0,e1.1,e1.2.1,e1.2.2],k1,k2,k3,k4⟩
theorem sw {n:Nat} {cs:List Value} {x:DataW H × List MemPlace} (h:DataW.trod enc Tryz.prog w base spare held n 81 cs=some x):∃ v l,cs=[v]∧fm w v l∧∀ i,au (l.getD i dO).2:=by
 obtain ⟨a,len,cap,rfl,h1,h2,h3⟩:=gE (m:=4) (Pp:=fun cs=>∃ (t:Int) (b:Bool) (v u:Value) (l m:List Int),cs=[.int .i64 t,.bool b,v,u]∧aV .u32 w v l∧bh l∧aV .u32 w u m∧bh m) Tryz.underlying81 Tryz.xX (by omega)
  (fun n cs x hx=>by
   refine ⟨ue hx,?_⟩;obtain ⟨t,b,v,u,l,m,e,_⟩:=ue hx;rw [e];rfl) h
 obtain ⟨g,hg,hP⟩:=nO dO len (fun i c=>(∃ b off a1 c1 a2 c2,a=some ⟨b,off,none⟩∧qQ w b (off+i*4) c a1 c1 a2 c2)∧au c.2) (fun i hi=>by
  obtain ⟨b,off,es,e1,e2,⟨t,bb,v,u,l,m,e3,e4,e5,e6,e7⟩,_,e9⟩:=h3 i hi;obtain ⟨a1,c1,rfl⟩:=aj e4;obtain ⟨a2,c2,rfl⟩:=aj e6;subst e3;exact ⟨(t,⟨bb,l,m⟩),⟨b,off,a1,c1,a2,c2,e1,e2,e9 0 (by omega),e9 1 (by omega),e9 2 (by omega),e9 3 (by omega),⟨_,_,rfl,e4,e6⟩⟩,e5,e7⟩)
 refine ⟨_,g,rfl,⟨a,cap,by rw [hg],by omega,h2,fun i hi=>(hP i (by omega)).1⟩,fun i=>?_⟩;by_cases hi:i < len
 ·exact (hP i hi).2
 ·rw [List.getD_eq_getElem?_getD,List.getElem?_eq_none (by omega)];exact aM
theorem uf {n:Nat} {cs:List Value} {x:DataW H × List MemPlace} (h:DataW.trod enc Tryz.prog w base spare held n 83 cs=some x) :
  ∃ (b:Bool) (v u o:Value) (l m:List Int) (os:List Out),cs=[.bool b,v,u,o]∧aV .u32 w v l∧bh l∧aV .u32 w u m∧bh m∧fm w o os∧∀ i,au (os.getD i dO).2:=by
 obtain ⟨xs,m,_,_,hl,hx,hf⟩:=DataW.trod_struct Tryz.underlying83 h;obtain ⟨c0,c1,c2,c3,rfl⟩:=Bo (hl.trans Tryz.xY);obtain ⟨y0,y1,rfl⟩:=Bm hx;have h0:=hf 0 _ rfl;have h1:=hf 1 _ rfl;simp [Tryz.Bp,Tryz.oF] at h0 h1;obtain ⟨b,v,u,l,m,e0,k1,k2,k3,k4⟩:=fQ h0;obtain ⟨o,os,e1,k5,k6⟩:=sw h1;simp at e0 e1;exact ⟨b,v,u,o,l,m,os,by rw [e0.1,e0.2.1,e0.2.2,e1],k1,k2,k3,k4,k5,k6⟩
theorem sx {n:Nat} {cs:List Value} {x:DataW H × List MemPlace} (h:DataW.trod enc Tryz.prog w base spare held n 84 cs=some x):∃ v l,cs=[v]∧iB w v l∧∀ a,qd (l.getD a dA):=by
 obtain ⟨a,len,cap,rfl,h1,h2,h3⟩:=gE (m:=4) (Pp:=fun cs=>∃ (b:Bool) (v u o:Value) (l m:List Int) (os:List Out),cs=[.bool b,v,u,o]∧aV .u32 w v l∧bh l∧aV .u32 w u m∧bh m∧fm w o os∧∀ i,au (os.getD i dO).2) Tryz.underlying84 Tryz.xY (by omega)
  (fun n cs x hx=>by
   refine ⟨uf hx,?_⟩;obtain ⟨b,v,u,o,l,m,os,e,_⟩:=uf hx;rw [e];rfl) h
 obtain ⟨g,hg,hP⟩:=nO dA len (fun i c=>(∃ b off a1 c1 a2 c2 a3 c3,a=some ⟨b,off,none⟩∧mO w b (off+i*4) c a1 c1 a2 c2 a3 c3)∧qd c) (fun i hi=>by
  obtain ⟨b,off,es,e1,e2,⟨bb,v,u,o,l,m,os,e3,e4,e5,e6,e7,e8,e10⟩,_,e9⟩:=h3 i hi;obtain ⟨a1,c1,rfl⟩:=aj e4;obtain ⟨a2,c2,rfl⟩:=aj e6;obtain ⟨a3,c3,rfl,_⟩:=e8.shape;subst e3;exact ⟨⟨⟨bb,l,m⟩,os⟩,⟨b,off,a1,c1,a2,c2,a3,c3,e1,⟨e2,e9 0 (by omega),e9 1 (by omega),e9 2 (by omega),⟨_,_,rfl,e4,e6⟩⟩,e9 3 (by omega),e8⟩,⟨e5,e7⟩,e10⟩)
 refine ⟨_,g,rfl,⟨a,cap,by rw [hg],by omega,h2,fun i hi=>(hP i (by omega)).1⟩,fun i=>?_⟩;by_cases hi:i < len
 ·exact (hP i hi).2
 ·rw [List.getD_eq_getElem?_getD,List.getElem?_eq_none (by omega)];exact ⟨aM,fun i=>by cases i <;> exact aM⟩
theorem oY {n:Nat} {cs:List Value} {x:DataW H × List MemPlace} (h:DataW.trod enc Tryz.prog w base spare held n 26 cs=some x):∃ v g,cs=[v]∧ni w v g∧∀ s a,qd ((g.getD s []).getD a dA):=by
 obtain ⟨a,len,cap,rfl,h1,h2,h3⟩:=gE (m:=1) (Pp:=fun cs=>∃ (v:Value) (l:List aU),cs=[v]∧iB w v l∧∀ a,qd (l.getD a dA)) Tryz.underlying26 Tryz.Bq (by omega)
  (fun n cs x hx=>by
   obtain ⟨v,l,e,hr⟩:=sx hx;exact ⟨⟨v,l,e,hr⟩,by rw [e];rfl⟩) h
 obtain ⟨g,hg,hP⟩:=nO ([]:List aU) len (fun i c=>(∃ b off ai ci,a=some ⟨b,off,none⟩∧yZ w b (off+i) c ai ci)∧∀ a,qd (c.getD a dA)) (fun i hi=>by
  obtain ⟨b,off,es,e1,e2,⟨v,l,e3,e4,e5⟩,_,e6⟩:=h3 i hi;obtain ⟨ai,ci,rfl,_⟩:=e4.shape;subst e3;exact ⟨l,⟨b,off,ai,ci,e1,e2,by have:=e6 0 (by omega);simpa using this,e4⟩,e5⟩)
 refine ⟨_,g,rfl,⟨a,cap,by rw [hg],by omega,h2,fun i hi=>(hP i (by omega)).1⟩,fun s b=>?_⟩;by_cases hi:s < len
 ·exact (hP s hi).2 b
 ·rw [List.getD_eq_getElem?_getD (l:=g),List.getElem?_eq_none (by omega)];exact ⟨aM,fun i=>by cases i <;> exact aM⟩
/-- A process of the arguments. -/
theorem Br {r:Reach} {b0:Nat} {v:Value} {d:DataW H} {p:List MemPlace} (hv:Value.okWide Tryz.prog w r b0 28 v) (h:DataW.Trod enc Tryz.prog w base spare held 28 v d p) :
  ∃ m:MD,eK w v m∧iO m:=by
 obtain ⟨cs,rfl,_⟩:=okWide_struct Tryz.underlying28 hv;obtain ⟨n,hf⟩:=h;obtain ⟨xs,m,_,_,hl,hx,hf⟩:=DataW.trod_struct Tryz.underlying28 hf;obtain ⟨c0,c1,c2,c3,hcs⟩:=Bo (hl.trans Tryz.Ez);obtain ⟨y0,y1,rfl⟩:=Bm hx;have h0:=hf 0 _ rfl;have h1:=hf 1 _ rfl;have hcs':cs.toList=[c0,c1,c2,c3]:=hcs;simp [Value.cells,hcs',Tryz.zk,Tryz.oF] at h0 h1;obtain ⟨b,v,u,l,m,e0,k1,k2,k3,k4⟩:=fQ h0;obtain ⟨o,g,e1,k5,k6⟩:=oY h1;simp at e0 e1;obtain ⟨a1,d1,rfl⟩:=aj k1;obtain ⟨a2,d2,rfl⟩:=aj k3;obtain ⟨a3,d3,rfl,_⟩:=k5.shape;refine ⟨⟨⟨b,l,m⟩,g⟩,⟨a1,d1,a2,d2,a3,d3,?_,⟨_,_,rfl,k1,k3⟩,k5⟩,⟨k2,k4⟩,k6⟩;rw [← Array.toArray_toList (xs:=cs),hcs',e0.1,e0.2.1,e0.2.2,e1]
end
end
section
def ug (a b:RR):Bool:=decide ((cj a b).1 < 0)
theorem xZ {a b:RR} (ha:am a=0) (hb:am b=0):ug a b=decide (qv a < qv b):=by
 have hc:cj a b=(dX (qv a) (qv b),0):=by unfold cj;rw [if_pos (dt ha hb)]
 unfold ug;rw [hc];refine decide_eq_decide.2 ?_;show dX (qv a) (qv b) < 0↔_;unfold dX;split
 ·rename_i h;exact ⟨fun _=>h,fun _=>by decide⟩
 ·rename_i h;constructor
  ·intro e;split at e <;> omega
  ·intro e;exact absurd e h
theorem kj (va vb:Value) (ra rb:RR) (w:World) (ha:aX w va ra) (hb:aX w vb rb) (la:au ra) (lb:au rb) :
  Calls Tryz.prog 148 #[va,vb] w fun e w'=>e=.returned (.bool (ug ra rb))∧Ext w w':=by
 have hcm:=fun W (x:Ext w W)=>fZ va vb ra rb W (ha.ext x) (hb.ext x) la lb;unfold ug;obtain ⟨c,hcc⟩:=gN (cj ra rb);rw [← hcc] at hcm ⊢;obtain ⟨c1,c2⟩:=c;dsimp only at hcm ⊢;obtain ⟨a1,a2,a3,a4,rfl⟩:=ha.shape;obtain ⟨b1,b2,b3,b4,rfl⟩:=hb.shape;have HC:=kI hcm;have X0:=kI (((Ext.refl w).alloc (.cells #[.bool ra.neg,.slice a1 ra.num.length a2,.slice a3 ra.den.length a4] 25)).alloc (.cells #[.bool rb.neg,.slice b1 rb.num.length b2,.slice b3 rb.den.length b4] 25));clear hcm hcc ha hb la lb;go_enter Tryz.func148,Tryz.ntmps148
 go_wp2_with fail;refine (HC.o _ X0.o).mono ?_;rintro e w1 ⟨rfl,hx⟩;have X1:=kI (X0.o.trans hx);clear hx;go_wp2_with fail;go_ret;exact ⟨rfl,X1.o⟩
theorem uh {l:List RR}:∀ {k:Nat},0 < k→hZ l k < k
 | 0,h=>by omega
 | k+1,_=>by
  unfold hZ;split
  ·omega
  ·rcases Nat.eq_zero_or_pos k with h0|h0
   ·subst h0;exact Nat.zero_lt_one
   ·have:=uh (l:=l) h0;omega
theorem jl (l:List RR) (k n:Nat) (h:k≤n) (hn:0 < n):hZ l k < n:=by
 rcases Nat.eq_zero_or_pos k with h0|h0
 ·subst h0;exact hn
 ·have:=uh (l:=l) h0;omega
theorem zm (v:Value) (l:List RR) (w:World) (h:ct w v l) (hl:bY l) (hv:∀ i,i < l.length→am (l.getD i zR)=0) :
  Calls Tryz.prog 147 #[v,.func (.func 148) #[] #[]] w fun e w'=>e=.returned (.int .i64 (jh l))∧Ext w w':=by
 obtain ⟨a,c,rfl,hc,hm,_⟩:=h.get;have hll:l.length≤9223372036854775807:=by omega
 have HR:=kI h;have HL:=kI hl;have HV:=kI hv;clear h hl hv hc hm;have X:=kI (Ext.refl w);go_enter Tryz.func147,Tryz.ntmps147
 go_wp2_with fail;go_loopw [5,9] (fun b i wr=>∃ k:Nat,k≤l.length∧i=.int .i64 k∧b=.int .i64 (hZ l k)∧Ext w wr) (fun _ i _=>l.length - (intOf i).toNat)
 case atStart=>exact ⟨0,by omega,rfl,rfl,Ext.refl _⟩
 case round=>
  obtain ⟨wk,hwk⟩:=gN (wr);subst hwk;obtain ⟨k,hk,rfl,rfl,hx⟩:=hrel;have XK:=kI hx;have HW:=kI (HR.o.ext hx);clear hx;by_cases hlt:k < l.length
  ·have hb:=jl l k l.length hk (by omega);have hst:hZ l (k+1)=if qv (l.getD k zR) < qv (l.getD (hZ l k) zR) then k else hZ l k:=rfl;obtain ⟨j,hj⟩:=gN (hZ l k);rw [← hj] at hb hst ⊢;obtain ⟨b,off,a1,c1,a2,c2,ea,z0,z1,z2,z3,z4⟩:=HW.o.at hlt;obtain ⟨b',off',a3,c3,a4,c4,eb,y0,y1,y2,y3,y4⟩:=HW.o.at hb;rw [ea] at eb;injection eb with eb
   injection eb with Gp LJ
   subst Gp;subst LJ;subst ea;have hl1:=HL.o k;have hl2:=HL.o j;have hlo:=xZ (HV.o k hlt) (HV.o j hb);obtain ⟨r,hr⟩:=gN (l.getD k zR);obtain ⟨s,hs⟩:=gN (l.getD j zR);rw [← hr] at z1 z2 z3 z4 hl1 hlo hst;rw [← hs] at y1 y2 y3 y4 hl2 hlo hst;have NR:=kI z4;have NS:=kI y4;have H1:=kI hl1;have H2:=kI hl2;have EF:=kI hlo;have HST:=kI hst;have HJ:=kI hj;have q1:(0:Int)≤(k:Int):=by omega
   have q2:(k:Int) < (l.length:Int):=by omega
   have q3:(0:Int)≤(j:Int):=by omega
   have q4:(j:Int) < (l.length:Int):=by omega
   clear z4 y4 hl1 hl2 hlo hst hr hs hj;go_wp2_with fail;refine eC 9 (by kernel_rfl) (by kernel_rfl) ?_;simp only [List.take_succ_cons,List.take_zero,List.drop_succ_cons,List.drop_zero];(repeat (go_big_quiet_step (fail)))
   refine wpQuiet_nil ?_;rintro w1 ⟨⟨_,hx1⟩,rfl⟩;(try dsimp only);replace XK:=kI (XK.o.trans hx1);clear z0 z1 z2 z3 y0 y1 y2 y3 HW;go_wp2_with fail;refine (kj _ _ r s w1 (NR.o.ext hx1) (NS.o.ext hx1) (H1.o hlt) (H2.o hb)).mono ?_;rintro e w2 ⟨rfl,hx⟩;replace XK:=kI (XK.o.trans hx);clear hx hx1;obtain ⟨q,hq⟩:=gN (ug r s);have HQ:=kI hq;rw [← hq];clear hq;cases q
   ·go_wp2_with fail;go_roundw
    case rel=>
     have hn:¬ qv r < qv s:=of_decide_eq_false (EF.o.symm.trans HQ.o.symm);exact ⟨k+1,by omega,by go_num,by rw [HST.o,if_neg hn],XK.o⟩
    case measure=>simp [intOf];omega
   ·go_wp2_with fail;go_roundw
    case rel=>
     have hn:qv r < qv s:=of_decide_eq_true (EF.o.symm.trans HQ.o.symm);exact ⟨k+1,by omega,by go_num,by rw [HST.o,if_pos hn],XK.o⟩
    case measure=>simp [intOf];omega
  ·obtain rfl:k=l.length:=by omega
   have q1:¬ (l.length:Int) < (l.length:Int):=by omega
   go_wp2_with fail;go_ret;exact ⟨rfl,XK.o⟩
structure Kq (m:Nat) (A B:World):Prop where
 kz:Kz m A B
 blk:∀ (i:Nat) (c:Array Value) (t:TypeId),af A i c t→af B i c t
theorem Kq.ext {m:Nat} {A B:World} (h:Ext A B):Kq m A B:=⟨.ext h,fun _ _ _ b=>b.ext h⟩
theorem Kq.jW {m:Nat} {A:World} {r:Loop} (o:Obj) (h:A.heap[m+1]?=some (.loop r)):Kq m A (A.putObj (m+1) o):=⟨.jW A o,fun i c t b=>by
 have e:i≠m+1:=fun e=>by subst e;unfold af at b;rw [b] at h;cases h
 exact (World.putObj_heap_other e).trans b⟩
def EI {α:Type} (R:World→World→Prop) (m:Nat) (I:List α→World→Prop) (Ix:Code→List α→World→Prop) (xs:List α) (W:World):Exit→Act→World→Prop
 | .normal,_,W'=>Kd m W W'∧R W W'∧I xs W'
 | .ret,_,W'=>Kd m W W'∧R W W'∧Ix .ret xs W'
 | .exit id,_,W'=>Kd m W W'∧R W W'∧Ix (.exit id) xs W'
 | _,_,_=>False
def oZ {α:Type} (F:Fence) (n:Nat) (P:Program) (gf:Nat) (lb:Array Value) (R Ri:World→World→Prop) (encs:α→Array Value) (Nx:List α→α→World→Prop) (Fin:List α→Prop) (Pn:List α→List PanicEntry→Prop) (l:Nat) (W1:World):Prop:=
 ∀ (J Jx:List α→World→Prop),(∀ pre A B,J pre A→Ri A B→J pre B)→
  (∀ pre x W,J pre W→Nx pre x W→YieldAt F (n - 1) P l (encs x) W fun e W'=>R W W'∧((e=.returned (.bool true)∧J (pre ++ [x]) W')∨(e=.returned (.bool false)∧Jx (pre ++ [x]) W')))→
  J [] W1→CallsIn F n P gf (#[.func (.yield l) #[] #[]] ++ lb) W1 fun e W'=>((∃ v,e=.returned v)∧((∃ xs,Fin xs∧J xs W')∨∃ xs,Jx xs W'))∨∃ ch xs,e=.panicked ch∧Pn xs ch∧J xs W'
variable {F:Fence} {n:Nat} {P:Program}
theorem jm {α:Type} {g:Operand} {ps:Array Tmp} {assign body:Code} {Q:Exit→Act→World→Prop} {a:Act} {w:World}
  (hro:F.round=none) (h1:1≤n) {gf:Nat} {lb:Array Value} (hg:a.eval g=.func (.func gf) #[] lb) (hFg:F.fn gf) (eg:∀ args w,(callFunc gf args).run P w=.ok (.enter gf args) w)
  (R Ri:World→World→Prop) (hRi:∀ A B,Ri A B→w.heap.size+1 < A.heap.size→B.heap[w.heap.size]?=A.heap[w.heap.size]?∧B.heap[w.heap.size+1]?=A.heap[w.heap.size+1]?) (Qz:∀ A B C,R A B→R B C→R A C) (hRk:∀ A B,w.heap.size≤A.heap.size→Kq w.heap.size A B→R A B) {encs:α→Array Value} {Nx:List α→α→World→Prop} {Fin:List α→Prop} {Pn:List α→List PanicEntry→Prop}
  (hseq:∀ W1,Ext w W1→oZ F (n - 1) P gf lb R Ri encs Nx Fin Pn (w.heap.size+1) W1) (hps:∀ x,(encs x).size=ps.size)
  (I:List α→World→Prop) (Ix:Code→List α→World→Prop) (hI:∀ pre A B,I pre A→Kq w.heap.size A B→I pre B) (hIx:∀ c pre A B,Ix c pre A→Kq w.heap.size A B→Ix c pre B)
  (GZ:∀ pre A B,I pre A→Ri A B→I pre B) (h0:I [] w)
  (Ax:List α→α→Act→World→Prop) (hAx:∀ pre x a1 A B,Ax pre x a1 A→Kq w.heap.size A B→Ax pre x a1 B)
  (hassign:∀ (l:Nat) (pre:List α) (x:α) (W:World) (K:Act→World→Prop),I pre W→Nx pre x W→w.heap.size+1 < W.heap.size→(∀ a1 W1,Ext W W1→Ax pre x a1 W1→K a1 W1)→
   assign.wpIn (F.inRound l) (n - 1 - 1) P (Exit.then K (fun _ _ _=>False)) { tmps:=(ps.zip (encs x)).foldl (fun t (p,v)=>t.setIfInBounds p v) a.tmps,defers:=[] } W)
  (hbody:∀ (l:Nat) (pre:List α) (x:α) (a1:Act) (W:World),Ax pre x a1 W→w.heap.size+1 < W.heap.size→body.wpIn (F.inRound l) (n - 1 - 1) P (EI R w.heap.size I Ix (pre ++ [x]) W) a1 W)
  (hdone:∀ (xs:List α) (W:World),Fin xs→I xs W→W.heap[w.heap.size]?=some (.deferred (some []))→Q .normal { a with defers:={ target:=.collected w.heap.size,args:=#[] } :: a.defers } W)
  (hstop:∀ (c:Code) (xs:List α) (W:World),Ix c xs W→W.heap[w.heap.size]?=some (.deferred (some []))→c.wpIn F n P Q { a with defers:={ target:=.collected w.heap.size,args:=#[] } :: a.defers } W)
  (o0:∀ (ch:List PanicEntry) (xs:List α) (W:World),Pn xs ch→I xs W→W.heap[w.heap.size]?=some (.deferred (some []))→Q (.panic ch) { a with defers:={ target:=.collected w.heap.size,args:=#[] } :: a.defers } W) :
  (Code.rangeFunc g ps assign body).wpIn F n P Q a w:=by
 refine wpIn_rangeFunc ?_;intro fn hfn;rw [hro];obtain ⟨rec,hrec⟩:∃ rec:LoopState→Option Code→Loop,rec=fun st pe=>{ state:=st,pending:=pe,fn,tmps:=a.tmps,params:=ps,assign,body,defers:=w.heap.size }:=⟨_,rfl⟩;obtain ⟨W1,hW1⟩:∃ W1,(w.alloc (.deferred (some []))).alloc (.loop (rec .ready none))=W1:=⟨_,rfl⟩;have hL1:W1.heap[w.heap.size+1]?=some (.loop (rec .ready none)):=by
  rw [← hW1];have:=World.alloc_heap_new (w.alloc (.deferred (some []))) (.loop (rec .ready none));rwa [World.size_alloc] at this
 have hK1:W1.heap[w.heap.size]?=some (.deferred (some [])):=by
  rw [← hW1];exact (Below.heap_alloc _ _ _ (by simp)).trans (World.alloc_heap_new w _)
 have hx1:Ext w W1:=by rw [← hW1];exact ((Ext.refl w).alloc _).alloc _
 have hI1:I [] W1:=hI _ _ _ h0 (.ext hx1);refine ⟨w.heap.size+1,[{ target:=.collected w.heap.size,args:=#[] }],W1,{ target:=.fn (.func gf) lb,args:=#[.func (.yield (w.heap.size+1)) #[] #[]] },W1,gf,
  #[.func (.yield (w.heap.size+1)) #[] #[]] ++ lb,W1,?_,?_,?_,?_,fun _=>h1,?_⟩
 ·rw [← hW1,hrec];exact run_enterLoop_outer _ _ _ _ _
 ·simp only [resolve,hg];simp [go_sem]
 ·intro f' hf';simp [Target.leads] at hf';subst hf';exact hFg
 ·simp [invoke,go_sem,eg]
 ·refine (hseq W1 hx1
   (fun pre W=>I pre W∧W.heap[w.heap.size+1]?=some (.loop (rec .ready none))∧W.heap[w.heap.size]?=some (.deferred (some [])))
   (fun pre W=>∃ c,Ix c pre W∧W.heap[w.heap.size+1]?=some (.loop (rec .done (some c)))∧W.heap[w.heap.size]?=some (.deferred (some [])))
   (fun pre A B hs x=>⟨GZ _ _ _ hs.1 x,(hRi _ _ x (Array.getElem?_eq_some_iff.1 hs.2.1).1).2.trans hs.2.1,(hRi _ _ x (Array.getElem?_eq_some_iff.1 hs.2.1).1).1.trans hs.2.2⟩)
   ?_ ⟨hI1,hL1,hK1⟩).mono ?_
  ·rintro pre x W ⟨hi,hl,hk⟩ hnx;have hlt:w.heap.size+1 < W.heap.size:=(Array.getElem?_eq_some_iff.1 hl).1;have hy:=run_yield (P:=P) (args:=encs x) hl (by rw [hrec];exact hps x);rw [hrec] at hy;refine ⟨fn,_,assign,body,hy,roundIn_of_wpIn hfn (hassign _ pre x W _ hi hnx hlt ?_)⟩;intro a1 V Ha hax;have Hb:=(Ha.block _ (Array.getElem?_eq_some_iff.1 hl).1).trans hl;have Pe:=(Ha.block _ (Array.getElem?_eq_some_iff.1 hk).1).trans hk;refine ⟨_,run_beginRound Hb (by rw [hrec]),?_⟩;have As:w.heap.size+1 < V.heap.size:=(Array.getElem?_eq_some_iff.1 Hb).1;have hl2:(V.putObj (w.heap.size+1) (.loop { rec .ready none with state:=.busy })).heap[w.heap.size+1]?=some (.loop { rec .ready none with state:=.busy }):=World.putObj_heap_same As;have hk2:(V.putObj (w.heap.size+1) (.loop { rec .ready none with state:=.busy })).heap[w.heap.size]?=some (.deferred (some [])):=(World.putObj_heap_other (by omega)).trans Pe;have hV1:R W (V.putObj (w.heap.size+1) (.loop { rec .ready none with state:=.busy })):=Qz _ _ _ (hRk _ _ (by omega) (Kq.ext Ha)) (hRk _ _ (by have:=Ha.size;omega) (Kq.jW _ Hb));have fin:∀ (jump:Option Code) (W3:World),Kd w.heap.size (V.putObj (w.heap.size+1) (.loop { rec .ready none with state:=.busy })) W3→R (V.putObj (w.heap.size+1) (.loop { rec .ready none with state:=.busy })) W3→
     (Instr.endRound (w.heap.size+1) jump).run P W3=.ok (.bool jump.isNone) (W3.putObj (w.heap.size+1) (.loop (rec (if jump.isNone then .ready else .done) jump)))∧
     (W3.putObj (w.heap.size+1) (.loop (rec (if jump.isNone then .ready else .done) jump))).heap[w.heap.size+1]?=some (.loop (rec (if jump.isNone then .ready else .done) jump))∧
     (W3.putObj (w.heap.size+1) (.loop (rec (if jump.isNone then .ready else .done) jump))).heap[w.heap.size]?=some (.deferred (some []))∧
     R W (W3.putObj (w.heap.size+1) (.loop (rec (if jump.isNone then .ready else .done) jump))):=fun jump W3 hk3 hb3=>by
    have hl3:=hk3.2.2.trans hl2;have hlt3:w.heap.size+1 < W3.heap.size:=(Array.getElem?_eq_some_iff.1 hl3).1;have:=run_endRound (P:=P) jump hl3;rw [hrec] at this ⊢;exact ⟨this,World.putObj_heap_same hlt3,(World.putObj_heap_other (by omega)).trans (hk3.2.1.trans hk2),Qz _ _ _ (Qz _ _ _ hV1 hb3) (hRk _ _ (by omega) (Kq.jW _ (hk3.2.2.trans hl2)))⟩
   refine wpIn_mono (hbody _ pre x a1 _ (hAx _ _ _ _ _ hax (Kq.jW _ Hb)) (by simpa using As)) ?_;rintro e a3 W3 hp;cases e with
   | normal=>
    obtain ⟨hk3,hb3,hi3⟩:=hp;obtain ⟨hr,hl4,hk4,hb4⟩:=fin none W3 hk3 hb3;exact ⟨_,_,hr,hb4,.inl ⟨rfl,hI _ _ _ hi3 (Kq.jW _ (hk3.2.2.trans hl2)),hl4,hk4⟩⟩
   | ret=>
    obtain ⟨hk3,hb3,hi3⟩:=hp;obtain ⟨hr,hl4,hk4,hb4⟩:=fin (some .ret) W3 hk3 hb3;exact ⟨_,_,hr,hb4,.inr ⟨rfl,.ret,hIx _ _ _ _ hi3 (Kq.jW _ (hk3.2.2.trans hl2)),hl4,hk4⟩⟩
   | exit id=>
    obtain ⟨hk3,hb3,hi3⟩:=hp;obtain ⟨hr,hl4,hk4,hb4⟩:=fin (some (.exit id)) W3 hk3 hb3;exact ⟨_,_,hr,hb4,.inr ⟨rfl,.exit id,hIx _ _ _ _ hi3 (Kq.jW _ (hk3.2.2.trans hl2)),hl4,hk4⟩⟩
   | goto t=>exact hp.elim
   | panic ch=>exact hp.elim
   | outgrown=>exact hp.elim
  ·rintro e W2 (⟨⟨v,rfl⟩,(⟨xs,hF,hi,hl,hk⟩|⟨xs,c,hi,hl,hk⟩)⟩|⟨ch,xs,rfl,hP,hi,hl,hk⟩)
   ·exact ⟨none,_,by have:=run_endLoop (P:=P) hl (by rw [hrec];simp);rw [hrec] at this;exact this,hdone xs _ hF (hI _ _ _ hi (Kq.jW _ hl)) ((World.putObj_heap_other (by omega)).trans hk)⟩
   ·exact ⟨some c,_,by have:=run_endLoop (P:=P) hl (by rw [hrec];simp);rw [hrec] at this;exact this,hstop c xs _ (hIx _ _ _ _ hi (Kq.jW _ hl)) ((World.putObj_heap_other (by omega)).trans hk)⟩
   ·exact o0 ch xs _ hP hi hk
structure gG (n:Nat) (X:Nat→Prop) (A B:World):Prop where
 zero:Below 0 A B
 block:∀ i,i < A.heap.size→i < n→¬ X i→B.heap[i]?=A.heap[i]?
theorem gG.refl (n:Nat) (X:Nat→Prop) (A:World):gG n X A A:=⟨Below.refl _ _,fun _ _ _ _=>rfl⟩
theorem gG.trans {n:Nat} {X:Nat→Prop} {A B C:World} (h:gG n X A B) (k:gG n X B C):gG n X A C:=⟨h.zero.trans k.zero,fun i hi hn hL=>(k.block i (Nat.lt_of_lt_of_le hi h.zero.size) hn hL).trans (h.block i hi hn hL)⟩
theorem gG.ext {n:Nat} {X:Nat→Prop} {A B:World} (h:Ext A B):gG n X A B:=⟨h.mono (Nat.zero_le _),fun i hi _ _=>h.block i hi⟩
theorem gG.kz {n m:Nat} {X:Nat→Prop} {A B:World} (hm:n≤m) (h:Kz m A B):gG n X A B:=⟨h.zero,fun i hi hn _=>h.block i hi (.inl (by omega))⟩
theorem gG.set {n:Nat} {X:Nat→Prop} {A B:World} (h:gG n X A B) {o:Nat} (ho:X o∨n≤o) (p:Nat) (v:Value):gG n X A (B.setCell ⟨o,p,none⟩ v):=
 ⟨h.zero.setCell (Nat.zero_le _) v,fun i hi hn hL=>(Below.heap_setCell B ⟨o,p,none⟩ v i (by
  dsimp only;intro e;subst e;rcases ho with ho|ho
  ·exact hL ho
  ·omega)).trans (h.block i hi hn hL)⟩
theorem gG.mono {n:Nat} {X Y:Nat→Prop} {A B:World} (h:gG n X A B) (k:∀ i,X i→Y i):gG n Y A B:=⟨h.zero,fun i hi hn hY=>h.block i hi hn (fun hX=>hY (k i hX))⟩
theorem af.wn {n:Nat} {X:Nat→Prop} {A B:World} {b:Nat} {c:Array Value} {t:TypeId} (h:af A b c t) (k:gG n X A B) (hb:b < n) (hL:¬ X b):af B b c t:=(k.block b h.lt hb hL).trans h
theorem gG.below {n n0:Nat} {X:Nat→Prop} {A B:World} (h:gG n X A B) (h1:∀ i,X i→n0≤i) (h2:n0≤n) (h3:n0≤A.heap.size):Below n0 A B:=
 ⟨h.zero.os,h.zero.tape,h.zero.output,h.zero.size,fun i hi=>h.block i (by omega) (by omega) (fun hX=>by have:=h1 i hX;omega)⟩
end
end Go.Proofs.YtnnjbaijcaiohaaGreat
