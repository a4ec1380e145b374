/- Walks and lemmas. -/
import Derived.Test.YtnnjbaijcaiohaaGreatSvA12
import Derived.Test.YtnnjbaijcaiohaaGreatSvA7
import Derived.Test.YtnnjbaijcaiohaaGreatSvA10
import Derived.Test.YtnnjbaijcaiohaaGreatSvA0
import Derived.Recover
import Derived.Orders
import Derived.RangeFuncLeaves
import Derived.RangeFuncRecord
import Derived.Defers
import Derived.Test.YtnnjbaijcaiohaaGreatSvA9
import Derived.WalkMore
import Derived.RangeFuncNested
import Derived.RangeFuncBound
import Derived.RangeFuncCalls
import Derived.Shelf.Abstract
import Derived.Shelf.RegionOpen
import Derived.WalkKit
import Derived.OwnWalkIn
import Derived.TacticsInMore
import Derived.LoopNIn
import Derived.LoopIn
import Derived.Test.YtnnjbaijcaiohaaGreatSvA1
set_option linter.unusedVariables false
set_option linter.unusedSimpArgs false
set_option maxRecDepth 100000
set_option maxHeartbeats 16000000
namespace Go.Proofs.YtnnjbaijcaiohaaGreat
open Go.RowKit
section
theorem bF {m:MD} (h:fs m=0):aA m.ah=0∧m.states.length≠0∧m.states.length≤200∧∀ s,s < m.states.length→tc m.states.length (m.states.getD s [])=0:=by
 unfold fs at h;by_cases h1:aA m.ah=0
 ·rw [if_neg Ib] at h;by_cases h2:m.ah.neg=true∨1 < qv m.ah
  ·rw [if_pos h2] at h;cases h
  ·rw [if_neg h2] at h;by_cases h3:m.states.length=0
   ·rw [if_pos h3] at h;cases h
   ·rw [if_neg h3] at h;by_cases h4:200 < m.states.length
    ·rw [if_pos h4] at h;cases h
    ·rw [if_neg h4] at h;exact ⟨h1,h3,by omega,bK h⟩
 ·rw [if_pos h1] at h;exact absurd h h1
theorem gB {n:Nat} {ac:List bg} (h:tc n ac=0):ac.length≠0∧ac.length≤6∧∀ a,a < ac.length→eW n (ac.getD a dA)=0:=by
 unfold tc at h;by_cases h1:ac.length=0
 ·rw [if_pos h1] at h;cases h
 ·rw [if_neg h1] at h;by_cases h2:6 < ac.length
  ·rw [if_pos h2] at h;cases h
  ·rw [if_neg h2] at h;exact ⟨h1,by omega,bK h⟩
theorem fW {n:Nat} {x:bg} (h:eW n x=0):aA x.cost=0∧x.next.length≠0∧x.next.length≤64∧(∀ i,i < x.next.length→ej n x.next i=0)∧cZ zR (fj x.next)=(rep 1,0):=by
 unfold eW at h;by_cases h1:aA x.cost=0
 ·rw [if_neg Ib] at h;by_cases h2:x.next.length=0
  ·rw [if_pos h2] at h;cases h
  ·rw [if_neg h2] at h;by_cases h3:64 < x.next.length
   ·rw [if_pos h3] at h;cases h
   ·rw [if_neg h3] at h;by_cases h4:bG (ej n x.next) x.next.length=0
    ·rw [if_neg (by simpa using h4)] at h;by_cases h5:(cZ zR (fj x.next)).2=0
     ·rw [if_neg (by simpa using h5)] at h;by_cases h6:(cZ zR (fj x.next)).1=rep 1
      ·exact ⟨h1,h2,by omega,bK h4,Prod.ext h6 h5⟩
      ·rw [if_neg h6] at h;cases h
     ·rw [if_pos h5] at h;exact absurd h h5
    ·rw [if_pos h4] at h;exact absurd h h4
 ·rw [if_pos h1] at h;exact absurd h h1
theorem rR {n:Nat} {l:List Out} {i:Nat} (h:ej n l i=0):0≤(l.getD i dO).1∧(l.getD i dO).1 < n∧aA (l.getD i dO).2=0∧(l.getD i dO).2.neg=false:=by
 unfold ej at h;by_cases h1:(l.getD i dO).1 < 0∨(n:Int)≤(l.getD i dO).1
 ·rw [if_pos h1] at h;cases h
 ·rw [if_neg h1] at h;by_cases h2:0 < i∧(l.getD i dO).1≤(l.getD (i - 1) dO).1
  ·rw [if_pos h2] at h;cases h
  ·rw [if_neg h2] at h;by_cases h3:aA (l.getD i dO).2=0
   ·rw [if_neg (by simpa using h3)] at h;by_cases h4:(l.getD i dO).2.neg=true∨(l.getD i dO).2.num=[]
    ·rw [if_pos h4] at h;cases h
    ·refine ⟨by omega,by omega,h3,?_⟩;cases hh:(l.getD i dO).2.neg
     ·rfl
     ·exact absurd (.inl hh) h4
   ·rw [if_pos h3] at h;exact absurd h h3
theorem eG {m:MD} {v:List RR} (h:gJ m v=0):fs m=0∧v.length=m.states.length:=by
 unfold gJ at h;by_cases h1:fs m=0
 ·rw [if_neg Ib] at h;by_cases h2:v.length=m.states.length
  ·exact ⟨h1,h2⟩
  ·rw [if_pos h2] at h;cases h
 ·rw [if_pos h1] at h;exact absurd h h1
theorem uZ (mv vv xv:Value) (m:MD) (vals:List RR) (s a:Nat) (w:World) (hm:eY w mv m) (hv:cH w vv vals) (hx:iu w xv (m.act s a)) (hlm:iY m) (hlv:dm vals) (h:gJ m vals=0) (hs:s < m.states.length) (ha:a < (m.states.getD s []).length) :
  Calls Tryz.prog 136 #[mv,vv,xv] w fun e w'=>bU w w' e (aU m vals (m.act s a))∧Ext w w':=by
 obtain ⟨h1,h2⟩:=eG h;obtain ⟨_,_,_,h3⟩:=bF h1;obtain ⟨_,_,h4⟩:=gB (h3 s hs);obtain ⟨_,_,h5,h6,_⟩:=fW (h4 a ha);exact Ak mv vv xv m vals _ w hm hv hx hlm.1 hlv (hlm.2 s a) (fun i hi=>by
  obtain ⟨g1,g2,_⟩:=rR (h6 i hi);unfold MD.act;exact ⟨g1,by rw [h2];exact g2⟩) h5
theorem Ao (m:MD) (v:List RR) (x:bg):aC (aU m v x).1:=by
 unfold aU;split
 ·exact aT
 ·split
  ·exact aT
  ·exact gz _ _
theorem zf (m:MD) (p:List Int) (v:List RR):(Cu m p v).length=p.length:=by simp [Cu]
theorem F8 {m:MD} {p:List Int} {v:List RR} (h:gJ m v=0) (h2:p.length=m.states.length) (h4:∀ j,j < p.length→FN m p v j=0):m5 m p v=(Cu m p v,0):=by
 have e:=bH h4;unfold m5;rw [if_neg kN,if_neg yB,e,if_neg (fun h=>h rfl)]
section
variable {P:Program} {ops:Array Oper} {Q:Exit→Act→List Frame→World→Prop} {a:Act} {cs:List Frame} {w:World}
theorem ou {id:Nat} (h:∀ t,wpOpsS P ops Q (Region.schedule (P.follows .mixedOrders) ops t) a cs { w with drawn:=w.drawn+1 }):(Code.region id ops true).wpS P Q a cs w:=
 fun b k hb hr=>let ⟨e,a',cs',w',q,r⟩:=wp_opsS _ a cs _ (h _) b k hb hr;⟨e,a',cs',w',q,.of_steps (.one step_region_draw) r⟩
theorem fm {fuel t i:Nat} {listed:Array Bool} {acc r:List Nat} (hr:Region.ready .any ops listed=r) (hi:r[t % r.length]?=some i) :
  Region.linearise.go .any ops (fuel+1) t listed acc=Region.linearise.go .any ops fuel (t / r.length) (listed.setIfInBounds i true) (i :: acc):=by
 subst hr;simp only [Region.linearise.go];change (match (Region.ready .any ops listed)[t % (Region.ready .any ops listed).length]? with
  | some i=>Region.linearise.go .any ops fuel (t / (Region.ready .any ops listed).length) (listed.setIfInBounds i true) (i :: acc)
  | none=>acc.reverse)=_
 rw [hi]
theorem JJ (h0:Region.ready .any ops #[false,false,false,false]=[0,1]) (h1:Region.ready .any ops #[true,false,false,false]=[1]) (h2:Region.ready .any ops #[false,true,false,false]=[0])
  (h3:Region.ready .any ops #[true,true,false,false]=[2]) (h4:Region.ready .any ops #[true,true,true,false]=[3]) (hs:ops.size=4) (t:Nat) :
  Region.linearise.go .any ops ops.size t (Array.replicate ops.size false) []=[0,1,2,3]∨Region.linearise.go .any ops ops.size t (Array.replicate ops.size false) []=[1,0,2,3]:=by
 rw [hs];have e0:(Array.replicate 4 false)=#[false,false,false,false]:=rfl;rw [e0];have hm:t % 2=0∨t % 2=1:=Z
 have s1:∀ n,n % 1=0:=fun n=>Nat.mod_one n;rcases hm with hm|hm
 ·left;rw [fm h0 (i:=0) (by simp [hm]),show (#[false,false,false,false]:Array Bool).setIfInBounds 0 true=#[true,false,false,false] from rfl,
   fm h1 (i:=1) Ms,show (#[true,false,false,false]:Array Bool).setIfInBounds 1 true=#[true,true,false,false] from rfl,
   fm h3 (i:=2) Ms,show (#[true,true,false,false]:Array Bool).setIfInBounds 2 true=#[true,true,true,false] from rfl,
   fm h4 (i:=3) Ms]
  rfl
 ·right;rw [fm h0 (i:=1) (by simp [hm]),show (#[false,false,false,false]:Array Bool).setIfInBounds 1 true=#[false,true,false,false] from rfl,
   fm h2 (i:=0) Ms,show (#[false,true,false,false]:Array Bool).setIfInBounds 0 true=#[true,true,false,false] from rfl,
   fm h3 (i:=2) Ms,show (#[true,true,false,false]:Array Bool).setIfInBounds 2 true=#[true,true,true,false] from rfl,
   fm h4 (i:=3) Ms]
  rfl
theorem aM {id:Nat} (hm:P.follows .mixedOrders=true) (h0:Region.ready .any ops #[false,false,false,false]=[0,1]) (h1:Region.ready .any ops #[true,false,false,false]=[1]) (h2:Region.ready .any ops #[false,true,false,false]=[0])
  (h3:Region.ready .any ops #[true,true,false,false]=[2]) (h4:Region.ready .any ops #[true,true,true,false]=[3]) (hs:ops.size=4)
  (g1:wpOpsS P ops Q [0,1,2,3] a cs w.drew) (g2:wpOpsS P ops Q [1,0,2,3] a cs w.drew):(Code.region id ops true).wpS P Q a cs w:=by
 refine ou fun t=>?_;simp only [Region.schedule,hm,Bool.true_or,if_true];have hd:{ w with drawn:=w.drawn+1 }=w.drew:=rfl;rw [hd];rcases JJ h0 h1 h2 h3 h4 hs t with h|h
 ·rw [show Region.linearise .any ops t=Region.linearise.go .any ops ops.size t (Array.replicate ops.size false) [] from rfl,h];exact g1
 ·rw [show Region.linearise .any ops t=Region.linearise.go .any ops ops.size t (Array.replicate ops.size false) [] from rfl,h];exact g2
end
def bk (c:Int):PanicEntry:={ v:=.iface 37 (.int .i64 c),recovered:=false }
theorem aF {P:Program} {fn:Func} {R:Ending→World→Prop} {ch:List PanicEntry} {a:Act} {w:World} (hd:a.defers=[]) (h:R (.panicked ch) w):bodyPost P fn R (.panic ch) a w:=⟨hd,h⟩
theorem ve (c:Int) (w:World):Calls Tryz.prog 73 #[.int .i64 c] w fun e w'=>e=(if c=0 then .returned (.tuple #[]) else .panicked [bk c])∧w'=w:=by
 by_cases h:c=0
 ·subst h;go_enter Tryz.func73,Tryz.ntmps73
  go_wp2
  go_end0
  exact ⟨rfl,rfl⟩
 ·have q1:(c != 0)=true:=by simpa using h
  rw [if_neg h];go_enter Tryz.func73,Tryz.ntmps73
  go_wp2
  exact aF rfl ⟨rfl,rfl⟩
theorem xO (e:Int) (w:World):Calls Tryz.prog 71 #[.nilIface,.int .i64 e] w fun en w'=>en=.returned (.int .i64 e)∧w'=w:=by
 go_enter Tryz.func71,Tryz.ntmps71
 go_wp2
 go_ret;exact ⟨rfl,rfl⟩
theorem pF (c e:Int) (w:World):Calls Tryz.prog 71 #[.iface 37 (.int .i64 c),.int .i64 e] w fun en w'=>en=.returned (.int .i64 c)∧w'=w:=by
 have hta:∀ w,(Instr.typeAssert (.iface 37 (.int .i64 c)) 20 37 true).run Tryz.prog w=.ok (.tuple #[.int .i64 c,.bool true]) w:=fun _=>by first|rfl|kernel_rfl
 go_enter Tryz.func71,Tryz.ntmps71
 go_wp2
 go_ret;exact ⟨rfl,rfl⟩
end
section
theorem aN {P:Program} {n:Nat} {f:FuncId} {fn:Func} {c:Code} {args:Array Value} {u:FrameMode} {w:World} {R:Ending→FrameMode→World→Prop}
  (hf:P.funcs[f]?=some fn) (hb:fn.body=some c)
  (h:∀ (c₀:Frame) (cs:List Frame),c₀.mode=u→
   c.wpS P (bodyPostS P fn c₀ cs R) { tmps:=args ++ Array.replicate (fn.ntmps - args.size) undef,defers:=[] } (c₀ :: cs) w) :
  CallsDIn Fence.wide n P f args u w R:=by
 refine ⟨trivial,fun c₀ cs hu _=>?_⟩;let b:Frame:={ (default:Frame) with fn:=f,kind:=.deferred }
 have henter:Frame.enter P f args .deferred =
   b.at { tmps:=args ++ Array.replicate (fn.ntmps - args.size) undef,defers:=[] } [.code c]:=by
  simp [Frame.enter,Frame.at,hf,hb,b]
 obtain ⟨e,a',cs',w',hq,harr⟩:=h c₀ cs hu b [] rfl rfl;rw [← henter] at harr;cases e with
 | normal=>
  obtain ⟨hd,u',rfl,v,hr,hR⟩:=hq;exact ⟨.returned v,u',w',_,hR,comesIn_wide.2 (Steps.trans harr (.one step_end)),rfl,rfl,rfl,hd,fn,hf,hr⟩
 | ret=>
  obtain ⟨hd,u',rfl,v,hr,hR⟩:=hq;obtain ⟨todo,hs⟩:=harr;exact ⟨.returned v,u',w',_,hR,comesIn_wide.2 hs,rfl,rfl,rfl,hd,fn,hf,hr⟩
 | panic chain=>
  obtain ⟨hd,u',rfl,hR⟩:=hq;obtain ⟨todo,hs⟩:=harr;exact ⟨.panicked chain,u',w',_,hR,comesIn_wide.2 hs,rfl,rfl,rfl,hd,fn,hf⟩
 | exit id=>exact hq.elim
 | goto l=>exact hq.elim
 | outgrown=>
  obtain ⟨u',hR⟩:=hq;exact ⟨.outgrown,u',w',b,hR,comesIn_wide.2 (harr.resolve_left (by simp [b])),rfl,rfl,trivial⟩
theorem bT {P:Program} {n:Nat} {f:FuncId} {args:Array Value} {u:FrameMode} {w:World} {R:Ending→FrameMode→World→Prop} (h:CallsDIn Fence.wide n P f args u w R):CallsD P f args u w R:=
 fun c cs hu=>let ⟨e,u',w',fr,r,s,k,_,g⟩:=h.2 c cs hu (room_wide _);⟨e,u',w',fr,r,comesIn_wide.1 s,k,g⟩
section
variable {P:Program} {fn:Func} {R:Ending→World→Prop} {n:Nat}
theorem dL {tmps Is:Array Value} (h:results fn tmps=results fn Is):∀ (ds:List Deferred) (u:FrameMode) (w:World),LeavesInM Fence.wide n P fn tmps R ds u w→LeavesInM Fence.wide n P fn Is R ds u w
 | [],u,w,hl=>by
  cases u with
  | run=>exact hl
  | returning=>obtain ⟨v,h1,h2⟩:=hl;exact ⟨v,h ▸ h1,h2⟩
  | panicking ch=>exact hl
 | d :: ds,u,w,hl=>by
  obtain ⟨hu,hl⟩:=hl;refine ⟨hu,?_⟩;rcases hl with ⟨r,w',h1,h2,h3⟩|⟨hn,fv,cap,f,args,h1,h2,h3,h4⟩
  ·exact .inl ⟨r,w',h1,h2,dL h ds u w' h3⟩
  ·refine .inr ⟨hn,fv,cap,f,args,h1,h2,h3,h4.mono ?_⟩;intro e u' w' he;cases e with
   | returned v=>exact dL h ds _ _ he
   | panicked ch=>exact dL h ds _ _ he
   | outgrown=>exact he
theorem mq {tmps:Array Value} {ds:List Deferred} {u:FrameMode} {w:World} {r:Nat} (hu:u≠.run) (hk:w.heap[r]?=some (.deferred (some []))) (h:LeavesInM Fence.wide n P fn tmps R ds u (w.putObj r (.deferred none))) :
  LeavesInM Fence.wide n P fn tmps R ({ target:=.collected r,args:=#[] } :: ds) u w:=⟨hu,.inl ⟨r,_,rfl,run_takeDeferred hk,h⟩⟩
theorem pG {tmps:Array Value} {fv:Fn} {cap dargs:Array Value} {ds:List Deferred} {u:FrameMode} {w:World} {f:FuncId} {args:Array Value} (hu:u≠.run) (hinv:(invoke (.fn fv cap) dargs).run P w=.ok (.enter f args) w)
  (h:CallsDIn Fence.wide (n - 1) P f args u w fun e u' w'=>match e with
   | .returned _=>LeavesInM Fence.wide n P fn tmps R ds (settle u') w'
   | .panicked chain=>LeavesInM Fence.wide n P fn tmps R ds (raised u' chain) w'
   | .outgrown=>R .outgrown w'):LeavesInM Fence.wide n P fn tmps R ({ target:=.fn fv cap,args:=dargs } :: ds) u w:=
 ⟨hu,.inr ⟨(fun h=>Mu),fv,cap,f,args,rfl,hinv,fun _ _=>trivial,h.mono (fun e u' w' he=>by cases e <;> exact he)⟩⟩
theorem pH {w:World} {r:Nat} {o o2:Obj} (hk:w.heap[r]?=some o) (ho:∀ c t,o≠.cells c t):∀ (i:Nat) (c:Array Value) (t:TypeId),ag w i c t→ag (w.putObj r o2) i c t:=fun i c t b=>by
 have e:i≠r:=fun e=>by subst e;unfold ag at b;rw [b] at hk;injection hk with hk;exact ho c t hk.symm
 exact (World.putObj_heap_other e).trans b
theorem pI {w0 w:World} {r:Nat} {o:Obj} (h:Ext w0 w) (hr:w0.heap.size≤r):Ext w0 (w.putObj r o):=
 ⟨h.os,h.tape,h.output,by have:=h.size;simpa using this,fun i hi=>(World.putObj_heap_other Z).trans (h.block i hi)⟩
end
end
theorem F9 {nn:Nat} (be b1:Nat) (c e0:Int) (hc:c≠0) (older:List PanicEntry) (w:World) (pJ:Value) (kw:TypeId) (hbe:ag w be #[.int .i64 e0] 37) (hb1:ag w b1 #[pJ] kw) (th:b1≠be) :
  CallsDIn Fence.wide nn Tryz.prog 75 #[.pointer (some ⟨be,0,none⟩),.pointer (some ⟨b1,0,none⟩)] (.panicking (bk c :: older)) w fun e u' w'=>e=.returned (.tuple #[])∧u'=.panicking ({ bk c with recovered:=true } :: older)∧w'=((w.setCell ⟨be,0,none⟩ (.int .i64 c)).setCell ⟨b1,0,none⟩ (.slice none 0 0)).drew:=by
 have q1:(c != 0)=true:=by simpa using hc
 unfold bk;have he:=(hbe.cell 0);have hz:=hbe.free 0;simp only [List.getElem?_toArray,List.getElem?_cons_zero] at he;have rS:=hb1.cell 0;have JM:=hb1.free 0;simp only [List.getElem?_toArray,List.getElem?_cons_zero] at rS;refine aN Tryz.func75 rfl fun c₀ cs hu=>?_;apply wpS_seq;refine aM ax ax ax ax ax ax rfl ?_ ?_;all_goals
  simp [wpOpsS,go_sem,recoverD,hu,Tryz.ntmps75,Exit.thenS,he,hz];refine (pF c e0 _).mono ?_;rintro e w1 ⟨rfl,rfl⟩;simp [wpOpsS,go_sem,recoverD,hu,Tryz.ntmps75,Exit.thenS,he,hz];refine wpS_of_wp ?_;go_wp2
  simp [bodyPostS,results,Tryz.results75,go_sem] <;> (cases c₀;simp_all)
theorem pK {nn:Nat} (be b1 b2:Nat) (w:World) (hbe:ag w be #[.int .i64 0] 37) :
  CallsDIn Fence.wide nn Tryz.prog 70 #[.pointer (some ⟨be,0,none⟩),.pointer (some ⟨b1,0,none⟩),.pointer (some ⟨b2,0,none⟩)] .returning w fun e u' w'=>e=.returned (.tuple #[])∧u'=.returning∧w'=(w.setCell ⟨be,0,none⟩ (.int .i64 0)).drew:=by
 have he:=(hbe.cell 0);have hz:=hbe.free 0;simp only [List.getElem?_toArray,List.getElem?_cons_zero] at he;refine aN Tryz.func70 rfl fun c₀ cs hu=>?_;apply wpS_seq;refine aM ax ax ax ax ax ax rfl ?_ ?_;all_goals
  simp [wpOpsS,go_sem,recoverD,hu,Tryz.ntmps70,Exit.thenS,he,hz];refine (xO 0 _).mono ?_;rintro e w1 ⟨rfl,rfl⟩;simp [wpOpsS,go_sem,recoverD,hu,Tryz.ntmps70,Exit.thenS,he,hz];refine wpS_of_wp ?_;go_wp2
  simp [bodyPostS,results,Tryz.results70,go_sem] <;> (cases c₀;simp_all)
theorem pL {nn:Nat} (be b1 b2:Nat) (c e0:Int) (hc:c≠0) (older:List PanicEntry) (w:World) (pJ xb2:Value) (kw tb2:TypeId) (hbe:ag w be #[.int .i64 e0] 37) (hb1:ag w b1 #[pJ] kw) (th:b1≠be) (hb2:ag w b2 #[xb2] tb2) (MH:b2≠be) (n12:b2≠b1) :
  CallsDIn Fence.wide nn Tryz.prog 70 #[.pointer (some ⟨be,0,none⟩),.pointer (some ⟨b1,0,none⟩),.pointer (some ⟨b2,0,none⟩)] (.panicking (bk c :: older)) w fun e u' w'=>e=.returned (.tuple #[])∧u'=.panicking ({ bk c with recovered:=true } :: older)∧w'=(((w.setCell ⟨be,0,none⟩ (.int .i64 c)).setCell ⟨b1,0,none⟩ (.slice none 0 0)).setCell ⟨b2,0,none⟩ (.slice none 0 0)).drew:=by
 have q1:(c != 0)=true:=by simpa using hc
 unfold bk;have he:=(hbe.cell 0);have hz:=hbe.free 0;simp only [List.getElem?_toArray,List.getElem?_cons_zero] at he;have rS:=hb1.cell 0;have JM:=hb1.free 0;have kb2:=hb2.cell 0;have Xg:=hb2.free 0;simp only [List.getElem?_toArray,List.getElem?_cons_zero] at rS kb2;refine aN Tryz.func70 rfl fun c₀ cs hu=>?_;apply wpS_seq;refine aM ax ax ax ax ax ax rfl ?_ ?_;all_goals
  simp [wpOpsS,go_sem,recoverD,hu,Tryz.ntmps70,Exit.thenS,he,hz];refine (pF c e0 _).mono ?_;rintro e w1 ⟨rfl,rfl⟩;simp [wpOpsS,go_sem,recoverD,hu,Tryz.ntmps70,Exit.thenS,he,hz];refine wpS_of_wp ?_;go_wp2
  simp [bodyPostS,results,Tryz.results70,go_sem] <;> (cases c₀;simp_all)
theorem zg (w:World):Calls Tryz.prog 73 #[.int .i64 0] w fun e w'=>e=.returned (.tuple #[])∧w'=w:=ve 0 w
theorem jF {c:Int} (hc:c≠0) (w:World):Calls Tryz.prog 73 #[.int .i64 c] w fun e w'=>e=.panicked [bk c]∧w'=w:=by
 have:=ve c w;rwa [if_neg hc] at this
def ik (B:Nat) (w':World) (e:Ending) (c:Int) (l:List RR):Prop:=if c=0 then (∃ v',e=.returned v'∧bV B w' v' l) else e=.panicked [bk c]
theorem ik.ok {B:Nat} {w':World} {c:Int} {l:List RR} {v:Value} (h:c=0) (o:bV B w' v l):ik B w' (.returned v) c l:=by unfold ik;rw [if_pos h];exact ⟨v,rfl,o⟩
theorem ik.bad {B:Nat} {w':World} {c d:Int} {l:List RR} (h:d≠0) (e:c=d):ik B w' (.panicked [bk d]) c l:=by unfold ik;rw [e,if_neg h]
theorem ik.pM {B:Nat} {w':World} {e:Ending} {l:List RR} (h:ik B w' e 0 l):∃ v',e=.returned v'∧bV B w' v' l:=by unfold ik at h;rwa [if_pos rfl] at h
theorem ik.pN {B:Nat} {w':World} {e:Ending} {c:Int} {l:List RR} (h:ik B w' e c l) (hc:c≠0):e=.panicked [bk c]:=by unfold ik at h;rwa [if_neg hc] at h
def xP (l:List RR):Prop:=∀ i,i < l.length→(l.getD i zR).num.length≤1000000∧(l.getD i zR).den.length≤1000000
theorem Ap (mv vv:Value) (m:MD) (vals:List RR) (w:World) (hm:eY w mv m) (hv:cH w vv vals) (hlm:iY m) (hln:xP vals) :
  Calls Tryz.prog 72 #[mv,vv] w fun e w'=>ik w.heap.size w' e (gJ m vals) vals∧Ext w w':=by
 have hck:=fun W mv (h:eY W mv m)=>jD mv m W h hlm;have HM:=kI hm;have HV:=kI hv;have Br:=kI hln;obtain ⟨m1,n1,m2,n2,m3,n3,rfl,hmd,hst⟩:=hm;have hsl:m.states.length≤9223372036854775807:=by obtain ⟨_,_,_,h⟩:=hst.shape;exact h
 obtain ⟨av,cv,rfl,zX,hvm,fv,hvf⟩:=hv.get;have hvl:vals.length≤9223372036854775807:=Z
 have hmv:gJ m vals=if fs m≠0 then fs m else if vals.length≠m.states.length then 16 else 0:=rfl;have hvd:=fun h=>(bF (m:=m) h).2.2.1;obtain ⟨c,hc⟩:=gN (fs m);rw [← hc] at hck hmv hvd;have qP:=kI hck;have OM:=kI hmv;have HVD:=kI hvd;clear hv hmd hst hck hmv hvd zX hvm hvf fv hc;have bb0:=(ag.new w #[.bool m.ah.neg,.slice m1 m.ah.num.length n1,.slice m2 m.ah.den.length n2,.slice m3 m.states.length n3] 28);have x0:Ext w (w.alloc (.cells #[.bool m.ah.neg,.slice m1 m.ah.num.length n1,.slice m2 m.ah.den.length n2,.slice m3 m.states.length n3] 28)):=((Ext.refl w).alloc _);have A0:=kI bb0;have X:=kI x0;clear x0 bb0;replace HM:=kI (HM.o.ext X.o);replace HV:=kI (HV.o.ext X.o);go_enter Tryz.func72,Tryz.ntmps72
 obtain ⟨aK,fA0,aJ⟩:=A0.o.q3;go_wp2_with fail;refine (qP.o _ _ HM.o).mono ?_;rintro e w1 ⟨rfl,hx⟩;clear aK fA0 aJ;replace HM:=kI (HM.o.ext hx);replace HV:=kI (HV.o.ext hx);replace A0:=kI (A0.o.ext hx);replace X:=kI (X.o.trans hx);clear hx qP;by_cases h1:c=0
 rotate_left
 ·have E:=kI (OM.o.trans (if_pos h1));go_wp2_with fail;refine (jF h1 _).mono ?_;rintro e w9 ⟨rfl,rfl⟩;exact aF rfl ⟨ik.bad h1 E.o,X.o⟩
 subst h1;go_wp2_with fail;refine (zg _).mono ?_;rintro e w9 ⟨rfl,rfl⟩;by_cases h2:vals.length=m.states.length
 rotate_left
 ·have E:=kI (show gJ m vals=16 by rw [OM.o,if_neg (fun h=>h rfl),if_pos h2]);have q2:((vals.length:Int) != (m.states.length:Int))=true:=bne_iff_ne.2 Z;clear h2;obtain ⟨aK,fA0,aJ⟩:=A0.o.q3;go_wp2_with fail;refine (jF (c:=16) ap _).mono ?_;rintro e w8 ⟨rfl,rfl⟩;exact aF rfl ⟨ik.bad ap E.o,X.o⟩
 have E:=kI (show gJ m vals=0 by rw [OM.o,if_neg (fun h=>h rfl),if_neg (fun h=>h h2)]);have q2:((vals.length:Int) != (m.states.length:Int))=false:=by rw [h2];simp
 have OO:=HVD.o Mn;have Ck:vals.length≤1000000:=Z
 have Tq:=kI Ck;have XS:=kI X.o.size;clear h2 OO Ck;obtain ⟨aK,fA0,aJ⟩:=A0.o.q3;go_wp2_with fail;refine (yZ _ vals _ HV.o Tq.o Br.o).mono ?_;rintro e w2 ⟨⟨v,rfl,ho⟩,hx⟩;clear aK fA0 aJ;replace HM:=kI (HM.o.ext hx);replace HV:=kI (HV.o.ext hx);replace A0:=kI (A0.o.ext hx);replace X:=kI (X.o.trans hx);have OW:=kI (ho.mono XS.o);clear ho hx;go_wp2_with fail;go_ret;exact ⟨ik.ok E.o OW.o,X.o⟩
section
open Go.RowKit Go.ChangeShapes Go.WideShapes Go.ChangeAt Go.Deep
theorem oL {α:Type} (d:α):∀ (n:Nat) (P:Nat→α→Prop),(∀ i,i < n→∃ x,P i x)→∃ l:List α,l.length=n∧∀ i,i < n→P i (l.getD i d)
 | 0,_,_=>⟨[],rfl,fun i h=>by omega⟩
 | n+1,P,h=>by
  obtain ⟨l,h1,h2⟩:=oL d n P (fun i hi=>h i Z);obtain ⟨x,hx⟩:=h n Z;refine ⟨l ++ [x],by simp [h1],fun i hi=>?_⟩;by_cases e:i=n
  ·subst e;rw [List.getD_eq_getElem?_getD,List.getElem?_append_right Z,h1,Nat.sub_self];exact hx
  ·rw [List.getD_eq_getElem?_getD,List.getElem?_append_left Z,← List.getD_eq_getElem?_getD];exact h2 i Z
theorem CK {α:Type} {l:List α} (h:l.length=2):∃ a b,l=[a,b]:=by match l,h with|[a,b],_=>exact ⟨a,b,rfl⟩
theorem CL {α:Type} {l:List α} (h:l.length=4):∃ a b c d,l=[a,b,c,d]:=by match l,h with|[a,b,c,d],_=>exact ⟨a,b,c,d,rfl⟩
theorem Tryz.zh:Tryz.prog.cellsOf 3=1:=ax
theorem Tryz.zi:Tryz.prog.cellsOf 80=4:=ax
theorem Tryz.CM:Tryz.prog.cellsOf 81=1:=ax
theorem Tryz.zj:Tryz.prog.cellsOf 83=4:=ax
theorem Tryz.CN:Tryz.prog.cellsOf 84=1:=ax
theorem Tryz.Aq:Tryz.prog.cellsOf 26=1:=ax
theorem Tryz.Ga:Tryz.prog.cellsOf 28=4:=ax
section
variable {H:Type} {enc:TypeId × Value→H} {w:World} {base:Nat} {spare:Nat→Bool} {held:Bool}
theorem EK {n:Nat} {cs:List Value} {x:DataW H × List MemPlace} (h:DataW.trod enc Tryz.prog w base spare held n 53 cs=some x):∃ v l,cs=[v]∧bj .i64 w v l:=by
 obtain ⟨v',l,hcs,hr⟩:=nz (m:=1) (f:=fun x:Int=>[Value.int .i64 x]) Tryz.underlying53 Tryz.zh Z (fun _=>rfl)
  (fun n cs x hx=>by obtain ⟨a,e0,_⟩:=DataW.trod_int Tryz.underlying3 hx;exact ⟨a,e0⟩) h
 exact ⟨v',l,hcs,pp hr⟩
theorem vg {n:Nat} {cs:List Value} {x:DataW H × List MemPlace} (h:DataW.trod enc Tryz.prog w base spare held n 80 cs=some x) :
  ∃ (t:Int) (b:Bool) (v u:Value) (l m:List Int),cs=[.int .i64 t,.bool b,v,u]∧bj .u32 w v l∧br l∧bj .u32 w u m∧br m:=by
 obtain ⟨xs,m,_,_,hl,hx,hf⟩:=DataW.trod_struct Tryz.underlying80 h;obtain ⟨c0,c1,c2,c3,rfl⟩:=CL (hl.trans Tryz.zi);obtain ⟨y0,y1,rfl⟩:=CK hx;have h0:=hf 0 _ rfl;have h1:=hf 1 _ rfl;simp [Tryz.zh,Tryz.sY] at h0 h1;obtain ⟨t,e0,_⟩:=DataW.trod_int Tryz.underlying3 h0;obtain ⟨b,v,u,l,m,e1,k1,k2,k3,k4⟩:=mh h1;simp at e0 e1;exact ⟨t,b,v,u,l,m,by rw [e0,e1.1,e1.2.1,e1.2.2],k1,k2,k3,k4⟩
theorem ti {n:Nat} {cs:List Value} {x:DataW H × List MemPlace} (h:DataW.trod enc Tryz.prog w base spare held n 81 cs=some x):∃ v l,cs=[v]∧fx w v l∧∀ i,aC (l.getD i dO).2:=by
 obtain ⟨a,len,cap,rfl,h1,h2,h3⟩:=jq (m:=4) (Pp:=fun cs=>∃ (t:Int) (b:Bool) (v u:Value) (l m:List Int),cs=[.int .i64 t,.bool b,v,u]∧bj .u32 w v l∧br l∧bj .u32 w u m∧br m) Tryz.underlying81 Tryz.zi Z
  (fun n cs x hx=>by
   refine ⟨vg hx,?_⟩;obtain ⟨t,b,v,u,l,m,e,_⟩:=vg hx;rw [e];rfl) h
 obtain ⟨g,hg,hP⟩:=oL dO len (fun i c=>(∃ b off a1 c1 a2 c2,a=some ⟨b,off,none⟩∧rM w b (off+i*4) c a1 c1 a2 c2)∧aC c.2) (fun i hi=>by
  obtain ⟨b,off,es,e1,e2,⟨t,bb,v,u,l,m,e3,e4,e5,e6,e7⟩,_,e9⟩:=h3 i hi;obtain ⟨a1,c1,rfl⟩:=az e4;obtain ⟨a2,c2,rfl⟩:=az e6;subst e3;exact ⟨(t,⟨bb,l,m⟩),⟨b,off,a1,c1,a2,c2,e1,e2,e9 0 Z,e9 1 Z,e9 2 Z,e9 3 Z,⟨_,_,rfl,e4,e6⟩⟩,e5,e7⟩)
 refine ⟨_,g,rfl,⟨a,cap,by rw [hg],by omega,h2,fun i hi=>(hP i Z).1⟩,fun i=>?_⟩;by_cases hi:i < len
 ·exact (hP i hi).2
 ·rw [List.getD_eq_getElem?_getD,List.getElem?_eq_none Z];exact aT
theorem vh {n:Nat} {cs:List Value} {x:DataW H × List MemPlace} (h:DataW.trod enc Tryz.prog w base spare held n 83 cs=some x) :
  ∃ (b:Bool) (v u o:Value) (l m:List Int) (os:List Out),cs=[.bool b,v,u,o]∧bj .u32 w v l∧br l∧bj .u32 w u m∧br m∧fx w o os∧∀ i,aC (os.getD i dO).2:=by
 obtain ⟨xs,m,_,_,hl,hx,hf⟩:=DataW.trod_struct Tryz.underlying83 h;obtain ⟨c0,c1,c2,c3,rfl⟩:=CL (hl.trans Tryz.zj);obtain ⟨y0,y1,rfl⟩:=CK hx;have h0:=hf 0 _ rfl;have h1:=hf 1 _ rfl;simp [Tryz.CM,Tryz.sY] at h0 h1;obtain ⟨b,v,u,l,m,e0,k1,k2,k3,k4⟩:=mh h0;obtain ⟨o,os,e1,k5,k6⟩:=ti h1;simp at e0 e1;exact ⟨b,v,u,o,l,m,os,by rw [e0.1,e0.2.1,e0.2.2,e1],k1,k2,k3,k4,k5,k6⟩
theorem tj {n:Nat} {cs:List Value} {x:DataW H × List MemPlace} (h:DataW.trod enc Tryz.prog w base spare held n 84 cs=some x):∃ v l,cs=[v]∧iL w v l∧∀ a,qO (l.getD a dA):=by
 obtain ⟨a,len,cap,rfl,h1,h2,h3⟩:=jq (m:=4) (Pp:=fun cs=>∃ (b:Bool) (v u o:Value) (l m:List Int) (os:List Out),cs=[.bool b,v,u,o]∧bj .u32 w v l∧br l∧bj .u32 w u m∧br m∧fx w o os∧∀ i,aC (os.getD i dO).2) Tryz.underlying84 Tryz.zj Z
  (fun n cs x hx=>by
   refine ⟨vh hx,?_⟩;obtain ⟨b,v,u,o,l,m,os,e,_⟩:=vh hx;rw [e];rfl) h
 obtain ⟨g,hg,hP⟩:=oL dA len (fun i c=>(∃ b off a1 c1 a2 c2 a3 c3,a=some ⟨b,off,none⟩∧nM w b (off+i*4) c a1 c1 a2 c2 a3 c3)∧qO c) (fun i hi=>by
  obtain ⟨b,off,es,e1,e2,⟨bb,v,u,o,l,m,os,e3,e4,e5,e6,e7,e8,e10⟩,_,e9⟩:=h3 i hi;obtain ⟨a1,c1,rfl⟩:=az e4;obtain ⟨a2,c2,rfl⟩:=az e6;obtain ⟨a3,c3,rfl,_⟩:=e8.shape;subst e3;exact ⟨⟨⟨bb,l,m⟩,os⟩,⟨b,off,a1,c1,a2,c2,a3,c3,e1,⟨e2,e9 0 Z,e9 1 Z,e9 2 Z,⟨_,_,rfl,e4,e6⟩⟩,e9 3 Z,e8⟩,⟨e5,e7⟩,e10⟩)
 refine ⟨_,g,rfl,⟨a,cap,by rw [hg],by omega,h2,fun i hi=>(hP i Z).1⟩,fun i=>?_⟩;by_cases hi:i < len
 ·exact (hP i hi).2
 ·rw [List.getD_eq_getElem?_getD,List.getElem?_eq_none Z];exact ⟨aT,fun i=>by cases i <;> exact aT⟩
theorem pO {n:Nat} {cs:List Value} {x:DataW H × List MemPlace} (h:DataW.trod enc Tryz.prog w base spare held n 26 cs=some x):∃ v g,cs=[v]∧oh w v g∧∀ s a,qO ((g.getD s []).getD a dA):=by
 obtain ⟨a,len,cap,rfl,h1,h2,h3⟩:=jq (m:=1) (Pp:=fun cs=>∃ (v:Value) (l:List bg),cs=[v]∧iL w v l∧∀ a,qO (l.getD a dA)) Tryz.underlying26 Tryz.CN Z
  (fun n cs x hx=>by
   obtain ⟨v,l,e,hr⟩:=tj hx;exact ⟨⟨v,l,e,hr⟩,by rw [e];rfl⟩) h
 obtain ⟨g,hg,hP⟩:=oL ([]:List bg) len (fun i c=>(∃ b off ai ci,a=some ⟨b,off,none⟩∧Ag w b (off+i) c ai ci)∧∀ a,qO (c.getD a dA)) (fun i hi=>by
  obtain ⟨b,off,es,e1,e2,⟨v,l,e3,e4,e5⟩,_,e6⟩:=h3 i hi;obtain ⟨ai,ci,rfl,_⟩:=e4.shape;subst e3;exact ⟨l,⟨b,off,ai,ci,e1,e2,by have:=e6 0 Z;simpa using this,e4⟩,e5⟩)
 refine ⟨_,g,rfl,⟨a,cap,by rw [hg],by omega,h2,fun i hi=>(hP i Z).1⟩,fun s b=>?_⟩;by_cases hi:s < len
 ·exact (hP s hi).2 b
 ·rw [List.getD_eq_getElem?_getD (l:=g),List.getElem?_eq_none Z];exact ⟨aT,fun i=>by cases i <;> exact aT⟩
/-- A process of the arguments. -/
theorem CO {r:Reach} {b0:Nat} {v:Value} {d:DataW H} {p:List MemPlace} (hv:Value.okWide Tryz.prog w r b0 28 v) (h:DataW.Trod enc Tryz.prog w base spare held 28 v d p) :
  ∃ m:MD,eY w v m∧iY m:=by
 obtain ⟨cs,rfl,_⟩:=okWide_struct Tryz.underlying28 hv;obtain ⟨n,hf⟩:=h;obtain ⟨xs,m,_,_,hl,hx,hf⟩:=DataW.trod_struct Tryz.underlying28 hf;obtain ⟨c0,c1,c2,c3,hcs⟩:=CL (hl.trans Tryz.Ga);obtain ⟨y0,y1,rfl⟩:=CK hx;have h0:=hf 0 _ rfl;have h1:=hf 1 _ rfl;have hcs':cs.toList=[c0,c1,c2,c3]:=hcs;simp [Value.cells,hcs',Tryz.Aq,Tryz.sY] at h0 h1;obtain ⟨b,v,u,l,m,e0,k1,k2,k3,k4⟩:=mh h0;obtain ⟨o,g,e1,k5,k6⟩:=pO h1;simp at e0 e1;obtain ⟨a1,d1,rfl⟩:=az k1;obtain ⟨a2,d2,rfl⟩:=az k3;obtain ⟨a3,d3,rfl,_⟩:=k5.shape;refine ⟨⟨⟨b,l,m⟩,g⟩,⟨a1,d1,a2,d2,a3,d3,?_,⟨_,_,rfl,k1,k3⟩,k5⟩,⟨k2,k4⟩,k6⟩;rw [← Array.toArray_toList (xs:=cs),hcs',e0.1,e0.2.1,e0.2.2,e1]
end
end
section
def vi (a b:RR):Bool:=decide ((cA a b).1 < 0)
theorem zk {a b:RR} (ha:aA a=0) (hb:aA b=0):vi a b=decide (qv a < qv b):=by
 have hc:cA a b=(eu (qv a) (qv b),0):=by unfold cA;rw [if_pos (dz ha hb)]
 unfold vi;rw [hc];refine decide_eq_decide.2 ?_;show eu (qv a) (qv b) < 0↔_;unfold eu;split
 ·rename_i h;exact ⟨fun _=>h,fun _=>by decide⟩
 ·rename_i h;constructor
  ·intro e;split at e <;> omega
  ·intro e;exact absurd e h
theorem kS (va vb:Value) (ra rb:RR) (w:World) (ha:bh w va ra) (hb:bh w vb rb) (la:aC ra) (lb:aC rb) :
  Calls Tryz.prog 148 #[va,vb] w fun e w'=>e=.returned (.bool (vi ra rb))∧Ext w w':=by
 have hcm:=fun W (x:Ext w W)=>fi va vb ra rb W (ha.ext x) (hb.ext x) la lb;unfold vi;obtain ⟨c,hcc⟩:=gN (cA ra rb);rw [← hcc] at hcm ⊢;obtain ⟨c1,c2⟩:=c;dsimp only at hcm ⊢;obtain ⟨a1,a2,a3,a4,rfl⟩:=ha.shape;obtain ⟨b1,b2,b3,b4,rfl⟩:=hb.shape;have HC:=kI hcm;have X0:=kI (((Ext.refl w).alloc (.cells #[.bool ra.neg,.slice a1 ra.num.length a2,.slice a3 ra.den.length a4] 25)).alloc (.cells #[.bool rb.neg,.slice b1 rb.num.length b2,.slice b3 rb.den.length b4] 25));clear hcm hcc ha hb la lb;go_enter Tryz.func148,Tryz.ntmps148
 go_wp2_with fail;refine (HC.o _ X0.o).mono ?_;rintro e w1 ⟨rfl,hx⟩;have X1:=kI (X0.o.trans hx);clear hx;go_wp2_with fail;go_ret;exact ⟨rfl,X1.o⟩
theorem vj {l:List RR}:∀ {k:Nat},0 < k→it l k < k
 | 0,h=>by omega
 | k+1,_=>by
  unfold it;split
  ·omega
  ·rcases Nat.eq_zero_or_pos k with h0|h0
   ·subst h0;exact Nat.zero_lt_one
   ·have:=vj (l:=l) h0;omega
theorem jG (l:List RR) (k n:Nat) (h:k≤n) (hn:0 < n):it l k < n:=by
 rcases Nat.eq_zero_or_pos k with h0|h0
 ·subst h0;exact hn
 ·have:=vj (l:=l) h0;omega
theorem Ar (v:Value) (l:List RR) (w:World) (h:cH w v l) (hl:dm l) (hv:∀ i,i < l.length→aA (l.getD i zR)=0) :
  Calls Tryz.prog 147 #[v,.func (.func 148) #[] #[]] w fun e w'=>e=.returned (.int .i64 (jB l))∧Ext w w':=by
 obtain ⟨a,c,rfl,hc,hm,_⟩:=h.get;have hll:l.length≤9223372036854775807:=Z
 have HR:=kI h;have HL:=kI hl;have HV:=kI hv;clear h hl hv hc hm;have X:=kI (Ext.refl w);go_enter Tryz.func147,Tryz.ntmps147
 go_wp2_with fail;go_loopw [5,9] (fun b i wr=>∃ k:Nat,k≤l.length∧i=.int .i64 k∧b=.int .i64 (it l k)∧Ext w wr) (fun _ i _=>l.length - (intOf i).toNat)
 case atStart=>exact ⟨0,by omega,rfl,rfl,Ext.refl _⟩
 case round=>
  obtain ⟨wk,hwk⟩:=gN (wr);subst hwk;obtain ⟨k,hk,rfl,rfl,hx⟩:=hrel;have XK:=kI hx;have HW:=kI (HR.o.ext hx);clear hx;by_cases hlt:k < l.length
  ·have hb:=jG l k l.length hk Z;have hst:it l (k+1)=if qv (l.getD k zR) < qv (l.getD (it l k) zR) then k else it l k:=rfl;obtain ⟨j,hj⟩:=gN (it l k);rw [← hj] at hb hst ⊢;obtain ⟨b,off,a1,c1,a2,c2,ea,z0,z1,z2,z3,z4⟩:=HW.o.at hlt;obtain ⟨b',off',a3,c3,a4,c4,eb,y0,y1,y2,y3,y4⟩:=HW.o.at hb;rw [ea] at eb;injection eb with eb
   injection eb with Iq Oq
   subst Iq;subst Oq;subst ea;have hl1:=HL.o k;have hl2:=HL.o j;have hlo:=zk (HV.o k hlt) (HV.o j hb);obtain ⟨r,hr⟩:=gN (l.getD k zR);obtain ⟨s,hs⟩:=gN (l.getD j zR);rw [← hr] at z1 z2 z3 z4 hl1 hlo hst;rw [← hs] at y1 y2 y3 y4 hl2 hlo hst;have NR:=kI z4;have NS:=kI y4;have H1:=kI hl1;have H2:=kI hl2;have Gb:=kI hlo;have HST:=kI hst;have HJ:=kI hj;have q1:(0:Int)≤(k:Int):=Z
   have q2:(k:Int) < (l.length:Int):=Z
   have q3:(0:Int)≤(j:Int):=Z
   have q4:(j:Int) < (l.length:Int):=Z
   clear z4 y4 hl1 hl2 hlo hst hr hs hj;go_wp2_with fail;refine eK 9 ax ax ?_;simp only [List.take_succ_cons,List.take_zero,List.drop_succ_cons,List.drop_zero];(repeat (go_big_quiet_step (fail)))
   refine wpQuiet_nil ?_;rintro w1 ⟨⟨_,hx1⟩,rfl⟩;(try dsimp only);replace XK:=kI (XK.o.trans hx1);clear z0 z1 z2 z3 y0 y1 y2 y3 HW;go_wp2_with fail;refine (kS _ _ r s w1 (NR.o.ext hx1) (NS.o.ext hx1) (H1.o hlt) (H2.o hb)).mono ?_;rintro e w2 ⟨rfl,hx⟩;replace XK:=kI (XK.o.trans hx);clear hx hx1;obtain ⟨q,hq⟩:=gN (vi r s);have HQ:=kI hq;rw [← hq];clear hq;cases q
   ·go_wp2_with fail;go_roundw
    case rel=>
     have hn:¬ qv r < qv s:=of_decide_eq_false (Gb.o.symm.trans HQ.o.symm);exact ⟨k+1,by omega,by go_num,by rw [HST.o,if_neg hn],XK.o⟩
    case measure=>simp [intOf];omega
   ·go_wp2_with fail;go_roundw
    case rel=>
     have hn:qv r < qv s:=of_decide_eq_true (Gb.o.symm.trans HQ.o.symm);exact ⟨k+1,by omega,by go_num,by rw [HST.o,if_pos hn],XK.o⟩
    case measure=>simp [intOf];omega
  ·obtain rfl:k=l.length:=Z
   have q1:¬ (l.length:Int) < (l.length:Int):=Z
   go_wp2_with fail;go_ret;exact ⟨rfl,XK.o⟩
structure Kq (m:Nat) (A B:World):Prop where
 kz:Kz m A B
 blk:∀ (i:Nat) (c:Array Value) (t:TypeId),ag A i c t→ag B i c t
theorem Kq.ext {m:Nat} {A B:World} (h:Ext A B):Kq m A B:=⟨.ext h,fun _ _ _ b=>b.ext h⟩
theorem Kq.kt {m:Nat} {A:World} {r:Loop} (o:Obj) (h:A.heap[m+1]?=some (.loop r)):Kq m A (A.putObj (m+1) o):=⟨.kt A o,fun i c t b=>by
 have e:i≠m+1:=fun e=>by subst e;unfold ag at b;rw [b] at h;cases h
 exact (World.putObj_heap_other e).trans b⟩
def Gc {α:Type} (R:World→World→Prop) (m:Nat) (I:List α→World→Prop) (Ix:Code→List α→World→Prop) (xs:List α) (W:World):Exit→Act→World→Prop
 | .normal,_,W'=>Kd m W W'∧R W W'∧I xs W'
 | .ret,_,W'=>Kd m W W'∧R W W'∧Ix .ret xs W'
 | .exit id,_,W'=>Kd m W W'∧R W W'∧Ix (.exit id) xs W'
 | _,_,_=>False
def pP {α:Type} (F:Fence) (n:Nat) (P:Program) (gf:Nat) (lb:Array Value) (R Ri:World→World→Prop) (encs:α→Array Value) (Nx:List α→α→World→Prop) (Fin:List α→Prop) (Pn:List α→List PanicEntry→Prop) (l:Nat) (W1:World):Prop:=
 ∀ (J Jx:List α→World→Prop),(∀ pre A B,J pre A→Ri A B→J pre B)→
  (∀ pre x W,J pre W→Nx pre x W→YieldAt F (n - 1) P l (encs x) W fun e W'=>R W W'∧((e=.returned (.bool true)∧J (pre ++ [x]) W')∨(e=.returned (.bool false)∧Jx (pre ++ [x]) W')))→
  J [] W1→CallsIn F n P gf (#[.func (.yield l) #[] #[]] ++ lb) W1 fun e W'=>((∃ v,e=.returned v)∧((∃ xs,Fin xs∧J xs W')∨∃ xs,Jx xs W'))∨∃ ch xs,e=.panicked ch∧Pn xs ch∧J xs W'
variable {F:Fence} {n:Nat} {P:Program}
theorem jH {α:Type} {g:Operand} {ps:Array Tmp} {assign body:Code} {Q:Exit→Act→World→Prop} {a:Act} {w:World}
  (hro:F.round=none) (h1:1≤n) {gf:Nat} {lb:Array Value} (hg:a.eval g=.func (.func gf) #[] lb) (hFg:F.fn gf) (eg:∀ args w,(callFunc gf args).run P w=.ok (.enter gf args) w)
  (R Ri:World→World→Prop) (hRi:∀ A B,Ri A B→w.heap.size+1 < A.heap.size→B.heap[w.heap.size]?=A.heap[w.heap.size]?∧B.heap[w.heap.size+1]?=A.heap[w.heap.size+1]?) (TU:∀ A B C,R A B→R B C→R A C) (hRk:∀ A B,w.heap.size≤A.heap.size→Kq w.heap.size A B→R A B) {encs:α→Array Value} {Nx:List α→α→World→Prop} {Fin:List α→Prop} {Pn:List α→List PanicEntry→Prop}
  (hseq:∀ W1,Ext w W1→pP F (n - 1) P gf lb R Ri encs Nx Fin Pn (w.heap.size+1) W1) (hps:∀ x,(encs x).size=ps.size)
  (I:List α→World→Prop) (Ix:Code→List α→World→Prop) (hI:∀ pre A B,I pre A→Kq w.heap.size A B→I pre B) (hIx:∀ c pre A B,Ix c pre A→Kq w.heap.size A B→Ix c pre B)
  (IX:∀ pre A B,I pre A→Ri A B→I pre B) (h0:I [] w)
  (Ax:List α→α→Act→World→Prop) (hAx:∀ pre x a1 A B,Ax pre x a1 A→Kq w.heap.size A B→Ax pre x a1 B)
  (hassign:∀ (l:Nat) (pre:List α) (x:α) (W:World) (K:Act→World→Prop),I pre W→Nx pre x W→w.heap.size+1 < W.heap.size→(∀ a1 W1,Ext W W1→Ax pre x a1 W1→K a1 W1)→
   assign.wpIn (F.inRound l) (n - 1 - 1) P (Exit.then K (fun _ _ _=>False)) { tmps:=(ps.zip (encs x)).foldl (fun t (p,v)=>t.setIfInBounds p v) a.tmps,defers:=[] } W)
  (hbody:∀ (l:Nat) (pre:List α) (x:α) (a1:Act) (W:World),Ax pre x a1 W→w.heap.size+1 < W.heap.size→body.wpIn (F.inRound l) (n - 1 - 1) P (Gc R w.heap.size I Ix (pre ++ [x]) W) a1 W)
  (hdone:∀ (xs:List α) (W:World),Fin xs→I xs W→W.heap[w.heap.size]?=some (.deferred (some []))→Q .normal { a with defers:={ target:=.collected w.heap.size,args:=#[] } :: a.defers } W)
  (hstop:∀ (c:Code) (xs:List α) (W:World),Ix c xs W→W.heap[w.heap.size]?=some (.deferred (some []))→c.wpIn F n P Q { a with defers:={ target:=.collected w.heap.size,args:=#[] } :: a.defers } W)
  (pQ:∀ (ch:List PanicEntry) (xs:List α) (W:World),Pn xs ch→I xs W→W.heap[w.heap.size]?=some (.deferred (some []))→Q (.panic ch) { a with defers:={ target:=.collected w.heap.size,args:=#[] } :: a.defers } W) :
  (Code.rangeFunc g ps assign body).wpIn F n P Q a w:=by
 refine wpIn_rangeFunc ?_;intro fn hfn;rw [hro];obtain ⟨rec,hrec⟩:∃ rec:LoopState→Option Code→Loop,rec=fun st pe=>{ state:=st,pending:=pe,fn,tmps:=a.tmps,params:=ps,assign,body,defers:=w.heap.size }:=⟨_,rfl⟩;obtain ⟨W1,hW1⟩:∃ W1,(w.alloc (.deferred (some []))).alloc (.loop (rec .ready none))=W1:=⟨_,rfl⟩;have hL1:W1.heap[w.heap.size+1]?=some (.loop (rec .ready none)):=by
  rw [← hW1];have:=World.alloc_heap_new (w.alloc (.deferred (some []))) (.loop (rec .ready none));rwa [World.size_alloc] at this
 have hK1:W1.heap[w.heap.size]?=some (.deferred (some [])):=by
  rw [← hW1];exact (Below.heap_alloc _ _ _ cp).trans (World.alloc_heap_new w _)
 have hx1:Ext w W1:=by rw [← hW1];exact ((Ext.refl w).alloc _).alloc _
 have hI1:I [] W1:=hI _ _ _ h0 (.ext hx1);refine ⟨w.heap.size+1,[{ target:=.collected w.heap.size,args:=#[] }],W1,{ target:=.fn (.func gf) lb,args:=#[.func (.yield (w.heap.size+1)) #[] #[]] },W1,gf,
  #[.func (.yield (w.heap.size+1)) #[] #[]] ++ lb,W1,?_,?_,?_,?_,fun _=>h1,?_⟩
 ·rw [← hW1,hrec];exact run_enterLoop_outer _ _ _ _ _
 ·simp only [resolve,hg];simp [go_sem]
 ·intro f' hf';simp [Target.leads] at hf';subst hf';exact hFg
 ·simp [invoke,go_sem,eg]
 ·refine (hseq W1 hx1
   (fun pre W=>I pre W∧W.heap[w.heap.size+1]?=some (.loop (rec .ready none))∧W.heap[w.heap.size]?=some (.deferred (some [])))
   (fun pre W=>∃ c,Ix c pre W∧W.heap[w.heap.size+1]?=some (.loop (rec .done (some c)))∧W.heap[w.heap.size]?=some (.deferred (some [])))
   (fun pre A B hs x=>⟨IX _ _ _ hs.1 x,(hRi _ _ x (Array.getElem?_eq_some_iff.1 hs.2.1).1).2.trans hs.2.1,(hRi _ _ x (Array.getElem?_eq_some_iff.1 hs.2.1).1).1.trans hs.2.2⟩)
   ?_ ⟨hI1,hL1,hK1⟩).mono ?_
  ·rintro pre x W ⟨hi,hl,hk⟩ hnx;have hlt:w.heap.size+1 < W.heap.size:=(Array.getElem?_eq_some_iff.1 hl).1;have hy:=run_yield (P:=P) (args:=encs x) hl (by rw [hrec];exact hps x);rw [hrec] at hy;refine ⟨fn,_,assign,body,hy,roundIn_of_wpIn hfn (hassign _ pre x W _ hi hnx hlt ?_)⟩;intro a1 V IY hax;have I1:=(IY.block _ (Array.getElem?_eq_some_iff.1 hl).1).trans hl;have SJ:=(IY.block _ (Array.getElem?_eq_some_iff.1 hk).1).trans hk;refine ⟨_,run_beginRound I1 (by rw [hrec]),?_⟩;have BB:w.heap.size+1 < V.heap.size:=(Array.getElem?_eq_some_iff.1 I1).1;have hl2:(V.putObj (w.heap.size+1) (.loop { rec .ready none with state:=.busy })).heap[w.heap.size+1]?=some (.loop { rec .ready none with state:=.busy }):=World.putObj_heap_same BB;have hk2:(V.putObj (w.heap.size+1) (.loop { rec .ready none with state:=.busy })).heap[w.heap.size]?=some (.deferred (some [])):=(World.putObj_heap_other Z).trans SJ;have hV1:R W (V.putObj (w.heap.size+1) (.loop { rec .ready none with state:=.busy })):=TU _ _ _ (hRk _ _ Z (Kq.ext IY)) (hRk _ _ (by have:=IY.size;omega) (Kq.kt _ I1));have fin:∀ (jump:Option Code) (W3:World),Kd w.heap.size (V.putObj (w.heap.size+1) (.loop { rec .ready none with state:=.busy })) W3→R (V.putObj (w.heap.size+1) (.loop { rec .ready none with state:=.busy })) W3→
     (Instr.endRound (w.heap.size+1) jump).run P W3=.ok (.bool jump.isNone) (W3.putObj (w.heap.size+1) (.loop (rec (if jump.isNone then .ready else .done) jump)))∧
     (W3.putObj (w.heap.size+1) (.loop (rec (if jump.isNone then .ready else .done) jump))).heap[w.heap.size+1]?=some (.loop (rec (if jump.isNone then .ready else .done) jump))∧
     (W3.putObj (w.heap.size+1) (.loop (rec (if jump.isNone then .ready else .done) jump))).heap[w.heap.size]?=some (.deferred (some []))∧
     R W (W3.putObj (w.heap.size+1) (.loop (rec (if jump.isNone then .ready else .done) jump))):=fun jump W3 hk3 hb3=>by
    have hl3:=hk3.2.2.trans hl2;have hlt3:w.heap.size+1 < W3.heap.size:=(Array.getElem?_eq_some_iff.1 hl3).1;have:=run_endRound (P:=P) jump hl3;rw [hrec] at this ⊢;exact ⟨this,World.putObj_heap_same hlt3,(World.putObj_heap_other Z).trans (hk3.2.1.trans hk2),TU _ _ _ (TU _ _ _ hV1 hb3) (hRk _ _ Z (Kq.kt _ (hk3.2.2.trans hl2)))⟩
   refine wpIn_mono (hbody _ pre x a1 _ (hAx _ _ _ _ _ hax (Kq.kt _ I1)) (by simpa using BB)) ?_;rintro e a3 W3 hp;cases e with
   | normal=>
    obtain ⟨hk3,hb3,hi3⟩:=hp;obtain ⟨hr,hl4,hk4,hb4⟩:=fin none W3 hk3 hb3;exact ⟨_,_,hr,hb4,.inl ⟨rfl,hI _ _ _ hi3 (Kq.kt _ (hk3.2.2.trans hl2)),hl4,hk4⟩⟩
   | ret=>
    obtain ⟨hk3,hb3,hi3⟩:=hp;obtain ⟨hr,hl4,hk4,hb4⟩:=fin (some .ret) W3 hk3 hb3;exact ⟨_,_,hr,hb4,.inr ⟨rfl,.ret,hIx _ _ _ _ hi3 (Kq.kt _ (hk3.2.2.trans hl2)),hl4,hk4⟩⟩
   | exit id=>
    obtain ⟨hk3,hb3,hi3⟩:=hp;obtain ⟨hr,hl4,hk4,hb4⟩:=fin (some (.exit id)) W3 hk3 hb3;exact ⟨_,_,hr,hb4,.inr ⟨rfl,.exit id,hIx _ _ _ _ hi3 (Kq.kt _ (hk3.2.2.trans hl2)),hl4,hk4⟩⟩
   | goto t=>exact hp.elim
   | panic ch=>exact hp.elim
   | outgrown=>exact hp.elim
  ·rintro e W2 (⟨⟨v,rfl⟩,(⟨xs,hF,hi,hl,hk⟩|⟨xs,c,hi,hl,hk⟩)⟩|⟨ch,xs,rfl,hP,hi,hl,hk⟩)
   ·exact ⟨none,_,by have:=run_endLoop (P:=P) hl Q8;rw [hrec] at this;exact this,hdone xs _ hF (hI _ _ _ hi (Kq.kt _ hl)) ((World.putObj_heap_other Z).trans hk)⟩
   ·exact ⟨some c,_,by have:=run_endLoop (P:=P) hl Q8;rw [hrec] at this;exact this,hstop c xs _ (hIx _ _ _ _ hi (Kq.kt _ hl)) ((World.putObj_heap_other Z).trans hk)⟩
   ·exact pQ ch xs _ hP hi hk
structure gQ (n:Nat) (X:Nat→Prop) (A B:World):Prop where
 zero:Below 0 A B
 block:∀ i,i < A.heap.size→i < n→¬ X i→B.heap[i]?=A.heap[i]?
theorem gQ.refl (n:Nat) (X:Nat→Prop) (A:World):gQ n X A A:=⟨Below.refl _ _,fun _ _ _ _=>rfl⟩
theorem gQ.trans {n:Nat} {X:Nat→Prop} {A B C:World} (h:gQ n X A B) (k:gQ n X B C):gQ n X A C:=⟨h.zero.trans k.zero,fun i hi hn hL=>(k.block i (Nat.lt_of_lt_of_le hi h.zero.size) hn hL).trans (h.block i hi hn hL)⟩
theorem gQ.ext {n:Nat} {X:Nat→Prop} {A B:World} (h:Ext A B):gQ n X A B:=⟨h.mono (Nat.zero_le _),fun i hi _ _=>h.block i hi⟩
theorem gQ.kz {n m:Nat} {X:Nat→Prop} {A B:World} (hm:n≤m) (h:Kz m A B):gQ n X A B:=⟨h.zero,fun i hi hn _=>h.block i hi (.inl Z)⟩
theorem gQ.set {n:Nat} {X:Nat→Prop} {A B:World} (h:gQ n X A B) {o:Nat} (ho:X o∨n≤o) (p:Nat) (v:Value):gQ n X A (B.setCell ⟨o,p,none⟩ v):=
 ⟨h.zero.setCell (Nat.zero_le _) v,fun i hi hn hL=>(Below.heap_setCell B ⟨o,p,none⟩ v i (by
  dsimp only;intro e;subst e;rcases ho with ho|ho
  ·exact hL ho
  ·omega)).trans (h.block i hi hn hL)⟩
theorem gQ.mono {n:Nat} {X Y:Nat→Prop} {A B:World} (h:gQ n X A B) (k:∀ i,X i→Y i):gQ n Y A B:=⟨h.zero,fun i hi hn hY=>h.block i hi hn (fun hX=>hY (k i hX))⟩
theorem ag.xQ {n:Nat} {X:Nat→Prop} {A B:World} {b:Nat} {c:Array Value} {t:TypeId} (h:ag A b c t) (k:gQ n X A B) (hb:b < n) (hL:¬ X b):ag B b c t:=(k.block b h.lt hb hL).trans h
theorem gQ.below {n n0:Nat} {X:Nat→Prop} {A B:World} (h:gQ n X A B) (h1:∀ i,X i→n0≤i) (h2:n0≤n) (h3:n0≤A.heap.size):Below n0 A B:=
 ⟨h.zero.os,h.zero.tape,h.zero.output,h.zero.size,fun i hi=>h.block i Z Z (fun hX=>by have:=h1 i hX;omega)⟩
end
end Go.Proofs.YtnnjbaijcaiohaaGreat
