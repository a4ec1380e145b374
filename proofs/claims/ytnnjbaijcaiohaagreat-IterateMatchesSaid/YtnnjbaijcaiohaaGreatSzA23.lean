/- Walks and lemmas. -/
import Derived.Test.YtnnjbaijcaiohaaGreatSzA22
import Derived.Test.YtnnjbaijcaiohaaGreatSzA10
import Derived.Test.YtnnjbaijcaiohaaGreatSzA5
import Derived.Test.YtnnjbaijcaiohaaGreatSzA8
import Derived.Test.YtnnjbaijcaiohaaGreatSzA4
import Derived.WalkMore
set_option linter.unusedVariables false
set_option linter.unusedSimpArgs false
set_option maxRecDepth 100000
set_option maxHeartbeats 16000000
namespace Go.Proofs.YtnnjbaijcaiohaaGreat
open Go.RowKit
variable {a a0:Act} {listed:Array Bool} {T:Array Bool→World→Prop} {ops:Array Oper} {ps:Array Tmp} {args tmps:Array Value} {assign body:Code} {Q:Exit→Act→World→Prop} {F:Fence} {u:FrameMode} {f:FuncId} {c s:Int} {plan:List (List Int)} {ds:List Deferred} {l l1 l2 la lb lq:List Int} {rest:List Oper} {cs h vs xs:List Value} {An B C H L N b b0 bx c1 c2 cap d1 d2 fuel g i id j jn k m1 m2 n n1 n2 nf nn off xn y:Nat} {X:Nat→Prop} {oi om:Oper} {a1 a2 a3 xa:Option Addr} {P:Program} {R p p0 p1 p10 p11 p12 p13 p2 p3 p4 p5 p6 p7 p8 p9:Prop} {md:Region.Mode} {α:Type} {e t t1 t2 t3:TypeId} {lv v vb vr z:Value} {A W W' W0 w w' w0 w2 w3 w4 wB:World} {S S1 S2:World→Prop}
theorem nA (mv vv:Value) (m:MD) (vals:List RR) (w:World) (hm:dd w mv m) (hv:aT w vv vals) (hlm:eG m) (hlv:bQ vals) (hln:jE vals) :
  Calls Tryz.prog 20 #[mv,vv] w fun e w'=>kj w w' e (bT m vals)∧Ext w w':=by
 have hst:=fun W (h:dd W mv m) (k:aT W vv vals)=>mO mv vv m vals W h k hlm hln;have hun:=fun W pv p (h:dd W mv m) (hp:aY .i64 W pv p) (k:aT W vv vals)=>sI mv pv vv m p vals W h hp k hlm hlv;have hfi:=fun W (h:dd W mv m) (k:aT W vv vals) (e:cJ m vals=0)=>first_any mv vv m vals W h k hlm hlv e;have hS1:=fun c=>xM (m:=m) (v:=vals) (c:=c);have HM:=kI hm;have HV:=kI hv;obtain ⟨m1,n1,m2,n2,m3,n3,rfl,hmd,hss⟩:=hm;obtain ⟨av,cv,rfl,-,-,-⟩:=hv.get;obtain ⟨c1,hc1⟩:=gN (cJ m vals);rw [← hc1] at hst hS1;obtain ⟨uL,Kt,HST,zP,HFI,Eo⟩:=od hc1 hss hst hun hfi hS1;clear hv hst hun hfi hlm hlv hln hc1 hS1 hmd hss;have bb0:=(((af.new w #[.bool m.ag.neg,.slice m1 m.ag.num.length n1,.slice m2 m.ag.den.length n2,.slice m3 m.states.length n3] 28).alloc (.cells #[.slice none 0 0] 36)).alloc (.cells #[.int .i64 0] 37));have bb1:=((af.new (w.alloc (.cells #[.bool m.ag.neg,.slice m1 m.ag.num.length n1,.slice m2 m.ag.den.length n2,.slice m3 m.states.length n3] 28)) #[.slice none 0 0] 36).alloc (.cells #[.int .i64 0] 37));have bb2:=(af.new ((w.alloc (.cells #[.bool m.ag.neg,.slice m1 m.ag.num.length n1,.slice m2 m.ag.den.length n2,.slice m3 m.states.length n3] 28)).alloc (.cells #[.slice none 0 0] 36)) #[.int .i64 0] 37);rw [World.size_alloc] at bb1;rw [World.size_alloc,World.size_alloc] at bb2;have x0:Ext w (((w.alloc (.cells #[.bool m.ag.neg,.slice m1 m.ag.num.length n1,.slice m2 m.ag.den.length n2,.slice m3 m.states.length n3] 28)).alloc (.cells #[.slice none 0 0] 36)).alloc (.cells #[.int .i64 0] 37)):=((((Ext.refl w).alloc _).alloc _).alloc _);obtain ⟨A0,A1,A2,X⟩:=dW bb0 bb1 bb2 x0;clear x0 bb0 bb1 bb2;have hmf:∀ (fn:Fn) (first cap:Array Value) (w:World),(Instr.makeFunc fn first cap).run Tryz.prog w=.ok (.func fn first cap) w:=fun _ _ _ _=>rfl;have WA:Hid (w.heap.size≤w.heap.size):=kI (Nat.le_refl _);go_enter_defers Tryz.func20,Tryz.ntmps20
 obtain ⟨aK,fA0,aJ⟩:=A0.o.q3;go_wp2_with fail;clear aK fA0 aJ;clear hmf;obtain ⟨wl,hwl⟩:=gN ((((w.alloc (.cells #[.bool m.ag.neg,.slice m1 m.ag.num.length n1,.slice m2 m.ag.den.length n2,.slice m3 m.states.length n3] 28)).alloc (.cells #[.slice none 0 0] 36)).alloc (.cells #[.int .i64 0] 37)));rw [← hwl] at A0 A1 A2 X ⊢;clear hwl;obtain ⟨An,hAn⟩:=gN (w.heap.size);rw [← hAn] at A0 A1 A2 ⊢;replace WA:Hid (w.heap.size≤An):=kI PG;have WE:=kI hAn;clear hAn;refine (HST.o wl (HM.o.ext X.o) (HV.o.ext X.o)).mono ?_;rintro e w1 ⟨he,hx⟩;replace A0:=A0.x hx;replace A1:=A1.x hx;replace A2:=A2.x hx;replace X:=X.x hx;clear hx;by_cases h1:c1=0
 rotate_left
 ·have E:=Eo.o c1 rfl h1;obtain rfl:=he.Ik h1;exact kF h1 ⟨rfl,rfl⟩ A1.o A2.o X.o WA.o E
 subst h1;have H0:=uL.o.symm;obtain ⟨ov,rfl,-⟩:=he.Ij;clear he;have hml:=bD (bU H0).1;have ZJ:m.states.length≤200:=hml.2.2.1;have HSV:=kI (fun s (hs:s < m.states.length)=>let q:=dm (hml.2.2.2 s hs);(show 0 < (m.states.getD s []).length∧(m.states.getD s []).length≤6 from ⟨Nat.pos_of_ne_zero q.1,q.2.1⟩));have UY:=(bU H0).2;have Cw:=kI H0;have am3:=kI UY;clear H0 hml UY;have S6:m.states.length≤9223372036854775807:=by omega
 obtain ⟨aK,fA0,aJ⟩:=A0.o.q3;obtain ⟨cT,cU,lA1⟩:=A1.o.q3;go_wp2_with (first|(at_make;(refine dB rfl _ _ rfl m.states.length rfl rfl Tryz.underlying36 Tryz.ij Z Z (List.replicate m.states.length (Value.slice none 0 0)).toArray (IZ _) ?_))|(at_make;(refine dB rfl _ _ rfl m.states.length rfl rfl Tryz.underlying53 Tryz.oy Z Z ((List.replicate m.states.length (0:Int)).map (Value.int .i64)).toArray (FE _) ?_)))
 clear aK fA0 aJ cT cU lA1;obtain ⟨L,hL⟩:=gN (w1.heap.size);rw [← hL];obtain ⟨w5,hw5⟩:=gN (((w1.setCell ⟨An+1,0,none⟩ (.slice (some ⟨L,0,none⟩) m.states.length m.states.length)).alloc (.cells (Array.replicate m.states.length (Value.slice none 0 0)) 29)).alloc (.cells (Array.replicate m.states.length (Value.int .i64 0)) 3));have hLA:An+1+1 < L:=by rw [hL];exact A2.o.lt
 have hwA:w.heap.size≤An:=WA.o;have hk0:=aB A1.o 0 (.slice (some ⟨L,0,none⟩) m.states.length m.states.length);have hxx:Ext (w1.setCell ⟨An+1,0,none⟩ (.slice (some ⟨L,0,none⟩) m.states.length m.states.length)) w5:=by rw [hw5];exact ((Ext.refl _).alloc _).alloc _
 have b0:=(A0.o.keeps hk0 ah).ext hxx;have b1:af w5 (An+1) #[(.slice (some ⟨L,0,none⟩) m.states.length m.states.length)] 36:=(A1.o.set 0 (.slice (some ⟨L,0,none⟩) m.states.length m.states.length)).ext hxx;have b2:=(A2.o.keeps hk0 ah).ext hxx;have eF:Ext w w5:=Ext.trans (Below.setCell X.o aD _) hxx;have bl:af w5 L (List.replicate m.states.length (Value.slice none 0 0)).toArray 29:=by
  have h:=(af.new (w1.setCell ⟨An+1,0,none⟩ (.slice (some ⟨L,0,none⟩) m.states.length m.states.length)) (Array.replicate m.states.length (Value.slice none 0 0)) 29).alloc (.cells (Array.replicate m.states.length (Value.int .i64 0)) 3);rw [World.size_setCell,← hL,← hw5] at h;simpa using h
 have bp:af w5 (L+1) ((List.replicate m.states.length (0:Int)).map (Value.int .i64)).toArray 3:=by
  have h:=af.new ((w1.setCell ⟨An+1,0,none⟩ (.slice (some ⟨L,0,none⟩) m.states.length m.states.length)).alloc (.cells (Array.replicate m.states.length (Value.slice none 0 0)) 29)) (Array.replicate m.states.length (Value.int .i64 0)) 3;rw [World.size_alloc,World.size_setCell,← hL,← hw5] at h;simpa using h
 have hr0:bR w.heap.size w5 L (List.replicate m.states.length (Value.slice none 0 0)) (fun t=>(bK m vals (m.states.getD t [])).take 0):=(bR.new bl Z).congr (fun t ht=>by rw [List.take_zero]);rw [← hw5];replace A0:=kI b0;replace A1:=kI b1;replace A2:=kI b2;replace X:=kI eF;have HR0:=kI hr0;have Oy:=kI bp;clear hw5 hk0 hxx b0 b1 b2 eF bl bp hr0 hL;go_loopw [26] (fun i wr=>∃ (a:Nat) (vs:List Value) (ps:List Int),a≤6∧i=.int .i64 a∧Ext w wr∧af wr An #[.bool m.ag.neg,.slice m1 m.ag.num.length n1,.slice m2 m.ag.den.length n2,.slice m3 m.states.length n3] 28∧af wr (An+1) #[(.slice (some ⟨L,0,none⟩) m.states.length m.states.length)] 36∧af wr (An+1+1) #[.int .i64 0] 37∧vs.length=m.states.length∧bR w.heap.size wr L vs (fun t=>(bK m vals (m.states.getD t [])).take a)∧ps.length=m.states.length∧af wr (L+1) (ps.map (Value.int .i64)).toArray 3∧(∀ s,s < m.states.length→∀ j,j < a→j < (m.states.getD s []).length→(aC m vals (m.act s j)).2=0)) (fun i _=>6 - (intOf i).toNat)
 case atStart=>exact ⟨0,_,_,by omega,rfl,X.o,A0.o,A1.o,A2.o,List.length_replicate ..,HR0.o,List.length_replicate ..,Oy.o,(fun s hs j hj=>by omega)⟩
 case round=>
  obtain ⟨wk,hwk⟩:=gN (wr);subst hwk;obtain ⟨a,vs,ps,ha,rfl,hx,b0,b1,b2,hvs,hra,hps,hpb,hok⟩:=hrel;replace X:=kI hx;replace A0:=kI b0;replace A1:=kI b1;replace A2:=kI b2;obtain ⟨RA,PB,OK,Vj,PSL⟩:=iR hra hpb hok hvs hps;clear hx b0 b1 b2 hra hpb hok HR0 Oy hvs hps;have END:Hid (∀ (tmps:Array Value) (W:World),Jl tmps An→Ext w W→af W (An+1) #[(.slice (some ⟨L,0,none⟩) m.states.length m.states.length)] 36→af W (An+1+1) #[.int .i64 0] 37→bR w.heap.size W L vs (fun t=>(bK m vals (m.states.getD t [])).take a)→(∀ s,s < m.states.length→(m.states.getD s []).length≤a)→Leaves Tryz.prog Tryz.f20 tmps (fun e w'=>kj w w' e (bT m vals)∧Ext w w') [zB An] .returning W):=kI (by
   intro tmps W ht hx b1 b2 hr hle;have hf:=(hr.congr (g:=fun t=>bK m vals (m.states.getD t [])) (fun t h=>jO (hle t (by rw [← Vj.o];exact h)))).fin (by have:=Vj.o;omega);rw [Vj.o] at hf;exact rZ ht b1 b2 hx WA.o hf (FI Cw.o (fun s hs j hj=>OK.o s hs j (Nat.lt_of_lt_of_le hj (hle s hs)) hj)))
  by_cases hlt:a < 6
  ·have S6a:(a:Int) < 6:=by omega
   obtain ⟨aK,fA0,aJ⟩:=A0.o.q3;go_wp2_with fail;clear aK fA0 aJ;go_loopw [32,8] (fun i b wr=>∃ (s:Nat) (bb:Bool) (qs:List Int),s≤m.states.length∧i=.int .i64 s∧b=.bool bb∧(bb=true↔∃ t,t < s∧a < (m.states.getD t []).length)∧qs.length=m.states.length∧(∀ t,t < s→qs.getD t 0=((min a ((m.states.getD t []).length - 1):Nat):Int))∧af wr (L+1) (qs.map (Value.int .i64)).toArray 3∧Ext w wr∧Keeps 0 3 wk wr) (fun i _ _=>m.states.length - (intOf i).toNat)
   case atStart=>exact ⟨0,false,_,by omega,rfl,rfl,(by constructor;(intro h;cases h);(rintro ⟨t,h,_⟩;omega)),PSL.o,(fun t h=>by omega),PB.o,X.o,Keeps.ext (Ext.refl _)⟩
   case round=>
    obtain ⟨wq,hwq⟩:=gN (wr);subst hwq;obtain ⟨s,bb,qs,hs,rfl,rfl,hbb,hqs,hqv,hqb,hxq,hkq⟩:=hrel;obtain ⟨QS,QV,QB,XQ,KQ,BB⟩:=od hqs hqv hqb hxq hkq hbb;have JO:=kI (A0.o.keeps hkq ah);have Vk:=kI (A1.o.keeps hkq ah);have Vl:=kI (A2.o.keeps hkq ah);have RAq:=kI (RA.o.keeps hkq ah ah ah);clear hbb hqs hqv hqb hxq hkq;by_cases hsl:s < m.states.length
    ·obtain ⟨sb,so,ai,ci,rfl,t0,t1,-⟩:=(Kt.o.ext XQ.o).at hsl;have hl6:=HSV.o s hsl;obtain ⟨al,hal⟩:=gN ((m.states.getD s []).length);have xO:=kI hal;rw [← hal] at t1 hl6;have hl9:(al:Int)≤6:=by omega
     have hl1:(1:Int)≤(al:Int):=by omega
     have q1:(0:Int)≤(s:Int):=by omega
     have q2:(s:Int) < (m.states.length:Int):=by omega
     clear hal;have pl:=QB.o.lt;have pc:∃ u,wq.cell? ⟨L+1,s,none⟩=some (.int .i64 u):=⟨qs.getD s 0,by rw [QB.o.cell];simp [List.getD_eq_getElem?_getD];rw [List.getElem?_eq_getElem (by rw [QS.o];exact hsl)];simp⟩;obtain ⟨pu,hpu⟩:=pc;have pf:=QB.o.free s;have NEXT:Hid (∀ (x:Bool),(x=true↔(bb=true∨a < al))→(x=true↔∃ t,t < s+1∧a < (m.states.getD t []).length)):=kI (fun x hx=>by
      rw [hx,BB.o];constructor
      ·rintro (⟨t,h1,h2⟩|h)
       ·exact ⟨t,by omega,h2⟩
       ·exact ⟨s,by omega,by rw [← xO.o];exact h⟩
      ·rintro ⟨t,h1,h2⟩;by_cases e:t=s
       ·subst e;right;rw [xO.o];exact h2
       ·exact .inl ⟨t,by omega,h2⟩)
     have O9:Hid (∀ (mn:Int),mn=((min a (al - 1):Nat):Int)→∃ Bi:List Int,Bi.length=m.states.length∧(∀ t,t < s+1→Bi.getD t 0=((min a ((m.states.getD t []).length - 1):Nat):Int))∧af (wq.setCell ⟨L+1,s,none⟩ (.int .i64 mn)) (L+1) (Bi.map (Value.int .i64)).toArray 3∧Ext w (wq.setCell ⟨L+1,s,none⟩ (.int .i64 mn))∧Keeps 0 3 wk (wq.setCell ⟨L+1,s,none⟩ (.int .i64 mn))):=kI (fun mn hmn=>by
      refine ⟨qs.set s mn,by rw [List.length_set];exact QS.o,fun t ht=>?_,?_,Below.setCell XQ.o aD _,KQ.o.trans (aB QB.o s _)⟩
      ·by_cases e:t=s
       ·subst e;rw [List.getD_eq_getElem?_getD,List.getElem?_set_self (by rw [QS.o];exact hsl),hmn,xO.o];rfl
       ·rw [List.getD_eq_getElem?_getD,List.getElem?_set_ne (Ne.symm e),← List.getD_eq_getElem?_getD];exact QV.o t Z
      ·have:=QB.o.set s (.int .i64 mn);rw [List.map_set];simpa using this)
     by_cases hmin:a < al
     ·have qm:(a:Int) < (al:Int):=by omega
      have qn:(a:Int)≤(al:Int) - 1:=by omega
      have qk:min a (al - 1)=a:=by omega
      cases bb
      ·obtain ⟨uR,uS,uT⟩:=JO.o.q3;go_wp2_with fail;go_roundw
       case rel=>
        obtain ⟨Bi,e1,e2,e3,e4,e5⟩:=O9.o (min (a:Int) ((al:Int) - 1)) Z;exact ⟨s+1,_,Bi,by omega,by go_num,rfl,NEXT.o _ (by simp <;> omega),e1,e2,e3,e4,e5⟩
       case measure=>simp [intOf];omega
      ·obtain ⟨uR,uS,uT⟩:=JO.o.q3;go_wp2_with fail;go_roundw
       case rel=>
        obtain ⟨Bi,e1,e2,e3,e4,e5⟩:=O9.o (min (a:Int) ((al:Int) - 1)) Z;exact ⟨s+1,_,Bi,by omega,by go_num,rfl,NEXT.o _ (by simp <;> omega),e1,e2,e3,e4,e5⟩
       case measure=>simp [intOf];omega
     ·have qm:¬ (a:Int) < (al:Int):=by omega
      have qn:¬ (a:Int)≤(al:Int) - 1:=by omega
      have qk:min a (al - 1)=al - 1:=by omega
      cases bb
      ·obtain ⟨uR,uS,uT⟩:=JO.o.q3;go_wp2_with fail;go_roundw
       case rel=>
        obtain ⟨Bi,e1,e2,e3,e4,e5⟩:=O9.o (min (a:Int) ((al:Int) - 1)) Z;exact ⟨s+1,_,Bi,by omega,by go_num,rfl,NEXT.o _ (by simp <;> omega),e1,e2,e3,e4,e5⟩
       case measure=>simp [intOf];omega
      ·obtain ⟨uR,uS,uT⟩:=JO.o.q3;go_wp2_with fail;go_roundw
       case rel=>
        obtain ⟨Bi,e1,e2,e3,e4,e5⟩:=O9.o (min (a:Int) ((al:Int) - 1)) Z;exact ⟨s+1,_,Bi,by omega,by go_num,rfl,NEXT.o _ (by simp <;> omega),e1,e2,e3,e4,e5⟩
       case measure=>simp [intOf];omega
    ·obtain rfl:s=m.states.length:=by omega
     have q6:¬ (m.states.length:Int) < (m.states.length:Int):=by omega
     have ae0:qs=iu m a:=by
      refine List.ext_getElem (by rw [iv];exact QS.o) (fun i h1 h2=>?_);have e1:=QV.o i (by rw [← QS.o];exact h1);rw [← uC (by rw [← QS.o];exact h1),List.getD_eq_getElem?_getD,List.getElem?_eq_getElem h1,List.getD_eq_getElem?_getD,List.getElem?_eq_getElem h2] at e1;exact e1
     subst ae0;cases bb
     ·obtain ⟨uR,uS,uT⟩:=JO.o.q3;obtain ⟨ae1,ae2,ae3⟩:=Vk.o.q3;obtain ⟨ae4,ae5,ae6⟩:=Vl.o.q3;go_wp2_with fail;clear uR uS uT ae1 ae2 ae3 ae4 ae5 ae6;obtain ⟨wf,hwf⟩:=gN ((wq.setCell ⟨An+1,0,none⟩ (.slice (some ⟨L,0,none⟩) m.states.length m.states.length)).setCell ⟨An+1+1,0,none⟩ (.int .i64 0));have hk1:=aB Vk.o 0 (.slice (some ⟨L,0,none⟩) m.states.length m.states.length);have hk2:=aB (Vl.o.setOther (a:=⟨An+1,0,none⟩) aD (.slice (some ⟨L,0,none⟩) m.states.length m.states.length)) 0 (.int .i64 0);have b1:af wf (An+1) #[(.slice (some ⟨L,0,none⟩) m.states.length m.states.length)] 36:=by rw [hwf];exact (Vk.o.set 0 (.slice (some ⟨L,0,none⟩) m.states.length m.states.length)).keeps hk2 ah
      have b2:af wf (An+1+1) #[.int .i64 0] 37:=by rw [hwf];exact (Vl.o.keeps hk1 ah).set 0 (.int .i64 0)
      have br:bR w.heap.size wf L vs (fun t=>(bK m vals (m.states.getD t [])).take a):=by rw [hwf];exact (RAq.o.keeps hk1 ah ah ah).keeps hk2 ah ah ah
      have bx:Ext w wf:=by rw [hwf];exact Below.setCell (Below.setCell XQ.o aD _) aD _
      rw [← hwf];clear hwf;exact END.o _ wf ⟨rfl,rfl⟩ bx b1 b2 br (fun t ht=>Nat.not_lt.1 (fun h=>by have:=BB.o.2 ⟨t,ht,h⟩;cases this))
     ·obtain ⟨uR,uS,uT⟩:=JO.o.q3;go_wp2_with fail;clear uR uS uT;have hrd:aY .i64 wq (.slice (some ⟨L+1,0,none⟩) m.states.length m.states.length) (iu m a):=cA (iu m a) _ QB.o (iv m a) (by rw [iv];omega);refine (zP.o wq _ _ (HM.o.ext XQ.o) hrd (HV.o.ext XQ.o)).mono ?_;clear hrd;rintro e w6 ⟨⟨v9,rfl,Ow⟩,hx⟩;have A0r:=JO.x hx;have A1r:=Vk.x hx;have A2r:=Vl.x hx;have XR:Hid (Ext w w6):=kI (XQ.o.trans hx);have RAr:=RAq.x hx;have PBr:=QB.x hx;have FR:Hid (∀ t,t < vs.length→∀ q,(vs.getD t undef).ownBlock=some q→v9.ownBlock≠some q):=kI (fun t ht q h1 h2=>by
       have g1:=(au.fx (RAq.o.row t ht) h1).2.2;have g2:=(au.fx Ow h2).2.1;omega)
      have Th:Hid (bm w.heap.size w6 v9 (aU m (iu m a) vals).1):=kI (bm.mono Ow XQ.o.size);obtain ⟨R,hR⟩:=gN (aU m (iu m a) vals);rw [← hR] at Th ⊢;have HRR:=kI hR;clear hx Ow hR;obtain ⟨xl,e9⟩:=R;dsimp only at Th ⊢;obtain ⟨s1,s2,rfl⟩:=Th.o.shape;by_cases h9:e9=0
      rotate_left
      ·have q9:(e9 != 0)=true:=by simpa using h9
       have hbk:li m vals≠0:=zv Cw.o (a:=a) (by rw [← HRR.o];exact h9);obtain ⟨ae7,ae8,ae9⟩:=A0r.o.q3;go_wp2_with fail;clear ae7 ae8 ae9;refine (HFI.o w6 (HM.o.ext XR.o) (HV.o.ext XR.o) Cw.o).mono ?_;rintro e w7 ⟨he,hx⟩;have he':e=.panicked [dC (li m vals)]:=by unfold r0 at he;rwa [if_neg hbk] at he
       subst he';(try simp +zetaDelta only [Exit.then,Exit.inBlock]);exact kF hbk ⟨rfl,rfl⟩ (A1r.o.ext hx) (A2r.o.ext hx) (XR.o.trans hx) WA.o (FH Cw.o rfl hbk)
      subst h9;have hu0:(aU m (iu m a) vals).2=0:=by rw [← HRR.o]
      have hgd:=xL Cw.o hu0;obtain ⟨hvl,hva⟩:=zw Cw.o hu0;rw [← HRR.o] at hvl hva;dsimp only at hvl hva;obtain ⟨GD,VA9,XLL⟩:=cC hgd hva hvl;rw [hvl];clear hgd hva hu0 HRR hvl;go_wp2_with fail;rw [XLL.o] at Th FR;go_loopw [69] (fun i wr=>∃ (s:Nat) (vt:List Value),s≤m.states.length∧i=.int .i64 s∧Ext w wr∧af wr An #[.bool m.ag.neg,.slice m1 m.ag.num.length n1,.slice m2 m.ag.den.length n2,.slice m3 m.states.length n3] 28∧af wr (An+1) #[(.slice (some ⟨L,0,none⟩) m.states.length m.states.length)] 36∧af wr (An+1+1) #[.int .i64 0] 37∧vt.length=m.states.length∧bR w.heap.size wr L vt (fun t=>(bK m vals (m.states.getD t [])).take (if t < s then a+1 else a))∧af wr (L+1) ((iu m a).map (Value.int .i64)).toArray 3∧bm w.heap.size wr (.slice s1 m.states.length s2) xl∧(∀ t,t < vt.length→∀ q,(vt.getD t undef).ownBlock=some q→((.slice s1 m.states.length s2):Value).ownBlock≠some q)) (fun i _=>m.states.length - (intOf i).toNat)
      case atStart=>exact ⟨0,vs,by omega,rfl,XR.o,A0r.o,A1r.o,A2r.o,Vj.o,RAr.o.congr (fun t ht=>by rw [if_neg (Nat.not_lt_zero t)]),PBr.o,Th.o,FR.o⟩
      case round=>
       obtain ⟨wj,qZ⟩:=gN (wr);subst qZ;obtain ⟨s,vt,hs,rfl,hx,b0,b1,b2,hvt,hrt,hpt,how,hfr⟩:=hrel;obtain ⟨XJ,Vm,A1j,A2j,VT,RT,PT,OWj,Vn⟩:=JF hx b0 b1 b2 hvt hrt hpt how hfr;clear hx b0 b1 b2 hvt hrt hpt how hfr;by_cases hsl:s < m.states.length
       ·obtain ⟨sb,so,ai,ci,rfl,t0,t1,-⟩:=(Kt.o.ext XJ.o).at hsl;obtain ⟨al,hal⟩:=gN ((m.states.getD s []).length);have xO:=kI hal;rw [← hal] at t1;have hl9:(al:Int)≤6:=by have:=(HSV.o s hsl).2;omega
        obtain ⟨gx,nx,cx,p1,d1,p2,d2,ex,hgx,y0,y1,y2,hel⟩:=OWj.o.atS (i:=s) (by rw [XLL.o];exact hsl);injection ex with f1 f2 f3
        subst f1;clear f2 f3;obtain ⟨rx,hrx⟩:=gN (xl.getD s zR);rw [← hrx] at y0 y1 y2 hel;have EL:=kI hel;have HRX:=kI hrx;have q1:(0:Int)≤(s:Int):=by omega
        have q2:(s:Int) < (m.states.length:Int):=by omega
        clear hal hel hrx;obtain ⟨af0,af1,af2⟩:=Vm.o.q3;by_cases hmin:a < al
        ·have qm:(a:Int) < (al:Int):=by omega
         go_wp2_with fail;clear af0 af1 af2;clear y0 y1 y2 t0 t1;have hsv:s < vt.length:=by rw [VT.o];exact hsl
         obtain ⟨ra,rc,Ti⟩:=(RT.o.row s hsv).shape;rw [if_neg (Nat.lt_irrefl s)] at Ti;obtain ⟨rn,hrn⟩:=gN (((bK m vals (m.states.getD s [])).take a).length);rw [← hrn] at Ti;have ern:rn=a:=by rw [hrn,List.length_take,cS,← xO.o];omega
         have cl:=RT.o.cell hsv;rw [Ti] at cl;obtain ⟨wb,hwb⟩:=gN (wj.alloc (.cells #[.bool rx.neg,.slice p1 rx.num.length d1,.slice p2 rx.den.length d2] 25));have hxb:Ext wj wb:=by rw [hwb];exact (Ext.refl wj).alloc _
         have hbb:af wb wj.heap.size #[.bool rx.neg,.slice p1 rx.num.length d1,.slice p2 rx.den.length d2] 25:=by rw [hwb];exact af.new _ _ _
         rw [← hwb];obtain ⟨bx,hbx⟩:=gN (wj.heap.size);rw [← hbx] at hbb ⊢;have clb:=(hxb.cell (p:=⟨L,s,none⟩) RT.o.blk.lt).trans cl;have XB:=XJ.x hxb;have MU:=Vm.x hxb;have zC:=A1j.x hxb;have MV:=A2j.x hxb;have RB:=RT.x hxb;have MW:=PT.x hxb;have Kp:=OWj.x hxb;have Vo:=EL.x hxb;obtain ⟨BX,CL,Tj,ERN,HRN⟩:=iR hbb clb Ti ern hrn;have BXN:=kI (fun q (hq:(vt.getD s undef).ownBlock=some q)=>(show q≠bx by have:=(au.fx (RT.o.row s hsv) hq).2.2;omega));clear hwb hxb hbb hbx cl clb Ti hrn ern;have ht:∀ l,T2 10 10 (fun W=>W.cell? ⟨An+1,0,none⟩=some (.slice (some ⟨L,0,none⟩) m.states.length m.states.length)∧W.cell? ⟨L,s,none⟩=some (.slice ra rn rc)∧W.cell? ⟨bx,0,none⟩=some (.bool rx.neg)∧W.cell? ⟨bx,1,none⟩=some (.slice p1 rx.num.length d1)∧W.cell? ⟨bx,2,none⟩=some (.slice p2 rx.den.length d2)) (fun W=>W.cell? ⟨An+1,0,none⟩=some (.slice (some ⟨L,0,none⟩) m.states.length m.states.length)∧W.cell? ⟨L,s,none⟩=some (.slice ra rn rc)∧W.cell? ⟨bx,0,none⟩=some (.bool rx.neg)∧W.cell? ⟨bx,1,none⟩=some (.slice p1 rx.num.length d1)∧W.cell? ⟨bx,2,none⟩=some (.slice p2 rx.den.length d2)) l wb.drew:=fun l=>T2.both ⟨zC.o.drew.cell 0,CL.o,BX.o.drew.cell 0,BX.o.drew.cell 1,BX.o.drew.cell 2⟩ ⟨zC.o.drew.cell 0,CL.o,BX.o.drew.cell 0,BX.o.drew.cell 1,BX.o.drew.cell 2⟩;refine dT (T:=T2 10 10 (fun W=>W.cell? ⟨An+1,0,none⟩=some (.slice (some ⟨L,0,none⟩) m.states.length m.states.length)∧W.cell? ⟨L,s,none⟩=some (.slice ra rn rc)∧W.cell? ⟨bx,0,none⟩=some (.bool rx.neg)∧W.cell? ⟨bx,1,none⟩=some (.slice p1 rx.num.length d1)∧W.cell? ⟨bx,2,none⟩=some (.slice p2 rx.den.length d2)) (fun W=>W.cell? ⟨An+1,0,none⟩=some (.slice (some ⟨L,0,none⟩) m.states.length m.states.length)∧W.cell? ⟨L,s,none⟩=some (.slice ra rn rc)∧W.cell? ⟨bx,0,none⟩=some (.bool rx.neg)∧W.cell? ⟨bx,1,none⟩=some (.slice p1 rx.num.length d1)∧W.cell? ⟨bx,2,none⟩=some (.slice p2 rx.den.length d2))) ak ?_
         refine sL 0 ?_;refine sL 1 ?_;refine sL 2 ?_;refine sL 3 ?_;refine sL 4 ?_;refine sL 5 ?_;refine sL 6 ?_;clear ht;refine xr [7] ?_;refine xc (fun K hK=>?_);go_simp;have hx:Ext wb (wb.alloc (.cells #[.bool rx.neg,.slice p1 rx.num.length d1,.slice p2 rx.den.length d2] 25)).drew:=((Ext.refl _).alloc _).drew;have bz:af (wb.alloc (.cells #[.bool rx.neg,.slice p1 rx.num.length d1,.slice p2 rx.den.length d2] 25)).drew wb.heap.size #[.bool rx.neg,.slice p1 rx.num.length d1,.slice p2 rx.den.length d2] 25:=(af.new _ _ _).drew;obtain ⟨wc,hwc⟩:=gN ((wb.alloc (.cells #[.bool rx.neg,.slice p1 rx.num.length d1,.slice p2 rx.den.length d2] 25)).drew);rw [← hwc] at hx bz ⊢;obtain ⟨nn,hnn⟩:=gN (wb.heap.size);rw [← hnn] at bz ⊢;have clc:=(hx.cell (p:=⟨L,s,none⟩) RB.o.blk.lt).trans CL.o;have N1:=kI bz;replace XB:=XB.x hx;replace MU:=MU.x hx;replace zC:=zC.x hx;replace MV:=MV.x hx;replace RB:=RB.x hx;replace MW:=MW.x hx;replace Kp:=Kp.x hx;replace Vo:=Vo.x hx;replace BX:=BX.x hx;replace CL:=kI clc;clear hx bz hwc hnn clc;refine hK.out _ _ (T2.both ⟨zC.o.cell 0,CL.o,BX.o.cell 0,BX.o.cell 1,BX.o.cell 2⟩ ⟨zC.o.cell 0,CL.o,BX.o.cell 0,BX.o.cell 1,BX.o.cell 2⟩) ?_;clear hK K;(try simp only [sP]);refine xr [8] ?_;refine xc (fun K hK=>?_);have hrow:=RB.o.row s Ug;rw [if_neg (Nat.lt_irrefl s),Tj.o] at hrow;have ROW:=kI hrow;clear hrow;rw [if_pos (aX rfl)];refine aZ wc _ _ _ rfl w.heap.size 25 (.agg #[.bool false,.slice none 0 0,.slice none 0 0]) 3 56 Tryz.underlying29 Tryz.dH rfl ah (fW.keeps ah) _ _ ROW.o rfl [.bool rx.neg,.slice p1 rx.num.length d1,.slice p2 rx.den.length d2] rfl iW rx Vo.o nn N1.o rfl (by have:=ERN.o;have:=HRN.o;omega) (by have:=ERN.o;have:=HRN.o;omega) XB.o.size ?_;intro g9 Bh wd hrow hgr hfr;have hkr:=ROW.o.kJ hgr;obtain ⟨ua,Vp⟩:=gN (Value.slice (some ⟨g9,0,none⟩) (((bK m vals (m.states.getD s [])).take a).length+1) Bh);have hub:ua.ownBlock=some g9:=by rw [Vp];rfl
         have hu1:∃ a n c,ua=.slice a n c:=⟨_,_,_,Vp⟩;rw [← Vp] at hrow ⊢;clear Vp;have Jm:wc.grownBy wd (vt.getD s undef).ownBlock:=by rw [Tj.o];exact hgr
         have hgrow:=RB.o.grow Ug Jm hrow hub (by rw [Tj.o];exact hfr);have Kr:bm w.heap.size wd (.slice (some ⟨gx,0,none⟩) m.states.length s2) xl:=bm.jd Kp.o Jm (by
          cases e9:((.slice (some ⟨gx,0,none⟩) m.states.length s2):Value).ownBlock with
          | none=>exact .inl rfl
          | some q=>exact .inr (fun e8=>Vn.o s Ug q e8.symm e9)) (fun q hq=>by
           rw [Tj.o] at hq;obtain ⟨⟨cur,h1⟩,h2,_⟩:=au.fx ROW.o hq;exact ⟨cur,h1,h2⟩)
         have Tk:∀ q,ua.ownBlock=some q→((.slice (some ⟨gx,0,none⟩) m.states.length s2):Value).ownBlock≠some q:=fun q hq e9=>by
          rw [hub] at hq;injection hq with hq
          subst hq;rcases hfr with h|h
          ·exact Vn.o s Ug g9 (by rw [Tj.o];exact h) e9
          ·have:=(au.fx Kp.o e9).2.2;omega
         have hxd:Ext w wd:=Below.trans XB.o (hkr.below XB.o.size);have hcl:wd.cell? ⟨L,s,none⟩=some (.slice ra rn rc):=((RB.o.blk.keeps hkr ah).cell s).trans ((RB.o.blk.cell s).symm.trans CL.o);replace XB:=kI hxd;replace MU:=kI (MU.o.keeps hkr ah);replace zC:=kI (zC.o.keeps hkr ah);replace MV:=kI (MV.o.keeps hkr ah);replace MW:=kI (MW.o.keeps hkr ah);replace Kp:=kI Kr;have GW:=kI hgrow;have FR9:=kI Tk;have BLL:=kI (RB.o.blk.keeps hkr ah);have UB:=kI hub;replace BX:Hid (af wd bx #[.bool rx.neg,.slice p1 rx.num.length d1,.slice p2 rx.den.length d2] 25):=kI ((Jm.block bx BX.o.lt (fun e=>BXN.o _ e.symm rfl)).trans BX.o);replace CL:=kI hcl;clear hrow hgr Jm hgrow Kr Tk hxd hfr N1 Vo ROW hub hcl hkr;refine hK.out _ _ (T2.both ⟨zC.o.cell 0,CL.o,BX.o.cell 0,BX.o.cell 1,BX.o.cell 2⟩ ⟨zC.o.cell 0,CL.o,BX.o.cell 0,BX.o.cell 1,BX.o.cell 2⟩) ?_;clear hK K;(try simp only [sP]);refine xr [9] ?_;refine xc (fun K hK=>?_);go_simp;refine hK.out _ _ (T2.both ⟨zC.o.cell 0,CL.o,BX.o.cell 0,BX.o.cell 1,BX.o.cell 2⟩ ⟨zC.o.cell 0,CL.o,BX.o.cell 0,BX.o.cell 1,BX.o.cell 2⟩) ?_;clear hK K;(try simp only [sP]);refine xr [10] ?_;refine xc (fun K hK=>?_);obtain ⟨ua1,ua2,ua3,rfl⟩:=hu1;have cl9:=CL.o;have fl9:=BLL.o.free s;have ll9:=BLL.o.lt;go_simp;refine hK.out _ _ ⟨fun h=>absurd h ah,fun h=>absurd h ah⟩ ?_;clear hK K cl9 fl9 ll9;(try simp only [sP]);refine eC ak ?_ _;refine ⟨rfl,?_⟩;have hk9:Keeps 0 29 wd (wd.setCell ⟨L,s,none⟩ (.slice ua1 ua2 ua3)):=aB BLL.o s _;have eF:Ext w (wd.setCell ⟨L,s,none⟩ (.slice ua1 ua2 ua3)):=Below.setCell XB.o aD _;replace XB:=kI eF;replace MU:=kI (MU.o.keeps hk9 ah);replace zC:=kI (zC.o.keeps hk9 ah);replace MV:=kI (MV.o.keeps hk9 ah);replace MW:=kI (MW.o.keeps hk9 ah);replace Kp:=kI (bm.keeps Kp.o hk9 ah ah);clear hk9 eF;go_wp2_with fail;go_roundw
         case rel=>
          refine ⟨s+1,vt.set s (.slice ua1 ua2 ua3),by omega,by go_num,XB.o,MU.o,zC.o,MV.o,by rw [List.length_set];exact VT.o,GW.o.congr (fun t ht=>?_),MW.o,Kp.o,fun t ht q hq=>?_⟩
          ·by_cases e:t=s
           ·subst e;rw [if_pos rfl,if_pos (Nat.lt_succ_self _),mP (by rw [← xO.o];exact hmin),HRX.o,VA9.o t hsl (by rw [← xO.o];exact hmin)];rfl
           ·rw [if_neg e];by_cases e2:t < s
            ·rw [if_pos e2,if_pos Z]
            ·rw [if_neg e2,if_neg Z]
          ·rw [List.length_set] at ht;by_cases e:t=s
           ·subst e;rw [List.getD_eq_getElem?_getD,List.getElem?_set_self ht] at hq;exact FR9.o q hq
           ·rw [List.getD_eq_getElem?_getD,List.getElem?_set_ne (Ne.symm e),← List.getD_eq_getElem?_getD] at hq;exact Vn.o t ht q hq
         case measure=>simp [intOf];omega
        ·have qm:¬ (a:Int) < (al:Int):=by omega
         go_wp2_with fail;go_roundw
         case rel=>
          have hxa:=(Ext.refl wj).alloc (.cells #[.bool rx.neg,.slice p1 rx.num.length d1,.slice p2 rx.den.length d2] 25);exact ⟨s+1,vt,by omega,by go_num,XJ.o.trans hxa,Vm.o.ext hxa,A1j.o.ext hxa,A2j.o.ext hxa,VT.o,(RT.o.ext hxa).congr (fun t ht=>by
           by_cases e:t=s
           ·subst e;rw [if_neg (Nat.lt_irrefl _),if_pos (Nat.lt_succ_self _),jO (a:=a) (by rw [← xO.o];omega),jO (a:=a+1) (by rw [← xO.o];omega)]
           ·by_cases e2:t < s
            ·rw [if_pos e2,if_pos Z]
            ·rw [if_neg e2,if_neg Z]),PT.o.ext hxa,bm.ext' OWj.o hxa,Vn.o⟩
         case measure=>simp [intOf];omega
       ·obtain rfl:s=m.states.length:=by omega
        have q6:¬ (m.states.length:Int) < (m.states.length:Int):=by omega
        go_wp2_with fail;go_roundw
        case rel=>
         refine ⟨a+1,vt,_,by omega,by go_num,XJ.o,Vm.o,A1j.o,A2j.o,VT.o,RT.o.congr (fun t ht=>by rw [if_pos (by rw [← VT.o];exact ht)]),iv m a,PT.o,fun s hs j hj hjl=>?_⟩;by_cases e:j=a
         ·subst e;exact GD.o s hs hjl
         ·exact OK.o s hs j Z hjl
        case measure=>simp [intOf];omega
  ·obtain rfl:a=6:=by omega
   obtain ⟨aK,fA0,aJ⟩:=A0.o.q3;obtain ⟨cT,cU,lA1⟩:=A1.o.q3;obtain ⟨ji,jk,lA2⟩:=A2.o.q3;go_wp2_with fail;clear aK fA0 aJ cT cU lA1 ji jk lA2;obtain ⟨wf,hwf⟩:=gN ((wk.setCell ⟨An+1,0,none⟩ (.slice (some ⟨L,0,none⟩) m.states.length m.states.length)).setCell ⟨An+1+1,0,none⟩ (.int .i64 0));have hk1:=aB A1.o 0 (.slice (some ⟨L,0,none⟩) m.states.length m.states.length);have hk2:=aB (A2.o.setOther (a:=⟨An+1,0,none⟩) aD (.slice (some ⟨L,0,none⟩) m.states.length m.states.length)) 0 (.int .i64 0);have b1:af wf (An+1) #[(.slice (some ⟨L,0,none⟩) m.states.length m.states.length)] 36:=by rw [hwf];exact (A1.o.set 0 (.slice (some ⟨L,0,none⟩) m.states.length m.states.length)).keeps hk2 ah
   have b2:af wf (An+1+1) #[.int .i64 0] 37:=by rw [hwf];exact (A2.o.keeps hk1 ah).set 0 (.int .i64 0)
   have br:bR w.heap.size wf L vs (fun t=>(bK m vals (m.states.getD t [])).take 6):=by rw [hwf];exact (RA.o.keeps hk1 ah ah ah).keeps hk2 ah ah ah
   have bx:Ext w wf:=by rw [hwf];exact Below.setCell (Below.setCell X.o aD _) aD _
   rw [← hwf];clear hwf;exact END.o _ wf ⟨rfl,rfl⟩ bx b1 b2 br (fun t ht=>(HSV.o t ht).2)
theorem MX {m:MD} {v:List RR} {p:List (List Int)} (h:cJ m v=c) (hc:c≠0):dU m v p=([],c):=by unfold dU;rw [h,if_pos hc]
theorem MY {m:MD} {v:List RR} {p:List (List Int)} (h:cJ m v=0) (h2:24 < p.length):dU m v p=([],4):=by unfold dU;rw [if_neg iw,if_pos h2]
theorem MZ {m:MD} {v:List RR} {p:List (List Int)} (h:cJ m v=0) (h2:¬ 24 < p.length) (h3:rB m v p p.length=c) (hc:c≠0):dU m v p=([],c):=by unfold dU;rw [if_neg iw,if_neg h2,h3,if_pos hc]
theorem M0 {m:MD} {v:List RR} {p:List (List Int)} (h:cJ m v=0) (h2:¬ 24 < p.length) (h3:rB m v p p.length=0):dU m v p=(cZ m v p p.length,0):=by unfold dU;rw [if_neg iw,if_neg h2,if_neg (by simpa using h3)]
theorem tg (mv vv pv:Value) (m:MD) (vals:List RR) (p:List (List Int)) (w:World) (hm:dd w mv m) (hv:aT w vv vals) (hp:dL w pv p) (hlm:eG m) (hlv:bQ vals) (hln:jE vals) :
  Calls Tryz.prog 19 #[mv,vv,pv] w fun e w'=>dN w w' e (dU m vals p)∧Ext w w':=by
 have hst:=fun W (h:dd W mv m) (k:aT W vv vals)=>mO mv vv m vals W h k hlm hln;have hun:=fun B W v (h:dd W mv m) (k:bm B W v vals) (g:dL W pv p) hB=>yX mv v pv m vals p B W h k g hlm hlv hB;have hP1:=fun c=>MX (m:=m) (v:=vals) (p:=p) (c:=c);have hP2:=MY (m:=m) (v:=vals) (p:=p);have hP3:=fun c=>MZ (m:=m) (v:=vals) (p:=p) (c:=c);have Vq:=M0 (m:=m) (v:=vals) (p:=p);obtain ⟨c1,hc1⟩:=gN (cJ m vals);obtain ⟨c2,hc2⟩:=gN (rB m vals p p.length);rw [← hc1] at hst hP1 hP2 hP3 Vq;rw [← hc2] at hun hP3 Vq;obtain ⟨HST,zP,Sg,HP2,Za,HP4,HM,HP,HV⟩:=JF hst hun hP1 hP2 hP3 Vq hm hp hv;obtain ⟨m1,n1,m2,n2,m3,n3,rfl,-,-⟩:=hm;obtain ⟨ap,cp,rfl,hpn⟩:=hp.shape;obtain ⟨av,cv,rfl,-,-,-⟩:=hv.get;clear hp hv hst hun hlm hlv hln hc1 hc2 hP1 hP2 hP3 Vq;have bb0:=(((af.new w #[.bool m.ag.neg,.slice m1 m.ag.num.length n1,.slice m2 m.ag.den.length n2,.slice m3 m.states.length n3] 28).alloc (.cells #[.slice none 0 0] 29)).alloc (.cells #[.int .i64 0] 37));have bb1:=((af.new (w.alloc (.cells #[.bool m.ag.neg,.slice m1 m.ag.num.length n1,.slice m2 m.ag.den.length n2,.slice m3 m.states.length n3] 28)) #[.slice none 0 0] 29).alloc (.cells #[.int .i64 0] 37));have bb2:=(af.new ((w.alloc (.cells #[.bool m.ag.neg,.slice m1 m.ag.num.length n1,.slice m2 m.ag.den.length n2,.slice m3 m.states.length n3] 28)).alloc (.cells #[.slice none 0 0] 29)) #[.int .i64 0] 37);rw [World.size_alloc] at bb1;rw [World.size_alloc,World.size_alloc] at bb2;have x0:Ext w (((w.alloc (.cells #[.bool m.ag.neg,.slice m1 m.ag.num.length n1,.slice m2 m.ag.den.length n2,.slice m3 m.states.length n3] 28)).alloc (.cells #[.slice none 0 0] 29)).alloc (.cells #[.int .i64 0] 37)):=((((Ext.refl w).alloc _).alloc _).alloc _);obtain ⟨A0,A1,A2,X⟩:=dW bb0 bb1 bb2 x0;clear x0 bb0 bb1 bb2;have SM:=HM;have Oy:=HP;replace HM:=kI (HM.o.ext X.o);replace HP:=kI (HP.o.ext X.o);replace HV:=kI (HV.o.ext X.o)
 have X0:Hid (w.heap.size+1+1+1≤(((w.alloc (.cells #[.bool m.ag.neg,.slice m1 m.ag.num.length n1,.slice m2 m.ag.den.length n2,.slice m3 m.states.length n3] 28)).alloc (.cells #[.slice none 0 0] 29)).alloc (.cells #[.int .i64 0] 37)).heap.size):=kI (by simp only [World.size_alloc];omega);have hmf:∀ (fn:Fn) (first cap:Array Value) (w:World),(Instr.makeFunc fn first cap).run Tryz.prog w=.ok (.func fn first cap) w:=fun _ _ _ _=>rfl;have HMF:=kI hmf;go_enter_defers Tryz.func19,Tryz.ntmps19
 obtain ⟨aK,fA0,aJ⟩:=A0.o.q3;go_wp2_with fail;clear hmf;refine (HST.o _ HM.o HV.o).mono ?_;rintro e w1 ⟨he,hx⟩;clear aK fA0 aJ;revert A0 A1 A2 X HM HP HV;refine lf hx ?_;intro A0 A1 A2 X HM HP HV;have XS:=kI hx;clear hx HST;by_cases h1:c1=0
 rotate_left
 ·have E:=kI (Sg.o c1 rfl h1);obtain rfl:=he.Ik h1;clear he;refine leaves_cons (f:=75) (args:=#[.pointer (some ⟨w.heap.size+1+1,0,none⟩),.pointer (some ⟨w.heap.size+1,0,none⟩)]) dc Gm ?_;refine (jD (w.heap.size+1+1) (w.heap.size+1) c1 0 h1 [] _ _ _ A2.o A1.o Z).mono ?_;rintro e u' w'' ⟨rfl,rfl,rfl⟩;obtain ⟨wf,hwf⟩:=gN (((w1.setCell ⟨w.heap.size+1+1,0,none⟩ (.int .i64 c1)).setCell ⟨w.heap.size+1,0,none⟩ (.slice none 0 0)));have hfe:af wf (w.heap.size+1+1) #[.int .i64 c1] 37:=by
   have:=((A2.o).set 0 (.int .i64 c1)).setOther (a:=⟨w.heap.size+1,0,none⟩) aD (.slice none 0 0);exact JW
  have hf0:af wf (w.heap.size+1) #[.slice none 0 0] 29:=by
   have:=((A1.o).setOther (a:=⟨w.heap.size+1+1,0,none⟩) aD (.int .i64 c1)).set 0 (.slice none 0 0);exact JW
  exact Wn
 subst h1;obtain ⟨ov,rfl,ho⟩:=he.Ij;obtain ⟨oa,oc,rfl⟩:=ho.shape;have OW:=kI (ho.mono X0.o);clear he ho;by_cases h2:24 < p.length
 ·have E:=kI (HP2.o uY h2);have q2:(24:Int) < (p.length:Int):=Z
  obtain ⟨cT,cU,lA1⟩:=A1.o.q3;go_wp2_with fail;refine (bB (c:=4) ah _).mono ?_;rintro e w9 ⟨rfl,rfl⟩;have A1:=kI (show af (w1.setCell ⟨w.heap.size+1,0,none⟩ (.slice oa vals.length oc)) (w.heap.size+1) #[(.slice oa vals.length oc)] 29 from by have:=A1.o.set 0 (.slice oa vals.length oc);simpa using this);have A2:=kI (A2.o.setOther (a:=⟨w.heap.size+1,0,none⟩) aD (.slice oa vals.length oc));have X:=kI (X.o.set (p:=⟨w.heap.size+1,0,none⟩) aD (.slice oa vals.length oc));clear cT cU lA1;refine leaves_cons (f:=75) (args:=#[.pointer (some ⟨w.heap.size+1+1,0,none⟩),.pointer (some ⟨w.heap.size+1,0,none⟩)]) dc Gm ?_;refine (jD (w.heap.size+1+1) (w.heap.size+1) 4 0 ah [] _ _ _ A2.o A1.o Z).mono ?_;rintro e u' w'' ⟨rfl,rfl,rfl⟩;obtain ⟨wf,hwf⟩:=gN ((((w1.setCell ⟨w.heap.size+1,0,none⟩ (.slice oa vals.length oc)).setCell ⟨w.heap.size+1+1,0,none⟩ (.int .i64 4)).setCell ⟨w.heap.size+1,0,none⟩ (.slice none 0 0)));have hfe:af wf (w.heap.size+1+1) #[.int .i64 4] 37:=by
   have:=((A2.o).set 0 (.int .i64 4)).setOther (a:=⟨w.heap.size+1,0,none⟩) aD (.slice none 0 0);exact JW
  have hf0:af wf (w.heap.size+1) #[.slice none 0 0] 29:=by
   have:=((A1.o).setOther (a:=⟨w.heap.size+1+1,0,none⟩) aD (.int .i64 4)).set 0 (.slice none 0 0);exact JW
  exact Wn
 have q2:¬ (24:Int) < (p.length:Int):=Z
 obtain ⟨aK,fA0,aJ⟩:=A0.o.q3;obtain ⟨cT,cU,lA1⟩:=A1.o.q3;go_wp2_with fail;clear aK fA0 aJ cT cU lA1;obtain ⟨ws,hws⟩:=gN (w1.setCell ⟨w.heap.size+1,0,none⟩ (.slice oa vals.length oc));have eF:Ext w ws:=by rw [hws];exact X.o.set (p:=⟨w.heap.size+1,0,none⟩) aD (.slice oa vals.length oc)
 have hA0:af ws w.heap.size #[.bool m.ag.neg,.slice m1 m.ag.num.length n1,.slice m2 m.ag.den.length n2,.slice m3 m.states.length n3] 28:=by rw [hws];exact A0.o.setOther (a:=⟨w.heap.size+1,0,none⟩) aD (.slice oa vals.length oc)
 have hA1:af ws (w.heap.size+1) #[(.slice oa vals.length oc)] 29:=by rw [hws];have:=A1.o.set 0 (.slice oa vals.length oc);simpa using this
 have hA2:af ws (w.heap.size+1+1) #[.int .i64 0] 37:=by rw [hws];exact A2.o.setOther (a:=⟨w.heap.size+1,0,none⟩) aD (.slice oa vals.length oc)
 have how:bm (w.heap.size+1+1+1) ws (.slice oa vals.length oc) vals:=by rw [hws];exact OW.o.keeps (kO A1.o 0 (.slice oa vals.length oc)) ah ah
 have hsz:w.heap.size+1+1+1≤ws.heap.size:=by rw [hws,World.size_setCell];have:=A2.o.lt;omega
 rw [← hws];replace A0:=kI hA0;replace A1:=kI hA1;replace A2:=kI hA2;replace X:=kI eF;replace OW:=kI how;replace HM:=SM.x eF;replace HP:=Oy.x eF;have SZ:=kI hsz;clear hws eF hA0 hA1 hA2 how hsz HV;refine (zP.o _ _ _ HM.o OW.o HP.o SZ.o).mono ?_;rintro e w2 ⟨he,hx⟩;revert A0 A1 A2 X;refine lf hx ?_;intro A0 A1 A2 X;clear hx zP HM HP OW;by_cases h3:c2=0
 rotate_left
 ·have E:=kI (Za.o c2 uY h2 rfl h3);obtain rfl:=he.Ik h3;clear he;refine leaves_cons (f:=75) (args:=#[.pointer (some ⟨w.heap.size+1+1,0,none⟩),.pointer (some ⟨w.heap.size+1,0,none⟩)]) dc Gm ?_;refine (jD (w.heap.size+1+1) (w.heap.size+1) c2 0 h3 [] _ _ _ A2.o A1.o Z).mono ?_;rintro e u' w'' ⟨rfl,rfl,rfl⟩;obtain ⟨wf,hwf⟩:=gN (((w2.setCell ⟨w.heap.size+1+1,0,none⟩ (.int .i64 c2)).setCell ⟨w.heap.size+1,0,none⟩ (.slice none 0 0)));have hfe:af wf (w.heap.size+1+1) #[.int .i64 c2] 37:=by
   have:=((A2.o).set 0 (.int .i64 c2)).setOther (a:=⟨w.heap.size+1,0,none⟩) aD (.slice none 0 0);exact JW
  have hf0:af wf (w.heap.size+1) #[.slice none 0 0] 29:=by
   have:=((A1.o).setOther (a:=⟨w.heap.size+1+1,0,none⟩) aD (.int .i64 c2)).set 0 (.slice none 0 0);exact JW
  exact Wn
 subst h3;obtain ⟨rv,rfl,ho⟩:=he.Ij;obtain ⟨ra,rc,rfl⟩:=ho.shape;have OW:=kI ho;have E:=kI (HP4.o uY h2 uY);clear he ho;obtain ⟨cT,cU,lA1⟩:=A1.o.q3;obtain ⟨ji,jk,lA2⟩:=A2.o.q3;go_wp2_with fail;clear cT cU lA1 ji jk lA2;obtain ⟨wt,hwt⟩:=gN ((w2.setCell ⟨w.heap.size+1,0,none⟩ (.slice ra (cZ m vals p p.length).length rc)).setCell ⟨w.heap.size+1+1,0,none⟩ (.int .i64 0));have eF:Ext w wt:=by rw [hwt];exact (X.o.set (p:=⟨w.heap.size+1,0,none⟩) aD (.slice ra (cZ m vals p p.length).length rc)).set (p:=⟨w.heap.size+1+1,0,none⟩) aD _
 have hA1:af wt (w.heap.size+1) #[(.slice ra (cZ m vals p p.length).length rc)] 29:=by rw [hwt];have:=(A1.o.set 0 (.slice ra (cZ m vals p p.length).length rc)).setOther (a:=⟨w.heap.size+1+1,0,none⟩) aD (.int .i64 0);simpa using this
 have hA2:af wt (w.heap.size+1+1) #[.int .i64 0] 37:=by rw [hwt];have:=(A2.o.setOther (a:=⟨w.heap.size+1,0,none⟩) aD (.slice ra (cZ m vals p p.length).length rc)).set 0 (.int .i64 0);simpa using this
 have how:bm (w.heap.size+1+1+1) wt (.slice ra (cZ m vals p p.length).length rc) (cZ m vals p p.length):=by rw [hwt];exact (OW.o.keeps (kO A1.o 0 (.slice ra (cZ m vals p p.length).length rc)) ah ah).keeps (kO (A2.o.setOther (a:=⟨w.heap.size+1,0,none⟩) aD (.slice ra (cZ m vals p p.length).length rc)) 0 (.int .i64 0)) ah ah
 rw [← hwt];replace A1:=kI hA1;replace A2:=kI hA2;replace X:=kI eF;replace OW:=kI how;clear hwt eF hA1 hA2 how A0;refine leaves_cons (f:=75) (args:=#[.pointer (some ⟨w.heap.size+1+1,0,none⟩),.pointer (some ⟨w.heap.size+1,0,none⟩)]) dc Gm ?_;refine (wE (w.heap.size+1+1) (w.heap.size+1) _ A2.o).mono ?_;rintro e u' w'' ⟨rfl,rfl,rfl⟩;obtain ⟨wf,hwf⟩:=gN ((wt.setCell ⟨w.heap.size+1+1,0,none⟩ (.int .i64 0)));have hfe:af wf (w.heap.size+1+1) #[.int .i64 0] 37:=by
  have:=(A2.o).set 0 (.int .i64 0);exact JW
 have hf0:af wf (w.heap.size+1) #[(.slice ra (cZ m vals p p.length).length rc)] 29:=by
  have:=(A1.o).setOther (a:=⟨w.heap.size+1+1,0,none⟩) aD (.int .i64 0);exact JW
 have rg:Ext w wf:=by rw [hwf];exact (X.o).set (p:=⟨w.heap.size+1+1,0,none⟩) Wo _
 have OWF:=kI (show bm (w.heap.size+1+1+1) wf (.slice ra (cZ m vals p p.length).length rc) (cZ m vals p p.length) from by rw [hwf];exact OW.o.keeps (kO A2.o 0 (.int .i64 0)) ah ah);rw [← hwf];clear hwf;obtain ⟨HFE,HF0,Wp⟩:=cC hfe hf0 rg;have ke:=hfe.cell 0;have k0:=hf0.cell 0;simp only [List.getElem?_toArray,List.getElem?_cons_zero] at ke k0;clear hfe rg hf0;simp [Leaves,settle,results,Tryz.results19,go_sem,dC,ke,k0];exact ⟨dN.mk (((OWF.o.ext' (Ext.refl _).drew)).mono Z) E.o,Wp.o.drew⟩
def eM (l:List Int):List RR:=l.map fun (i:Int)=>rep (i:Rat)
theorem xR (l:List Int):(eM l).length=l.length:=by simp [eM]
theorem CF (h:k < l.length):(eM l).take (k+1)=(eM l).take k ++ [rep ((l.getD k 0:Int):Rat)]:=by
 rw [bC _ k zR (by rw [xR];exact h)];congr 2
 unfold eM;exact kLv
theorem eE (v:Value) (l:List Int) (w:World) (h:aY .i64 w v l) (hn:l.length≤1000) (hb:∀ i,i < l.length→-1000000≤l.getD i 0∧l.getD i 0≤1000000) :
  Calls Tryz.prog 60 #[v] w fun e w'=>(∃ v',e=.returned v'∧bm w.heap.size w' v' (eM l))∧Ext w w':=by
 obtain ⟨a,c,rfl,hc,hm,_⟩:=h.get;have HR:=kI h;have HB:=kI hb;have HT:=kI (fun k=>CF (l:=l) (k:=k));have HL:=kI (xR l);clear h hb;go_enter Tryz.func60,Tryz.ntmps60
 go_wp2_with fail;go_loopw [3,4] (fun v i wr=>∃ k:Nat,k≤l.length∧i=.int .i64 k∧bm w.heap.size wr v ((eM l).take k)∧Ext w wr) (fun _ i _=>l.length - (intOf i).toNat)
 case atStart=>exact ⟨0,Nat.zero_le _,rfl,bm.nil _ _,Ext.refl _⟩
 case round=>
  obtain ⟨wk,hwk⟩:=gN (wr);subst hwk;obtain ⟨k,hk,rfl,hown,hx⟩:=hrel;have X:=kI hx;have OW:=kI hown;clear hx hown;by_cases hlt:k < l.length
  ·obtain ⟨b,off,rfl,z0,z1⟩:=iE (HR.o.ext X.o) hlt;have hbk:=HB.o k hlt;have ht:=HT.o k hlt;obtain ⟨x,hxx⟩:=gN (l.getD k 0);rw [← hxx] at z1 hbk ht;have HT2:=kI ht;have hfr:=fun W=>il x W Z Z;obtain ⟨r,hr⟩:=gN (rep (x:Rat));rw [← hr] at hfr HT2;have HF:=kI hfr;have hlk:((eM l).take k).length=k:=by rw [List.length_take,HL.o];omega
   obtain ⟨ls,hls⟩:=gN ((eM l).take k);rw [← hls] at OW HT2 hlk;have CQ:=kI hlk;clear hbk ht hxx hr hfr hls hlk;have q1:(0:Int)≤(k:Int):=Z
   have q2:(k:Int) < (l.length:Int):=Z
   go_wp2_with fail;refine (HF.o wk).mono ?_;rintro e w2 ⟨⟨v2,rfl,nn⟩,hx2⟩;obtain ⟨s1,s2,s3,s4,rfl⟩:=nn.shape;have EL:=kI (fW.new nn X.o.size);have OY:=OW.x hx2;have X2:Hid (Ext w w2):=kI (X.o.trans hx2);clear nn hx2 z0 z1;go_wp2_with (at_builtin;(refine aN w2 rfl _ _ 29 rfl w.heap.size 25 (.agg #[.bool false,.slice none 0 0,.slice none 0 0]) 3 56 Tryz.underlying29 Tryz.dH rfl ah (fW.keeps ah) _ _ OY.o rfl [.bool r.neg,.slice s1 r.num.length s2,.slice s3 r.den.length s4] rfl iW r EL.o rfl CW CW X2.o.size ?_))
   intro g9 Bh w3 hown hkp;have O3:=kI hown;have X3:Hid (Ext w w3):=kI (Below.trans X2.o (hkp.below X2.o.size));clear hown hkp;go_wp2_with fail;go_roundw
   case rel=>exact ⟨k+1,by omega,by go_num,by rw [HT2.o];exact O3.o,X3.o⟩
   case measure=>simp [intOf];omega
  ·obtain rfl:k=l.length:=Z
   have q1:¬ (l.length:Int) < (l.length:Int):=Z
   have hte:(eM l).take l.length=eM l:=List.take_of_length_le (by rw [HL.o];exact Nat.le_refl _);rw [hte] at OW;clear hte;go_wp2_with fail;go_ret;exact ⟨⟨_,rfl,OW.o⟩,X.o⟩
end Go.Proofs.YtnnjbaijcaiohaaGreat
