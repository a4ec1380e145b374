/- Lemmas and walks. Conditions: as stated. -/
import Derived.Test.YtfflknbeidihoaaGreatSxMdH
import Derived.RangeFuncLeaves
import Derived.RangeFuncIn
import Derived.Sort.LoopGhostIn
import Derived.Test.YtfflknbeidihoaaGreatSxRecC
import Derived.Test.YtfflknbeidihoaaGreatSxSml
set_option linter.unusedVariables false
set_option linter.unusedSimpArgs false
set_option maxRecDepth 100000
set_option maxHeartbeats 16000000
namespace Go.Proofs.YtfflknbeidihoaaGreat
open Go.RowKit
section
variable {F:Fence} {n:Nat} {P:Program} {Q:Exit→Act→World→Prop} {a:Act} {w:World}
def wpEx (F:Fence) (n:Nat) (P:Program) (c:Code) (Q:Exit→Act→World→Prop) (a:Act) (w:World):Prop:=
 ∀ (b:Frame) (k:List Item) (cs:List Frame),(∃ d,P.funcs[b.fn]?=some d)→b.roundOf=F.round→F.fn b.fn→F.room (cs.length+1+n)→
  ∃ e a' w',Q e a' w'∧ArrivesIn (Machine.fenced P F) P (lone (b.atR a (.code c :: k)) cs w) b k cs e a' w'
theorem wpEx_of {c:Code} (h:c.wpIn F n P Q a w):wpEx F n P c Q a w:=fun b k cs _ hro hb hr=>h b k cs hro hb hr
theorem wpEx_seq {x y:Code} (h:wpEx F n P x (Exit.then (wpEx F n P y Q) Q) a w):wpEx F n P (Code.seq x y) Q a w:=by
 intro b k cs hex hro hb hr;have h0:(lone (b.atR a (.code (.seq x y) :: k)) cs w).fenced P F:=fenced_calm hb hr rfl;obtain ⟨e,a₁,w₁,hq,harr⟩:=h b (.code y :: k) cs hex hro hb hr;cases e with
 | normal=>
  obtain ⟨e₂,a₂,w₂,hq₂,harr₂⟩:=hq b k cs hex hro hb hr;exact ⟨e₂,a₂,w₂,hq₂,.of_steps (.head h0 stepR_seq harr) harr₂⟩
 | _=>exact ⟨_,a₁,w₁,hq,.of_steps (.one h0 stepR_seq) (.pass (x:=.code y) rfl (fun _ _=>.inl (by simp)) harr)⟩
theorem wpEx_block {id:Nat} {c:Code} (h:wpEx F n P c (fun e a w=>(e=.normal∨∃ ch,e=.panic ch)∧Q e a w) a w):wpEx F n P (Code.block id c) Q a w:=by
 intro b k cs hex hro hb hr;have h0:(lone (b.atR a (.code (.block id c) :: k)) cs w).fenced P F:=fenced_calm hb hr rfl;obtain ⟨e,a₁,w₁,⟨he,hq⟩,harr⟩:=h b (.inBlock id :: k) cs hex hro hb hr;rcases he with rfl|⟨ch,rfl⟩
 ·exact ⟨.normal,a₁,w₁,hq,.head h0 stepR_block (StepsIn.trans harr (.one (fenced_calm hb hr rfl) stepR_inBlock))⟩
 ·exact ⟨_,a₁,w₁,hq,.of_steps (.one h0 stepR_block) harr⟩
def roundPostP (P:Program) (l:Nat) (R:Ending→World→Prop):Exit→Act→World→Prop
 | .normal,_,w=>∃ v w',(Instr.endRound l none).run P w=.ok v w'∧R (.returned v) w'
 | .panic ch,a,w=>a.defers=[]∧R (.panicked ch) w
 | _,_,_=>False
theorem roundInP {l:Nat} {f:FuncId} {tmps:Array Value} {assign body:Code} {w:World} {R:Ending→World→Prop} (hF:F.fn f) (hex:∃ d,P.funcs[f]?=some d)
  (h:assign.wpIn (F.inRound l) n P (Exit.then (fun a₁ w₁=>∃ w₂,(Instr.beginRound l).run P w₁=.ok () w₂∧body.wpIn (F.inRound l) n P (roundPostP P l R) a₁ w₂) (fun _ _ _=>False))
   { tmps:=tmps,defers:=[] } w):RoundIn F n P l f tmps assign body w R:=by
 refine ⟨hF,fun c cs hr=>?_⟩;obtain ⟨b,hbd⟩:∃ b:Frame,b={ (default:Frame) with fn:=f,kind:=.normal,roundOf:=some l }:=⟨_,rfl⟩;have hb0:Frame.round l f tmps assign body .normal=b.atR { tmps:=tmps,defers:=[] } [.code assign,.beginRound,.code body]:=by
  rw [hbd];simp [Frame.round,Frame.atR]
 have hbr:b.roundOf=some l:=by rw [hbd]
 have hbf:b.fn=f:=by rw [hbd]
 have hbk:b.kind=.normal:=by rw [hbd]
 have hr':(F.inRound l).room ((c :: cs).length+1+n):=hr;have hF':(F.inRound l).fn b.fn:=by rw [hbf];exact hF
 obtain ⟨e,a₁,w₁,hq,harr⟩:=h b [.beginRound,.code body] (c :: cs) hbr hF' hr';rw [← hb0] at harr;cases e with
 | normal=>
  obtain ⟨w₂,hbg,hbody⟩:=hq;have s1:StepsIn (Machine.fenced P (F.inRound l)) P (lone (b.atR a₁ [.beginRound,.code body]) (c :: cs) w₁) (lone (b.atR a₁ [.code body]) (c :: cs) w₂):=
   .one (fenced_calm (fr:=b.atR a₁ [.beginRound,.code body]) hF' hr' rfl) (stepR_beginRound hbr hbg)
  obtain ⟨e₂,a₂,w₃,hq₂,harr₂⟩:=hbody b [] (c :: cs) hbr hF' hr';cases e₂ with
  | normal=>
   obtain ⟨v,w₄,hend,hR⟩:=hq₂;exact ⟨.returned v,w₄,hR,(StepsIn.trans harr s1).trans (StepsIn.trans harr₂ (.one (fenced_calm (fr:=b.atR a₂ []) hF' hr' rfl) (stepR_round_end hbr hbk hend)))⟩
  | panic chain=>
   obtain ⟨hd,hR⟩:=hq₂;obtain ⟨todo,hs⟩:=harr₂;have hl:({ b.atR a₂ todo with mode:=.panicking chain }:Frame).leaving P w₃ (.panicked chain):=⟨rfl,hd,by obtain ⟨d,h⟩:=hex;exact ⟨d,by rw [← hbf] at h;exact h⟩⟩;exact ⟨.panicked chain,w₃,hR,(StepsIn.trans harr s1).trans (StepsIn.trans hs (.one (fenced_leaving hF' hr' hl) (step_leave_panicked hl)))⟩
  | ret=>exact hq₂.elim
  | exit id=>exact hq₂.elim
  | goto t=>exact hq₂.elim
  | outgrown=>exact hq₂.elim
 | exit id=>exact hq.elim
 | goto t=>exact hq.elim
 | ret=>exact hq.elim
 | panic chain=>exact hq.elim
 | outgrown=>exact hq.elim
theorem wpEx_rangeFunc {g:Operand} {ps:Array Tmp} {assign body:Code}
  (h:∀ fn,F.fn fn→(∃ d,P.funcs[fn]?=some d)→∃ (l:Nat) (mark:List Deferred) (w₁:World) (d:Deferred) (w₁':World) (f:FuncId) (args:Array Value) (w₂:World),
   (Instr.enterLoop fn a.tmps ps assign body F.round).run P w=.ok (l,mark) w₁∧
   (resolve a.eval (rangeCall g l) 0).run P w₁=.ok d w₁'∧
   (∀ f',Target.leads P w₁' d.target d.args=some f'→F.fn f')∧
   (invoke d.target d.args).run P w₁'=.ok (.enter f args) w₂∧
   (F.depth.isSome=true→1≤n)∧
   CallsIn F (n - 1) P f args w₂ (rangePost F n P l Q { a with defers:=mark ++ a.defers })):wpEx F n P (Code.rangeFunc g ps assign body) Q a w:=by
 intro b k cs hex hro hb hr;obtain ⟨l,mark,w₁,d,w₁',f,args,w₂,he,hres,hlead,hinv,hn,hF,hcall⟩:=h b.fn hb hex;rw [← hro] at he;have hev:=Frame.eval_atR b a (.code (.rangeFunc g ps assign body) :: k);simp only [Frame.atR] at hev;have h0:(lone (b.atR a (.code (.rangeFunc g ps assign body) :: k)) cs w).fenced P F:=by
  refine fenced_lone (.inl hb) (fun f' hf'=>hlead f' ?_) (Fence.room_le hr (by omega));simp only [Frame.about,Frame.atR,he,hev,hres] at hf';exact hf'
 have henter:=stepR_rangeFunc (P:=P) (b:=b) (a:=a) (k:=k) (cs:=cs) (w:=w) he hres hinv;have hroom:F.room ((b.atR { a with defers:=mark ++ a.defers } (.inRangeFunc l :: k) :: cs).length+1+(n - 1)):=Fence.room_enter hr hn;obtain ⟨e,w₃,fr,hR,hsteps,hfn,hleave⟩:=hcall (b.atR { a with defers:=mark ++ a.defers } (.inRangeFunc l :: k) :: cs) hroom;cases e with
 | outgrown=>
  obtain ⟨a₀,w₀,hq⟩:=hR;exact ⟨.outgrown,a₀,w₀,hq,.inr (Outgrown.of_steps (.one henter) hsteps)⟩
 | returned v=>
  have hl:=fenced_leaving (F:=F) (hfn ▸ hF) hroom hleave;obtain ⟨jump,w₄,hend,hj⟩:=hR;have sback:StepsIn (Machine.fenced P F) P (lone (b.atR a (.code (.rangeFunc g ps assign body) :: k)) cs w) (lone (b.atR { a with defers:=mark ++ a.defers } ((jump.map Item.code).toList ++ k)) cs w₄):=by
   refine .head h0 henter (StepsIn.trans hsteps (.head hl ?_ (.one (fenced_calm (fr:=b.atR { a with defers:=mark ++ a.defers } (.endRangeFunc l :: k)) hb hr rfl) (stepR_endRangeFunc hend))));rw [← finish_atR_inRangeFunc l v];exact step_leave_returned hleave
  cases jump with
  | none=>exact ⟨.normal,_,w₄,hj,sback⟩
  | some c=>
   obtain ⟨e',a'',w₅,hq,harr⟩:=hj b k cs hro hb hr;exact ⟨e',a'',w₅,hq,.of_steps sback harr⟩
 | panicked chain=>
  have hl:=fenced_leaving (F:=F) (hfn ▸ hF) hroom hleave;refine ⟨.panic chain,_,w₃,hR,.inRangeFunc l :: k,.head h0 henter (StepsIn.trans hsteps (.one hl ?_))⟩;rw [← Frame.raise_atR];exact step_leave_panicked hleave
theorem callsIn_of_wpEx {f:FuncId} {fn:Func} {c:Code} {args:Array Value} {w:World} {R:Ending→World→Prop} (hf:P.funcs[f]?=some fn) (hb:fn.body=some c)
  (h:wpEx Fence.wide n P c (bodyPostM Fence.wide n P fn R) { tmps:=args ++ Array.replicate (fn.ntmps - args.size) undef,defers:=[] } w):CallsIn Fence.wide n P f args w R:=by
 refine ⟨trivial,fun cs hr=>?_⟩;let b:Frame:={ (default:Frame) with fn:=f,kind:=.normal,roundOf:=none }
 have henter:Frame.enter P f args .normal=b.atR { tmps:=args ++ Array.replicate (fn.ntmps - args.size) undef,defers:=[] } [.code c]:=by
  simp [Frame.enter,Frame.atR,hf,hb,b]
 obtain ⟨e,a',w',hq,harr⟩:=h b [] cs ⟨fn,hf⟩ rfl trivial hr;rw [← henter] at harr;cases e with
 | normal=>
  obtain ⟨e',w'',fr',hR,hs,hfn,hl⟩:=leaves_stepsInM a'.defers .returning w' { b.atR a' [] with mode:=.returning } cs rfl rfl rfl hf rfl trivial hr hq;exact ⟨e',w'',fr',hR,ComesIn.of_steps (StepsIn.trans harr (.one (fenced_calm (F:=Fence.wide) (fr:=b.atR a' []) trivial hr rfl) (stepR_end rfl))) hs,hfn,hl⟩
 | ret=>
  obtain ⟨todo,hs₀⟩:=harr.1 rfl;obtain ⟨e',w'',fr',hR,hs,hfn,hl⟩:=leaves_stepsInM a'.defers .returning w' { b.atR a' todo with mode:=.returning } cs rfl rfl rfl hf rfl trivial hr hq;exact ⟨e',w'',fr',hR,ComesIn.of_steps hs₀ hs,hfn,hl⟩
 | panic chain=>
  obtain ⟨todo,hs₀⟩:=harr;obtain ⟨e',w'',fr',hR,hs,hfn,hl⟩:=leaves_stepsInM a'.defers (.panicking chain) w' { b.atR a' todo with mode:=.panicking chain } cs rfl rfl rfl hf rfl trivial hr hq;exact ⟨e',w'',fr',hR,ComesIn.of_steps hs₀ hs,hfn,hl⟩
 | exit id=>exact hq.elim
 | goto l=>exact hq.elim
 | outgrown=>exact ⟨.outgrown,w',b,hq,harr.resolve_left (by simp [b]),rfl,trivial⟩
end
def upPostP {α:Type} (R:World→World→Prop) (m:Nat) (I:List α→World→Prop) (Ip:List PanicEntry→List α→World→Prop) (xs:List α) (W:World):Exit→Act→World→Prop
 | .normal,_,W'=>Kd m W W'∧R W W'∧I xs W'
 | .panic ch,a,W'=>a.defers=[]∧Kd m W W'∧R W W'∧Ip ch xs W'
 | _,_,_=>False
def UpSeqP {α:Type} (F:Fence) (n:Nat) (P:Program) (gf:Nat) (lb:Array Value) (R Ri:World→World→Prop) (encs:α→Array Value) (Nx:List α→α→World→Prop) (Fin:List α→Prop) (l:Nat) (W1:World):Prop:=
 ∀ (J:List α→World→Prop) (Jp:List PanicEntry→List α→World→Prop),(∀ pre A B,J pre A→Ri A B→J pre B)→
  (∀ pre x W,J pre W→Nx pre x W→YieldAt F (n - 1) P l (encs x) W fun e W'=>R W W'∧((e=.returned (.bool true)∧J (pre ++ [x]) W')∨∃ ch,e=.panicked ch∧Jp ch (pre ++ [x]) W'))→
  J [] W1→CallsIn F n P gf (#[.func (.yield l) #[] #[]] ++ lb) W1 fun e W'=>((∃ v,e=.returned v)∧∃ xs,Fin xs∧J xs W')∨∃ ch xs,e=.panicked ch∧Jp ch xs W'
section
variable {F:Fence} {n:Nat} {P:Program}
theorem wpEx_range_upP {α:Type} {g:Operand} {ps:Array Tmp} {assign body:Code} {Q:Exit→Act→World→Prop} {a:Act} {w:World}
  (hro:F.round=none) (h1:1≤n) {gf:Nat} {lb:Array Value} (hg:a.eval g=.func (.func gf) #[] lb) (hFg:F.fn gf) (eg:∀ args w,(callFunc gf args).run P w=.ok (.enter gf args) w)
  (R Ri:World→World→Prop) (hRi:∀ A B,Ri A B→w.heap.size+1 < A.heap.size→B.heap[w.heap.size]?=A.heap[w.heap.size]?∧B.heap[w.heap.size+1]?=A.heap[w.heap.size+1]?) (hRt:∀ A B C,R A B→R B C→R A C) (hRk:∀ A B,w.heap.size≤A.heap.size→Kq w.heap.size A B→R A B) {encs:α→Array Value} {Nx:List α→α→World→Prop} {Fin:List α→Prop}
  (hseq:∀ W1,Ext w W1→UpSeqP F (n - 1) P gf lb R Ri encs Nx Fin (w.heap.size+1) W1) (hps:∀ x,(encs x).size=ps.size)
  (I:List α→World→Prop) (Ip:List PanicEntry→List α→World→Prop) (hI:∀ pre A B,I pre A→Kq w.heap.size A B→I pre B)
  (hIr:∀ pre A B,I pre A→Ri A B→I pre B) (h0:I [] w)
  (Ax:List α→α→Act→World→Prop) (hAx:∀ pre x a1 A B,Ax pre x a1 A→Kq w.heap.size A B→Ax pre x a1 B)
  (hassign:∀ (l:Nat) (pre:List α) (x:α) (W:World) (K:Act→World→Prop),I pre W→Nx pre x W→w.heap.size+1 < W.heap.size→(∀ a1 W1,Ext W W1→Ax pre x a1 W1→K a1 W1)→
   assign.wpIn (F.inRound l) (n - 1 - 1) P (Exit.then K (fun _ _ _=>False)) { tmps:=(ps.zip (encs x)).foldl (fun t (p,v)=>t.setIfInBounds p v) a.tmps,defers:=[] } W)
  (hbody:∀ (l:Nat) (pre:List α) (x:α) (a1:Act) (W:World),Ax pre x a1 W→w.heap.size+1 < W.heap.size→body.wpIn (F.inRound l) (n - 1 - 1) P (upPostP R w.heap.size I Ip (pre ++ [x]) W) a1 W)
  (hdone:∀ (xs:List α) (W:World),Fin xs→I xs W→W.heap[w.heap.size]?=some (.deferred (some []))→Q .normal { a with defers:={ target:=.collected w.heap.size,args:=#[] } :: a.defers } W)
  (hpanic:∀ (ch:List PanicEntry) (xs:List α) (W:World),Ip ch xs W→W.heap[w.heap.size]?=some (.deferred (some []))→Q (.panic ch) { a with defers:={ target:=.collected w.heap.size,args:=#[] } :: a.defers } W) :
  wpEx F n P (Code.rangeFunc g ps assign body) Q a w:=by
 refine wpEx_rangeFunc ?_;intro fn hfn hex;rw [hro];obtain ⟨rec,hrec⟩:∃ rec:LoopState→Option Code→Loop,rec=fun st pe=>{ state:=st,pending:=pe,fn,tmps:=a.tmps,params:=ps,assign,body,defers:=w.heap.size }:=⟨_,rfl⟩;obtain ⟨W1,hW1⟩:∃ W1,(w.alloc (.deferred (some []))).alloc (.loop (rec .ready none))=W1:=⟨_,rfl⟩;have hL1:W1.heap[w.heap.size+1]?=some (.loop (rec .ready none)):=by
  rw [← hW1];have:=World.alloc_heap_new (w.alloc (.deferred (some []))) (.loop (rec .ready none));rwa [World.size_alloc] at this
 have hK1:W1.heap[w.heap.size]?=some (.deferred (some [])):=by
  rw [← hW1];exact (Below.heap_alloc _ _ _ (by simp)).trans (World.alloc_heap_new w _)
 have hx1:Ext w W1:=by rw [← hW1];exact ((Ext.refl w).alloc _).alloc _
 have hI1:I [] W1:=hI _ _ _ h0 (.ext hx1);refine ⟨w.heap.size+1,[{ target:=.collected w.heap.size,args:=#[] }],W1,{ target:=.fn (.func gf) lb,args:=#[.func (.yield (w.heap.size+1)) #[] #[]] },W1,gf,
  #[.func (.yield (w.heap.size+1)) #[] #[]] ++ lb,W1,?_,?_,?_,?_,fun _=>h1,?_⟩
 ·rw [← hW1,hrec];exact run_enterLoop_outer _ _ _ _ _
 ·simp only [resolve,hg];simp [go_sem]
 ·intro f' hf';simp [Target.leads] at hf';subst hf';exact hFg
 ·simp [invoke,go_sem,eg]
 ·refine (hseq W1 hx1
   (fun pre W=>I pre W∧W.heap[w.heap.size+1]?=some (.loop (rec .ready none))∧W.heap[w.heap.size]?=some (.deferred (some [])))
   (fun ch pre W=>Ip ch pre W∧W.heap[w.heap.size]?=some (.deferred (some [])))
   (fun pre A B hs x=>⟨hIr _ _ _ hs.1 x,(hRi _ _ x (Array.getElem?_eq_some_iff.1 hs.2.1).1).2.trans hs.2.1,(hRi _ _ x (Array.getElem?_eq_some_iff.1 hs.2.1).1).1.trans hs.2.2⟩)
   ?_ ⟨hI1,hL1,hK1⟩).mono ?_
  ·rintro pre x W ⟨hi,hl,hk⟩ hnx;have hlt:w.heap.size+1 < W.heap.size:=(Array.getElem?_eq_some_iff.1 hl).1;have hy:=run_yield (P:=P) (args:=encs x) hl (by rw [hrec];exact hps x);rw [hrec] at hy;refine ⟨fn,_,assign,body,hy,roundInP hfn hex (hassign _ pre x W _ hi hnx hlt ?_)⟩;intro a1 V hxV hax;have hlV:=(hxV.block _ (Array.getElem?_eq_some_iff.1 hl).1).trans hl;have hkV:=(hxV.block _ (Array.getElem?_eq_some_iff.1 hk).1).trans hk;refine ⟨_,run_beginRound hlV (by rw [hrec]),?_⟩;have hltV:w.heap.size+1 < V.heap.size:=(Array.getElem?_eq_some_iff.1 hlV).1;have hl2:(V.putObj (w.heap.size+1) (.loop { rec .ready none with state:=.busy })).heap[w.heap.size+1]?=some (.loop { rec .ready none with state:=.busy }):=World.putObj_heap_same hltV;have hk2:(V.putObj (w.heap.size+1) (.loop { rec .ready none with state:=.busy })).heap[w.heap.size]?=some (.deferred (some [])):=(World.putObj_heap_other (by omega)).trans hkV;have hV1:R W (V.putObj (w.heap.size+1) (.loop { rec .ready none with state:=.busy })):=hRt _ _ _ (hRk _ _ (by omega) (Kq.ext hxV)) (hRk _ _ (by have:=hxV.size;omega) (Kq.put1 _ hlV));have fin:∀ (jump:Option Code) (W3:World),Kd w.heap.size (V.putObj (w.heap.size+1) (.loop { rec .ready none with state:=.busy })) W3→R (V.putObj (w.heap.size+1) (.loop { rec .ready none with state:=.busy })) W3→
     (Instr.endRound (w.heap.size+1) jump).run P W3=.ok (.bool jump.isNone) (W3.putObj (w.heap.size+1) (.loop (rec (if jump.isNone then .ready else .done) jump)))∧
     (W3.putObj (w.heap.size+1) (.loop (rec (if jump.isNone then .ready else .done) jump))).heap[w.heap.size+1]?=some (.loop (rec (if jump.isNone then .ready else .done) jump))∧
     (W3.putObj (w.heap.size+1) (.loop (rec (if jump.isNone then .ready else .done) jump))).heap[w.heap.size]?=some (.deferred (some []))∧
     R W (W3.putObj (w.heap.size+1) (.loop (rec (if jump.isNone then .ready else .done) jump))):=fun jump W3 hk3 hb3=>by
    have hl3:=hk3.2.2.trans hl2;have hlt3:w.heap.size+1 < W3.heap.size:=(Array.getElem?_eq_some_iff.1 hl3).1;have:=run_endRound (P:=P) jump hl3;rw [hrec] at this ⊢;exact ⟨this,World.putObj_heap_same hlt3,(World.putObj_heap_other (by omega)).trans (hk3.2.1.trans hk2),hRt _ _ _ (hRt _ _ _ hV1 hb3) (hRk _ _ (by omega) (Kq.put1 _ (hk3.2.2.trans hl2)))⟩
   refine wpIn_mono (hbody _ pre x a1 _ (hAx _ _ _ _ _ hax (Kq.put1 _ hlV)) (by simpa using hltV)) ?_;rintro e a3 W3 hp;cases e with
   | normal=>
    obtain ⟨hk3,hb3,hi3⟩:=hp;obtain ⟨hr,hl4,hk4,hb4⟩:=fin none W3 hk3 hb3;exact ⟨_,_,hr,hb4,.inl ⟨rfl,hI _ _ _ hi3 (Kq.put1 _ (hk3.2.2.trans hl2)),hl4,hk4⟩⟩
   | ret=>exact hp.elim
   | exit id=>exact hp.elim
   | goto t=>exact hp.elim
   | panic ch=>
    obtain ⟨hd3,hk3,hb3,hi3⟩:=hp;exact ⟨hd3,hRt _ _ _ hV1 hb3,.inr ⟨_,rfl,hi3,hk3.2.1.trans hk2⟩⟩
   | outgrown=>exact hp.elim
  ·rintro e W2 (⟨⟨v,rfl⟩,⟨xs,hF,hi,hl,hk⟩⟩|⟨ch,xs,rfl,hi,hk⟩)
   ·exact ⟨none,_,by have:=run_endLoop (P:=P) hl (by rw [hrec];simp);rw [hrec] at this;exact this,hdone xs _ hF (hI _ _ _ hi (Kq.put1 _ hl)) ((World.putObj_heap_other (by omega)).trans hk)⟩
   ·exact hpanic ch xs _ hi hk
end
end Go.Proofs.YtfflknbeidihoaaGreat
namespace Go.Proofs.YtfflknbeidihoaaGreat
open Go.RowKit
def chO (x:RR):List Out→List RR→List RR × Int
 | [],nx=>(nx,0)
 | o :: os,nx=>if (mulR x o.2).2≠0 then (nx,(mulR x o.2).2) else if (addR (nx.getD o.1.toNat zR) (mulR x o.2).1).2≠0 then (nx,(addR (nx.getD o.1.toNat zR) (mulR x o.2).1).2) else chO x os (nx.set o.1.toNat (addR (nx.getD o.1.toNat zR) (mulR x o.2).1).1)
theorem chO_step {x:RR} {os:List Out} {nx:List RR} {i:Nat} (h:i < os.length):chO x (os.drop i) nx =
  if (mulR x (os.getD i dO).2).2≠0 then (nx,(mulR x (os.getD i dO).2).2) else if (addR (nx.getD (os.getD i dO).1.toNat zR) (mulR x (os.getD i dO).2).1).2≠0 then (nx,(addR (nx.getD (os.getD i dO).1.toNat zR) (mulR x (os.getD i dO).2).1).2) else chO x (os.drop (i+1)) (nx.set (os.getD i dO).1.toNat (addR (nx.getD (os.getD i dO).1.toNat zR) (mulR x (os.getD i dO).2).1).1):=by
 rw [List.drop_eq_getElem_cons h,List.getD_eq_getElem?_getD,List.getElem?_eq_getElem h];rfl
def chU (m:MD) (p:List Int) (l:List RR):List Nat→List RR→List RR × Int
 | [],nx=>(nx,0)
 | u :: us,nx=>if (l.getD u zR).num=[] then chU m p l us nx else if (chO (l.getD u zR) (m.act u (p.getD u 0).toNat).next nx).2≠0 then chO (l.getD u zR) (m.act u (p.getD u 0).toNat).next nx else chU m p l us (chO (l.getD u zR) (m.act u (p.getD u 0).toNat).next nx).1
theorem chU_step {m:MD} {p:List Int} {l:List RR} {n u:Nat} {nx:List RR} (h:u < n):chU m p l ((List.range n).drop u) nx =
  if (l.getD u zR).num=[] then chU m p l ((List.range n).drop (u+1)) nx else if (chO (l.getD u zR) (m.act u (p.getD u 0).toNat).next nx).2≠0 then chO (l.getD u zR) (m.act u (p.getD u 0).toNat).next nx else chU m p l ((List.range n).drop (u+1)) (chO (l.getD u zR) (m.act u (p.getD u 0).toNat).next nx).1:=by
 rw [List.drop_eq_getElem_cons (by simpa using h),List.getElem_range];rfl
def chS (m:MD):List (List Int)→List RR→List RR × Int
 | [],l=>(l,0)
 | p :: ps,l=>if (chU m p l (List.range m.states.length) (List.replicate m.states.length zR)).2≠0 then chU m p l (List.range m.states.length) (List.replicate m.states.length zR) else chS m ps (chU m p l (List.range m.states.length) (List.replicate m.states.length zR)).1
theorem chS_step {m:MD} {ps:List (List Int)} {l:List RR} {j:Nat} (h:j < ps.length):chS m (ps.drop j) l =
  if (chU m (ps.getD j []) l (List.range m.states.length) (List.replicate m.states.length zR)).2≠0 then chU m (ps.getD j []) l (List.range m.states.length) (List.replicate m.states.length zR) else chS m (ps.drop (j+1)) (chU m (ps.getD j []) l (List.range m.states.length) (List.replicate m.states.length zR)).1:=by
 rw [List.drop_eq_getElem_cons h,List.getD_eq_getElem?_getD,List.getElem?_eq_getElem h];rfl
def chE1 (m:MD) (p:List Int):Int:=if p.length≠m.states.length then 16 else frstE (polE m p) p.length
def chE (m:MD) (ps:List (List Int)):Int:=frstE (fun j=>chE1 m (ps.getD j [])) ps.length
def ch0 (m:MD) (s:Int):List RR:=(List.replicate m.states.length zR).set s.toNat (rep ((1:Int):Rat))
def chancesS (m:MD) (plan:List (List Int)) (s:Int):List RR × Int:=
 if mdE m≠0 then ([],mdE m) else if s < 0∨(m.states.length:Int)≤s then ([],8) else if 24 < plan.length then ([],4)
 else if chE m plan.reverse≠0 then ([],chE m plan.reverse) else if (chS m plan.reverse (ch0 m s)).2≠0 then ([],(chS m plan.reverse (ch0 m s)).2) else chS m plan.reverse (ch0 m s)
theorem chances_1 {m:MD} {plan:List (List Int)} {s c:Int} (h:c=mdE m) (hc:c≠0):chancesS m plan s=([],c):=by unfold chancesS;rw [← h,if_pos hc]
theorem chances_2 {m:MD} {plan:List (List Int)} {s:Int} (h:mdE m=0) (h2:s < 0∨(m.states.length:Int)≤s):chancesS m plan s=([],8):=by unfold chancesS;rw [if_neg (by simpa using h),if_pos h2]
theorem chances_3 {m:MD} {plan:List (List Int)} {s:Int} (h:mdE m=0) (h2:¬ (s < 0∨(m.states.length:Int)≤s)) (h3:24 < plan.length):chancesS m plan s=([],4):=by unfold chancesS;rw [if_neg (by simpa using h),if_neg h2,if_pos h3]
theorem chances_4 {m:MD} {plan:List (List Int)} {s c:Int} (h:mdE m=0) (h2:¬ (s < 0∨(m.states.length:Int)≤s)) (h3:¬ 24 < plan.length) {j:Nat} (hj:j < plan.reverse.length) (hz:∀ i,i < j→chE1 m (plan.reverse.getD i [])=0) (hc:chE1 m (plan.reverse.getD j [])=c) (hn:c≠0):chancesS m plan s=([],c):=by
 have e:chE m plan.reverse=c:=(frstE_at (f:=fun j=>chE1 m (plan.reverse.getD j [])) hz (by rw [hc];exact hn) hj).trans hc;unfold chancesS;rw [if_neg (by simpa using h),if_neg h2,if_neg h3,e,if_pos hn]
theorem chances_5 {m:MD} {plan:List (List Int)} {s:Int} (h:mdE m=0) (h2:¬ (s < 0∨(m.states.length:Int)≤s)) (h3:¬ 24 < plan.length) (hz:∀ i,i < plan.reverse.length→chE1 m (plan.reverse.getD i [])=0):chancesS m plan s=if (chS m plan.reverse (ch0 m s)).2≠0 then ([],(chS m plan.reverse (ch0 m s)).2) else chS m plan.reverse (ch0 m s):=by
 have e:chE m plan.reverse=0:=frstE_zero hz;unfold chancesS;rw [if_neg (by simpa using h),if_neg h2,if_neg h3,e,if_neg (fun h=>h rfl)]
theorem chE1_ok {m:MD} {p:List Int} (h:chE1 m p=0):p.length=m.states.length∧∀ u,u < m.states.length→0≤p.getD u 0∧p.getD u 0 < ((m.states.getD u []).length:Int):=by
 unfold chE1 at h;by_cases h1:p.length=m.states.length
 ·rw [if_neg (by simpa using h1)] at h;refine ⟨h1,fun u hu=>?_⟩;have:=frstE_all h u (by omega);unfold polE at this;by_cases h2:p.getD u 0 < 0∨((m.states.getD u []).length:Int)≤p.getD u 0
  ·rw [if_pos h2] at this;cases this
  ·omega
 ·rw [if_pos h1] at h;cases h
theorem back_any (a:Option Addr) (n c:Nat) (w:World) :
  Calls Tryz.prog 56 #[.slice a n c] w fun e w'=>e=.returned (.func (.func 90) #[] #[.pointer (some ⟨w.heap.size,0,none⟩)])∧w'=w.alloc (.cells #[.slice a n c] 30):=by
 have hmf:∀ (fn:Fn) (first cap:Array Value) (w:World),(Instr.makeFunc fn first cap).run Tryz.prog w=.ok (.func fn first cap) w:=fun _ _ _ _=>rfl;go_enter Tryz.func56,Tryz.ntmps56
 go_wp2
 go_ret;exact ⟨rfl,rfl⟩
def BwNx (w0:World) (p:List (List Int)) (pre:List (Int × Value)) (x:Int × Value) (_:World):Prop:=pre.length < p.length∧RdI .i64 w0 x.2 (p.reverse.getD pre.length [])
theorem back_seq (n:Nat) (hn:1≤n) (pa:Option Addr) (pc:Nat) (p:List (List Int)) (H N lb:Nat) (X:Nat→Prop) (w0 W1:World) (hp:RdPl w0 (.slice pa p.length pc) p) (hl:p.length≤1000000)
  (hx:Ext w0 W1) (hX:∀ i,X i→w0.heap.size≤i∧i < H) (hwH:w0.heap.size≤H) (hH:H < N) (hN:N≤W1.heap.size) (hb0:Blk W1 H #[.slice pa p.length pc] 30) :
  UpSeqP Fence.wide n Tryz.prog 90 #[.pointer (some ⟨H,0,none⟩)] (KpB N X) Ext (fun x:Int × Value=>#[.int .i64 x.1,x.2]) (BwNx w0 p) (fun xs=>xs.length=p.length) lb W1:=by
 intro J Jp hJ hY h0;have HP:=kI hp;have HX:=kI hx;have HB0:=kI hb0;have HJ0:=kI hJ;have HY:=kI hY;have hw0:w0.heap.size≤W1.heap.size:=HX.o.size;clear hp hx hJ hY;refine callsIn_of_wp Tryz.func90 rfl trivial ?_ rfl;simp only [Tryz.ntmps90,List.size_toArray,List.length_cons,List.length_nil,Nat.reduceAdd,Nat.reduceSub,Array.replicate_succ,Array.replicate_zero,List.push_toArray,List.append_toArray,List.nil_append,List.cons_append];have d0:=hb0.cell;have d1:=hb0.lt;gi_wp2_with fail;clear d0 d1 hb0;gi_loopw [3] (fun i wr=>∃ (j:Nat) (q:Int) (pre:List (Int × Value)),j≤p.length∧i=.int .i64 q∧q=(p.length:Int) - 1 - j∧pre.length=j∧J pre wr∧KpB N X W1 wr) (fun i _=>(intOf i+1).toNat)
 case atStart=>exact ⟨0,_,[],by omega,rfl,by omega,rfl,h0,KpB.refl _ _ _⟩
 case round=>
  obtain ⟨wk,hwk⟩:=gN (wr);subst hwk;obtain ⟨j,q,pre,hjk,rfl,hq,hpl,hj,hkp⟩:=hrel;have XK:Hid (Ext w0 wk):=kI (Below.trans HX.o (hkp.below (fun i h=>(hX i h).1) (by omega) hw0));have BK:=kI (HB0.o.kpB hkp (by omega) (fun h=>by have:=(hX _ h).2;omega));have KP:=kI hkp;have HJ:=kI hj;have HPL:=kI hpl;clear hkp hj hpl;by_cases hlt:j < p.length
  ·obtain ⟨qn,rfl⟩:∃ qn:Nat,q=(qn:Int):=⟨q.toNat,by omega⟩;have hqn:qn=p.length - 1 - j:=by omega
   have hql:qn < p.length:=by omega
   obtain ⟨b,off,ai,ci,rfl,t00,t01,t2⟩:=HP.o.at hql;have t0:=Nat.lt_of_lt_of_le t00 XK.o.size;have t1:=(XK.o.cell (p:=⟨b,off+qn,none⟩) t00).trans t01;clear t00 t01;have hrev:p.reverse.getD j []=p.getD qn []:=by
    rw [List.getD_eq_getElem?_getD,List.getElem?_reverse hlt,← List.getD_eq_getElem?_getD,hqn]
   rw [← hrev] at t1 t2;obtain ⟨pj,hpj⟩:=gN (p.reverse.getD j []);rw [← hpj] at t1 t2;have HPJ:=kI hpj;have T2:=kI t2;have HQN:=kI hqn;have q1:(0:Int)≤(qn:Int):=by omega
   have q2:(qn:Int) < (p.length:Int):=by omega
   obtain ⟨fn,tmps,assign,body,hy,hR⟩:=HY.o pre ((qn:Int),.slice ai pj.length ci) wk HJ.o ⟨by rw [HPL.o];exact hlt,by rw [HPL.o,← HPJ.o];exact T2.o⟩;have HRR:=kI hR;dsimp only at hy HRR;have kb0:=BK.o.cell;have kb2:=BK.o.lt;clear hR t2 hpj hrev hq hqn;gi_wp2_with fail;refine HRR.o.mono ?_;rintro e9 W3 ⟨hb3,(⟨rfl,hJ3⟩|⟨ch,rfl,hJ3⟩)⟩
   ·have HJ3:=kI hJ3;have KP3:=kI (KP.o.trans hb3);clear hJ3 hb3 hy HRR kb0 kb2;gi_wp2_with fail;go_roundw
    case rel=>exact ⟨j+1,(qn:Int) - 1,_,by omega,rfl,by have:=HQN.o;omega,by have:=HPL.o;simp [this],HJ3.o,KP3.o⟩
    case measure=>simp [intOf] <;> omega
   ·simp (config:={ zetaDelta:=true }) only [Exit.then,Exit.inBlock];exact bodyPost_panic rfl (.inr ⟨_,_,rfl,hJ3⟩)
  ·obtain rfl:j=p.length:=by omega
   have q6:¬ (0:Int)≤q:=by omega
   gi_wp2_with fail;go_end0
   exact .inl ⟨⟨_,rfl⟩,⟨_,HPL.o,HJ.o⟩⟩
abbrev chaClo (An:Nat):Deferred:={ target:=.fn (.func 54) #[.pointer (some ⟨An+1+1,0,none⟩),.pointer (some ⟨An+1,0,none⟩)],args:=#[] }
def ChaT (tmps:Array Value) (An:Nat):Prop:=tmps.getD 6 undef=.pointer (some ⟨An+1,0,none⟩)∧tmps.getD 7 undef=.pointer (some ⟨An+1+1,0,none⟩)
theorem cha_results {tmps:Array Value} {An:Nat} (h:ChaT tmps An) {W:World} {xa:Option Addr} {xn xc:Nat} {c:Int} {t1 t2:TypeId} (b1:Blk W (An+1) #[.slice xa xn xc] t1) (b2:Blk W (An+1+1) #[.int .i64 c] t2) :
  (results Tryz.f18 tmps).run Tryz.prog W=.ok (.tuple #[.slice xa xn xc,.int .i64 c]) W:=by
 obtain ⟨h6,h7⟩:=h;have k1:=b1.cell 0;have k2:=b2.cell 0;simp only [List.getElem?_toArray,List.getElem?_cons_zero] at k1 k2;have l1:=b1.lt;have l2:=b2.lt;simp only [Array.getD_eq_getD_getElem?] at h6 h7;simp only [results,Tryz.results18];simp [h6,h7,go_sem,k1,k2]
theorem cha_marks {fn:Func} {R:Ending→World→Prop} {tmps:Array Value} {u:FrameMode} {cl:List Deferred} (hu:u≠.run):∀ (rs:List Nat) (W:World),rs.Nodup→(∀ r ∈ rs,W.heap[r]?=some (.deferred (some [])))→
  (∀ W',(∀ (i:Nat) (c:Array Value) (t:TypeId),Blk W i c t→Blk W' i c t)→(∀ (w0:World),Ext w0 W→(∀ r ∈ rs,w0.heap.size≤r)→Ext w0 W')→Below 0 W W'→LeavesInM Fence.wide 8 Tryz.prog fn tmps R cl u W')→
  LeavesInM Fence.wide 8 Tryz.prog fn tmps R (rs.map (fun r=>{ target:=.collected r,args:=#[] }) ++ cl) u W:=by
 intro rs;induction rs with
 | nil=>intro W _ _ h;exact h W (fun _ _ _ b=>b) (fun _ x _=>x) (Below.refl 0 W)
 | cons r rs ih=>
  intro W hn hm h;have hr:=hm r (by simp);have hne:∀ q ∈ rs,q≠r:=fun q hq e=>(List.nodup_cons.1 hn).1 (e ▸ hq);have hp:=putObj_blk (o2:=.deferred none) hr (fun _ _ h=>by cases h);refine leavesM_mark hu hr (ih _ (List.nodup_cons.1 hn).2 (fun q hq=>(World.putObj_heap_other (hne q hq)).trans (hm q (by simp [hq]))) (fun W' hb hx h0=>h W' (fun i c t b=>hb i c t (hp i c t b)) (fun w0 x hw=>hx w0 (putObj_ext x (hw r (by simp))) (fun q hq=>hw q (by simp [hq]))) (Below.trans (show Below 0 W (W.putObj r (.deferred none)) from ⟨rfl,rfl,rfl,by simp,fun i hi=>by omega⟩) h0)))
theorem cha_leave_err {m:MD} {plan:List (List Int)} {s:Int} {w W:World} {An:Nat} {c e0:Int} (hc:c≠0) {tmps:Array Value} (ht:ChaT tmps An) {x1:Value} {t1:TypeId} (b1:Blk W (An+1) #[x1] t1) (b3:Blk W (An+1+1) #[.int .i64 e0] 37) (hx:Ext w W) (hA:w.heap.size≤An) (he:chancesS m plan s=([],c)) (rs:List Nat) (hrn:rs.Nodup) (hr:∀ r ∈ rs,An≤r∧W.heap[r]?=some (.deferred (some []))) :
  LeavesInM Fence.wide 8 Tryz.prog Tryz.f18 tmps (fun e w'=>ResN w w' e (chancesS m plan s)∧Ext w w') (rs.map (fun r=>{ target:=.collected r,args:=#[] }) ++ [chaClo An]) (.panicking [errP c]) W:=by
 refine cha_marks (by simp) rs W hrn (fun r h=>(hr r h).2) (fun W1 hb1 hx1 h01=>?_);have hx:=hx1 w hx (fun r h=>Nat.le_trans hA (hr r h).1);have b1:=hb1 _ _ _ b1;have b3:=hb1 _ _ _ b3;refine leavesM_fn (f:=54) (args:=#[.pointer (some ⟨An+1+1,0,none⟩),.pointer (some ⟨An+1,0,none⟩)]) (by simp) (by simp [go_sem]) ?_;refine (chancesDefW_err (An+1+1) (An+1) c e0 hc [] W1 _ _ b3 b1 (by omega)).mono ?_;rintro e u' w'' ⟨rfl,rfl,rfl⟩;obtain ⟨wf,hwf⟩:=gN ((W1.setCell ⟨An+1+1,0,none⟩ (.int .i64 c)).setCell ⟨An+1,0,none⟩ (.slice none 0 0));have f1:Blk wf (An+1) #[.slice none 0 0] t1:=by
  rw [hwf];exact (b1.setOther (a:=⟨An+1+1,0,none⟩) (by dsimp only;omega) _).set 0 _
 have f3:Blk wf (An+1+1) #[.int .i64 c] 37:=by
  rw [hwf];exact (b3.set 0 (.int .i64 c)).setOther (a:=⟨An+1,0,none⟩) (by dsimp only;omega) _
 have hxf:Ext w wf:=by
  rw [hwf];exact Below.setCell (Below.setCell hx (by dsimp only;omega) _) (by dsimp only;omega) _
 rw [← hwf];clear hwf;have hr:=cha_results ht f1.drew f3.drew;simp only [LeavesInM,LeavesIn,settle,errP];exact ⟨_,hr,ResN.mk (OwN.nil _ _) he,hxf.drew⟩
theorem cha_leave_ret {m:MD} {plan:List (List Int)} {s:Int} {w W:World} {An:Nat} {tmps:Array Value} (ht:ChaT tmps An) {xa:Option Addr} {xn xc:Nat} {g:List RR} (b1:Blk W (An+1) #[.slice xa xn xc] 29) (b3:Blk W (An+1+1) #[.int .i64 0] 37) (hx:Ext w W) (hA:w.heap.size≤An)
  (ov:OwN w.heap.size W (.slice xa xn xc) g) (he:chancesS m plan s=(g,0)) (rs:List Nat) (hrn:rs.Nodup) (hr:∀ r ∈ rs,An≤r∧W.heap[r]?=some (.deferred (some []))) :
  LeavesInM Fence.wide 8 Tryz.prog Tryz.f18 tmps (fun e w'=>ResN w w' e (chancesS m plan s)∧Ext w w') (rs.map (fun r=>{ target:=.collected r,args:=#[] }) ++ [chaClo An]) .returning W:=by
 refine cha_marks (by simp) rs W hrn (fun r h=>(hr r h).2) (fun W1 hb1 hx1 h01=>?_);have hx:=hx1 w hx (fun r h=>Nat.le_trans hA (hr r h).1);have ov:=OwN.keeps ov (keeps_blk (A:=W) (B:=W1) 4 h01 hb1) (by decide) (by decide);have b1:=hb1 _ _ _ b1;have b3:=hb1 _ _ _ b3;refine leavesM_fn (f:=54) (args:=#[.pointer (some ⟨An+1+1,0,none⟩),.pointer (some ⟨An+1,0,none⟩)]) (by simp) (by simp [go_sem]) ?_;refine (chancesDefW_ret (An+1+1) (An+1) W1 b3).mono ?_;rintro e u' w'' ⟨rfl,rfl,rfl⟩;obtain ⟨wf,hwf⟩:=gN (W1.setCell ⟨An+1+1,0,none⟩ (.int .i64 0));have hk:Keeps 0 37 W1 wf:=by rw [hwf];exact keeps_setC b3 0 _
 have f1:=b1.keeps hk (by decide);have f3:Blk wf (An+1+1) #[.int .i64 0] 37:=by rw [hwf];exact b3.set 0 (.int .i64 0)
 have hxf:Ext w wf:=by rw [hwf];exact Below.setCell hx (by dsimp only;omega) _
 have ov2:=OwN.ext' (OwN.keeps ov hk (by decide) (by decide)) (Ext.refl wf).drew;rw [← hwf];clear hwf;have hr:=cha_results ht f1.drew f3.drew;simp only [LeavesInM,LeavesIn,settle];exact ⟨_,hr,ResN.mk ov2 he,hxf.drew⟩
end Go.Proofs.YtfflknbeidihoaaGreat
