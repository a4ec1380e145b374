/- Walks and lemmas. -/
import Derived.Test.YtnnjbaijcaiohaaGreatSzA18
import Derived.Test.YtnnjbaijcaiohaaGreatSzA19
import Derived.OwnWalkIn
set_option linter.unusedVariables false
set_option linter.unusedSimpArgs false
set_option maxRecDepth 100000
set_option maxHeartbeats 16000000
namespace Go.Proofs.YtnnjbaijcaiohaaGreat
open Go.RowKit
variable {a a0:Act} {listed:Array Bool} {T:Array Bool→World→Prop} {ops:Array Oper} {ps:Array Tmp} {args tmps:Array Value} {assign body:Code} {Q:Exit→Act→World→Prop} {F:Fence} {u:FrameMode} {f:FuncId} {c s:Int} {plan:List (List Int)} {ds:List Deferred} {l l1 l2 la lb lq:List Int} {rest:List Oper} {cs h vs xs:List Value} {An B C H L N b b0 bx c1 c2 cap d1 d2 fuel g i id j jn k m1 m2 n n1 n2 nf nn off xn y:Nat} {X:Nat→Prop} {oi om:Oper} {a1 a2 a3 xa:Option Addr} {P:Program} {R p p0 p1 p10 p11 p12 p13 p2 p3 p4 p5 p6 p7 p8 p9:Prop} {md:Region.Mode} {α:Type} {e t t1 t2 t3:TypeId} {lv v vb vr z:Value} {A W W' W0 w w' w0 w2 w3 w4 wB:World} {S S1 S2:World→Prop}
section
attribute [local go_sem] Oper.semAt_some
def Ox (w4:World) (m:MD) (plan:List (List Int)) (pre:List (Int × Value)) (W:World):Prop:=Ext w4 W∧pre.length≤plan.length∧∀ i,i < pre.length→fH m (plan.reverse.getD i [])=0
theorem Ox.kq {m:MD} {pre:List (Int × Value)} {B:World} (h:Ox w4 m plan pre A) (q:Kq w4.heap.size A B):Ox w4 m plan pre B:=⟨Below.trans h.1 (q.kz.qN (Nat.le_refl _) h.1.size),h.2⟩
def CaP (w4:World) (m:MD) (plan:List (List Int)) (s:Int) (ch:List PanicEntry) (W:World):Prop:=Ext w4 W∧∃ c:Int,c≠0∧ch=[dC c]∧aM m plan s=([],c)
def U5 (w w4:World) (m:MD) (plan:List (List Int)) (a0:Act) (pre:List (Int × Value)) (x:Int × Value) (a1:Act) (W:World):Prop:=
 Ox w4 m plan pre W∧Ff w plan pre x W∧a1={ tmps:=((a0.tmps.setIfInBounds 43 (.int .i64 x.1)).setIfInBounds 44 x.2).setIfInBounds 9 x.2,defers:=[] }
theorem U5.kq {m:MD} {pre:List (Int × Value)} {x:Int × Value} {a1:Act} {B:World} (h:U5 w w4 m plan a0 pre x a1 A) (q:Kq w4.heap.size A B):U5 w w4 m plan a0 pre x a1 B:=⟨h.1.kq q,h.2⟩
theorem aO.sf {r:RR} (h:aO w0 w (.agg #[.bool r.neg,.slice a1 r.num.length c1,.slice a2 r.den.length c2]) r) (hB:B≤w0.heap.size):gB B w (.slice a1 r.num.length c1) r.num∧gB B w (.slice a2 r.den.length c2) r.den:=by
 exact zPe
def C4 (w w8:World) (m:MD) (plan:List (List Int)) (l0:List RR) (An N1:Nat) (MC:Array Value) (pre:List (Int × Value)) (W:World):Prop:=
 Ext w W∧w8.heap.size≤W.heap.size∧af W An MC 28∧af W (An+1+1) #[.int .i64 0] 37∧W.heap[N1]?=some (.deferred (some []))∧∃ (b:Nat) (l:List RR),af W (An+1) #[.slice (some ⟨b,0,none⟩) m.states.length m.states.length] 29∧l.length=m.states.length∧bQ l∧gy W w.heap.size b m.states.length (fun k=>l.getD k zR)∧An+1+1 < b∧
 mH m plan.reverse l0=mH m (plan.reverse.drop pre.length) l∧pre.length≤plan.length
theorem C4.kq {w8:World} {m:MD} {l0:List RR} {N1:Nat} {MC:Array Value} {pre:List (Int × Value)} {B:World} (h:C4 w w8 m plan l0 An N1 MC pre A) (q:Kq w8.heap.size A B) (hw:w.heap.size≤w8.heap.size) (hn:N1 < w8.heap.size):C4 w w8 m plan l0 An N1 MC pre B:=by
 obtain ⟨h1,h2,h3,h4,h5,b,l,h6,h7,h8,h9,h10⟩:=h;exact ⟨Below.trans h1 (q.kz.qN hw h1.size),Nat.le_trans h2 q.kz.zero.size,q.blk _ _ _ h3,q.blk _ _ _ h4,(q.kz.block N1 (Array.getElem?_eq_some_iff.1 h5).1 (.inl hn)).trans h5,b,l,q.blk _ _ _ h6,h7,h8,h9.keeps (q.keeps 4) ah ah,h10⟩
theorem C4.ext {w8:World} {m:MD} {l0:List RR} {N1:Nat} {MC:Array Value} {pre:List (Int × Value)} {B:World} (h:C4 w w8 m plan l0 An N1 MC pre A) (x:Ext A B):C4 w w8 m plan l0 An N1 MC pre B:=by
 obtain ⟨h1,h2,h3,h4,h5,b,l,h6,h7,h8,h9,h10⟩:=h;exact ⟨h1.trans x,Nat.le_trans h2 x.size,h3.ext x,h4.ext x,(x.block N1 (Array.getElem?_eq_some_iff.1 h5).1).trans h5,b,l,h6.ext x,h7,h8,h9.ext x,h10⟩
instance {w8:World} {m:MD} {l0:List RR} {N1:Nat} {MC:Array Value} {pre:List (Int × Value)} {B:World}:Lx (Ext A B) (C4 w w8 m plan l0 An N1 MC pre A) (C4 w w8 m plan l0 An N1 MC pre B):=⟨fun k h=>C4.ext h k⟩
def CbP (w:World) (m:MD) (plan:List (List Int)) (s:Int) (An N1:Nat) (ch:List PanicEntry) (W:World):Prop:=Ext w W∧(∃ v,af W (An+1) #[v] 29)∧af W (An+1+1) #[.int .i64 0] 37∧W.heap[N1]?=some (.deferred (some []))∧∃ c:Int,c≠0∧ch=[dC c]∧aM m plan s=([],c)
def CbQ (w w8:World) (m:MD) (plan:List (List Int)) (l0:List RR) (An N1:Nat) (MC:Array Value) (a0:Act) (pre:List (Int × Value)) (x:Int × Value) (a1:Act) (W:World):Prop:=
 C4 w w8 m plan l0 An N1 MC pre W∧Ff w plan pre x W∧a1={ tmps:=((a0.tmps.setIfInBounds 83 (.int .i64 x.1)).setIfInBounds 84 x.2).setIfInBounds 13 x.2,defers:=[] }
theorem nX {o:Oper} {bytes:Nat} 
  (hg:o.guard=none) (l c:Operand) (hop:o.op=Op.makeSlice t l c) (n:Nat) (hl:a.eval l=.int .i64 (n:Int)) (hc:a.eval c=.int .i64 (n:Int)) (ht:Tryz.prog.underlying t=some (.slice e)) (hinfo:(Tryz.prog.info? e).map (fun i=>(i.zero,i.size,i.bytes))=some (some z,k,bytes)) (hn:bytes*n≤1000000000000) (hn2:n≤1000000000)
  (C:Array Value) (hC:madeCells z.cells (n*k)=C) (hK:wpListIn F nf Tryz.prog ops Q rest (a.put o.dst (.slice (some ⟨w.heap.size,0,none⟩) n n)) (w.alloc (.cells C e))):wpListIn F nf Tryz.prog ops Q (o :: rest) a w:=by
 have hr:=vZ w n ht hinfo hn hn2;rw [hC] at hr;refine wpListIn_plain hg fun K hK'=>?_;unfold Oper.wpIn;refine ⟨by simp [Oper.about,hop],?_⟩;rw [Oper.semAt_plain F _ _ (by rw [hop];intro c hc';cases hc')];exact zFi
theorem rW (hF:dV F) (hdf:vH ops.toList=true) {S:World→Prop} {i:Nat} {oi:Oper} {v:Value} {fuel:Nat} {listed:Array Bool} {a:Act} {w:World} (hi:ops[i]?=some oi) (hs:Region.noSelect ops=true) (hf:Region.free md ops listed i=true) (hr:(Region.ready md ops listed).contains i=true)
  (hQ:∀ c a w,Q (.panic c) (a.put oi.dst v) w→Q (.panic c) a w) (hy:YieldsIf P ops S oi v a) (ht:S w) (h:bN F n P md ops Q (fun _ w=>S w) fuel (listed.setIfInBounds i true) (a.put oi.dst v) w):bN F n P md ops Q (fun _ w=>S w) (fuel+1) listed a w:=
 gW hF (fun j o ho=>jY hdf j o Uk) (S:=S) (C:=fun _=>True) hi (Region.noSelect_spec hs) hQ (fun _ _ _ _ _ _=>trivial) (fun _ _ _ h=>h) (fun _ _=>Iff.rfl) fuel listed a w (Region.free_spec hi hf) PJ hy trivial ht h
theorem AY (i:Nat) {P:Program} {md:Region.Mode} {ops:Array Oper} {Q:Exit→Act→World→Prop} {oi:Oper} {v:Value} {fuel:Nat} {l:Array Bool} {a:Act} {w:World} {R:Prop} {F:Fence} {n:Nat} {S:World→Prop} (r:R) (hF:dV F:=by exact Or.inr ⟨_,rfl⟩) (hdf:vH ops.toList=true:=by kernel_rfl) (hi:ops[i]?=some oi:=by rfl) (hs:Region.noSelect ops=true:=by kernel_rfl) (hf:Region.free md ops l i=true:=by kernel_rfl) (hr:(Region.ready md ops l).contains i=true:=by kernel_rfl) (hy:YieldsIf P ops S oi v a:=by refine Or.inl ⟨by rfl,?_⟩;intro w hSw;(try dsimp only at hSw);go_simp;first|done|with_reducible rfl) (hT:S w:=by exact ht) (k:R→bN F n P md ops (Qn Q) (fun _ w=>S w) fuel (l.setIfInBounds i true) (a.put oi.dst v) w:=by intro k;(try simp only [sP]);exact k):bN F n P md ops (Qn Q) (fun _ w=>S w) (fuel+1) l a w:=rW hF hdf hi hs hf hr Qn.Rm hy hT (k r)
theorem s8 {c:Code} (h:∀ a0,a0=a→qE F n P c Q a0 w):qE F n P c Q a w:=h a rfl
theorem mB (mv pv:Value) (m:MD) (plan:List (List Int)) (s:Int) (w:World) (hm:dd w mv m) (hp:dL w pv plan) (hlm:eG m) :
  Calls Tryz.prog 21 #[mv,pv,.int .i64 s] w fun e w'=>dN w w' e (aM m plan s)∧Ext w w':=by
 have hck:=fun W (h:dd W mv m)=>jz mv m W h hlm;have hS1:=fun c=>sS (m:=m) (plan:=plan) (s:=s) (c:=c);have hS2:=sT (m:=m) (plan:=plan) (s:=s);have hS3:=sU (m:=m) (plan:=plan) (s:=s);have hS4:=fun j c h0 h1 h2=>sV (m:=m) (plan:=plan) (s:=s) (c:=c) (j:=j) h0 h1 h2;have hS5:=sW (m:=m) (plan:=plan) (s:=s);obtain ⟨HM,HP,xZ⟩:=cC hm hp hlm;obtain ⟨m1,n1,m2,n2,m3,n3,rfl,hmd,hss⟩:=hm;obtain ⟨pa,pc,rfl,hpn⟩:=hp.shape;obtain ⟨c1,hc1⟩:=gN (fS m);rw [← hc1] at hck hS1;obtain ⟨uL,Kt,gY,Eo,HS2,Ii,Zz,HS5⟩:=TD hc1 hss hck hS1 hS2 hS3 hS4 hS5;have hsn:m.states.length≤9223372036854775807:=by obtain ⟨_,_,_,h⟩:=hss.shape;exact h
 clear hp hck hlm hc1 hS1 hS2 hS3 hS4 hS5 hmd hss;have bb0:=(((af.new w #[.bool m.ag.neg,.slice m1 m.ag.num.length n1,.slice m2 m.ag.den.length n2,.slice m3 m.states.length n3] 28).alloc (.cells #[.slice none 0 0] 29)).alloc (.cells #[.int .i64 0] 37));have bb1:=((af.new (w.alloc (.cells #[.bool m.ag.neg,.slice m1 m.ag.num.length n1,.slice m2 m.ag.den.length n2,.slice m3 m.states.length n3] 28)) #[.slice none 0 0] 29).alloc (.cells #[.int .i64 0] 37));have bb2:=(af.new ((w.alloc (.cells #[.bool m.ag.neg,.slice m1 m.ag.num.length n1,.slice m2 m.ag.den.length n2,.slice m3 m.states.length n3] 28)).alloc (.cells #[.slice none 0 0] 29)) #[.int .i64 0] 37);rw [World.size_alloc] at bb1;rw [World.size_alloc,World.size_alloc] at bb2;have x0:Ext w (((w.alloc (.cells #[.bool m.ag.neg,.slice m1 m.ag.num.length n1,.slice m2 m.ag.den.length n2,.slice m3 m.states.length n3] 28)).alloc (.cells #[.slice none 0 0] 29)).alloc (.cells #[.int .i64 0] 37)):=((((Ext.refl w).alloc _).alloc _).alloc _);obtain ⟨A0,A1,A2,X⟩:=dW bb0 bb1 bb2 x0;clear x0 bb0 bb1 bb2;have hmf:∀ (fn:Fn) (first cap:Array Value) (w:World),(Instr.makeFunc fn first cap).run Tryz.prog w=.ok (.func fn first cap) w:=fun _ _ _ _=>rfl;have WA:Hid (w.heap.size≤w.heap.size):=kI (Nat.le_refl _);refine (callsIn_wide (n:=8)).1 ?_;refine nS Tryz.func21 rfl ?_;simp only [Tryz.ntmps21,List.size_toArray,List.length_cons,List.length_nil,Nat.reduceAdd,Nat.reduceSub,Array.replicate_succ,Array.replicate_zero,List.push_toArray,List.append_toArray,List.nil_append,List.cons_append];refine dq ?_;refine ej ?_;refine wpIn_wide.2 ?_;go_wp2_with fail;(try simp only [Exit.then]);refine dq ?_;refine ej ?_;refine wpIn_wide.2 ?_;go_wp2_with fail;(try simp only [Exit.then]);clear hmf;obtain ⟨wl,hwl⟩:=gN ((((w.alloc (.cells #[.bool m.ag.neg,.slice m1 m.ag.num.length n1,.slice m2 m.ag.den.length n2,.slice m3 m.states.length n3] 28)).alloc (.cells #[.slice none 0 0] 29)).alloc (.cells #[.int .i64 0] 37)))
 rw [← hwl] at A0 A1 A2 X ⊢;clear hwl;obtain ⟨An,hAn⟩:=gN (w.heap.size);rw [← hAn] at A0 A1 A2 ⊢;replace WA:Hid (w.heap.size≤An):=kI PG;clear hAn;refine dq ?_;refine ej ?_;refine wpIn_wide.2 ?_;obtain ⟨aK,fA0,aJ⟩:=A0.o.q3;go_wp2_with fail;refine (gY.o wl (HM.o.ext X.o)).mono ?_;rintro e w1 ⟨rfl,hx⟩;clear aK fA0 aJ;replace A0:=A0.x hx;replace A1:=A1.x hx;replace A2:=A2.x hx;replace X:=X.x hx;clear hx gY;go_wp2_with fail;by_cases h1:c1=0
 rotate_left
 ·refine (bB h1 _).mono ?_;rintro e w9 ⟨rfl,rfl⟩;(try simp +zetaDelta only [Exit.then,Exit.inBlock]);exact cX h1 ⟨rfl,rfl⟩ A1.o A2.o X.o WA.o (Eo.o _ rfl h1) [] List.nodup_nil (fun r h=>by cases h)
 subst h1;have H0:=uL.o.symm;refine (iK _).mono ?_;rintro e w9 ⟨rfl,rfl⟩;have hml:=bD H0;have ZJ:m.states.length≤200:=hml.2.2.1;have Cw:=kI H0;clear H0 hml;go_wp2_with fail;(try simp only [Exit.then]);by_cases h2:s < 0∨(m.states.length:Int)≤s
 ·have E:=HS2.o Cw.o h2;have HE:=kI E;clear E;by_cases h3:s < 0
  ·refine dq ?_;refine ej ?_;refine wpIn_wide.2 ?_;clear h2;obtain ⟨aK,fA0,aJ⟩:=A0.o.q3;go_wp2_with fail;refine (bB (c:=8) ah _).mono ?_;rintro e w8 ⟨rfl,rfl⟩;(try simp +zetaDelta only [Exit.then,Exit.inBlock]);exact cX ah ⟨rfl,rfl⟩ A1.o A2.o X.o WA.o HE.o [] List.nodup_nil (fun r h=>by cases h)
  ·refine dq ?_;refine ej ?_;refine wpIn_wide.2 ?_;have h4:(m.states.length:Int)≤s:=by omega
   clear h2;obtain ⟨aK,fA0,aJ⟩:=A0.o.q3;go_wp2_with fail;refine (bB (c:=8) ah _).mono ?_;rintro e w8 ⟨rfl,rfl⟩;(try simp +zetaDelta only [Exit.then,Exit.inBlock]);exact cX ah ⟨rfl,rfl⟩ A1.o A2.o X.o WA.o HE.o [] List.nodup_nil (fun r h=>by cases h)
 have H2:=kI h2;have h3:¬ s < 0:=by omega
 have h4:¬ (m.states.length:Int)≤s:=by omega
 clear h2;by_cases h5:24 < plan.length
 ·have HE:=kI (Ii.o Cw.o H2.o h5);have h6:(24:Int) < (plan.length:Int):=by omega
  refine dq ?_;refine ej ?_;refine wpIn_wide.2 ?_;obtain ⟨aK,fA0,aJ⟩:=A0.o.q3;go_wp2_with fail;refine (bB (c:=4) ah _).mono ?_;rintro e w8 ⟨rfl,rfl⟩;(try simp +zetaDelta only [Exit.then,Exit.inBlock]);exact cX ah ⟨rfl,rfl⟩ A1.o A2.o X.o WA.o HE.o [] List.nodup_nil (fun r h=>by cases h)
 have h6:¬ (24:Int) < (plan.length:Int):=by omega
 refine dq ?_;refine ej ?_;refine wpIn_wide.2 ?_;obtain ⟨aK,fA0,aJ⟩:=A0.o.q3;go_wp2_with fail;clear aK fA0 aJ;(try simp only [Exit.then]);have ai6:plan.length≤24:=by omega
 clear h3 h4 h5 h6;refine dq ?_;refine dq ?_;refine ej ?_;refine wpIn_wide.2 ?_;go_wp2_with fail;refine (xm pa plan.length pc w9).mono ?_;rintro e w4 ⟨rfl,hw4⟩;obtain ⟨H1,hH1⟩:=gN (w9.heap.size);rw [← hH1];have hx:Ext w9 w4:=by rw [hw4];exact (Ext.refl _).alloc _
 have hs4:w4.heap.size=H1+1:=by rw [hw4,hH1];simp
 have hb0:af w4 H1 #[.slice pa plan.length pc] 30:=by rw [hw4,hH1];exact af.new _ _ _
 have hAH:An+1+1 < H1:=by rw [hH1];exact A2.o.lt
 have UA:w.heap.size≤An:=WA.o;replace A0:=A0.x hx;replace A1:=A1.x hx;replace A2:=A2.x hx;replace X:=X.x hx;have S4:=kI hs4;have D0:=kI hb0;clear hx hs4 hb0 hw4 hH1;go_wp2_with fail;(try simp only [Exit.then]);have hN:w4.heap.size=H1+1:=S4.o;have hseq:∀ W1,Ext w4 W1→uv Fence.wide 7 Tryz.prog 139 #[.pointer (some ⟨H1,0,none⟩)] (ei w4.heap.size (fun _=>False)) Ext (fun x:Int × Value=>#[.int .i64 x.1,x.2]) (Ff w plan) (fun xs=>xs.length=plan.length) (w4.heap.size+1) W1:=by
  intro W1 hx;exact xp 7 Z pa pc plan H1 w4.heap.size _ _ w W1 HP.o Z (X.o.trans hx) (fun i h=>h.elim) Z Z hx.size (D0.o.ext hx)
 have I0:Ox w4 m plan [] w4:=⟨Ext.refl _,Nat.zero_le _,(fun i h=>by cases h)⟩;refine qF ?_;refine s8 ?_;intro a0 ha0;refine jJ (n:=8) rfl Z (gf:=139) (lb:=#[.pointer (some ⟨H1,0,none⟩)]) (by rw [ha0];rfl) trivial (enters_of Tryz.func139 ak rfl) (ei w4.heap.size (fun _=>False)) Ext (fun A B x h=>⟨x.block _ Z,x.block _ h⟩) (fun _ _ _=>ei.trans) (fun A B _ z=>ei.kz (Nat.le_refl _) z.kz) hseq (fun _=>rfl)
  (Ox w4 m plan) (fun ch _ W=>CaP w4 m plan s ch W) (fun _ _ _ h k=>h.kq k) (fun _ _ _ h x=>⟨h.1.trans x,h.2⟩) I0 (U5 w w4 m plan a0) (fun _ _ _ _ _ h k=>h.kq k) ?hassign ?hbody ?hdone ?gj
 case hassign=>
  rintro ll pre x W K h1 h2 hlt2 hK;have Pd:=kI h1;have Pe:=kI h2;clear h1 h2 hseq I0;rw [ha0];simp only [List.zip_toArray,List.zip_cons_cons,List.zip_nil_left,List.zip_nil_right,List.foldl_toArray,List.foldl_toArray',List.size_toArray,List.length_cons,List.length_nil,List.foldl_cons,List.foldl_nil,List.setIfInBounds_toArray,List.set_cons_succ,List.set_cons_zero];gi_wp2_with fail;exact hK _ _ (Ext.refl W) ⟨Pd.out,Pe.out,by rw [ha0];simp only [List.setIfInBounds_toArray,List.set_cons_succ,List.set_cons_zero]⟩
 case gj=>
  rintro ch xs W ⟨hx,c,hc,rfl,hE⟩ hD;refine ⟨.inr ⟨_,rfl⟩,?_⟩;rw [ha0];(try simp +zetaDelta only [Exit.then,Exit.inBlock]);exact cX hc ⟨rfl,rfl⟩ (A1.o.ext hx) (A2.o.ext hx) (X.o.trans hx) WA.o hE [w4.heap.size] dc (fun r h=>by rw [List.mem_singleton.1 h];exact ⟨by omega,hD⟩)
 case hbody=>
  rintro ll pre ⟨xi,xv⟩ a1 W ⟨⟨hx,hpk,hok⟩,⟨hlt,hrd⟩,rfl⟩ hlt2;dsimp only at hrd ⊢;rw [ha0];simp only [List.setIfInBounds_toArray,List.set_cons_succ,List.set_cons_zero];obtain ⟨pj,Fg⟩:=gN (plan.reverse.getD pre.length []);rw [← Fg] at hrd;obtain ⟨xa,xc,rfl,hp1,hp2,-⟩:=hrd.get;have ZK:pj.length≤9223372036854775807:=by omega
  obtain ⟨RD,Ze,OK,ox,XW⟩:=iR hrd Fg hok hlt hx;have XWW:Hid (Ext w W):=kI (X.o.trans hx);have MH:Hid (∀ (c:Int) (W':World),c≠0→fH m pj=c→Ext W W'→ei w4.heap.size (fun _=>False) W W'∧CaP w4 m plan s [dC c] W'):=kI (fun c W' hc he hx'=>⟨.ext hx',hx.trans hx',c,hc,rfl,Zz.o pre.length c Cw.o H2.o Z Uj hok (by rw [← Fg];exact he) hc⟩);have U6:Hid (∀ W',Ext W W'→Kd w4.heap.size W W'):=kI (fun W' hx'=>⟨hx'.size,hx'.block _ Z,hx'.block _ Z⟩);have B0:=A0.x hx;clear hrd hp1 hp2 Fg hok hlt hx hseq I0 hN;refine wpIn_block ?_;by_cases hle:pj.length=m.states.length
  ·have qle:(pj.length:Int)=(m.states.length:Int):=by rw [hle]
   have SQ:((pj.length:Int) != (m.states.length:Int))=false:=by simp [hle]
   have NY:=kI hle;clear hle qle;obtain ⟨ZL,fB0,lB0⟩:=B0.o.q3;gi_wp2_with fail;clear ZL fB0 lB0;clear SQ;gi_loopw [54] (fun i wr=>∃ u:Nat,u≤pj.length∧i=.int .i64 u∧(∀ t,t < u→fD m pj t=0)∧Ext W wr) (fun i _=>pj.length - (intOf i).toNat)
   case atStart=>exact ⟨0,Nat.zero_le _,rfl,(fun t h=>by omega),Ext.refl _⟩
   case round=>
    obtain ⟨wk,hwk⟩:=gN (wr);subst hwk;obtain ⟨u,hu,rfl,hpo,hxk⟩:=hrel;have PO:=kI hpo;have XK:=kI hxk;have ZM:=B0.x hxk;clear hpo hxk;by_cases kA:u < pj.length
    ·obtain ⟨xb,xo,rfl,g0,g1⟩:=iE (RD.o.ext (XWW.o.trans XK.o)) kA;obtain ⟨av,hav⟩:=gN (pj.getD u 0);rw [← hav] at g1;have HAV:=kI hav;clear hav;have hun:u < m.states.length:=by rw [← NY.o];exact kA
     obtain ⟨sb,so,ai,ci,rfl,t0,t1,-⟩:=(Kt.o.ext (XWW.o.trans XK.o)).at hun;obtain ⟨al,hal⟩:=gN ((m.states.getD u []).length);have xO:=kI hal;rw [← hal] at t1;clear hal;have FAIL:Hid ((av < 0∨(al:Int)≤av)→fH m pj=8):=kI (fun h=>by
      have e:fD m pj u=8:=by unfold fD;rw [← HAV.o,← xO.o,if_pos h]
      unfold fH;rw [if_neg T7];exact (cz (f:=fD m pj) PO.o (by rw [e];decide) kA).trans e)
     have q1:(0:Int)≤(u:Int):=by omega
     have q2:(u:Int) < (pj.length:Int):=by omega
     have q3:(u:Int) < (m.states.length:Int):=by omega
     by_cases ha0:av < 0
     ·obtain ⟨Jb,Jc,Jd⟩:=ZM.o.q3;gi_wp2_with fail;clear Jb Jc Jd;first|refine ⟨trivial,(callsIn_wide.2 (bB (c:=8) ah _)).mono ?_⟩|refine (dV.calls (Or.inr ⟨_,rfl⟩) (bB (c:=8) ah _)).mono ?_|refine ⟨trivial,(dV.calls (Or.inr ⟨_,rfl⟩) (bB (c:=8) ah _)).mono ?_⟩
      rintro e w8 ⟨rfl,rfl⟩;(try simp +zetaDelta only [Exit.then,Exit.inBlock]);obtain ⟨p1,p2⟩:=MH.o 8 _ ah (FAIL.o (.inl ha0)) XK.o;exact ⟨rfl,U6.o _ XK.o,p1,p2⟩
     by_cases ha1:(al:Int)≤av
     ·obtain ⟨Jb,Jc,Jd⟩:=ZM.o.q3;gi_wp2_with fail;clear Jb Jc Jd;first|refine ⟨trivial,(callsIn_wide.2 (bB (c:=8) ah _)).mono ?_⟩|refine (dV.calls (Or.inr ⟨_,rfl⟩) (bB (c:=8) ah _)).mono ?_|refine ⟨trivial,(dV.calls (Or.inr ⟨_,rfl⟩) (bB (c:=8) ah _)).mono ?_⟩
      rintro e w8 ⟨rfl,rfl⟩;(try simp +zetaDelta only [Exit.then,Exit.inBlock]);obtain ⟨p1,p2⟩:=MH.o 8 _ ah (FAIL.o (.inr ha1)) XK.o;exact ⟨rfl,U6.o _ XK.o,p1,p2⟩
     obtain ⟨Jb,Jc,Jd⟩:=ZM.o.q3;gi_wp2_with fail;go_roundw
     case rel=>
      refine ⟨u+1,by omega,by go_num,fun t ht=>?_,XK.o⟩;by_cases e:t=u
      ·subst e;unfold fD;rw [← HAV.o,← xO.o,if_neg Z]
      ·exact PO.o t Z
     case measure=>simp [intOf];omega
    ·obtain rfl:u=pj.length:=by omega
     have q6:¬ (pj.length:Int) < (pj.length:Int):=by omega
     gi_wp2_with fail;(try simp only [Exit.then,Exit.inBlock]);refine ⟨U6.o _ XK.o,.ext XK.o,XW.o.trans XK.o,by rw [List.length_append,List.length_singleton];exact ox.o,fun i hi=>?_⟩;rw [List.length_append,List.length_singleton] at hi;by_cases e:i=pre.length
     ·subst e;rw [← Ze.o];unfold fH;rw [if_neg T7];exact bg PO.o
     ·exact OK.o i Z
  ·have SQ:((pj.length:Int) != (m.states.length:Int))=true:=by simp;omega
   have FAIL:Hid (fH m pj=16):=kI (by unfold fH;rw [if_pos hle]);clear hle;obtain ⟨ZL,fB0,lB0⟩:=B0.o.q3;gi_wp2_with fail;clear ZL fB0 lB0;first|refine ⟨trivial,(callsIn_wide.2 (bB (c:=16) ah _)).mono ?_⟩|refine (dV.calls (Or.inr ⟨_,rfl⟩) (bB (c:=16) ah _)).mono ?_|refine ⟨trivial,(dV.calls (Or.inr ⟨_,rfl⟩) (bB (c:=16) ah _)).mono ?_⟩
   rintro e w8 ⟨rfl,rfl⟩;(try simp +zetaDelta only [Exit.then,Exit.inBlock]);obtain ⟨p1,p2⟩:=MH.o 16 _ ah FAIL.o (Ext.refl _);exact ⟨rfl,U6.o _ (Ext.refl _),p1,p2⟩
 case hdone=>
  rintro xs W hF ⟨hx,hpk,hok⟩ hD;refine ⟨.inl rfl,?_⟩;have hF':xs.length=plan.length:=hF;rw [hF'] at hok;have E5:=kI (HS5.o Cw.o H2.o Z (fun i hi=>hok i NW));have U7:=kI hok;have hs0:0≤s:=by have:=H2.o;omega
  have ai7:s < (m.states.length:Int):=by have:=H2.o;omega
  replace X:=X.x hx;replace A0:=A0.x hx;replace A1:=A1.x hx;replace A2:=A2.x hx;have SZW:=kI hx.size;obtain ⟨N1,hN1⟩:=gN (w4.heap.size);have HD1:Hid (W.heap[N1]?=some (.deferred (some []))):=kI (by rw [hN1];exact hD);have N1A:An+1+1 < N1:=by omega
  rw [← hN1];rw [ha0];clear hx hpk hok hD hseq I0 hF hF' hN hN1 ha0;(try simp only [Exit.then]);obtain ⟨sn,rfl⟩:∃ n:Nat,s=(n:Int):=⟨s.toNat,by omega⟩;refine dq ?_;refine ej ?_;refine wpIn_wide.2 ?_;have HB0:=kI (gy.new (B:=w.heap.size) (n:=m.states.length) (af.new (W.setCell ⟨An+1,0,none⟩ (.slice (some ⟨W.heap.size,0,none⟩) m.states.length m.states.length)) (madeCells #[.bool false,.slice none 0 0,.slice none 0 0] (m.states.length*3)) 25));obtain ⟨CC,Ei⟩:=gN (madeCells #[Value.bool false,.slice none 0 0,.slice none 0 0] (m.states.length*3));rw [← Ei] at HB0;have Gq:=kI Ei;clear Ei;obtain ⟨aK,fA0,aJ⟩:=A0.o.q3;obtain ⟨cT,cU,lA1⟩:=A1.o.q3;go_wp2_with (at_make;(refine dB rfl _ _ rfl m.states.length rfl rfl Tryz.underlying29 Tryz.dH Z Z CC (by exact Gq.o.symm) ?_))
  (try simp only [Exit.then]);clear aK fA0 aJ cT cU lA1;obtain ⟨b0,hb0⟩:=gN (W.heap.size);rw [← hb0] at HB0 ⊢;obtain ⟨w5,hw5⟩:=gN ((W.setCell ⟨An+1,0,none⟩ (.slice (some ⟨b0,0,none⟩) m.states.length m.states.length)).alloc (.cells CC 25));have hfr:gy w5 w.heap.size b0 m.states.length (fun _=>zR):=by
   have h:=HB0.o;rw [Gq.o,World.size_setCell,← hb0,← Gq.o,← hw5] at h;exact h
  have hk0:=aB A1.o 0 (.slice (some ⟨b0,0,none⟩) m.states.length m.states.length);have hxx:Ext (W.setCell ⟨An+1,0,none⟩ (.slice (some ⟨b0,0,none⟩) m.states.length m.states.length)) w5:=by rw [hw5];exact (Ext.refl _).alloc _
  have hwA:w.heap.size≤An:=WA.o;have hbA:N1 < b0:=by
   rw [hb0];have h:=HD1.o;exact (Array.getElem?_eq_some_iff.1 h).1
  have c0:=(A0.o.keeps hk0 ah).ext hxx;have c1':af w5 (An+1) #[(.slice (some ⟨b0,0,none⟩) m.states.length m.states.length)] 29:=(A1.o.set 0 (.slice (some ⟨b0,0,none⟩) m.states.length m.states.length)).ext hxx;have c2:=(A2.o.keeps hk0 ah).ext hxx;have eF:Ext w w5:=Ext.trans (Below.setCell X.o aD _) hxx;have hd9:w5.heap[N1]?=some (.deferred (some [])):=by
   rw [hxx.block N1 (by rw [World.size_setCell,← hb0];exact hbA)];exact (Below.heap_setCell _ _ _ _ aD).trans HD1.o
  rw [← hw5];replace A0:=kI c0;replace A1:=kI c1';replace A2:=kI c2;replace X:=kI eF;replace HD1:=kI hd9;have FR:=kI hfr;clear hb0 hw5 hfr hk0 hxx c0 c1' c2 eF hd9 HB0 Gq;refine dq ?_;refine ej ?_;refine wpIn_wide.2 ?_;have q1:(0:Int)≤(sn:Int):=by omega
  have q2:(sn:Int) < (m.states.length:Int):=by omega
  have ht:∀ l,T2 4 4 (fun W=>W.cell? ⟨An+1,0,none⟩=some (.slice (some ⟨b0,0,none⟩) m.states.length m.states.length)) (fun W=>W.cell? ⟨An+1,0,none⟩=some (.slice (some ⟨b0,0,none⟩) m.states.length m.states.length)) l w5.drew:=fun l=>T2.both (fw A1.o.drew) (fw A1.o.drew);refine dT (T:=T2 4 4 (fun W=>W.cell? ⟨An+1,0,none⟩=some (.slice (some ⟨b0,0,none⟩) m.states.length m.states.length)) (fun W=>W.cell? ⟨An+1,0,none⟩=some (.slice (some ⟨b0,0,none⟩) m.states.length m.states.length))) ak ?_;refine sL 0 ?_;refine sL 1 ?_;clear ht;refine xr [2] ?_;refine xc (fun K hK=>?_);go_simp;refine (il 1 w5.drew ah ah).mono ?_;rintro e w6 ⟨⟨v,rfl,nn⟩,hx⟩;obtain ⟨one,hone⟩:=gN (rep ((1:Int):Rat));rw [← hone] at nn;have ys:=kI hone;obtain ⟨r1,r2,r3,r4,rfl⟩:=nn.shape;have hx0:=Ext.trans ((Ext.refl w5).drew) hx;obtain ⟨hs1,hs2⟩:=nn.sf (B:=w.heap.size) X.o.drew.size;have hd:=(hx0.block N1 (Array.getElem?_eq_some_iff.1 HD1.o).1).trans HD1.o;replace A0:=A0.x hx0;replace A1:=A1.x hx0;replace A2:=A2.x hx0;replace X:=X.x hx0;replace FR:=FR.x hx0;replace HD1:=kI hd;have S1:=kI hs1;have S2:=kI hs2;clear nn hx hx0 hs1 hs2 hd hone;refine hK.out _ _ (T2.both (fw A1.o) (fw A1.o)) ?_;clear hK K;(try simp only [sP]);have ht:∀ l,T2 4 4 (fun W=>W.cell? ⟨An+1,0,none⟩=some (.slice (some ⟨b0,0,none⟩) m.states.length m.states.length)) (fun W=>W.cell? ⟨An+1,0,none⟩=some (.slice (some ⟨b0,0,none⟩) m.states.length m.states.length)) l w6:=fun l=>T2.both (fw A1.o) (fw A1.o);refine sL 3 ?_;clear ht;refine xr [4] ?_;refine xc (fun K hK=>?_);obtain ⟨g1,g2,g3,g4,z0,z1,z2,-⟩:=FR.o.at (j:=sn) Z;have f0:=FR.o.free;have fl:=FR.o.lt;go_simp;refine hK.out _ _ ⟨fun h=>absurd h ah,fun h=>absurd h ah⟩ ?_;clear hK K z0 z1 z2 f0 fl;(try simp only [sP]);refine eC ak ?_ _;refine ⟨rfl,?_⟩;obtain ⟨w7,hw7⟩:=gN (((w6.setCell ⟨b0,sn*3,none⟩ (.bool one.neg)).setCell ⟨b0,sn*3+1,none⟩ (.slice r1 one.num.length r2)).setCell ⟨b0,sn*3+2,none⟩ (.slice r3 one.den.length r4));have hfr:gy w7 w.heap.size b0 m.states.length (fun k=>(jh m (sn:Int)).getD k zR):=by
   have h:=FR.o.set (a:=sn) (r:=one) Z S1.o S2.o;rw [← hw7] at h;refine h.congr (fun k hk=>?_);unfold jh;rw [List.getD_eq_getElem?_getD,Int.toNat_natCast];by_cases e:k=sn
   ·subst e;rw [if_pos rfl,List.getElem?_set_self (by rw [List.length_replicate];exact hk),← ys.o];rfl
   ·rw [if_neg e,List.getElem?_set_ne (Ne.symm e),List.getElem?_replicate,if_pos hk];rfl
  obtain ⟨cur,hcur,-,-⟩:=FR.o;have Gu:Keeps b0 25 w6 w7:=by rw [hw7];exact tX hcur _ _ _ _
  have c0:=A0.o.keeps Gu ah;have c1':=A1.o.keeps Gu ah;have c2:=A2.o.keeps Gu ah;have eF:Ext w w7:=Below.trans X.o ((Gu.below (Nat.le_of_lt FR.o.lt)).mono Z);have hd9:w7.heap[N1]?=some (.deferred (some [])):=(Gu.block N1 (Array.getElem?_eq_some_iff.1 HD1.o).1 (.inl Z)).trans HD1.o;have hl0:bQ (jh m (sn:Int)):=fun i hi=>by
   unfold jh at hi ⊢;rw [List.length_set,List.length_replicate] at hi;rw [List.getD_eq_getElem?_getD,Int.toNat_natCast];by_cases e:i=sn
   ·subst e;rw [List.getElem?_set_self (by rw [List.length_replicate];exact hi)];exact cG _
   ·rw [List.getElem?_set_ne (Ne.symm e),List.getElem?_replicate,if_pos hi];exact bO
  have hlen0:(jh m (sn:Int)).length=m.states.length:=by unfold jh;rw [List.length_set,List.length_replicate]
  rw [← hw7];replace A0:=kI c0;replace A1:=kI c1';replace A2:=kI c2;replace X:=kI eF;replace HD1:=kI hd9;replace FR:=kI hfr;have L0:=kI hl0;have ZO:=kI hlen0;clear hw7 hfr hcur Gu c0 c1' c2 eF hd9 S1 S2 hl0 hlen0 ys q1 q2;(try simp only [Exit.then]);refine dq ?_;refine dq ?_;refine ej ?_;refine wpIn_wide.2 ?_;go_wp2_with fail;refine (xm pa plan.length pc w7).mono ?_;rintro e w8 ⟨rfl,hw8⟩;obtain ⟨H2,hH2⟩:=gN (w7.heap.size);rw [← hH2];have hx:Ext w7 w8:=by rw [hw8];exact (Ext.refl _).alloc _
  have hs4:w8.heap.size=H2+1:=by rw [hw8,hH2];simp
  have hb0:af w8 H2 #[.slice pa plan.length pc] 30:=by rw [hw8,hH2];exact af.new _ _ _
  have hAH:N1 < H2:=by rw [hH2];exact (Array.getElem?_eq_some_iff.1 HD1.o).1
  have hd8:=(hx.block N1 (Array.getElem?_eq_some_iff.1 HD1.o).1).trans HD1.o;replace FR:=FR.x hx;replace HD1:=kI hd8;replace A0:=A0.x hx;replace A1:=A1.x hx;replace A2:=A2.x hx;replace X:=X.x hx;have S8:=kI hs4;have D8:=kI hb0;clear hx hs4 hb0 hw8 hH2 hd8;go_wp2_with fail;(try simp only [Exit.then]);have ZP:w8.heap.size=H2+1:=S8.o;have hseq:∀ W1,Ext w8 W1→uv Fence.wide 7 Tryz.prog 139 #[.pointer (some ⟨H2,0,none⟩)] (ei w8.heap.size (fun i=>i=An+1)) Ext (fun x:Int × Value=>#[.int .i64 x.1,x.2]) (Ff w plan) (fun xs=>xs.length=plan.length) (w8.heap.size+1) W1:=by
   intro W1 hx;exact xp 7 Z pa pc plan H2 w8.heap.size _ _ w W1 HP.o Z (X.o.trans hx) (fun i h=>by have h':i=An+1:=h;omega) Z Z hx.size (D8.o.ext hx)
  have I0:C4 w w8 m plan (jh m (sn:Int)) An N1 #[.bool m.ag.neg,.slice m1 m.ag.num.length n1,.slice m2 m.ag.den.length n2,.slice m3 m.states.length n3] [] w8:=⟨X.o,Nat.le_refl _,A0.o,A2.o,HD1.o,b0,_,A1.o,ZO.o,L0.o,FR.o,by omega,rfl,Nat.zero_le _⟩;have hw8:w.heap.size≤w8.heap.size:=by omega
  have FK:N1 < w8.heap.size:=by omega
  refine qF ?_;refine s8 ?_;intro a0 ha0;refine jJ (n:=8) rfl Z (gf:=139) (lb:=#[.pointer (some ⟨H2,0,none⟩)]) (by rw [ha0];rfl) trivial (enters_of Tryz.func139 ak rfl) (ei w8.heap.size (fun i=>i=An+1)) Ext (fun A B x h=>⟨x.block _ Z,x.block _ h⟩) (fun _ _ _=>ei.trans) (fun A B _ z=>ei.kz (Nat.le_refl _) z.kz) hseq (fun _=>rfl)
   (C4 w w8 m plan (jh m (sn:Int)) An N1 #[.bool m.ag.neg,.slice m1 m.ag.num.length n1,.slice m2 m.ag.den.length n2,.slice m3 m.states.length n3]) (fun ch _ W=>CbP w m plan (sn:Int) An N1 ch W) (fun _ _ _ h k=>h.kq k hw8 FK) (fun _ _ _ h x=>h.ext x) I0 (CbQ w w8 m plan (jh m (sn:Int)) An N1 #[.bool m.ag.neg,.slice m1 m.ag.num.length n1,.slice m2 m.ag.den.length n2,.slice m3 m.states.length n3] a0) (fun _ _ _ _ _ h k=>⟨h.1.kq k hw8 FK,h.2⟩) ?hassign ?hbody ?hdone ?gj
  case hassign=>
   rintro ll pre x W K h1 h2 hlt2 hK;have Pd:=kI h1;have Pe:=kI h2;clear h1 h2 hseq I0;rw [ha0];simp only [List.zip_toArray,List.zip_cons_cons,List.zip_nil_left,List.zip_nil_right,List.foldl_toArray,List.foldl_toArray',List.size_toArray,List.length_cons,List.length_nil,List.foldl_cons,List.foldl_nil,List.setIfInBounds_toArray,List.set_cons_succ,List.set_cons_zero];gi_wp2_with fail;exact hK _ _ (Ext.refl W) ⟨Pd.out,Pe.out,by rw [ha0];simp only [List.setIfInBounds_toArray,List.set_cons_succ,List.set_cons_zero]⟩
  case gj=>
   rintro ch xs W ⟨hx,⟨v,b1⟩,b2,hd1,c,hc,rfl,hE⟩ hD;refine ⟨.inr ⟨_,rfl⟩,?_⟩;rw [ha0];(try simp +zetaDelta only [Exit.then,Exit.inBlock]);exact cX hc ⟨rfl,rfl⟩ b1 b2 hx WA.o hE [w8.heap.size,N1] oZ (fun r h=>by
    rcases List.mem_cons.1 h with rfl|h
    ·exact ⟨by omega,hD⟩
    ·rw [List.mem_singleton.1 h];exact ⟨by omega,hd1⟩)
  case hdone=>
   rintro xs W hF ⟨hx,hsz,b0',b2,hd1,bl,l,b1,hl,hll,hf,hbl,hch,hpk⟩ hD;refine ⟨.inl rfl,?_⟩;have hF':xs.length=plan.length:=hF;rw [hF',List.drop_of_length_le dc] at hch;have E:Hid (aM m plan (sn:Int)=(l,0)):=kI (by rw [E5.o,hch];rfl);have hfo:=hf.own Z Z;have hlr:(List.range m.states.length).map (fun k=>l.getD k zR)=l:=by rw [← hl];exact pZ l zR
   rw [hlr] at hfo;obtain ⟨OW,XW,B1,B2,HDa,HDb⟩:=od hfo hx b1 b2 hd1 hD;obtain ⟨N2,SS⟩:=gN (w8.heap.size);have hNN:N1 < N2:=by omega
   rw [← SS] at HDb ⊢;rw [ha0];clear hx hsz b0' b2 hd1 b1 hll hf hch hpk hD hseq I0 hF hF' hfo hlr hl ZP SS ha0 hw8 FK;(try simp only [Exit.then]);refine ej ?_;refine wpIn_wide.2 ?_;obtain ⟨I9,Ja,lB1⟩:=B1.o.q3;obtain ⟨MF,MG,lB2⟩:=B2.o.q3;go_wp2_with fail;clear I9 Ja lB1 MF MG lB2;obtain ⟨wf,hwf⟩:=gN ((W.setCell ⟨An+1,0,none⟩ (.slice (some ⟨bl,0,none⟩) m.states.length m.states.length)).setCell ⟨An+1+1,0,none⟩ (.int .i64 0));have hk1:=aB B1.o 0 (.slice (some ⟨bl,0,none⟩) m.states.length m.states.length);have hk2:=aB (B2.o.setOther (a:=⟨An+1,0,none⟩) aD (.slice (some ⟨bl,0,none⟩) m.states.length m.states.length)) 0 (.int .i64 0);have b1:af wf (An+1) #[.slice (some ⟨bl,0,none⟩) m.states.length m.states.length] 29:=by rw [hwf];exact (B1.o.set 0 _).keeps hk2 ah
   have b2:af wf (An+1+1) #[.int .i64 0] 37:=by rw [hwf];exact (B2.o.keeps hk1 ah).set 0 _
   have ow:bm w.heap.size wf (.slice (some ⟨bl,0,none⟩) m.states.length m.states.length) l:=by rw [hwf];exact (bm.keeps OW.o hk1 ah ah).keeps hk2 ah ah
   have xw:Ext w wf:=by rw [hwf];exact Below.setCell (Below.setCell XW.o aD _) aD _
   have hda:wf.heap[N1]?=some (.deferred (some [])):=by rw [hwf];exact (Below.heap_setCell _ _ _ _ aD).trans ((Below.heap_setCell _ _ _ _ aD).trans HDa.o)
   have hdb:wf.heap[N2]?=some (.deferred (some [])):=by rw [hwf];exact (Below.heap_setCell _ _ _ _ aD).trans ((Below.heap_setCell _ _ _ _ aD).trans HDb.o)
   rw [← hwf];clear hwf;exact rR ⟨rfl,rfl⟩ b1 b2 xw WA.o ow E.o [N2,N1] oZ (fun r h=>by
    rcases List.mem_cons.1 h with rfl|h
    ·exact ⟨by omega,hdb⟩
    ·rw [List.mem_singleton.1 h];exact ⟨by omega,hda⟩)
  case hbody=>
   rintro ll pre ⟨xi,xv⟩ a1 W ⟨⟨hx,hsz,hb0,hb2,hd1,bl,l,hb1,hl,hll,hf,hbl,hch,hpk⟩,⟨hlt,hrd⟩,rfl⟩ hlt2;dsimp only at hrd hlt ⊢;rw [ha0];simp only [List.setIfInBounds_toArray,List.set_cons_succ,List.set_cons_zero];have hE1:=U7.o pre.length hlt;obtain ⟨pj,Fg⟩:=gN (plan.reverse.getD pre.length []);have hst:=xk (m:=m) (l:=l) (ps:=plan.reverse) (j:=pre.length) Uj;rw [← Fg] at hrd hE1 hst;obtain ⟨hpl,hpa⟩:=uw hE1;obtain ⟨xa,xc,rfl,-,-,-⟩:=hrd.get;obtain ⟨RD,XW,PA,PL⟩:=dW hrd hx hpa hpl;have MH:Hid (∀ (c:Int),c≠0→(mG m pj l (List.range m.states.length) (List.replicate m.states.length zR)).2=c→aM m plan (sn:Int)=([],c)):=kI (fun c hc he=>by
    have e1:(mH m plan.reverse (jh m (sn:Int))).2=c:=by rw [hch,hst,if_pos (by rw [he];exact hc)];exact he
    rw [E5.o,e1,if_pos hc])
   have NEXT:Hid (∀ nx,mG m pj l (List.range m.states.length) (List.replicate m.states.length zR)=(nx,0)→mH m plan.reverse (jh m (sn:Int))=mH m (plan.reverse.drop (pre.length+1)) nx):=kI (fun nx he=>by
    rw [hch,hst,he];rfl)
   obtain ⟨B0,B1,B2,FL,LL,U8,ZQ,ox⟩:=TD hb0 hb1 hb2 hf hll hl hd1 hlt;have ai8:Hid (w8.heap.size+2≤W.heap.size):=kI Z;have HB2:=kI (gy.new (B:=w.heap.size) (n:=m.states.length) (af.new W (madeCells #[.bool false,.slice none 0 0,.slice none 0 0] (m.states.length*3)) 25));obtain ⟨CD,MI⟩:=gN (madeCells #[Value.bool false,.slice none 0 0,.slice none 0 0] (m.states.length*3));rw [← MI] at HB2;obtain ⟨SU,ZR,Km,ai9,I8⟩:=iR MI ZP FK hw8 hlt2;clear hrd hx hpa hpl hst hch hb0 hb1 hb2 hf hll hd1 MI hseq I0 hlt hE1 Fg ZP FK hw8 hlt2 hsz hpk ha0 hl;have SV:Hid (∀ (c:Int) (W':World),c≠0→(mG m pj l (List.range m.states.length) (List.replicate m.states.length zR)).2=c→Ext W W'→Kd w8.heap.size W W'∧ei w8.heap.size (fun i=>i=An+1) W W'∧CbP w m plan (sn:Int) An N1 [dC c] W'):=kI (fun c W' hc he hx'=>by
    have h1:=I8.o;have h2:=Km.o;exact ⟨⟨hx'.size,hx'.block _ Z,hx'.block _ Z⟩,.ext hx',XW.o.trans hx',⟨_,B1.o.ext hx'⟩,B2.o.ext hx',(hx'.block N1 (Array.getElem?_eq_some_iff.1 ZQ.o).1).trans ZQ.o,c,hc,rfl,MH.o c hc he⟩)
   refine wpIn_block ?_;obtain ⟨I9,Ja,lB1⟩:=B1.o.q3;gi_wp2_with (gi_at_make;(refine nX rfl _ _ rfl m.states.length rfl rfl Tryz.underlying29 Tryz.dH Z Z CD (by exact SU.o.symm) ?_))
   clear I9 Ja lB1;obtain ⟨nb,hnb⟩:=gN (W.heap.size);rw [← hnb] at HB2 ⊢;obtain ⟨wz,hwz⟩:=gN (W.alloc (.cells CD 25));rw [← hwz] at HB2 ⊢;have hxz:Ext W wz:=by rw [hwz];exact (Ext.refl _).alloc _
   have FZ:Hid (gy wz w.heap.size nb m.states.length (fun k=>(List.replicate m.states.length zR).getD k zR)):=kI (HB2.o.congr (fun k hk=>by rw [List.getD_eq_getElem?_getD,List.getElem?_replicate,if_pos hk];rfl));have XZ:=kI hxz;have SW:=kI hnb;have hbn:bl < nb:=by rw [hnb];exact FL.o.lt
   have LZ:Hid (bQ (List.replicate m.states.length zR)):=kI (fun i hi=>by rw [List.length_replicate] at hi;rw [List.getD_eq_getElem?_getD,List.getElem?_replicate,if_pos hi];exact bO);clear hnb hwz hxz HB2 SU;gi_loopw [90] (fun i wr=>∃ (u:Nat) (nx:List RR),u≤m.states.length∧i=.int .i64 u∧nx.length=m.states.length∧bQ nx∧gy wr w.heap.size nb m.states.length (fun k=>nx.getD k zR)∧mG m pj l (List.range m.states.length) (List.replicate m.states.length zR)=mG m pj l ((List.range m.states.length).drop u) nx∧Ext W wr) (fun i _=>m.states.length - (intOf i).toNat)
   case atStart=>exact ⟨0,(List.replicate m.states.length zR),Nat.zero_le _,rfl,by rw [List.length_replicate],LZ.o,FZ.o,rfl,XZ.o⟩
   case round=>
    obtain ⟨wk,hwk⟩:=gN (wr);subst hwk;obtain ⟨u,nx,hu,rfl,hnl,hnm,hfn,Je,hxk⟩:=hrel;obtain ⟨NL,NM,FN,CU,XK⟩:=iR hnl hnm hfn Je hxk;clear hnl hnm hfn Je hxk FZ XZ LZ;by_cases kA:u < m.states.length
    ·obtain ⟨x1,x2,x3,x4,MJ,ML,MM,Jf⟩:=FL.o.at kA;have y0:=(XK.o.cell (p:=⟨bl,u*3,none⟩) FL.o.lt).trans MJ;have y1:=(XK.o.cell (p:=⟨bl,u*3+1,none⟩) FL.o.lt).trans ML;have y2:=(XK.o.cell (p:=⟨bl,u*3+2,none⟩) FL.o.lt).trans MM;have yr:=Jf.ext XK.o;clear MJ ML MM;have hst:=xj (m:=m) (p:=pj) (l:=l) (nx:=nx) kA;have qO:bj (l.getD u zR):=LL.o u (by rw [U8.o];exact kA);obtain ⟨x,hxx⟩:=gN (l.getD u zR);rw [← hxx] at y0 y1 y2 yr Jf hst qO;obtain ⟨XRW,XR,XL,Jg⟩:=dW Jf yr qO hst;clear hxx yr Jf qO hst;have q1:(0:Int)≤(u:Int):=by omega
     have q2:(u:Int) < (m.states.length:Int):=by omega
     have ZS:=(FL.o.ext XK.o).lt;by_cases hx0:x.num=[]
     ·have q3:((x.num.length:Int) == 0)=true:=by simp [hx0]
      have q4:(x.num.length:Int)=0:=by simp [hx0]
      have HX0:=kI hx0;clear hx0;gi_wp2_with fail;go_roundw
      case rel=>exact ⟨u+1,nx,by omega,by go_num,NL.o,NM.o,FN.o.ext ((Ext.refl wk).alloc _),by rw [CU.o,Jg.o,if_pos HX0.o],XK.o.trans ((Ext.refl wk).alloc _)⟩
      case measure=>simp [intOf];omega
     ·have q3:((x.num.length:Int) == 0)=false:=by simp [hx0]
      have q4:¬ (x.num.length:Int)=0:=by simp [hx0]
      have HX0:=kI hx0;clear hx0;gi_wp2_with fail;clear q3 q4 y0 y1 y2 ZS;obtain ⟨bx,hbx⟩:=gN (wk.heap.size);obtain ⟨wb,hwb⟩:=gN (wk.alloc (.cells #[.bool x.neg,.slice x1 x.num.length x2,.slice x3 x.den.length x4] 25));rw [← hbx,← hwb];have hxb:Ext wk wb:=by rw [hwb];exact (Ext.refl _).alloc _
      have hbb:af wb bx #[.bool x.neg,.slice x1 x.num.length x2,.slice x3 x.den.length x4] 25:=by rw [hwb,hbx];exact af.new _ _ _
      have aj0:nb < bx:=by rw [hbx];exact FN.o.lt
      have XB:=XK.x hxb;have BX:=kI hbb;have FB:=FN.x hxb;have XRb:=XR.x hxb;have B0b:=kI (B0.o.ext (XK.o.trans hxb));have B1b:=kI (B1.o.ext (XK.o.trans hxb));clear hwb hbx hxb hbb;have U9:Hid (Ext w wb):=kI (XW.o.trans XB.o);obtain ⟨xb,xo,rfl,g0,g1⟩:=iE (RD.o.ext U9.o) (i:=u) (by rw [PL.o];exact kA);obtain ⟨ha0,ha1⟩:=PA.o u kA;obtain ⟨an,han⟩:∃ n:Nat,pj.getD u 0=(n:Int):=⟨(pj.getD u 0).toNat,by omega⟩;rw [han] at g1 ha1;obtain ⟨sb,so,ai,ci,rfl,Ou,So,t2⟩:=Kt.o.at kA;have t1:=(U9.o.cell (p:=⟨sb,so+u,none⟩) Ou).trans So;have FS:(m.states.getD u []).length≤6:=(dm ((bD Cw.o).2.2.2 u kA)).2.1;have uD:an < (m.states.getD u []).length:=by omega
      obtain ⟨ab,ao,p1,e1,p2,e2,p3,e3,rfl,na,t30,t4⟩:=t2.at uD;have t5:=na.1;have t3:=(U9.o.cell (p:=⟨ab,ao+an*4+3,none⟩) t5).trans t30;clear Ou So t30;have hact:(m.states.getD u []).getD an dA=m.act u (pj.getD u 0).toNat:=by rw [han,Int.toNat_natCast];rfl
      have hav:=fd (qD Cw.o kA uD);have hov:=uu hav.2.2.2.1;have h64:=hav.2.2.1;rw [hact] at t3 t4;rw [show m.act u an=m.act u (pj.getD u 0).toNat by rw [han,Int.toNat_natCast]] at hov h64;obtain ⟨al,hal⟩:=gN ((m.states.getD u []).length);rw [← hal] at t1 ha1 FS uD;obtain ⟨os,hos⟩:=gN ((m.act u (pj.getD u 0).toNat).next);rw [← hos] at t3 t4 hov h64;obtain ⟨rE,ZT,T4⟩:=cC hos hov t4;have HOL:=kI (show ∀ i,bj (os.getD i dO).2 from by rw [hos];exact (xZ.o.2 u _).2);obtain ⟨_,_,_,aj1⟩:=t4.shape;have q3:(0:Int)≤(an:Int):=by omega
      have q4:(an:Int) < (al:Int):=by omega
      have q5:(u:Int) < (pj.length:Int):=by rw [PL.o];exact q2
      clear t2 t4 na hos hov hact hav hal ha0 ha1 FS uD han;have ht:(fun W9=>W9.cell? ⟨An,3,none⟩=some (.slice (some ⟨sb,so,none⟩) m.states.length n3)∧W9.cell? ⟨sb,so+u,none⟩=some (.slice (some ⟨ab,ao,none⟩) al ci)∧W9.cell? ⟨xb,xo+u,none⟩=some (.int .i64 an)∧W9.cell? ⟨ab,ao+an*4+3,none⟩=some (.slice p3 os.length e3)) wb.drew:=⟨B0b.o.cell 3,t1,g1,t3⟩;refine gm (T:=fun _ w=>(fun W9=>W9.cell? ⟨An,3,none⟩=some (.slice (some ⟨sb,so,none⟩) m.states.length n3)∧W9.cell? ⟨sb,so+u,none⟩=some (.slice (some ⟨ab,ao,none⟩) al ci)∧W9.cell? ⟨xb,xo+u,none⟩=some (.int .i64 an)∧W9.cell? ⟨ab,ao+an*4+3,none⟩=some (.slice p3 os.length e3)) w) ak ?_;refine AY 0 ?_;refine AY 1 ?_;refine AY 2 ?_;refine AY 3 ?_;refine AY 4 ?_;refine AY 5 ?_;refine AY 6 ?_;refine AY 7 ?_;refine AY 8 ?_;refine AY 9 ?_;refine AY 10 ?_;refine AY 11 ?_;refine AY 12 ?_;refine AY 13 ?_;refine iP ak ?_ _;refine ⟨rfl,?_⟩;clear ht g0 g1 t1 t3 t5 q3 q4 q5;(try simp only [Exit.then]);gi_wp2_with fail;have XBd:=kI XB.o.drew;have BXd:=kI BX.o.drew;have FBd:=kI (FB.o.ext (Ext.refl wb).drew);have XRd:=kI (XRb.o.ext (Ext.refl wb).drew);obtain ⟨wq,hwq⟩:=gN (wb.drew);rw [← hwq] at XBd BXd FBd XRd ⊢;have xP:Hid (∀ (c:Int),c≠0→(qX x os nx).2=c→(mG m pj l (List.range m.states.length) (List.replicate m.states.length zR)).2=c):=kI (fun c hc h=>by
       rw [CU.o,Jg.o,if_neg HX0.o,← rE.o,if_pos (by rw [h];exact hc)];exact h)
      clear hwq XB BX FB XRb B0b B1b U9;gi_loopw [112] (fun i wr=>∃ (k:Nat) (ny:List RR),k≤os.length∧i=.int .i64 k∧ny.length=m.states.length∧bQ ny∧gy wr w.heap.size nb m.states.length (fun k=>ny.getD k zR)∧qX x os nx=qX x (os.drop k) ny∧Ext W wr∧af wr bx #[.bool x.neg,.slice x1 x.num.length x2,.slice x3 x.den.length x4] 25) (fun i _=>os.length - (intOf i).toNat)
      case atStart=>exact ⟨0,nx,Nat.zero_le _,rfl,NL.o,NM.o,FBd.o,rfl,XBd.o,BXd.o⟩
      case round=>
       obtain ⟨wj,qZ⟩:=gN (wr);subst qZ;obtain ⟨k,ny,hk,rfl,hyl,hym,SX,hco,hxj,hbj⟩:=hrel;obtain ⟨YL,YM,FY,CO,XJ,BJ⟩:=od hyl hym SX hco hxj hbj;clear hyl hym SX hco hxj hbj;by_cases hkl:k < os.length
       ·have XWj:Hid (Ext w wj):=kI (XW.o.trans XJ.o);obtain ⟨ob,oo,o1,o2,o3,o4,rfl,v0,v1,v2,v3,v4,v5⟩:=(T4.o.ext XWj.o).at hkl;have hov:=ZT.o (os.getD k dO) (by rw [List.getD_eq_getElem?_getD,List.getElem?_eq_getElem hkl];exact List.getElem_mem hkl);have hst:=xh (x:=x) (nx:=ny) hkl;have hol:=HOL.o k;obtain ⟨O,hO⟩:=gN (os.getD k dO);rw [← hO] at v1 v2 v3 v4 v5 hov hst hol;obtain ⟨ot,op⟩:=O;dsimp only at v1 v2 v3 v4 v5 hov hst hol;obtain ⟨tn,rfl⟩:∃ n:Nat,ot=(n:Int):=⟨ot.toNat,by omega⟩;rw [Int.toNat_natCast] at hst;have htn:tn < m.states.length:=by omega
        obtain ⟨FT,MN,V5⟩:=cC hst hol v5;have q1:(0:Int)≤(k:Int):=by omega
        have q2:(k:Int) < (os.length:Int):=by omega
        clear hst hol v5 hov hO;have LM:=BJ.o.cell;have Cd:=BJ.o.lt;gi_wp2_with fail;clear LM Cd v0 v1 v2 v3 v4;obtain ⟨bo,Kn⟩:=gN (wj.heap.size);obtain ⟨wo,hwo⟩:=gN (wj.alloc (.cells #[.int .i64 (tn:Nat),.bool op.neg,.slice o1 op.num.length o2,.slice o3 op.den.length o4] 80));have hxo:Ext wj wo:=by rw [hwo];exact (Ext.refl _).alloc _
        have hbb:af wo bo #[.int .i64 (tn:Nat),.bool op.neg,.slice o1 op.num.length o2,.slice o3 op.den.length o4] 80:=by rw [hwo,Kn];exact af.new _ _ _
        rw [← Kn,← hwo];have SY:nb < bo:=by rw [Kn];exact FY.o.lt
        have hxr:bH wo (.agg #[.bool x.neg,.slice x1 x.num.length x2,.slice x3 x.den.length x4]) x:=XRW.o.ext (XJ.o.trans hxo);have hmu:=mb _ _ x op wo hxr (V5.o.ext hxo) XL.o MN.o;obtain ⟨R,hR⟩:=gN (mulR x op);have hml:bj R.1:=by rw [hR];exact fg _ _
        have hst:=FT.o;rw [← hR] at hmu hst;obtain ⟨pr,pe⟩:=R;unfold bG at hmu;dsimp only at hmu hst hml;obtain ⟨Ke,HST,Lv⟩:=cC hmu hst hml;have XO:=XJ.x hxo;have BO:=kI hbb;have FO:=FY.x hxo;have MO:=BJ.x hxo;have YLo:=YL;have aj2:=kI SY;clear hwo Kn hxo hbb hxr hmu hst hml hR SY FT V5;refine ⟨trivial,(dV.calls (Or.inr ⟨_,rfl⟩) Ke.o).mono ?_⟩;rintro e w2 ⟨⟨v,rfl,nn⟩,hx2⟩;obtain ⟨s1,s2,s3,s4,rfl⟩:=nn.shape;obtain ⟨hs1,hs2⟩:=nn.sf (B:=w.heap.size) (Nat.le_trans XW.o.size XO.o.size);have PR:=kI nn.rd;have PS1:=kI hs1;have PS2:=kI hs2;replace XO:=XO.x hx2;replace BO:=BO.x hx2;replace FO:=FO.x hx2;replace MO:=MO.x hx2;clear nn hs1 hs2 hx2 Ke;gi_wp2_with fail;obtain ⟨bp,hbp⟩:=gN (w2.heap.size);obtain ⟨w3,hw3⟩:=gN (w2.alloc (.cells #[.bool pr.neg,.slice s1 pr.num.length s2,.slice s3 pr.den.length s4] 25));have hx3:Ext w2 w3:=by rw [hw3];exact (Ext.refl _).alloc _
        have hbb:af w3 bp #[.bool pr.neg,.slice s1 pr.num.length s2,.slice s3 pr.den.length s4] 25:=by rw [hw3,hbp];exact af.new _ _ _
        have S0:nb < bp:=by rw [hbp];exact FO.o.lt
        rw [← hbp,← hw3];have BP:=kI hbb;have aj3:=kI S0;replace XO:=XO.x hx3;replace BO:=BO.x hx3;replace FO:=FO.x hx3;replace MO:=MO.x hx3;replace PR:=PR.x hx3;replace PS1:=PS1.x hx3;replace PS2:=PS2.x hx3;clear hw3 hbp hx3 hbb S0;by_cases hpe:pe=0
        rotate_left
        ·refine ⟨trivial,(dV.calls (Or.inr ⟨_,rfl⟩) (bB hpe _)).mono ?_⟩;rintro e w9 ⟨rfl,rfl⟩;(try simp +zetaDelta only [Exit.then,Exit.inBlock]);obtain ⟨p1,p2,p3⟩:=SV.o pe _ hpe (xP.o pe hpe (by rw [CO.o,HST.o,if_pos hpe])) XO.o;exact ⟨rfl,p1,p2,p3⟩
        subst hpe;refine ⟨trivial,(dV.calls (Or.inr ⟨_,rfl⟩) (iK _)).mono ?_⟩;rintro e w9 ⟨rfl,rfl⟩;gi_wp2_with fail;obtain ⟨j1,j2,j3,j4,y0,y1,y2,yr⟩:=FO.o.at htn;have hst:=HST.o;rw [if_neg (fun h=>h rfl)] at hst;have FU:bj (ny.getD tn zR):=YM.o tn (by rw [YL.o];exact htn);obtain ⟨na,hna⟩:=gN (ny.getD tn zR);rw [← hna] at y0 y1 y2 yr hst FU;have had:=fun W' (x:Ext w9 W')=>ma _ _ na pr W' (yr.ext x) (PR.o.ext x) FU Lv.o;obtain ⟨R,hR⟩:=gN (bL na pr);have hal:bj R.1:=by rw [hR];exact dX _ _
        rw [← hR] at had hst;obtain ⟨ar,ae⟩:=R;unfold bG at had;dsimp only at had hst hal;obtain ⟨HAD,tj,xO,Y0,Y1,Y2⟩:=od had hst hal y0 y1 y2;have t1:(0:Int)≤(tn:Int):=by omega
        have t2:(tn:Int) < (m.states.length:Int):=by omega
        clear had hst hal hna y0 y1 y2 yr FU hR HST;have ht:∀ l,T2 14 15 (fun W9=>W9.cell? ⟨bo,0,none⟩=some (.int .i64 (tn:Nat))∧(W9.cell? ⟨nb,tn*3,none⟩=some (.bool na.neg)∧W9.cell? ⟨nb,tn*3+1,none⟩=some (.slice j1 na.num.length j2)∧W9.cell? ⟨nb,tn*3+2,none⟩=some (.slice j3 na.den.length j4))∧(W9.cell? ⟨bp,0,none⟩=some (.bool pr.neg)∧W9.cell? ⟨bp,1,none⟩=some (.slice s1 pr.num.length s2)∧W9.cell? ⟨bp,2,none⟩=some (.slice s3 pr.den.length s4))) (fun _=>True) l w9.drew:=fun l=>T2.both ⟨BO.o.drew.cell 0,⟨Y0.o,Y1.o,Y2.o⟩,BP.o.drew.cell 0,BP.o.drew.cell 1,BP.o.drew.cell 2⟩ trivial;refine gm (T:=T2 14 15 (fun W9=>W9.cell? ⟨bo,0,none⟩=some (.int .i64 (tn:Nat))∧(W9.cell? ⟨nb,tn*3,none⟩=some (.bool na.neg)∧W9.cell? ⟨nb,tn*3+1,none⟩=some (.slice j1 na.num.length j2)∧W9.cell? ⟨nb,tn*3+2,none⟩=some (.slice j3 na.den.length j4))∧(W9.cell? ⟨bp,0,none⟩=some (.bool pr.neg)∧W9.cell? ⟨bp,1,none⟩=some (.slice s1 pr.num.length s2)∧W9.cell? ⟨bp,2,none⟩=some (.slice s3 pr.den.length s4))) (fun _=>True)) ak ?_;refine AX 0 ?_;refine AX 1 ?_;refine AX 2 ?_;refine AX 3 ?_;refine AX 4 ?_;refine AX 5 ?_;refine AX 6 ?_;refine AX 7 ?_;refine AX 8 ?_;clear ht;refine yr [9] ?_;refine yc (fun K hK=>?_);go_simp;refine ⟨trivial,(dV.calls (Or.inr ⟨_,rfl⟩) (HAD.o w9.drew (Ext.refl w9).drew)).mono ?_⟩;rintro e w5 ⟨⟨v,rfl,nn⟩,hx2⟩;obtain ⟨r1,r2,r3,r4,rfl⟩:=nn.shape;have hx3:Ext w9 w5:=Ext.trans ((Ext.refl w9).drew) hx2;obtain ⟨hs1,hs2⟩:=nn.sf (B:=w.heap.size) (Nat.le_trans XW.o.size XO.o.drew.size);have AS1:=kI hs1;have AS2:=kI hs2;have k0:=(hx3.cell (p:=⟨nb,tn*3,none⟩) FO.o.lt).trans Y0.o;have k1:=(hx3.cell (p:=⟨nb,tn*3+1,none⟩) FO.o.lt).trans Y1.o;have k2:=(hx3.cell (p:=⟨nb,tn*3+2,none⟩) FO.o.lt).trans Y2.o;replace XO:=XO.x hx3;replace BO:=BO.x hx3;replace FO:=FO.x hx3;replace MO:=MO.x hx3;replace BP:=BP.x hx3;replace Y0:=kI k0;replace Y1:=kI k1;replace Y2:=kI k2;clear nn hs1 hs2 hx2 hx3 HAD k0 k1 k2;have ht:∀ l,T2 14 15 (fun W9=>W9.cell? ⟨bo,0,none⟩=some (.int .i64 (tn:Nat))∧(W9.cell? ⟨nb,tn*3,none⟩=some (.bool na.neg)∧W9.cell? ⟨nb,tn*3+1,none⟩=some (.slice j1 na.num.length j2)∧W9.cell? ⟨nb,tn*3+2,none⟩=some (.slice j3 na.den.length j4))∧(W9.cell? ⟨bp,0,none⟩=some (.bool pr.neg)∧W9.cell? ⟨bp,1,none⟩=some (.slice s1 pr.num.length s2)∧W9.cell? ⟨bp,2,none⟩=some (.slice s3 pr.den.length s4))) (fun _=>True) l w5:=fun l=>T2.both ⟨BO.o.cell 0,⟨Y0.o,Y1.o,Y2.o⟩,BP.o.cell 0,BP.o.cell 1,BP.o.cell 2⟩ trivial;refine hK.out _ _ (ht _) ?_;clear hK K;(try simp only [sP]);refine AX 10 ?_;refine AX 11 ?_;refine Zy 12 ?_;refine AX 13 ?_;clear ht;refine yr [14] ?_;refine yc (fun K hK=>?_);have z0:=Y0.o;have z1:=Y1.o;have z2:=Y2.o;have f0:=FO.o.free;have fl:=FO.o.lt;go_simp;refine hK.out _ _ ⟨fun h=>absurd h ah,fun _=>trivial⟩ ?_;clear hK K z0 z1 z2 f0 fl;(try simp only [sP]);refine yr [15] ?_;refine yc (fun K hK=>?_);go_simp;refine hK.out _ _ ⟨fun h=>absurd h ah,fun h=>absurd h ah⟩ ?_;clear hK K;(try simp only [sP]);refine iP ak ?_ _;refine ⟨rfl,?_⟩;(try simp only [Exit.then]);obtain ⟨w6,hw6⟩:=gN (((w5.setCell ⟨nb,tn*3,none⟩ (.bool ar.neg)).setCell ⟨nb,tn*3+1,none⟩ (.slice r1 ar.num.length r2)).setCell ⟨nb,tn*3+2,none⟩ (.slice r3 ar.den.length r4));have Jh:W.heap.size≤nb:=by rw [SW.o];exact Nat.le_refl _
        have hf6:gy w6 w.heap.size nb m.states.length (fun k=>(ny.set tn ar).getD k zR):=by
         have h:=FO.o.set htn (r:=ar) AS1.o AS2.o;rw [← hw6] at h;refine h.congr (fun j hj=>?_);by_cases e:j=tn
         ·subst e;rw [if_pos rfl,List.getD_eq_getElem?_getD,List.getElem?_set_self (by rw [YL.o];exact hj)];rfl
         ·rw [if_neg e,List.getD_eq_getElem?_getD (l:=ny.set tn ar),List.getElem?_set_ne (Ne.symm e),List.getD_eq_getElem?_getD]
        have hx6:Ext W w6:=by
         rw [hw6];exact Below.setCell (Below.setCell (Below.setCell XO.o Jh _) Jh _) Jh _
        have hb6:af w6 bx #[.bool x.neg,.slice x1 x.num.length x2,.slice x3 x.den.length x4] 25:=by
         rw [hw6];exact ((MO.o.setOther (a:=⟨nb,tn*3,none⟩) aD _).setOther (a:=⟨nb,tn*3+1,none⟩) aD _).setOther (a:=⟨nb,tn*3+2,none⟩) aD _
        rw [← hw6];obtain ⟨F6,X6,B6⟩:=cC hf6 hx6 hb6;clear hw6 hf6 hx6 hb6 Jh t1 t2 q1 q2;gi_wp2_with fail;by_cases hae:ae=0
        rotate_left
        ·refine ⟨trivial,(dV.calls (Or.inr ⟨_,rfl⟩) (bB hae _)).mono ?_⟩;rintro e w9 ⟨rfl,rfl⟩;(try simp +zetaDelta only [Exit.then,Exit.inBlock]);obtain ⟨p1,p2,p3⟩:=SV.o ae _ hae (xP.o ae hae (by rw [CO.o,tj.o,if_pos hae])) X6.o;exact ⟨rfl,p1,p2,p3⟩
        subst hae;refine ⟨trivial,(dV.calls (Or.inr ⟨_,rfl⟩) (iK _)).mono ?_⟩;rintro e w7' ⟨rfl,rfl⟩;gi_wp2_with fail;go_roundw
        case rel=>
         refine ⟨k+1,ny.set tn ar,by omega,by go_num,by rw [List.length_set];exact YL.o,fun j hj=>?_,F6.o,by rw [CO.o,tj.o,if_neg (fun h=>h rfl)],X6.o,B6.o⟩;rw [List.length_set] at hj;by_cases e:j=tn
         ·subst e;rw [List.getD_eq_getElem?_getD,List.getElem?_set_self hj];exact xO.o
         ·rw [List.getD_eq_getElem?_getD,List.getElem?_set_ne (Ne.symm e),← List.getD_eq_getElem?_getD];exact YM.o j hj
        case measure=>simp [intOf];omega
       ·obtain rfl:k=os.length:=by omega
        have q6:¬ (os.length:Int) < (os.length:Int):=by omega
        have hco:=CO.o;rw [List.drop_of_length_le (Nat.le_refl _)] at hco;have kQ:Hid (qX x os nx=(ny,0)):=kI (by rw [hco];rfl);clear hco;gi_wp2_with fail;go_roundw
        case rel=>exact ⟨u+1,ny,by omega,by go_num,YL.o,YM.o,FY.o,by rw [CU.o,Jg.o,if_neg HX0.o,← rE.o,kQ.o,if_neg (fun h=>h rfl)],XJ.o⟩
        case measure=>simp [intOf];omega
    ·obtain rfl:u=m.states.length:=by omega
     have q6:¬ (m.states.length:Int) < (m.states.length:Int):=by omega
     have Je:=CU.o;rw [List.drop_of_length_le dc] at Je;have HCU:Hid (mG m pj l (List.range m.states.length) (List.replicate m.states.length zR)=(nx,0)):=kI (by rw [Je];rfl);have ZU:=kI (B1.o.ext XK.o);clear Je;obtain ⟨ZV,ZW,ZX⟩:=ZU.o.q3;gi_wp2_with fail;clear ZV ZW ZX;(try simp only [Exit.then,Exit.inBlock]);obtain ⟨wf,hwf⟩:=gN (wk.setCell ⟨An+1,0,none⟩ (.slice (some ⟨nb,0,none⟩) m.states.length m.states.length));have h1:=I8.o;have h2:=Km.o;have h3:=ZR.o;have hkk:Keeps 0 29 wk wf:=by rw [hwf];exact aB ZU.o 0 _
     have hkp:ei (w8.heap.size+2) (fun i=>i=An+1) W wf:=by rw [hwf];exact ei.set (X:=fun i=>i=An+1) (ei.ext XK.o) (o:=An+1) (.inl rfl) _ _
     have rg:Ext w wf:=by rw [hwf];exact Below.setCell (XW.o.trans XK.o) aD _
     have hb1:af wf (An+1) #[(.slice (some ⟨nb,0,none⟩) m.states.length m.states.length)] 29:=by rw [hwf];exact ZU.o.set 0 _
     rw [← hwf];clear hwf;refine ⟨⟨hkp.zero.size,hkp.block _ Z Z Z,hkp.block _ Z Z Z⟩,hkp.le Z,rg,Nat.le_trans Z hkp.zero.size,(B0.o.ext XK.o).keeps hkk ah,(B2.o.ext XK.o).keeps hkk ah,(hkp.block N1 Z Z Z).trans ZQ.o,nb,nx,hb1,NL.o,NM.o,FN.o.keeps hkk ah ah,by omega,?_,?_⟩
     ·rw [List.length_append,List.length_singleton];exact NEXT.o nx HCU.o
     ·rw [List.length_append,List.length_singleton];exact ox.o
end
end Go.Proofs.YtnnjbaijcaiohaaGreat
