/- Lemmas and walks. Conditions: as stated. -/
import Derived.Test.YtfflknbeidihoaaGreatSxChL
import Derived.Test.YtfflknbeidihoaaGreatSxAppJ
import Derived.Test.YtfflknbeidihoaaGreatSxSml
import Derived.Test.YtfflknbeidihoaaGreatSxStg
import Derived.OwnWalkIn
set_option linter.unusedVariables false
set_option linter.unusedSimpArgs false
set_option maxRecDepth 100000
set_option maxHeartbeats 16000000
namespace Go.Proofs.YtfflknbeidihoaaGreat
open Go.RowKit
attribute [local go_sem] Oper.semAt_some
def CaI (w4:World) (m:MD) (plan:List (List Int)) (pre:List (Int × Value)) (W:World):Prop:=Ext w4 W∧pre.length≤plan.length∧∀ i,i < pre.length→chE1 m (plan.reverse.getD i [])=0
theorem CaI.kq {w4:World} {m:MD} {plan:List (List Int)} {pre:List (Int × Value)} {A B:World} (h:CaI w4 m plan pre A) (q:Kq w4.heap.size A B):CaI w4 m plan pre B:=⟨Below.trans h.1 (q.kz.belowK (Nat.le_refl _) h.1.size),h.2⟩
def CaP (w4:World) (m:MD) (plan:List (List Int)) (s:Int) (ch:List PanicEntry) (W:World):Prop:=Ext w4 W∧∃ c:Int,c≠0∧ch=[errP c]∧chancesS m plan s=([],c)
def CaQ (w w4:World) (m:MD) (plan:List (List Int)) (a0:Act) (pre:List (Int × Value)) (x:Int × Value) (a1:Act) (W:World):Prop:=
 CaI w4 m plan pre W∧BwNx w plan pre x W∧a1={ tmps:=((a0.tmps.setIfInBounds 43 (.int .i64 x.1)).setIfInBounds 44 x.2).setIfInBounds 9 x.2,defers:=[] }
theorem CaQ.kq {w w4:World} {m:MD} {plan:List (List Int)} {a0:Act} {pre:List (Int × Value)} {x:Int × Value} {a1:Act} {A B:World} (h:CaQ w w4 m plan a0 pre x a1 A) (q:Kq w4.heap.size A B):CaQ w w4 m plan a0 pre x a1 B:=⟨h.1.kq q,h.2⟩
theorem NewR.sf {B:Nat} {w0 w:World} {a1 a2:Option Addr} {c1 c2:Nat} {r:RR} (h:NewR w0 w (.agg #[.bool r.neg,.slice a1 r.num.length c1,.slice a2 r.den.length c2]) r) (hB:B≤w0.heap.size):SfW B w (.slice a1 r.num.length c1) r.num∧SfW B w (.slice a2 r.den.length c2) r.den:=by
 obtain ⟨vn,vd,e,h1,h2⟩:=h;injection e with e
 simp only [Array.mk.injEq,List.cons.injEq,and_true,true_and] at e;obtain ⟨rfl,rfl⟩:=e;exact ⟨SfW.new h1 hB,SfW.new h2 hB⟩
def CbI (w w8:World) (m:MD) (plan:List (List Int)) (l0:List RR) (An N1:Nat) (MC:Array Value) (pre:List (Int × Value)) (W:World):Prop:=
 Ext w W∧w8.heap.size≤W.heap.size∧Blk W An MC 28∧Blk W (An+1+1) #[.int .i64 0] 37∧W.heap[N1]?=some (.deferred (some []))∧∃ (b:Nat) (l:List RR),Blk W (An+1) #[.slice (some ⟨b,0,none⟩) m.states.length m.states.length] 29∧l.length=m.states.length∧LimL l∧FrN W w.heap.size b m.states.length (fun k=>l.getD k zR)∧An+1+1 < b∧
 chS m plan.reverse l0=chS m (plan.reverse.drop pre.length) l∧pre.length≤plan.length
theorem CbI.kq {w w8:World} {m:MD} {plan:List (List Int)} {l0:List RR} {An N1:Nat} {MC:Array Value} {pre:List (Int × Value)} {A B:World} (h:CbI w w8 m plan l0 An N1 MC pre A) (q:Kq w8.heap.size A B) (hw:w.heap.size≤w8.heap.size) (hn:N1 < w8.heap.size):CbI w w8 m plan l0 An N1 MC pre B:=by
 obtain ⟨h1,h2,h3,h4,h5,b,l,h6,h7,h8,h9,h10⟩:=h;exact ⟨Below.trans h1 (q.kz.belowK hw h1.size),Nat.le_trans h2 q.kz.zero.size,q.blk _ _ _ h3,q.blk _ _ _ h4,(q.kz.block N1 (Array.getElem?_eq_some_iff.1 h5).1 (.inl hn)).trans h5,b,l,q.blk _ _ _ h6,h7,h8,h9.keeps (q.keeps 4) (by decide) (by decide),h10⟩
theorem CbI.ext {w w8:World} {m:MD} {plan:List (List Int)} {l0:List RR} {An N1:Nat} {MC:Array Value} {pre:List (Int × Value)} {A B:World} (h:CbI w w8 m plan l0 An N1 MC pre A) (x:Ext A B):CbI w w8 m plan l0 An N1 MC pre B:=by
 obtain ⟨h1,h2,h3,h4,h5,b,l,h6,h7,h8,h9,h10⟩:=h;exact ⟨h1.trans x,Nat.le_trans h2 x.size,h3.ext x,h4.ext x,(x.block N1 (Array.getElem?_eq_some_iff.1 h5).1).trans h5,b,l,h6.ext x,h7,h8,h9.ext x,h10⟩
def CbP (w:World) (m:MD) (plan:List (List Int)) (s:Int) (An N1:Nat) (ch:List PanicEntry) (W:World):Prop:=Ext w W∧(∃ v,Blk W (An+1) #[v] 29)∧Blk W (An+1+1) #[.int .i64 0] 37∧W.heap[N1]?=some (.deferred (some []))∧∃ c:Int,c≠0∧ch=[errP c]∧chancesS m plan s=([],c)
def CbQ (w w8:World) (m:MD) (plan:List (List Int)) (l0:List RR) (An N1:Nat) (MC:Array Value) (a0:Act) (pre:List (Int × Value)) (x:Int × Value) (a1:Act) (W:World):Prop:=
 CbI w w8 m plan l0 An N1 MC pre W∧BwNx w plan pre x W∧a1={ tmps:=((a0.tmps.setIfInBounds 83 (.int .i64 x.1)).setIfInBounds 84 x.2).setIfInBounds 13 x.2,defers:=[] }
theorem wpListIn_make_t {F:Fence} {nf:Nat} {w:World} {ops:Array Oper} {rest:List Oper} {o:Oper} {a:Act} {Q:Exit→Act→World→Prop} {t e:TypeId} {z:Value} {k bytes:Nat}
  (hg:o.guard=none) (l c:Operand) (hop:o.op=Op.makeSlice t l c) (n:Nat) (hl:a.eval l=.int .i64 (n:Int)) (hc:a.eval c=.int .i64 (n:Int)) (ht:Tryz.prog.underlying t=some (.slice e)) (hinfo:(Tryz.prog.info? e).map (fun i=>(i.zero,i.size,i.bytes))=some (some z,k,bytes)) (hn:bytes*n≤1000000000000) (hn2:n≤1000000000)
  (C:Array Value) (hC:madeCells z.cells (n*k)=C) (hK:wpListIn F nf Tryz.prog ops Q rest (a.put o.dst (.slice (some ⟨w.heap.size,0,none⟩) n n)) (w.alloc (.cells C e))):wpListIn F nf Tryz.prog ops Q (o :: rest) a w:=by
 have hr:=make_run w n ht hinfo hn hn2;rw [hC] at hr;refine wpListIn_plain hg fun K hK'=>?_;unfold Oper.wpIn;refine ⟨by simp [Oper.about,hop],?_⟩;rw [Oper.semAt_plain F _ _ (by rw [hop];intro c hc';cases hc')];simp only [execOp,hop,hl,hc];simp [hr,Result.andThen];exact hK' _ _ hK
theorem wpAnyXI_takeP {F:Fence} {n:Nat} {P:Program} {ops:Array Oper} {Q:Exit→Act→World→Prop} {md:Region.Mode} (hF:Wide F) (hdf:noDf ops.toList=true) {S:World→Prop} {i:Nat} {oi:Oper} {v:Value} {fuel:Nat} {listed:Array Bool} {a:Act} {w:World} (hi:ops[i]?=some oi) (hs:Region.noSelect ops=true) (hf:Region.free md ops listed i=true) (hr:(Region.ready md ops listed).contains i=true)
  (hQ:∀ c a w,Q (.panic c) (a.put oi.dst v) w→Q (.panic c) a w) (hy:YieldsIf P ops S oi v a) (ht:S w) (h:wpAnyXI F n P md ops Q (fun _ w=>S w) fuel (listed.setIfInBounds i true) (a.put oi.dst v) w):wpAnyXI F n P md ops Q (fun _ w=>S w) (fuel+1) listed a w:=
 wpAnyXI_first hF (fun j o ho=>noDf_spec hdf j o (by simpa using ho)) (S:=S) (C:=fun _=>True) hi (Region.noSelect_spec hs) hQ (fun _ _ _ _ _ _=>trivial) (fun _ _ _ h=>h) (fun _ _=>Iff.rfl) fuel listed a w (Region.free_spec hi hf) (by simpa using hr) hy trivial ht h
theorem wpEx_name {F:Fence} {n:Nat} {P:Program} {c:Code} {Q:Exit→Act→World→Prop} {a:Act} {w:World} (h:∀ a0,a0=a→wpEx F n P c Q a0 w):wpEx F n P c Q a w:=h a rfl
theorem chancesI_any (mv pv:Value) (m:MD) (plan:List (List Int)) (s:Int) (w:World) (hm:RdM w mv m) (hp:RdPl w pv plan) (hlm:LimM m) :
  Calls Tryz.prog 18 #[mv,pv,.int .i64 s] w fun e w'=>ResN w w' e (chancesS m plan s)∧Ext w w':=by
 have hck:=fun W (h:RdM W mv m)=>mdCheck_any mv m W h hlm;have hS1:=fun c=>chances_1 (m:=m) (plan:=plan) (s:=s) (c:=c);have hS2:=chances_2 (m:=m) (plan:=plan) (s:=s);have hS3:=chances_3 (m:=m) (plan:=plan) (s:=s);have hS4:=fun j c h0 h1 h2=>chances_4 (m:=m) (plan:=plan) (s:=s) (c:=c) (j:=j) h0 h1 h2;have hS5:=chances_5 (m:=m) (plan:=plan) (s:=s);have HM:=kI hm;have HP:=kI hp;have HLM:=kI hlm;obtain ⟨m1,n1,m2,n2,m3,n3,rfl,hmd,hss⟩:=hm;obtain ⟨pa,pc,rfl,hpn⟩:=hp.shape;obtain ⟨c1,hc1⟩:=gN (mdE m);rw [← hc1] at hck hS1;have HC1:=kI hc1;have HSS:=kI hss;have HCK:=kI hck;have HS1:=kI hS1;have HS2:=kI hS2;have HS3:=kI hS3;have HS4:=kI hS4;have HS5:=kI hS5;have hsn:m.states.length≤9223372036854775807:=by obtain ⟨_,_,_,h⟩:=hss.shape;exact h
 clear hp hck hlm hc1 hS1 hS2 hS3 hS4 hS5 hmd hss;have bb0:=(((Blk.new w #[.bool m.disc.neg,.slice m1 m.disc.num.length n1,.slice m2 m.disc.den.length n2,.slice m3 m.states.length n3] 28).alloc (.cells #[.slice none 0 0] 29)).alloc (.cells #[.int .i64 0] 37));have bb1:=((Blk.new (w.alloc (.cells #[.bool m.disc.neg,.slice m1 m.disc.num.length n1,.slice m2 m.disc.den.length n2,.slice m3 m.states.length n3] 28)) #[.slice none 0 0] 29).alloc (.cells #[.int .i64 0] 37));have bb2:=(Blk.new ((w.alloc (.cells #[.bool m.disc.neg,.slice m1 m.disc.num.length n1,.slice m2 m.disc.den.length n2,.slice m3 m.states.length n3] 28)).alloc (.cells #[.slice none 0 0] 29)) #[.int .i64 0] 37);rw [World.size_alloc] at bb1;rw [World.size_alloc,World.size_alloc] at bb2;have x0:Ext w (((w.alloc (.cells #[.bool m.disc.neg,.slice m1 m.disc.num.length n1,.slice m2 m.disc.den.length n2,.slice m3 m.states.length n3] 28)).alloc (.cells #[.slice none 0 0] 29)).alloc (.cells #[.int .i64 0] 37)):=((((Ext.refl w).alloc _).alloc _).alloc _);have A0:=kI bb0;have A1:=kI bb1;have A2:=kI bb2;have X:=kI x0;clear x0 bb0 bb1 bb2;have hmf:∀ (fn:Fn) (first cap:Array Value) (w:World),(Instr.makeFunc fn first cap).run Tryz.prog w=.ok (.func fn first cap) w:=fun _ _ _ _=>rfl;have WA:Hid (w.heap.size≤w.heap.size):=kI (Nat.le_refl _);refine (callsIn_wide (n:=8)).1 ?_;refine callsIn_of_wpEx Tryz.func18 rfl ?_;simp only [Tryz.ntmps18,List.size_toArray,List.length_cons,List.length_nil,Nat.reduceAdd,Nat.reduceSub,Array.replicate_succ,Array.replicate_zero,List.push_toArray,List.append_toArray,List.nil_append,List.cons_append];refine wpEx_seq ?_;refine wpEx_of ?_;refine wpIn_wide.2 ?_;go_wp2_with fail;(try simp only [Exit.then]);refine wpEx_seq ?_;refine wpEx_of ?_;refine wpIn_wide.2 ?_;go_wp2_with fail;(try simp only [Exit.then]);clear hmf;obtain ⟨wl,hwl⟩:=gN ((((w.alloc (.cells #[.bool m.disc.neg,.slice m1 m.disc.num.length n1,.slice m2 m.disc.den.length n2,.slice m3 m.states.length n3] 28)).alloc (.cells #[.slice none 0 0] 29)).alloc (.cells #[.int .i64 0] 37)))
 rw [← hwl] at A0 A1 A2 X ⊢;clear hwl;obtain ⟨An,hAn⟩:=gN (w.heap.size);rw [← hAn] at A0 A1 A2 ⊢;replace WA:Hid (w.heap.size≤An):=kI (by rw [hAn];exact Nat.le_refl _);clear hAn;refine wpEx_seq ?_;refine wpEx_of ?_;refine wpIn_wide.2 ?_;obtain ⟨qA0,fA0,lA0⟩:=A0.o.q3;go_wp2_with fail;refine (HCK.o wl (HM.o.ext X.o)).mono ?_;rintro e w1 ⟨rfl,hx⟩;clear qA0 fA0 lA0;replace A0:=kI (A0.o.ext hx);replace A1:=kI (A1.o.ext hx);replace A2:=kI (A2.o.ext hx);replace X:=kI (X.o.trans hx);clear hx HCK;go_wp2_with fail;by_cases h1:c1=0
 rotate_left
 ·refine (must_bad h1 _).mono ?_;rintro e w9 ⟨rfl,rfl⟩;(try simp (config:={ zetaDelta:=true }) only [Exit.then,Exit.inBlock]);exact cha_leave_err h1 ⟨rfl,rfl⟩ A1.o A2.o X.o WA.o (HS1.o _ rfl h1) [] List.nodup_nil (fun r h=>by cases h)
 subst h1;have H0:=HC1.o.symm;refine (must_ok _).mono ?_;rintro e w9 ⟨rfl,rfl⟩;have hml:=md_valid H0;have N200:m.states.length≤200:=hml.2.2.1;have HME:=kI H0;clear H0 hml;go_wp2_with fail;(try simp only [Exit.then]);by_cases h2:s < 0∨(m.states.length:Int)≤s
 ·have E:=HS2.o HME.o h2;have HE:=kI E;clear E;by_cases h3:s < 0
  ·refine wpEx_seq ?_;refine wpEx_of ?_;refine wpIn_wide.2 ?_;clear h2;obtain ⟨qA0,fA0,lA0⟩:=A0.o.q3;go_wp2_with fail;refine (must_bad (c:=8) (by decide) _).mono ?_;rintro e w8 ⟨rfl,rfl⟩;(try simp (config:={ zetaDelta:=true }) only [Exit.then,Exit.inBlock]);exact cha_leave_err (by decide) ⟨rfl,rfl⟩ A1.o A2.o X.o WA.o HE.o [] List.nodup_nil (fun r h=>by cases h)
  ·refine wpEx_seq ?_;refine wpEx_of ?_;refine wpIn_wide.2 ?_;have h4:(m.states.length:Int)≤s:=by omega
   clear h2;obtain ⟨qA0,fA0,lA0⟩:=A0.o.q3;go_wp2_with fail;refine (must_bad (c:=8) (by decide) _).mono ?_;rintro e w8 ⟨rfl,rfl⟩;(try simp (config:={ zetaDelta:=true }) only [Exit.then,Exit.inBlock]);exact cha_leave_err (by decide) ⟨rfl,rfl⟩ A1.o A2.o X.o WA.o HE.o [] List.nodup_nil (fun r h=>by cases h)
 have H2:=kI h2;have h3:¬ s < 0:=by omega
 have h4:¬ (m.states.length:Int)≤s:=by omega
 clear h2;by_cases h5:24 < plan.length
 ·have HE:=kI (HS3.o HME.o H2.o h5);have h6:(24:Int) < (plan.length:Int):=by omega
  refine wpEx_seq ?_;refine wpEx_of ?_;refine wpIn_wide.2 ?_;obtain ⟨qA0,fA0,lA0⟩:=A0.o.q3;go_wp2_with fail;refine (must_bad (c:=4) (by decide) _).mono ?_;rintro e w8 ⟨rfl,rfl⟩;(try simp (config:={ zetaDelta:=true }) only [Exit.then,Exit.inBlock]);exact cha_leave_err (by decide) ⟨rfl,rfl⟩ A1.o A2.o X.o WA.o HE.o [] List.nodup_nil (fun r h=>by cases h)
 have h6:¬ (24:Int) < (plan.length:Int):=by omega
 refine wpEx_seq ?_;refine wpEx_of ?_;refine wpIn_wide.2 ?_;obtain ⟨qA0,fA0,lA0⟩:=A0.o.q3;go_wp2_with fail;clear qA0 fA0 lA0;(try simp only [Exit.then]);have PL24:plan.length≤24:=by omega
 clear h3 h4 h5 h6;refine wpEx_seq ?_;refine wpEx_seq ?_;refine wpEx_of ?_;refine wpIn_wide.2 ?_;go_wp2_with fail;refine (back_any pa plan.length pc w9).mono ?_;rintro e w4 ⟨rfl,hw4⟩;obtain ⟨H1,hH1⟩:=gN (w9.heap.size);rw [← hH1];have hx:Ext w9 w4:=by rw [hw4];exact (Ext.refl _).alloc _
 have hs4:w4.heap.size=H1+1:=by rw [hw4,hH1];simp
 have hb0:Blk w4 H1 #[.slice pa plan.length pc] 30:=by rw [hw4,hH1];exact Blk.new _ _ _
 have hAH:An+1+1 < H1:=by rw [hH1];exact A2.o.lt
 have hwH:w.heap.size≤An:=WA.o;replace A0:=kI (A0.o.ext hx);replace A1:=kI (A1.o.ext hx);replace A2:=kI (A2.o.ext hx);replace X:=kI (X.o.trans hx);have S4:=kI hs4;have D0:=kI hb0;clear hx hs4 hb0 hw4 hH1;go_wp2_with fail;(try simp only [Exit.then]);have hN:w4.heap.size=H1+1:=S4.o;have hseq:∀ W1,Ext w4 W1→UpSeqP Fence.wide 7 Tryz.prog 90 #[.pointer (some ⟨H1,0,none⟩)] (KpB w4.heap.size (fun _=>False)) Ext (fun x:Int × Value=>#[.int .i64 x.1,x.2]) (BwNx w plan) (fun xs=>xs.length=plan.length) (w4.heap.size+1) W1:=by
  intro W1 hx;exact back_seq 7 (by omega) pa pc plan H1 w4.heap.size _ _ w W1 HP.o (by omega) (X.o.trans hx) (fun i h=>h.elim) (by omega) (by omega) hx.size (D0.o.ext hx)
 have I0:CaI w4 m plan [] w4:=⟨Ext.refl _,Nat.zero_le _,(fun i h=>by cases h)⟩;refine wpEx_block ?_;refine wpEx_name ?_;intro a0 ha0;refine wpEx_range_upP (n:=8) rfl (by omega) (gf:=90) (lb:=#[.pointer (some ⟨H1,0,none⟩)]) (by rw [ha0];rfl) trivial (enters_of Tryz.func90 (by kernel_rfl) rfl) (KpB w4.heap.size (fun _=>False)) Ext (fun A B x h=>⟨x.block _ (by omega),x.block _ h⟩) (fun _ _ _=>KpB.trans) (fun A B _ z=>KpB.kz (Nat.le_refl _) z.kz) hseq (fun _=>rfl)
  (CaI w4 m plan) (fun ch _ W=>CaP w4 m plan s ch W) (fun _ _ _ h k=>h.kq k) (fun _ _ _ h x=>⟨h.1.trans x,h.2⟩) I0 (CaQ w w4 m plan a0) (fun _ _ _ _ _ h k=>h.kq k) ?hassign ?hbody ?hdone ?hpanic
 case hassign=>
  rintro ll pre x W K h1 h2 hlt2 hK;have H1':=kI h1;have H2':=kI h2;clear h1 h2 hseq I0;rw [ha0];simp only [List.zip_toArray,List.zip_cons_cons,List.zip_nil_left,List.zip_nil_right,List.foldl_toArray,List.foldl_toArray',List.size_toArray,List.length_cons,List.length_nil,List.foldl_cons,List.foldl_nil,List.setIfInBounds_toArray,List.set_cons_succ,List.set_cons_zero];gi_wp2_with fail;exact hK _ _ (Ext.refl W) ⟨H1'.out,H2'.out,by rw [ha0];simp only [List.setIfInBounds_toArray,List.set_cons_succ,List.set_cons_zero]⟩
 case hpanic=>
  rintro ch xs W ⟨hx,c,hc,rfl,hE⟩ hD;refine ⟨.inr ⟨_,rfl⟩,?_⟩;rw [ha0];(try simp (config:={ zetaDelta:=true }) only [Exit.then,Exit.inBlock]);exact cha_leave_err hc ⟨rfl,rfl⟩ (A1.o.ext hx) (A2.o.ext hx) (X.o.trans hx) WA.o hE [w4.heap.size] (by simp) (fun r h=>by rw [List.mem_singleton.1 h];exact ⟨by omega,hD⟩)
 case hbody=>
  rintro ll pre ⟨xi,xv⟩ a1 W ⟨⟨hx,hpk,hok⟩,⟨hlt,hrd⟩,rfl⟩ hlt2;dsimp only at hrd ⊢;rw [ha0];simp only [List.setIfInBounds_toArray,List.set_cons_succ,List.set_cons_zero];obtain ⟨pj,hpj⟩:=gN (plan.reverse.getD pre.length []);rw [← hpj] at hrd;obtain ⟨xa,xc,rfl,hp1,hp2,-⟩:=hrd.get;have hpl9:pj.length≤9223372036854775807:=by omega
  have RD:=kI hrd;have HPJ:=kI hpj;have OK:=kI hok;have HLT:=kI hlt;have XW:=kI hx;have XWW:Hid (Ext w W):=kI (X.o.trans hx);have PAN:Hid (∀ (c:Int) (W':World),c≠0→chE1 m pj=c→Ext W W'→KpB w4.heap.size (fun _=>False) W W'∧CaP w4 m plan s [errP c] W'):=kI (fun c W' hc he hx'=>⟨.ext hx',hx.trans hx',c,hc,rfl,HS4.o pre.length c HME.o H2.o (by omega) (by simpa using hlt) hok (by rw [← hpj];exact he) hc⟩);have KDX:Hid (∀ W',Ext W W'→Kd w4.heap.size W W'):=kI (fun W' hx'=>⟨hx'.size,hx'.block _ (by omega),hx'.block _ (by omega)⟩);have B0:=kI (A0.o.ext hx);clear hrd hp1 hp2 hpj hok hlt hx hseq I0 hN;refine wpIn_block ?_;by_cases hle:pj.length=m.states.length
  ·have qle:(pj.length:Int)=(m.states.length:Int):=by rw [hle]
   have qne:((pj.length:Int) != (m.states.length:Int))=false:=by simp [hle]
   have HLE:=kI hle;clear hle qle;obtain ⟨qB0,fB0,lB0⟩:=B0.o.q3;gi_wp2_with fail;clear qB0 fB0 lB0;clear qne;gi_loopw [54] (fun i wr=>∃ u:Nat,u≤pj.length∧i=.int .i64 u∧(∀ t,t < u→polE m pj t=0)∧Ext W wr) (fun i _=>pj.length - (intOf i).toNat)
   case atStart=>exact ⟨0,Nat.zero_le _,rfl,(fun t h=>by omega),Ext.refl _⟩
   case round=>
    obtain ⟨wk,hwk⟩:=gN (wr);subst hwk;obtain ⟨u,hu,rfl,hpo,hxk⟩:=hrel;have PO:=kI hpo;have XK:=kI hxk;have B0k:=kI (B0.o.ext hxk);clear hpo hxk;by_cases hul:u < pj.length
    ·obtain ⟨xb,xo,rfl,g0,g1⟩:=rdI_at0 (RD.o.ext (XWW.o.trans XK.o)) hul;obtain ⟨av,hav⟩:=gN (pj.getD u 0);rw [← hav] at g1;have HAV:=kI hav;clear hav;have hun:u < m.states.length:=by rw [← HLE.o];exact hul
     obtain ⟨sb,so,ai,ci,rfl,t0,t1,-⟩:=(HSS.o.ext (XWW.o.trans XK.o)).at hun;obtain ⟨al,hal⟩:=gN ((m.states.getD u []).length);have HAL:=kI hal;rw [← hal] at t1;clear hal;have FAIL:Hid ((av < 0∨(al:Int)≤av)→chE1 m pj=8):=kI (fun h=>by
      have e:polE m pj u=8:=by unfold polE;rw [← HAV.o,← HAL.o,if_pos h]
      unfold chE1;rw [if_neg (by rw [HLE.o];exact fun h=>h rfl)];exact (frstE_at (f:=polE m pj) PO.o (by rw [e];decide) hul).trans e)
     have q1:(0:Int)≤(u:Int):=by omega
     have q2:(u:Int) < (pj.length:Int):=by omega
     have q3:(u:Int) < (m.states.length:Int):=by omega
     by_cases ha0:av < 0
     ·obtain ⟨qB0k,fB0k,lB0k⟩:=B0k.o.q3;gi_wp2_with fail;clear qB0k fB0k lB0k;first|refine ⟨trivial,(callsIn_wide.2 (must_bad (c:=8) (by decide) _)).mono ?_⟩|refine (Wide.calls (Or.inr ⟨_,rfl⟩) (must_bad (c:=8) (by decide) _)).mono ?_|refine ⟨trivial,(Wide.calls (Or.inr ⟨_,rfl⟩) (must_bad (c:=8) (by decide) _)).mono ?_⟩
      rintro e w8 ⟨rfl,rfl⟩;(try simp (config:={ zetaDelta:=true }) only [Exit.then,Exit.inBlock]);obtain ⟨p1,p2⟩:=PAN.o 8 _ (by decide) (FAIL.o (.inl ha0)) XK.o;exact ⟨rfl,KDX.o _ XK.o,p1,p2⟩
     by_cases ha1:(al:Int)≤av
     ·obtain ⟨qB0k,fB0k,lB0k⟩:=B0k.o.q3;gi_wp2_with fail;clear qB0k fB0k lB0k;first|refine ⟨trivial,(callsIn_wide.2 (must_bad (c:=8) (by decide) _)).mono ?_⟩|refine (Wide.calls (Or.inr ⟨_,rfl⟩) (must_bad (c:=8) (by decide) _)).mono ?_|refine ⟨trivial,(Wide.calls (Or.inr ⟨_,rfl⟩) (must_bad (c:=8) (by decide) _)).mono ?_⟩
      rintro e w8 ⟨rfl,rfl⟩;(try simp (config:={ zetaDelta:=true }) only [Exit.then,Exit.inBlock]);obtain ⟨p1,p2⟩:=PAN.o 8 _ (by decide) (FAIL.o (.inr ha1)) XK.o;exact ⟨rfl,KDX.o _ XK.o,p1,p2⟩
     obtain ⟨qB0k,fB0k,lB0k⟩:=B0k.o.q3;gi_wp2_with fail;go_roundw
     case rel=>
      refine ⟨u+1,by omega,by go_num,fun t ht=>?_,XK.o⟩;by_cases e:t=u
      ·subst e;unfold polE;rw [← HAV.o,← HAL.o,if_neg (by omega)]
      ·exact PO.o t (by omega)
     case measure=>simp [intOf];omega
    ·obtain rfl:u=pj.length:=by omega
     have q6:¬ (pj.length:Int) < (pj.length:Int):=by omega
     gi_wp2_with fail;(try simp only [Exit.then,Exit.inBlock]);refine ⟨KDX.o _ XK.o,.ext XK.o,XW.o.trans XK.o,by rw [List.length_append,List.length_singleton];exact HLT.o,fun i hi=>?_⟩;rw [List.length_append,List.length_singleton] at hi;by_cases e:i=pre.length
     ·subst e;rw [← HPJ.o];unfold chE1;rw [if_neg (by rw [HLE.o];exact fun h=>h rfl)];exact frstE_zero PO.o
     ·exact OK.o i (by omega)
  ·have qne:((pj.length:Int) != (m.states.length:Int))=true:=by simp;omega
   have FAIL:Hid (chE1 m pj=16):=kI (by unfold chE1;rw [if_pos hle]);clear hle;obtain ⟨qB0,fB0,lB0⟩:=B0.o.q3;gi_wp2_with fail;clear qB0 fB0 lB0;first|refine ⟨trivial,(callsIn_wide.2 (must_bad (c:=16) (by decide) _)).mono ?_⟩|refine (Wide.calls (Or.inr ⟨_,rfl⟩) (must_bad (c:=16) (by decide) _)).mono ?_|refine ⟨trivial,(Wide.calls (Or.inr ⟨_,rfl⟩) (must_bad (c:=16) (by decide) _)).mono ?_⟩
   rintro e w8 ⟨rfl,rfl⟩;(try simp (config:={ zetaDelta:=true }) only [Exit.then,Exit.inBlock]);obtain ⟨p1,p2⟩:=PAN.o 16 _ (by decide) FAIL.o (Ext.refl _);exact ⟨rfl,KDX.o _ (Ext.refl _),p1,p2⟩
 case hdone=>
  rintro xs W hF ⟨hx,hpk,hok⟩ hD;refine ⟨.inl rfl,?_⟩;have hF':xs.length=plan.length:=hF;rw [hF'] at hok;have E5:=kI (HS5.o HME.o H2.o (by omega) (fun i hi=>hok i (by simpa using hi)));have OKP:=kI hok;have hs0:0≤s:=by have:=H2.o;omega
  have hsn9:s < (m.states.length:Int):=by have:=H2.o;omega
  replace X:=kI (X.o.trans hx);replace A0:=kI (A0.o.ext hx);replace A1:=kI (A1.o.ext hx);replace A2:=kI (A2.o.ext hx);have SZW:=kI hx.size;obtain ⟨N1,hN1⟩:=gN (w4.heap.size);have HD1:Hid (W.heap[N1]?=some (.deferred (some []))):=kI (by rw [hN1];exact hD);have N1A:An+1+1 < N1:=by omega
  rw [← hN1];rw [ha0];clear hx hpk hok hD hseq I0 hF hF' hN hN1 ha0;(try simp only [Exit.then]);obtain ⟨sn,rfl⟩:∃ n:Nat,s=(n:Int):=⟨s.toNat,by omega⟩;refine wpEx_seq ?_;refine wpEx_of ?_;refine wpIn_wide.2 ?_;have HB0:=kI (FrN.new (B:=w.heap.size) (n:=m.states.length) (Blk.new (W.setCell ⟨An+1,0,none⟩ (.slice (some ⟨W.heap.size,0,none⟩) m.states.length m.states.length)) (madeCells #[.bool false,.slice none 0 0,.slice none 0 0] (m.states.length*3)) 25));obtain ⟨CC,hCC⟩:=gN (madeCells #[Value.bool false,.slice none 0 0,.slice none 0 0] (m.states.length*3));rw [← hCC] at HB0;have HCC:=kI hCC;clear hCC;obtain ⟨qA0,fA0,lA0⟩:=A0.o.q3;obtain ⟨qA1,fA1,lA1⟩:=A1.o.q3;go_wp2_with (at_make;(refine wpList_make_t rfl _ _ rfl m.states.length rfl rfl Tryz.underlying29 Tryz.infoR (by omega) (by omega) CC (by exact HCC.o.symm) ?_))
  (try simp only [Exit.then]);clear qA0 fA0 lA0 qA1 fA1 lA1;obtain ⟨b0,hb0⟩:=gN (W.heap.size);rw [← hb0] at HB0 ⊢;obtain ⟨w5,hw5⟩:=gN ((W.setCell ⟨An+1,0,none⟩ (.slice (some ⟨b0,0,none⟩) m.states.length m.states.length)).alloc (.cells CC 25));have hfr:FrN w5 w.heap.size b0 m.states.length (fun _=>zR):=by
   have h:=HB0.o;rw [HCC.o,World.size_setCell,← hb0,← HCC.o,← hw5] at h;exact h
  have hk0:=keeps_setC A1.o 0 (.slice (some ⟨b0,0,none⟩) m.states.length m.states.length);have hxx:Ext (W.setCell ⟨An+1,0,none⟩ (.slice (some ⟨b0,0,none⟩) m.states.length m.states.length)) w5:=by rw [hw5];exact (Ext.refl _).alloc _
  have hwA:w.heap.size≤An:=WA.o;have hbA:N1 < b0:=by
   rw [hb0];have h:=HD1.o;exact (Array.getElem?_eq_some_iff.1 h).1
  have c0:=(A0.o.keeps hk0 (by decide)).ext hxx;have c1':Blk w5 (An+1) #[(.slice (some ⟨b0,0,none⟩) m.states.length m.states.length)] 29:=(A1.o.set 0 (.slice (some ⟨b0,0,none⟩) m.states.length m.states.length)).ext hxx;have c2:=(A2.o.keeps hk0 (by decide)).ext hxx;have hx9:Ext w w5:=Ext.trans (Below.setCell X.o (by dsimp only;omega) _) hxx;have hd9:w5.heap[N1]?=some (.deferred (some [])):=by
   rw [hxx.block N1 (by rw [World.size_setCell,← hb0];exact hbA)];exact (Below.heap_setCell _ _ _ _ (by dsimp only;omega)).trans HD1.o
  rw [← hw5];replace A0:=kI c0;replace A1:=kI c1';replace A2:=kI c2;replace X:=kI hx9;replace HD1:=kI hd9;have FR:=kI hfr;clear hb0 hw5 hfr hk0 hxx c0 c1' c2 hx9 hd9 HB0 HCC;refine wpEx_seq ?_;refine wpEx_of ?_;refine wpIn_wide.2 ?_;have q1:(0:Int)≤(sn:Int):=by omega
  have q2:(sn:Int) < (m.states.length:Int):=by omega
  have ht:∀ l,T2 4 4 (fun W=>W.cell? ⟨An+1,0,none⟩=some (.slice (some ⟨b0,0,none⟩) m.states.length m.states.length)) (fun W=>W.cell? ⟨An+1,0,none⟩=some (.slice (some ⟨b0,0,none⟩) m.states.length m.states.length)) l w5.drew:=fun l=>T2.both (c1B A1.o.drew) (c1B A1.o.drew);refine wp_region_Xn (T:=T2 4 4 (fun W=>W.cell? ⟨An+1,0,none⟩=some (.slice (some ⟨b0,0,none⟩) m.states.length m.states.length)) (fun W=>W.cell? ⟨An+1,0,none⟩=some (.slice (some ⟨b0,0,none⟩) m.states.length m.states.length))) (by kernel_rfl) ?_;refine wpAnyX_take1 (i:=0) (v:=?_) rfl rfl (by kernel_rfl) (by decide) (by decide) (by kernel_rfl) (by kernel_rfl) (by kernel_rfl) Qn.noP (Or.inl ⟨by rfl,?_⟩) (by kernel_rfl) (ht _) ?_;rotate_left
  ·(intro w hSw;(try dsimp only at hSw);go_simp;first|done|with_reducible rfl)
  (try simp only [sP]);refine wpAnyX_take1 (i:=1) (v:=?_) rfl rfl (by kernel_rfl) (by decide) (by decide) (by kernel_rfl) (by kernel_rfl) (by kernel_rfl) Qn.noP (Or.inl ⟨by rfl,?_⟩) (by kernel_rfl) (ht _) ?_;rotate_left
  ·(intro w hSw;(try dsimp only at hSw);go_simp;first|done|with_reducible rfl)
  (try simp only [sP]);clear ht;refine wpAnyX_ready (rs:=[2]) (by kernel_rfl) (by simp) ?_;refine AllReadyX.cons rfl (fun K hK=>?_) ?_;rotate_left
  ·exact AllReadyX.nil
  go_simp;refine (fromR_any 1 w5.drew (by decide) (by decide)).mono ?_;rintro e w6 ⟨⟨v,rfl,nn⟩,hx⟩;obtain ⟨one,hone⟩:=gN (rep ((1:Int):Rat));rw [← hone] at nn;have HONE:=kI hone;obtain ⟨r1,r2,r3,r4,rfl⟩:=nn.shape;have hx0:=Ext.trans ((Ext.refl w5).drew) hx;obtain ⟨hs1,hs2⟩:=nn.sf (B:=w.heap.size) X.o.drew.size;have hd:=(hx0.block N1 (Array.getElem?_eq_some_iff.1 HD1.o).1).trans HD1.o;replace A0:=kI (A0.o.ext hx0);replace A1:=kI (A1.o.ext hx0);replace A2:=kI (A2.o.ext hx0);replace X:=kI (X.o.trans hx0);replace FR:=kI (FR.o.ext hx0);replace HD1:=kI hd;have S1:=kI hs1;have S2:=kI hs2;clear nn hx hx0 hs1 hs2 hd hone;refine hK.out _ _ (T2.both (c1B A1.o) (c1B A1.o)) ?_;clear hK K;(try simp only [sP]);have ht:∀ l,T2 4 4 (fun W=>W.cell? ⟨An+1,0,none⟩=some (.slice (some ⟨b0,0,none⟩) m.states.length m.states.length)) (fun W=>W.cell? ⟨An+1,0,none⟩=some (.slice (some ⟨b0,0,none⟩) m.states.length m.states.length)) l w6:=fun l=>T2.both (c1B A1.o) (c1B A1.o);refine wpAnyX_take1 (i:=3) (v:=?_) rfl rfl (by kernel_rfl) (by decide) (by decide) (by kernel_rfl) (by kernel_rfl) (by kernel_rfl) Qn.noP (Or.inl ⟨by rfl,?_⟩) (by kernel_rfl) (ht _) ?_;rotate_left
  ·(intro w hSw;(try dsimp only at hSw);go_simp;first|done|with_reducible rfl)
  (try simp only [sP]);clear ht;refine wpAnyX_ready (rs:=[4]) (by kernel_rfl) (by simp) ?_;refine AllReadyX.cons rfl (fun K hK=>?_) ?_;rotate_left
  ·exact AllReadyX.nil
  obtain ⟨g1,g2,g3,g4,z0,z1,z2,-⟩:=FR.o.at (j:=sn) (by omega);have f0:=FR.o.free;have fl:=FR.o.lt;go_simp;refine hK.out _ _ ⟨fun h=>absurd h (by decide),fun h=>absurd h (by decide)⟩ ?_;clear hK K z0 z1 z2 f0 fl;(try simp only [sP]);refine wpAnyX_done (by kernel_rfl) ?_ _;refine ⟨rfl,?_⟩;obtain ⟨w7,hw7⟩:=gN (((w6.setCell ⟨b0,sn*3,none⟩ (.bool one.neg)).setCell ⟨b0,sn*3+1,none⟩ (.slice r1 one.num.length r2)).setCell ⟨b0,sn*3+2,none⟩ (.slice r3 one.den.length r4));have hfr:FrN w7 w.heap.size b0 m.states.length (fun k=>(ch0 m (sn:Int)).getD k zR):=by
   have h:=FR.o.set (a:=sn) (r:=one) (by omega) S1.o S2.o;rw [← hw7] at h;refine h.congr (fun k hk=>?_);unfold ch0;rw [List.getD_eq_getElem?_getD,Int.toNat_natCast];by_cases e:k=sn
   ·subst e;rw [if_pos rfl,List.getElem?_set_self (by rw [List.length_replicate];exact hk),← HONE.o];rfl
   ·rw [if_neg e,List.getElem?_set_ne (Ne.symm e),List.getElem?_replicate,if_pos hk];rfl
  obtain ⟨cur,hcur,-,-⟩:=FR.o;have hk7:Keeps b0 25 w6 w7:=by rw [hw7];exact keepsR3 hcur _ _ _ _
  have c0:=A0.o.keeps hk7 (by decide);have c1':=A1.o.keeps hk7 (by decide);have c2:=A2.o.keeps hk7 (by decide);have hx9:Ext w w7:=Below.trans X.o ((hk7.below (Nat.le_of_lt FR.o.lt)).mono (by omega));have hd9:w7.heap[N1]?=some (.deferred (some [])):=(hk7.block N1 (Array.getElem?_eq_some_iff.1 HD1.o).1 (.inl (by omega))).trans HD1.o;have hl0:LimL (ch0 m (sn:Int)):=fun i hi=>by
   unfold ch0 at hi ⊢;rw [List.length_set,List.length_replicate] at hi;rw [List.getD_eq_getElem?_getD,Int.toNat_natCast];by_cases e:i=sn
   ·subst e;rw [List.getElem?_set_self (by rw [List.length_replicate];exact hi)];exact limR_rep _
   ·rw [List.getElem?_set_ne (Ne.symm e),List.getElem?_replicate,if_pos hi];exact zR_lim
  have hlen0:(ch0 m (sn:Int)).length=m.states.length:=by unfold ch0;rw [List.length_set,List.length_replicate]
  rw [← hw7];replace A0:=kI c0;replace A1:=kI c1';replace A2:=kI c2;replace X:=kI hx9;replace HD1:=kI hd9;replace FR:=kI hfr;have L0:=kI hl0;have LN0:=kI hlen0;clear hw7 hfr hcur hk7 c0 c1' c2 hx9 hd9 S1 S2 hl0 hlen0 HONE q1 q2;(try simp only [Exit.then]);refine wpEx_seq ?_;refine wpEx_seq ?_;refine wpEx_of ?_;refine wpIn_wide.2 ?_;go_wp2_with fail;refine (back_any pa plan.length pc w7).mono ?_;rintro e w8 ⟨rfl,hw8⟩;obtain ⟨H2,hH2⟩:=gN (w7.heap.size);rw [← hH2];have hx:Ext w7 w8:=by rw [hw8];exact (Ext.refl _).alloc _
  have hs4:w8.heap.size=H2+1:=by rw [hw8,hH2];simp
  have hb0:Blk w8 H2 #[.slice pa plan.length pc] 30:=by rw [hw8,hH2];exact Blk.new _ _ _
  have hAH:N1 < H2:=by rw [hH2];exact (Array.getElem?_eq_some_iff.1 HD1.o).1
  have hd8:=(hx.block N1 (Array.getElem?_eq_some_iff.1 HD1.o).1).trans HD1.o;replace FR:=kI (FR.o.ext hx);replace HD1:=kI hd8;replace A0:=kI (A0.o.ext hx);replace A1:=kI (A1.o.ext hx);replace A2:=kI (A2.o.ext hx);replace X:=kI (X.o.trans hx);have S8:=kI hs4;have D8:=kI hb0;clear hx hs4 hb0 hw8 hH2 hd8;go_wp2_with fail;(try simp only [Exit.then]);have hN2:w8.heap.size=H2+1:=S8.o;have hseq:∀ W1,Ext w8 W1→UpSeqP Fence.wide 7 Tryz.prog 90 #[.pointer (some ⟨H2,0,none⟩)] (KpB w8.heap.size (fun i=>i=An+1)) Ext (fun x:Int × Value=>#[.int .i64 x.1,x.2]) (BwNx w plan) (fun xs=>xs.length=plan.length) (w8.heap.size+1) W1:=by
   intro W1 hx;exact back_seq 7 (by omega) pa pc plan H2 w8.heap.size _ _ w W1 HP.o (by omega) (X.o.trans hx) (fun i h=>by have h':i=An+1:=h;omega) (by omega) (by omega) hx.size (D8.o.ext hx)
  have I0:CbI w w8 m plan (ch0 m (sn:Int)) An N1 #[.bool m.disc.neg,.slice m1 m.disc.num.length n1,.slice m2 m.disc.den.length n2,.slice m3 m.states.length n3] [] w8:=⟨X.o,Nat.le_refl _,A0.o,A2.o,HD1.o,b0,_,A1.o,LN0.o,L0.o,FR.o,by omega,rfl,Nat.zero_le _⟩;have hw8:w.heap.size≤w8.heap.size:=by omega
  have hN18:N1 < w8.heap.size:=by omega
  refine wpEx_block ?_;refine wpEx_name ?_;intro a0 ha0;refine wpEx_range_upP (n:=8) rfl (by omega) (gf:=90) (lb:=#[.pointer (some ⟨H2,0,none⟩)]) (by rw [ha0];rfl) trivial (enters_of Tryz.func90 (by kernel_rfl) rfl) (KpB w8.heap.size (fun i=>i=An+1)) Ext (fun A B x h=>⟨x.block _ (by omega),x.block _ h⟩) (fun _ _ _=>KpB.trans) (fun A B _ z=>KpB.kz (Nat.le_refl _) z.kz) hseq (fun _=>rfl)
   (CbI w w8 m plan (ch0 m (sn:Int)) An N1 #[.bool m.disc.neg,.slice m1 m.disc.num.length n1,.slice m2 m.disc.den.length n2,.slice m3 m.states.length n3]) (fun ch _ W=>CbP w m plan (sn:Int) An N1 ch W) (fun _ _ _ h k=>h.kq k hw8 hN18) (fun _ _ _ h x=>h.ext x) I0 (CbQ w w8 m plan (ch0 m (sn:Int)) An N1 #[.bool m.disc.neg,.slice m1 m.disc.num.length n1,.slice m2 m.disc.den.length n2,.slice m3 m.states.length n3] a0) (fun _ _ _ _ _ h k=>⟨h.1.kq k hw8 hN18,h.2⟩) ?hassign ?hbody ?hdone ?hpanic
  case hassign=>
   rintro ll pre x W K h1 h2 hlt2 hK;have H1':=kI h1;have H2':=kI h2;clear h1 h2 hseq I0;rw [ha0];simp only [List.zip_toArray,List.zip_cons_cons,List.zip_nil_left,List.zip_nil_right,List.foldl_toArray,List.foldl_toArray',List.size_toArray,List.length_cons,List.length_nil,List.foldl_cons,List.foldl_nil,List.setIfInBounds_toArray,List.set_cons_succ,List.set_cons_zero];gi_wp2_with fail;exact hK _ _ (Ext.refl W) ⟨H1'.out,H2'.out,by rw [ha0];simp only [List.setIfInBounds_toArray,List.set_cons_succ,List.set_cons_zero]⟩
  case hpanic=>
   rintro ch xs W ⟨hx,⟨v,b1⟩,b2,hd1,c,hc,rfl,hE⟩ hD;refine ⟨.inr ⟨_,rfl⟩,?_⟩;rw [ha0];(try simp (config:={ zetaDelta:=true }) only [Exit.then,Exit.inBlock]);exact cha_leave_err hc ⟨rfl,rfl⟩ b1 b2 hx WA.o hE [w8.heap.size,N1] (by simp;omega) (fun r h=>by
    rcases List.mem_cons.1 h with rfl|h
    ·exact ⟨by omega,hD⟩
    ·rw [List.mem_singleton.1 h];exact ⟨by omega,hd1⟩)
  case hdone=>
   rintro xs W hF ⟨hx,hsz,b0',b2,hd1,bl,l,b1,hl,hll,hf,hbl,hch,hpk⟩ hD;refine ⟨.inl rfl,?_⟩;have hF':xs.length=plan.length:=hF;rw [hF',List.drop_of_length_le (by simp)] at hch;have E:Hid (chancesS m plan (sn:Int)=(l,0)):=kI (by rw [E5.o,hch];rfl);have hfo:=hf.own (by omega) (by omega);have hlr:(List.range m.states.length).map (fun k=>l.getD k zR)=l:=by rw [← hl];exact range_getD l zR
   rw [hlr] at hfo;have OW:=kI hfo;have XW:=kI hx;have B1:=kI b1;have B2:=kI b2;have HDa:=kI hd1;have HDb:=kI hD;obtain ⟨N2,hN2'⟩:=gN (w8.heap.size);have hNN:N1 < N2:=by omega
   rw [← hN2'] at HDb ⊢;rw [ha0];clear hx hsz b0' b2 hd1 b1 hll hf hch hpk hD hseq I0 hF hF' hfo hlr hl hN2 hN2' ha0 hw8 hN18;(try simp only [Exit.then]);refine wpEx_of ?_;refine wpIn_wide.2 ?_;obtain ⟨qB1,fB1,lB1⟩:=B1.o.q3;obtain ⟨qB2,fB2,lB2⟩:=B2.o.q3;go_wp2_with fail;clear qB1 fB1 lB1 qB2 fB2 lB2;obtain ⟨wf,hwf⟩:=gN ((W.setCell ⟨An+1,0,none⟩ (.slice (some ⟨bl,0,none⟩) m.states.length m.states.length)).setCell ⟨An+1+1,0,none⟩ (.int .i64 0));have hk1:=keeps_setC B1.o 0 (.slice (some ⟨bl,0,none⟩) m.states.length m.states.length);have hk2:=keeps_setC (B2.o.setOther (a:=⟨An+1,0,none⟩) (by dsimp only;omega) (.slice (some ⟨bl,0,none⟩) m.states.length m.states.length)) 0 (.int .i64 0);have b1:Blk wf (An+1) #[.slice (some ⟨bl,0,none⟩) m.states.length m.states.length] 29:=by rw [hwf];exact (B1.o.set 0 _).keeps hk2 (by decide)
   have b2:Blk wf (An+1+1) #[.int .i64 0] 37:=by rw [hwf];exact (B2.o.keeps hk1 (by decide)).set 0 _
   have ow:OwN w.heap.size wf (.slice (some ⟨bl,0,none⟩) m.states.length m.states.length) l:=by rw [hwf];exact (OwN.keeps OW.o hk1 (by decide) (by decide)).keeps hk2 (by decide) (by decide)
   have xw:Ext w wf:=by rw [hwf];exact Below.setCell (Below.setCell XW.o (by dsimp only;omega) _) (by dsimp only;omega) _
   have hda:wf.heap[N1]?=some (.deferred (some [])):=by rw [hwf];exact (Below.heap_setCell _ _ _ _ (by dsimp only;omega)).trans ((Below.heap_setCell _ _ _ _ (by dsimp only;omega)).trans HDa.o)
   have hdb:wf.heap[N2]?=some (.deferred (some [])):=by rw [hwf];exact (Below.heap_setCell _ _ _ _ (by dsimp only;omega)).trans ((Below.heap_setCell _ _ _ _ (by dsimp only;omega)).trans HDb.o)
   rw [← hwf];clear hwf;exact cha_leave_ret ⟨rfl,rfl⟩ b1 b2 xw WA.o ow E.o [N2,N1] (by simp;omega) (fun r h=>by
    rcases List.mem_cons.1 h with rfl|h
    ·exact ⟨by omega,hdb⟩
    ·rw [List.mem_singleton.1 h];exact ⟨by omega,hda⟩)
  case hbody=>
   rintro ll pre ⟨xi,xv⟩ a1 W ⟨⟨hx,hsz,hb0,hb2,hd1,bl,l,hb1,hl,hll,hf,hbl,hch,hpk⟩,⟨hlt,hrd⟩,rfl⟩ hlt2;dsimp only at hrd hlt ⊢;rw [ha0];simp only [List.setIfInBounds_toArray,List.set_cons_succ,List.set_cons_zero];have hE1:=OKP.o pre.length hlt;obtain ⟨pj,hpj⟩:=gN (plan.reverse.getD pre.length []);have hst:=chS_step (m:=m) (l:=l) (ps:=plan.reverse) (j:=pre.length) (by simpa using hlt);rw [← hpj] at hrd hE1 hst;obtain ⟨hpl,hpa⟩:=chE1_ok hE1;obtain ⟨xa,xc,rfl,-,-,-⟩:=hrd.get;have RD:=kI hrd;have XW:=kI hx;have PA:=kI hpa;have PL:=kI hpl;have PAN:Hid (∀ (c:Int),c≠0→(chU m pj l (List.range m.states.length) (List.replicate m.states.length zR)).2=c→chancesS m plan (sn:Int)=([],c)):=kI (fun c hc he=>by
    have e1:(chS m plan.reverse (ch0 m (sn:Int))).2=c:=by rw [hch,hst,if_pos (by rw [he];exact hc)];exact he
    rw [E5.o,e1,if_pos hc])
   have NEXT:Hid (∀ nx,chU m pj l (List.range m.states.length) (List.replicate m.states.length zR)=(nx,0)→chS m plan.reverse (ch0 m (sn:Int))=chS m (plan.reverse.drop (pre.length+1)) nx):=kI (fun nx he=>by
    rw [hch,hst,he];rfl)
   have B0:=kI hb0;have B1:=kI hb1;have B2:=kI hb2;have FL:=kI hf;have LL:=kI hll;have HLL:=kI hl;have HDW:=kI hd1;have HLT:=kI hlt;have SZW2:Hid (w8.heap.size+2≤W.heap.size):=kI (by omega);have HB2:=kI (FrN.new (B:=w.heap.size) (n:=m.states.length) (Blk.new W (madeCells #[.bool false,.slice none 0 0,.slice none 0 0] (m.states.length*3)) 25));obtain ⟨CD,hCD⟩:=gN (madeCells #[Value.bool false,.slice none 0 0,.slice none 0 0] (m.states.length*3));rw [← hCD] at HB2;have HCD:=kI hCD;have HN28:=kI hN2;have HN188:=kI hN18;have HW88:=kI hw8;have HLT2:=kI hlt2;clear hrd hx hpa hpl hst hch hb0 hb1 hb2 hf hll hd1 hCD hseq I0 hlt hE1 hpj hN2 hN18 hw8 hlt2 hsz hpk ha0 hl;have PANW:Hid (∀ (c:Int) (W':World),c≠0→(chU m pj l (List.range m.states.length) (List.replicate m.states.length zR)).2=c→Ext W W'→Kd w8.heap.size W W'∧KpB w8.heap.size (fun i=>i=An+1) W W'∧CbP w m plan (sn:Int) An N1 [errP c] W'):=kI (fun c W' hc he hx'=>by
    have h1:=HLT2.o;have h2:=HN188.o;exact ⟨⟨hx'.size,hx'.block _ (by omega),hx'.block _ (by omega)⟩,.ext hx',XW.o.trans hx',⟨_,B1.o.ext hx'⟩,B2.o.ext hx',(hx'.block N1 (Array.getElem?_eq_some_iff.1 HDW.o).1).trans HDW.o,c,hc,rfl,PAN.o c hc he⟩)
   refine wpIn_block ?_;obtain ⟨qB1,fB1,lB1⟩:=B1.o.q3;gi_wp2_with (gi_at_make;(refine wpListIn_make_t rfl _ _ rfl m.states.length rfl rfl Tryz.underlying29 Tryz.infoR (by omega) (by omega) CD (by exact HCD.o.symm) ?_))
   clear qB1 fB1 lB1;obtain ⟨nb,hnb⟩:=gN (W.heap.size);rw [← hnb] at HB2 ⊢;obtain ⟨wz,hwz⟩:=gN (W.alloc (.cells CD 25));rw [← hwz] at HB2 ⊢;have hxz:Ext W wz:=by rw [hwz];exact (Ext.refl _).alloc _
   have FZ:Hid (FrN wz w.heap.size nb m.states.length (fun k=>(List.replicate m.states.length zR).getD k zR)):=kI (HB2.o.congr (fun k hk=>by rw [List.getD_eq_getElem?_getD,List.getElem?_replicate,if_pos hk];rfl));have XZ:=kI hxz;have HNB:=kI hnb;have hbn:bl < nb:=by rw [hnb];exact FL.o.lt
   have LZ:Hid (LimL (List.replicate m.states.length zR)):=kI (fun i hi=>by rw [List.length_replicate] at hi;rw [List.getD_eq_getElem?_getD,List.getElem?_replicate,if_pos hi];exact zR_lim);clear hnb hwz hxz HB2 HCD;gi_loopw [90] (fun i wr=>∃ (u:Nat) (nx:List RR),u≤m.states.length∧i=.int .i64 u∧nx.length=m.states.length∧LimL nx∧FrN wr w.heap.size nb m.states.length (fun k=>nx.getD k zR)∧chU m pj l (List.range m.states.length) (List.replicate m.states.length zR)=chU m pj l ((List.range m.states.length).drop u) nx∧Ext W wr) (fun i _=>m.states.length - (intOf i).toNat)
   case atStart=>exact ⟨0,(List.replicate m.states.length zR),Nat.zero_le _,rfl,by rw [List.length_replicate],LZ.o,FZ.o,rfl,XZ.o⟩
   case round=>
    obtain ⟨wk,hwk⟩:=gN (wr);subst hwk;obtain ⟨u,nx,hu,rfl,hnl,hnm,hfn,hcu,hxk⟩:=hrel;have NL:=kI hnl;have NM:=kI hnm;have FN:=kI hfn;have CU:=kI hcu;have XK:=kI hxk;clear hnl hnm hfn hcu hxk FZ XZ LZ;by_cases hul:u < m.states.length
    ·obtain ⟨x1,x2,x3,x4,y00,y01,y02,yr0⟩:=FL.o.at hul;have y0:=(XK.o.cell (p:=⟨bl,u*3,none⟩) FL.o.lt).trans y00;have y1:=(XK.o.cell (p:=⟨bl,u*3+1,none⟩) FL.o.lt).trans y01;have y2:=(XK.o.cell (p:=⟨bl,u*3+2,none⟩) FL.o.lt).trans y02;have yr:=yr0.ext XK.o;clear y00 y01 y02;have hst:=chU_step (m:=m) (p:=pj) (l:=l) (nx:=nx) hul;have hxlim:LimR (l.getD u zR):=LL.o u (by rw [HLL.o];exact hul);obtain ⟨x,hxx⟩:=gN (l.getD u zR);rw [← hxx] at y0 y1 y2 yr yr0 hst hxlim;have XRW:=kI yr0;have XR:=kI yr;have XL:=kI hxlim;have CST:=kI hst;clear hxx yr yr0 hxlim hst;have q1:(0:Int)≤(u:Int):=by omega
     have q2:(u:Int) < (m.states.length:Int):=by omega
     have bll:=(FL.o.ext XK.o).lt;by_cases hx0:x.num=[]
     ·have q3:((x.num.length:Int) == 0)=true:=by simp [hx0]
      have q4:(x.num.length:Int)=0:=by simp [hx0]
      have HX0:=kI hx0;clear hx0;gi_wp2_with fail;go_roundw
      case rel=>exact ⟨u+1,nx,by omega,by go_num,NL.o,NM.o,FN.o.ext ((Ext.refl wk).alloc _),by rw [CU.o,CST.o,if_pos HX0.o],XK.o.trans ((Ext.refl wk).alloc _)⟩
      case measure=>simp [intOf];omega
     ·have q3:((x.num.length:Int) == 0)=false:=by simp [hx0]
      have q4:¬ (x.num.length:Int)=0:=by simp [hx0]
      have HX0:=kI hx0;clear hx0;gi_wp2_with fail;clear q3 q4 y0 y1 y2 bll;obtain ⟨bx,hbx⟩:=gN (wk.heap.size);obtain ⟨wb,hwb⟩:=gN (wk.alloc (.cells #[.bool x.neg,.slice x1 x.num.length x2,.slice x3 x.den.length x4] 25));rw [← hbx,← hwb];have hxb:Ext wk wb:=by rw [hwb];exact (Ext.refl _).alloc _
      have hbb:Blk wb bx #[.bool x.neg,.slice x1 x.num.length x2,.slice x3 x.den.length x4] 25:=by rw [hwb,hbx];exact Blk.new _ _ _
      have hbxn:nb < bx:=by rw [hbx];exact FN.o.lt
      have XB:=kI (XK.o.trans hxb);have BX:=kI hbb;have FB:=kI (FN.o.ext hxb);have XRb:=kI (XR.o.ext hxb);have B0b:=kI (B0.o.ext (XK.o.trans hxb));have B1b:=kI (B1.o.ext (XK.o.trans hxb));clear hwb hbx hxb hbb;have XWb:Hid (Ext w wb):=kI (XW.o.trans XB.o);obtain ⟨xb,xo,rfl,g0,g1⟩:=rdI_at0 (RD.o.ext XWb.o) (i:=u) (by rw [PL.o];exact hul);obtain ⟨ha0,ha1⟩:=PA.o u hul;obtain ⟨an,han⟩:∃ n:Nat,pj.getD u 0=(n:Int):=⟨(pj.getD u 0).toNat,by omega⟩;rw [han] at g1 ha1;obtain ⟨sb,so,ai,ci,rfl,t00,t01,t2⟩:=HSS.o.at hul;have t1:=(XWb.o.cell (p:=⟨sb,so+u,none⟩) t00).trans t01;have hal9:(m.states.getD u []).length≤6:=(st_valid ((md_valid HME.o).2.2.2 u hul)).2.1;have han2:an < (m.states.getD u []).length:=by omega
      obtain ⟨ab,ao,p1,e1,p2,e2,p3,e3,rfl,na,t30,t4⟩:=t2.at han2;have t5:=na.1;have t3:=(XWb.o.cell (p:=⟨ab,ao+an*4+3,none⟩) t5).trans t30;clear t00 t01 t30;have hact:(m.states.getD u []).getD an dA=m.act u (pj.getD u 0).toNat:=by rw [han,Int.toNat_natCast];rfl
      have hav:=act_valid (md_act HME.o hul han2);have hov:=out_mem hav.2.2.2.1;have h64:=hav.2.2.1;rw [hact] at t3 t4;rw [show m.act u an=m.act u (pj.getD u 0).toNat by rw [han,Int.toNat_natCast]] at hov h64;obtain ⟨al,hal⟩:=gN ((m.states.getD u []).length);rw [← hal] at t1 ha1 hal9 han2;obtain ⟨os,hos⟩:=gN ((m.act u (pj.getD u 0).toNat).next);rw [← hos] at t3 t4 hov h64;have HOS:=kI hos;have HOV:=kI hov;have T4:=kI t4;have HOL:=kI (show ∀ i,LimR (os.getD i dO).2 from by rw [hos];exact (HLM.o.2 u _).2);obtain ⟨_,_,_,ho63⟩:=t4.shape;have q3:(0:Int)≤(an:Int):=by omega
      have q4:(an:Int) < (al:Int):=by omega
      have q5:(u:Int) < (pj.length:Int):=by rw [PL.o];exact q2
      clear t2 t4 na hos hov hact hav hal ha0 ha1 hal9 han2 han;have ht:(fun W9=>W9.cell? ⟨An,3,none⟩=some (.slice (some ⟨sb,so,none⟩) m.states.length n3)∧W9.cell? ⟨sb,so+u,none⟩=some (.slice (some ⟨ab,ao,none⟩) al ci)∧W9.cell? ⟨xb,xo+u,none⟩=some (.int .i64 an)∧W9.cell? ⟨ab,ao+an*4+3,none⟩=some (.slice p3 os.length e3)) wb.drew:=⟨B0b.o.cell 3,t1,g1,t3⟩;refine wpIn_region_Xn (T:=fun _ w=>(fun W9=>W9.cell? ⟨An,3,none⟩=some (.slice (some ⟨sb,so,none⟩) m.states.length n3)∧W9.cell? ⟨sb,so+u,none⟩=some (.slice (some ⟨ab,ao,none⟩) al ci)∧W9.cell? ⟨xb,xo+u,none⟩=some (.int .i64 an)∧W9.cell? ⟨ab,ao+an*4+3,none⟩=some (.slice p3 os.length e3)) w) (by kernel_rfl) ?_;refine wpAnyXI_takeP (by exact Or.inr ⟨_,rfl⟩) (by kernel_rfl) (i:=0) (v:=?_) rfl (by kernel_rfl) (by kernel_rfl) (by kernel_rfl) Qn.noP (Or.inl ⟨by rfl,?_⟩) ht ?_;rotate_left
      ·(intro w hSw;(try dsimp only at hSw);go_simp;first|done|with_reducible rfl)
      (try simp only [sP]);refine wpAnyXI_takeP (by exact Or.inr ⟨_,rfl⟩) (by kernel_rfl) (i:=1) (v:=?_) rfl (by kernel_rfl) (by kernel_rfl) (by kernel_rfl) Qn.noP (Or.inl ⟨by rfl,?_⟩) ht ?_;rotate_left
      ·(intro w hSw;(try dsimp only at hSw);go_simp;first|done|with_reducible rfl)
      (try simp only [sP]);refine wpAnyXI_takeP (by exact Or.inr ⟨_,rfl⟩) (by kernel_rfl) (i:=2) (v:=?_) rfl (by kernel_rfl) (by kernel_rfl) (by kernel_rfl) Qn.noP (Or.inl ⟨by rfl,?_⟩) ht ?_;rotate_left
      ·(intro w hSw;(try dsimp only at hSw);go_simp;first|done|with_reducible rfl)
      (try simp only [sP]);refine wpAnyXI_takeP (by exact Or.inr ⟨_,rfl⟩) (by kernel_rfl) (i:=3) (v:=?_) rfl (by kernel_rfl) (by kernel_rfl) (by kernel_rfl) Qn.noP (Or.inl ⟨by rfl,?_⟩) ht ?_;rotate_left
      ·(intro w hSw;(try dsimp only at hSw);go_simp;first|done|with_reducible rfl)
      (try simp only [sP]);refine wpAnyXI_takeP (by exact Or.inr ⟨_,rfl⟩) (by kernel_rfl) (i:=4) (v:=?_) rfl (by kernel_rfl) (by kernel_rfl) (by kernel_rfl) Qn.noP (Or.inl ⟨by rfl,?_⟩) ht ?_;rotate_left
      ·(intro w hSw;(try dsimp only at hSw);go_simp;first|done|with_reducible rfl)
      (try simp only [sP]);refine wpAnyXI_takeP (by exact Or.inr ⟨_,rfl⟩) (by kernel_rfl) (i:=5) (v:=?_) rfl (by kernel_rfl) (by kernel_rfl) (by kernel_rfl) Qn.noP (Or.inl ⟨by rfl,?_⟩) ht ?_;rotate_left
      ·(intro w hSw;(try dsimp only at hSw);go_simp;first|done|with_reducible rfl)
      (try simp only [sP]);refine wpAnyXI_takeP (by exact Or.inr ⟨_,rfl⟩) (by kernel_rfl) (i:=6) (v:=?_) rfl (by kernel_rfl) (by kernel_rfl) (by kernel_rfl) Qn.noP (Or.inl ⟨by rfl,?_⟩) ht ?_;rotate_left
      ·(intro w hSw;(try dsimp only at hSw);go_simp;first|done|with_reducible rfl)
      (try simp only [sP]);refine wpAnyXI_takeP (by exact Or.inr ⟨_,rfl⟩) (by kernel_rfl) (i:=7) (v:=?_) rfl (by kernel_rfl) (by kernel_rfl) (by kernel_rfl) Qn.noP (Or.inl ⟨by rfl,?_⟩) ht ?_;rotate_left
      ·(intro w hSw;(try dsimp only at hSw);go_simp;first|done|with_reducible rfl)
      (try simp only [sP]);refine wpAnyXI_takeP (by exact Or.inr ⟨_,rfl⟩) (by kernel_rfl) (i:=8) (v:=?_) rfl (by kernel_rfl) (by kernel_rfl) (by kernel_rfl) Qn.noP (Or.inl ⟨by rfl,?_⟩) ht ?_;rotate_left
      ·(intro w hSw;(try dsimp only at hSw);go_simp;first|done|with_reducible rfl)
      (try simp only [sP]);refine wpAnyXI_takeP (by exact Or.inr ⟨_,rfl⟩) (by kernel_rfl) (i:=9) (v:=?_) rfl (by kernel_rfl) (by kernel_rfl) (by kernel_rfl) Qn.noP (Or.inl ⟨by rfl,?_⟩) ht ?_;rotate_left
      ·(intro w hSw;(try dsimp only at hSw);go_simp;first|done|with_reducible rfl)
      (try simp only [sP]);refine wpAnyXI_takeP (by exact Or.inr ⟨_,rfl⟩) (by kernel_rfl) (i:=10) (v:=?_) rfl (by kernel_rfl) (by kernel_rfl) (by kernel_rfl) Qn.noP (Or.inl ⟨by rfl,?_⟩) ht ?_;rotate_left
      ·(intro w hSw;(try dsimp only at hSw);go_simp;first|done|with_reducible rfl)
      (try simp only [sP]);refine wpAnyXI_takeP (by exact Or.inr ⟨_,rfl⟩) (by kernel_rfl) (i:=11) (v:=?_) rfl (by kernel_rfl) (by kernel_rfl) (by kernel_rfl) Qn.noP (Or.inl ⟨by rfl,?_⟩) ht ?_;rotate_left
      ·(intro w hSw;(try dsimp only at hSw);go_simp;first|done|with_reducible rfl)
      (try simp only [sP]);refine wpAnyXI_takeP (by exact Or.inr ⟨_,rfl⟩) (by kernel_rfl) (i:=12) (v:=?_) rfl (by kernel_rfl) (by kernel_rfl) (by kernel_rfl) Qn.noP (Or.inl ⟨by rfl,?_⟩) ht ?_;rotate_left
      ·(intro w hSw;(try dsimp only at hSw);go_simp;first|done|with_reducible rfl)
      (try simp only [sP]);refine wpAnyXI_takeP (by exact Or.inr ⟨_,rfl⟩) (by kernel_rfl) (i:=13) (v:=?_) rfl (by kernel_rfl) (by kernel_rfl) (by kernel_rfl) Qn.noP (Or.inl ⟨by rfl,?_⟩) ht ?_;rotate_left
      ·(intro w hSw;(try dsimp only at hSw);go_simp;first|done|with_reducible rfl)
      (try simp only [sP]);refine wpAnyXI_done (by kernel_rfl) ?_ _;refine ⟨rfl,?_⟩;clear ht g0 g1 t1 t3 t5 q3 q4 q5;(try simp only [Exit.then]);gi_wp2_with fail;have XBd:=kI XB.o.drew;have BXd:=kI BX.o.drew;have FBd:=kI (FB.o.ext (Ext.refl wb).drew);have XRd:=kI (XRb.o.ext (Ext.refl wb).drew);obtain ⟨wq,hwq⟩:=gN (wb.drew);rw [← hwq] at XBd BXd FBd XRd ⊢;have FAILO:Hid (∀ (c:Int),c≠0→(chO x os nx).2=c→(chU m pj l (List.range m.states.length) (List.replicate m.states.length zR)).2=c):=kI (fun c hc h=>by
       rw [CU.o,CST.o,if_neg HX0.o,← HOS.o,if_pos (by rw [h];exact hc)];exact h)
      clear hwq XB BX FB XRb B0b B1b XWb;gi_loopw [112] (fun i wr=>∃ (k:Nat) (ny:List RR),k≤os.length∧i=.int .i64 k∧ny.length=m.states.length∧LimL ny∧FrN wr w.heap.size nb m.states.length (fun k=>ny.getD k zR)∧chO x os nx=chO x (os.drop k) ny∧Ext W wr∧Blk wr bx #[.bool x.neg,.slice x1 x.num.length x2,.slice x3 x.den.length x4] 25) (fun i _=>os.length - (intOf i).toNat)
      case atStart=>exact ⟨0,nx,Nat.zero_le _,rfl,NL.o,NM.o,FBd.o,rfl,XBd.o,BXd.o⟩
      case round=>
       obtain ⟨wj,hwj⟩:=gN (wr);subst hwj;obtain ⟨k,ny,hk,rfl,hyl,hym,hfy,hco,hxj,hbj⟩:=hrel;have YL:=kI hyl;have YM:=kI hym;have FY:=kI hfy;have CO:=kI hco;have XJ:=kI hxj;have BJ:=kI hbj;clear hyl hym hfy hco hxj hbj;by_cases hkl:k < os.length
       ·have XWj:Hid (Ext w wj):=kI (XW.o.trans XJ.o);obtain ⟨ob,oo,o1,o2,o3,o4,rfl,v0,v1,v2,v3,v4,v5⟩:=(T4.o.ext XWj.o).at hkl;have hov:=HOV.o (os.getD k dO) (by rw [List.getD_eq_getElem?_getD,List.getElem?_eq_getElem hkl];exact List.getElem_mem hkl);have hst:=chO_step (x:=x) (nx:=ny) hkl;have hol:=HOL.o k;obtain ⟨O,hO⟩:=gN (os.getD k dO);rw [← hO] at v1 v2 v3 v4 v5 hov hst hol;obtain ⟨ot,op⟩:=O;dsimp only at v1 v2 v3 v4 v5 hov hst hol;obtain ⟨tn,rfl⟩:∃ n:Nat,ot=(n:Int):=⟨ot.toNat,by omega⟩;rw [Int.toNat_natCast] at hst;have htn:tn < m.states.length:=by omega
        have CST2:=kI hst;have HOL2:=kI hol;have V5:=kI v5;have q1:(0:Int)≤(k:Int):=by omega
        have q2:(k:Int) < (os.length:Int):=by omega
        clear hst hol v5 hov hO;have kb0:=BJ.o.cell;have kb1:=BJ.o.lt;gi_wp2_with fail;clear kb0 kb1 v0 v1 v2 v3 v4;obtain ⟨bo,hbo⟩:=gN (wj.heap.size);obtain ⟨wo,hwo⟩:=gN (wj.alloc (.cells #[.int .i64 (tn:Nat),.bool op.neg,.slice o1 op.num.length o2,.slice o3 op.den.length o4] 59));have hxo:Ext wj wo:=by rw [hwo];exact (Ext.refl _).alloc _
        have hbb:Blk wo bo #[.int .i64 (tn:Nat),.bool op.neg,.slice o1 op.num.length o2,.slice o3 op.den.length o4] 59:=by rw [hwo,hbo];exact Blk.new _ _ _
        rw [← hbo,← hwo];have hbon:nb < bo:=by rw [hbo];exact FY.o.lt
        have hxr:RdR wo (.agg #[.bool x.neg,.slice x1 x.num.length x2,.slice x3 x.den.length x4]) x:=XRW.o.ext (XJ.o.trans hxo);have hmu:=mulR_any _ _ x op wo hxr (V5.o.ext hxo) XL.o HOL2.o;obtain ⟨R,hR⟩:=gN (mulR x op);have hml:LimR R.1:=by rw [hR];exact mulR_lim _ _
        have hst:=CST2.o;rw [← hR] at hmu hst;obtain ⟨pr,pe⟩:=R;unfold ResR at hmu;dsimp only at hmu hst hml;have HMU:=kI hmu;have HST:=kI hst;have HML:=kI hml;have XO:=kI (XJ.o.trans hxo);have BO:=kI hbb;have FO:=kI (FY.o.ext hxo);have BJo:=kI (BJ.o.ext hxo);have YLo:=YL;have HBON:=kI hbon;clear hwo hbo hxo hbb hxr hmu hst hml hR hbon CST2 V5;refine ⟨trivial,(Wide.calls (Or.inr ⟨_,rfl⟩) HMU.o).mono ?_⟩;rintro e w2 ⟨⟨v,rfl,nn⟩,hx2⟩;obtain ⟨s1,s2,s3,s4,rfl⟩:=nn.shape;obtain ⟨hs1,hs2⟩:=nn.sf (B:=w.heap.size) (Nat.le_trans XW.o.size XO.o.size);have PR:=kI nn.rd;have PS1:=kI hs1;have PS2:=kI hs2;replace XO:=kI (XO.o.trans hx2);replace BO:=kI (BO.o.ext hx2);replace FO:=kI (FO.o.ext hx2);replace BJo:=kI (BJo.o.ext hx2);clear nn hs1 hs2 hx2 HMU;gi_wp2_with fail;obtain ⟨bp,hbp⟩:=gN (w2.heap.size);obtain ⟨w3,hw3⟩:=gN (w2.alloc (.cells #[.bool pr.neg,.slice s1 pr.num.length s2,.slice s3 pr.den.length s4] 25));have hx3:Ext w2 w3:=by rw [hw3];exact (Ext.refl _).alloc _
        have hbb:Blk w3 bp #[.bool pr.neg,.slice s1 pr.num.length s2,.slice s3 pr.den.length s4] 25:=by rw [hw3,hbp];exact Blk.new _ _ _
        have hbpn:nb < bp:=by rw [hbp];exact FO.o.lt
        rw [← hbp,← hw3];have BP:=kI hbb;have HBPN:=kI hbpn;replace XO:=kI (XO.o.trans hx3);replace BO:=kI (BO.o.ext hx3);replace FO:=kI (FO.o.ext hx3);replace BJo:=kI (BJo.o.ext hx3);replace PR:=kI (PR.o.ext hx3);replace PS1:=kI (PS1.o.ext hx3);replace PS2:=kI (PS2.o.ext hx3);clear hw3 hbp hx3 hbb hbpn;by_cases hpe:pe=0
        rotate_left
        ·refine ⟨trivial,(Wide.calls (Or.inr ⟨_,rfl⟩) (must_bad hpe _)).mono ?_⟩;rintro e w9 ⟨rfl,rfl⟩;(try simp (config:={ zetaDelta:=true }) only [Exit.then,Exit.inBlock]);obtain ⟨p1,p2,p3⟩:=PANW.o pe _ hpe (FAILO.o pe hpe (by rw [CO.o,HST.o,if_pos hpe])) XO.o;exact ⟨rfl,p1,p2,p3⟩
        subst hpe;refine ⟨trivial,(Wide.calls (Or.inr ⟨_,rfl⟩) (must_ok _)).mono ?_⟩;rintro e w9 ⟨rfl,rfl⟩;gi_wp2_with fail;obtain ⟨j1,j2,j3,j4,y0,y1,y2,yr⟩:=FO.o.at htn;have hst:=HST.o;rw [if_neg (fun h=>h rfl)] at hst;have hnlim:LimR (ny.getD tn zR):=YM.o tn (by rw [YL.o];exact htn);obtain ⟨na,hna⟩:=gN (ny.getD tn zR);rw [← hna] at y0 y1 y2 yr hst hnlim;have had:=fun W' (x:Ext w9 W')=>addR_any _ _ na pr W' (yr.ext x) (PR.o.ext x) hnlim HML.o;obtain ⟨R,hR⟩:=gN (addR na pr);have hal:LimR R.1:=by rw [hR];exact addR_lim _ _
        rw [← hR] at had hst;obtain ⟨ar,ae⟩:=R;unfold ResR at had;dsimp only at had hst hal;have HAD:=kI had;have HST2:=kI hst;have HAL:=kI hal;have Y0:=kI y0;have Y1:=kI y1;have Y2:=kI y2;have t1:(0:Int)≤(tn:Int):=by omega
        have t2:(tn:Int) < (m.states.length:Int):=by omega
        clear had hst hal hna y0 y1 y2 yr hnlim hR HST;have ht:∀ l,T2 14 15 (fun W9=>W9.cell? ⟨bo,0,none⟩=some (.int .i64 (tn:Nat))∧(W9.cell? ⟨nb,tn*3,none⟩=some (.bool na.neg)∧W9.cell? ⟨nb,tn*3+1,none⟩=some (.slice j1 na.num.length j2)∧W9.cell? ⟨nb,tn*3+2,none⟩=some (.slice j3 na.den.length j4))∧(W9.cell? ⟨bp,0,none⟩=some (.bool pr.neg)∧W9.cell? ⟨bp,1,none⟩=some (.slice s1 pr.num.length s2)∧W9.cell? ⟨bp,2,none⟩=some (.slice s3 pr.den.length s4))) (fun _=>True) l w9.drew:=fun l=>T2.both ⟨BO.o.drew.cell 0,⟨Y0.o,Y1.o,Y2.o⟩,BP.o.drew.cell 0,BP.o.drew.cell 1,BP.o.drew.cell 2⟩ trivial;refine wpIn_region_Xn (T:=T2 14 15 (fun W9=>W9.cell? ⟨bo,0,none⟩=some (.int .i64 (tn:Nat))∧(W9.cell? ⟨nb,tn*3,none⟩=some (.bool na.neg)∧W9.cell? ⟨nb,tn*3+1,none⟩=some (.slice j1 na.num.length j2)∧W9.cell? ⟨nb,tn*3+2,none⟩=some (.slice j3 na.den.length j4))∧(W9.cell? ⟨bp,0,none⟩=some (.bool pr.neg)∧W9.cell? ⟨bp,1,none⟩=some (.slice s1 pr.num.length s2)∧W9.cell? ⟨bp,2,none⟩=some (.slice s3 pr.den.length s4))) (fun _=>True)) (by kernel_rfl) ?_;refine wpAnyXI_take1 (by exact Or.inr ⟨_,rfl⟩) (by kernel_rfl) (i:=0) (v:=?_) rfl rfl (by kernel_rfl) (by decide) (by decide) (by kernel_rfl) (by kernel_rfl) (by kernel_rfl) Qn.noP (Or.inl ⟨by rfl,?_⟩) (by kernel_rfl) (ht _) ?_;rotate_left
        ·(intro w hSw;(try dsimp only at hSw);go_simp;first|done|with_reducible rfl)
        (try simp only [sP]);refine wpAnyXI_take1 (by exact Or.inr ⟨_,rfl⟩) (by kernel_rfl) (i:=1) (v:=?_) rfl rfl (by kernel_rfl) (by decide) (by decide) (by kernel_rfl) (by kernel_rfl) (by kernel_rfl) Qn.noP (Or.inl ⟨by rfl,?_⟩) (by kernel_rfl) (ht _) ?_;rotate_left
        ·(intro w hSw;(try dsimp only at hSw);go_simp;first|done|with_reducible rfl)
        (try simp only [sP]);refine wpAnyXI_take1 (by exact Or.inr ⟨_,rfl⟩) (by kernel_rfl) (i:=2) (v:=?_) rfl rfl (by kernel_rfl) (by decide) (by decide) (by kernel_rfl) (by kernel_rfl) (by kernel_rfl) Qn.noP (Or.inl ⟨by rfl,?_⟩) (by kernel_rfl) (ht _) ?_;rotate_left
        ·(intro w hSw;(try dsimp only at hSw);go_simp;first|done|with_reducible rfl)
        (try simp only [sP]);refine wpAnyXI_take1 (by exact Or.inr ⟨_,rfl⟩) (by kernel_rfl) (i:=3) (v:=?_) rfl rfl (by kernel_rfl) (by decide) (by decide) (by kernel_rfl) (by kernel_rfl) (by kernel_rfl) Qn.noP (Or.inl ⟨by rfl,?_⟩) (by kernel_rfl) (ht _) ?_;rotate_left
        ·(intro w hSw;(try dsimp only at hSw);go_simp;first|done|with_reducible rfl)
        (try simp only [sP]);refine wpAnyXI_take1 (by exact Or.inr ⟨_,rfl⟩) (by kernel_rfl) (i:=4) (v:=?_) rfl rfl (by kernel_rfl) (by decide) (by decide) (by kernel_rfl) (by kernel_rfl) (by kernel_rfl) Qn.noP (Or.inl ⟨by rfl,?_⟩) (by kernel_rfl) (ht _) ?_;rotate_left
        ·(intro w hSw;(try dsimp only at hSw);go_simp;first|done|with_reducible rfl)
        (try simp only [sP]);refine wpAnyXI_take1 (by exact Or.inr ⟨_,rfl⟩) (by kernel_rfl) (i:=5) (v:=?_) rfl rfl (by kernel_rfl) (by decide) (by decide) (by kernel_rfl) (by kernel_rfl) (by kernel_rfl) Qn.noP (Or.inl ⟨by rfl,?_⟩) (by kernel_rfl) (ht _) ?_;rotate_left
        ·(intro w hSw;(try dsimp only at hSw);go_simp;first|done|with_reducible rfl)
        (try simp only [sP]);refine wpAnyXI_take1 (by exact Or.inr ⟨_,rfl⟩) (by kernel_rfl) (i:=6) (v:=?_) rfl rfl (by kernel_rfl) (by decide) (by decide) (by kernel_rfl) (by kernel_rfl) (by kernel_rfl) Qn.noP (Or.inl ⟨by rfl,?_⟩) (by kernel_rfl) (ht _) ?_;rotate_left
        ·(intro w hSw;(try dsimp only at hSw);go_simp;first|done|with_reducible rfl)
        (try simp only [sP]);refine wpAnyXI_take1 (by exact Or.inr ⟨_,rfl⟩) (by kernel_rfl) (i:=7) (v:=?_) rfl rfl (by kernel_rfl) (by decide) (by decide) (by kernel_rfl) (by kernel_rfl) (by kernel_rfl) Qn.noP (Or.inl ⟨by rfl,?_⟩) (by kernel_rfl) (ht _) ?_;rotate_left
        ·(intro w hSw;(try dsimp only at hSw);go_simp;first|done|with_reducible rfl)
        (try simp only [sP]);refine wpAnyXI_take1 (by exact Or.inr ⟨_,rfl⟩) (by kernel_rfl) (i:=8) (v:=?_) rfl rfl (by kernel_rfl) (by decide) (by decide) (by kernel_rfl) (by kernel_rfl) (by kernel_rfl) Qn.noP (Or.inl ⟨by rfl,?_⟩) (by kernel_rfl) (ht _) ?_;rotate_left
        ·(intro w hSw;(try dsimp only at hSw);go_simp;first|done|with_reducible rfl)
        (try simp only [sP]);clear ht;refine wpAnyXI_ready (rs:=[9]) (by kernel_rfl) (by simp) ?_;refine AllReadyXI.cons rfl (fun K hK=>?_) ?_;rotate_left
        ·exact AllReadyXI.nil
        go_simp;refine ⟨trivial,(Wide.calls (Or.inr ⟨_,rfl⟩) (HAD.o w9.drew (Ext.refl w9).drew)).mono ?_⟩;rintro e w5 ⟨⟨v,rfl,nn⟩,hx2⟩;obtain ⟨r1,r2,r3,r4,rfl⟩:=nn.shape;have hx3:Ext w9 w5:=Ext.trans ((Ext.refl w9).drew) hx2;obtain ⟨hs1,hs2⟩:=nn.sf (B:=w.heap.size) (Nat.le_trans XW.o.size XO.o.drew.size);have AS1:=kI hs1;have AS2:=kI hs2;have k0:=(hx3.cell (p:=⟨nb,tn*3,none⟩) FO.o.lt).trans Y0.o;have k1:=(hx3.cell (p:=⟨nb,tn*3+1,none⟩) FO.o.lt).trans Y1.o;have k2:=(hx3.cell (p:=⟨nb,tn*3+2,none⟩) FO.o.lt).trans Y2.o;replace XO:=kI (XO.o.trans hx3);replace BO:=kI (BO.o.ext hx3);replace FO:=kI (FO.o.ext hx3);replace BJo:=kI (BJo.o.ext hx3);replace BP:=kI (BP.o.ext hx3);replace Y0:=kI k0;replace Y1:=kI k1;replace Y2:=kI k2;clear nn hs1 hs2 hx2 hx3 HAD k0 k1 k2;have ht:∀ l,T2 14 15 (fun W9=>W9.cell? ⟨bo,0,none⟩=some (.int .i64 (tn:Nat))∧(W9.cell? ⟨nb,tn*3,none⟩=some (.bool na.neg)∧W9.cell? ⟨nb,tn*3+1,none⟩=some (.slice j1 na.num.length j2)∧W9.cell? ⟨nb,tn*3+2,none⟩=some (.slice j3 na.den.length j4))∧(W9.cell? ⟨bp,0,none⟩=some (.bool pr.neg)∧W9.cell? ⟨bp,1,none⟩=some (.slice s1 pr.num.length s2)∧W9.cell? ⟨bp,2,none⟩=some (.slice s3 pr.den.length s4))) (fun _=>True) l w5:=fun l=>T2.both ⟨BO.o.cell 0,⟨Y0.o,Y1.o,Y2.o⟩,BP.o.cell 0,BP.o.cell 1,BP.o.cell 2⟩ trivial;refine hK.out _ _ (ht _) ?_;clear hK K;(try simp only [sP]);refine wpAnyXI_take1 (by exact Or.inr ⟨_,rfl⟩) (by kernel_rfl) (i:=10) (v:=?_) rfl rfl (by kernel_rfl) (by decide) (by decide) (by kernel_rfl) (by kernel_rfl) (by kernel_rfl) Qn.noP (Or.inl ⟨by rfl,?_⟩) (by kernel_rfl) (ht _) ?_;rotate_left
        ·(intro w hSw;(try dsimp only at hSw);go_simp;first|done|with_reducible rfl)
        (try simp only [sP]);refine wpAnyXI_take1 (by exact Or.inr ⟨_,rfl⟩) (by kernel_rfl) (i:=11) (v:=?_) rfl rfl (by kernel_rfl) (by decide) (by decide) (by kernel_rfl) (by kernel_rfl) (by kernel_rfl) Qn.noP (Or.inl ⟨by rfl,?_⟩) (by kernel_rfl) (ht _) ?_;rotate_left
        ·(intro w hSw;(try dsimp only at hSw);go_simp;first|done|with_reducible rfl)
        (try simp only [sP]);refine wpAnyXI_take2 (by exact Or.inr ⟨_,rfl⟩) (by kernel_rfl) (i:=12) (v:=?_) rfl rfl (by kernel_rfl) (by decide) (by decide) (by kernel_rfl) (by kernel_rfl) (by kernel_rfl) Qn.noP (Or.inl ⟨by rfl,?_⟩) (by kernel_rfl) (ht _) ?_;rotate_left
        ·(intro w hSw;(try dsimp only at hSw);go_simp;first|done|with_reducible rfl)
        (try simp only [sP]);refine wpAnyXI_take1 (by exact Or.inr ⟨_,rfl⟩) (by kernel_rfl) (i:=13) (v:=?_) rfl rfl (by kernel_rfl) (by decide) (by decide) (by kernel_rfl) (by kernel_rfl) (by kernel_rfl) Qn.noP (Or.inl ⟨by rfl,?_⟩) (by kernel_rfl) (ht _) ?_;rotate_left
        ·(intro w hSw;(try dsimp only at hSw);go_simp;first|done|with_reducible rfl)
        (try simp only [sP]);clear ht;refine wpAnyXI_ready (rs:=[14]) (by kernel_rfl) (by simp) ?_;refine AllReadyXI.cons rfl (fun K hK=>?_) ?_;rotate_left
        ·exact AllReadyXI.nil
        have z0:=Y0.o;have z1:=Y1.o;have z2:=Y2.o;have f0:=FO.o.free;have fl:=FO.o.lt;go_simp;refine hK.out _ _ ⟨fun h=>absurd h (by decide),fun _=>trivial⟩ ?_;clear hK K z0 z1 z2 f0 fl;(try simp only [sP]);refine wpAnyXI_ready (rs:=[15]) (by kernel_rfl) (by simp) ?_;refine AllReadyXI.cons rfl (fun K hK=>?_) ?_;rotate_left
        ·exact AllReadyXI.nil
        go_simp;refine hK.out _ _ ⟨fun h=>absurd h (by decide),fun h=>absurd h (by decide)⟩ ?_;clear hK K;(try simp only [sP]);refine wpAnyXI_done (by kernel_rfl) ?_ _;refine ⟨rfl,?_⟩;(try simp only [Exit.then]);obtain ⟨w6,hw6⟩:=gN (((w5.setCell ⟨nb,tn*3,none⟩ (.bool ar.neg)).setCell ⟨nb,tn*3+1,none⟩ (.slice r1 ar.num.length r2)).setCell ⟨nb,tn*3+2,none⟩ (.slice r3 ar.den.length r4));have hnb9:W.heap.size≤nb:=by rw [HNB.o];exact Nat.le_refl _
        have hf6:FrN w6 w.heap.size nb m.states.length (fun k=>(ny.set tn ar).getD k zR):=by
         have h:=FO.o.set htn (r:=ar) AS1.o AS2.o;rw [← hw6] at h;refine h.congr (fun j hj=>?_);by_cases e:j=tn
         ·subst e;rw [if_pos rfl,List.getD_eq_getElem?_getD,List.getElem?_set_self (by rw [YL.o];exact hj)];rfl
         ·rw [if_neg e,List.getD_eq_getElem?_getD (l:=ny.set tn ar),List.getElem?_set_ne (Ne.symm e),List.getD_eq_getElem?_getD]
        have hx6:Ext W w6:=by
         rw [hw6];exact Below.setCell (Below.setCell (Below.setCell XO.o hnb9 _) hnb9 _) hnb9 _
        have hb6:Blk w6 bx #[.bool x.neg,.slice x1 x.num.length x2,.slice x3 x.den.length x4] 25:=by
         rw [hw6];exact ((BJo.o.setOther (a:=⟨nb,tn*3,none⟩) (by dsimp only;omega) _).setOther (a:=⟨nb,tn*3+1,none⟩) (by dsimp only;omega) _).setOther (a:=⟨nb,tn*3+2,none⟩) (by dsimp only;omega) _
        rw [← hw6];have F6:=kI hf6;have X6:=kI hx6;have B6:=kI hb6;clear hw6 hf6 hx6 hb6 hnb9 t1 t2 q1 q2;gi_wp2_with fail;by_cases hae:ae=0
        rotate_left
        ·refine ⟨trivial,(Wide.calls (Or.inr ⟨_,rfl⟩) (must_bad hae _)).mono ?_⟩;rintro e w9 ⟨rfl,rfl⟩;(try simp (config:={ zetaDelta:=true }) only [Exit.then,Exit.inBlock]);obtain ⟨p1,p2,p3⟩:=PANW.o ae _ hae (FAILO.o ae hae (by rw [CO.o,HST2.o,if_pos hae])) X6.o;exact ⟨rfl,p1,p2,p3⟩
        subst hae;refine ⟨trivial,(Wide.calls (Or.inr ⟨_,rfl⟩) (must_ok _)).mono ?_⟩;rintro e w7' ⟨rfl,rfl⟩;gi_wp2_with fail;go_roundw
        case rel=>
         refine ⟨k+1,ny.set tn ar,by omega,by go_num,by rw [List.length_set];exact YL.o,fun j hj=>?_,F6.o,by rw [CO.o,HST2.o,if_neg (fun h=>h rfl)],X6.o,B6.o⟩;rw [List.length_set] at hj;by_cases e:j=tn
         ·subst e;rw [List.getD_eq_getElem?_getD,List.getElem?_set_self hj];exact HAL.o
         ·rw [List.getD_eq_getElem?_getD,List.getElem?_set_ne (Ne.symm e),← List.getD_eq_getElem?_getD];exact YM.o j hj
        case measure=>simp [intOf];omega
       ·obtain rfl:k=os.length:=by omega
        have q6:¬ (os.length:Int) < (os.length:Int):=by omega
        have hco:=CO.o;rw [List.drop_of_length_le (Nat.le_refl _)] at hco;have HCO:Hid (chO x os nx=(ny,0)):=kI (by rw [hco];rfl);clear hco;gi_wp2_with fail;go_roundw
        case rel=>exact ⟨u+1,ny,by omega,by go_num,YL.o,YM.o,FY.o,by rw [CU.o,CST.o,if_neg HX0.o,← HOS.o,HCO.o,if_neg (fun h=>h rfl)],XJ.o⟩
        case measure=>simp [intOf];omega
    ·obtain rfl:u=m.states.length:=by omega
     have q6:¬ (m.states.length:Int) < (m.states.length:Int):=by omega
     have hcu:=CU.o;rw [List.drop_of_length_le (by simp)] at hcu;have HCU:Hid (chU m pj l (List.range m.states.length) (List.replicate m.states.length zR)=(nx,0)):=kI (by rw [hcu];rfl);have B1k:=kI (B1.o.ext XK.o);clear hcu;obtain ⟨qB1k,fB1k,lB1k⟩:=B1k.o.q3;gi_wp2_with fail;clear qB1k fB1k lB1k;(try simp only [Exit.then,Exit.inBlock]);obtain ⟨wf,hwf⟩:=gN (wk.setCell ⟨An+1,0,none⟩ (.slice (some ⟨nb,0,none⟩) m.states.length m.states.length));have h1:=HLT2.o;have h2:=HN188.o;have h3:=HN28.o;have hkk:Keeps 0 29 wk wf:=by rw [hwf];exact keeps_setC B1k.o 0 _
     have hkp:KpB (w8.heap.size+2) (fun i=>i=An+1) W wf:=by rw [hwf];exact KpB.set (X:=fun i=>i=An+1) (KpB.ext XK.o) (o:=An+1) (.inl rfl) _ _
     have hxf:Ext w wf:=by rw [hwf];exact Below.setCell (XW.o.trans XK.o) (by dsimp only;omega) _
     have hb1:Blk wf (An+1) #[(.slice (some ⟨nb,0,none⟩) m.states.length m.states.length)] 29:=by rw [hwf];exact B1k.o.set 0 _
     rw [← hwf];clear hwf;refine ⟨⟨hkp.zero.size,hkp.block _ (by omega) (by omega) (by omega),hkp.block _ (by omega) (by omega) (by omega)⟩,hkp.le (by omega),hxf,Nat.le_trans (by omega) hkp.zero.size,(B0.o.ext XK.o).keeps hkk (by decide),(B2.o.ext XK.o).keeps hkk (by decide),(hkp.block N1 (by omega) (by omega) (by omega)).trans HDW.o,nb,nx,hb1,NL.o,NM.o,FN.o.keeps hkk (by decide) (by decide),by omega,?_,?_⟩
     ·rw [List.length_append,List.length_singleton];exact NEXT.o nx HCU.o
     ·rw [List.length_append,List.length_singleton];exact HLT.o
end Go.Proofs.YtfflknbeidihoaaGreat
