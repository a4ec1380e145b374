/- Walks and lemmas. -/
import Derived.Test.YtnnjbaijcaiohaaGreatSzA4
import Derived.Test.YtnnjbaijcaiohaaGreatSzA5
import Derived.Test.YtnnjbaijcaiohaaGreatSzA12
import Derived.Test.YtnnjbaijcaiohaaGreatSzA24
import Derived.ChangeMaps5
set_option linter.unusedVariables false
set_option linter.unusedSimpArgs false
set_option maxRecDepth 100000
set_option maxHeartbeats 16000000
namespace Go.Proofs.YtnnjbaijcaiohaaGreat
open Go.RowKit
variable {a a0:Act} {listed:Array Bool} {T:Array Bool→World→Prop} {ops:Array Oper} {ps:Array Tmp} {args tmps:Array Value} {assign body:Code} {Q:Exit→Act→World→Prop} {F:Fence} {u:FrameMode} {f:FuncId} {c s:Int} {plan:List (List Int)} {ds:List Deferred} {l l1 l2 la lb lq:List Int} {rest:List Oper} {cs h vs xs:List Value} {An B C H L N b b0 bx c1 c2 cap d1 d2 fuel g i id j jn k m1 m2 n n1 n2 nf nn off xn y:Nat} {X:Nat→Prop} {oi om:Oper} {a1 a2 a3 xa:Option Addr} {P:Program} {R p p0 p1 p10 p11 p12 p13 p2 p3 p4 p5 p6 p7 p8 p9:Prop} {md:Region.Mode} {α:Type} {e t t1 t2 t3:TypeId} {lv v vb vr z:Value} {A W W' W0 w w' w0 w2 w3 w4 wB:World} {S S1 S2:World→Prop}
section
open Go.ChangeShapes Go.WideShapes Go.ChangeAt Go.RowKit
theorem se (os:Os) (started:os.Started) (H:Type) (enc:TypeId × Value→H) :
  ReturnsInHanded {} Tryz.checked os 3 .any (Rows.iterateMatchesSpec.pre6 enc Tryz.prog Tryz.f3 Rows.iterateMatchesRow.domain false) (Rows.iterateMatchesSpec.post enc Tryz.prog Tryz.f3 false true false false):=by
 refine returnsInHanded_of_change_sized (C:=Tryz.checked) Lg started ak Tryz.func3
  (ChangeSpec.witness6 (enc:=enc) (C:=Tryz.checked) false ⟨#[],#[.agg #[.bool false,.slice none 0 0,.slice none 0 0,.slice none 0 0],.slice none 0 0,.slice none 0 0,.int .i64 0,.int .i64 0],[]⟩ 8 ak ak ak ak) ?_
 intro W base args ds gs before hval0 hW hcnd hsz _;have hval:∀ (j:Nat) t v,Tryz.f3.params[j]?=some t→args[j]?=some v→Value.okWide Tryz.prog W .any base t v:=hval0;have hW':=hW;obtain ⟨p,q,hA0,hV,rfl,hfz,hnd⟩:=hW;have hA:DataW.TrodAll enc Tryz.prog W 0 (fun _=>true) true Tryz.f3.params.toList args.toList ds p:=hA0;rw [Tryz.params3] at hA hval;obtain ⟨v0,v1,v2,v3,v4,d0,d1,d2,d3,d4,p0,p1,p2,p3,p4,rfl,rfl,rfl,h0,h1,h2,h3,h4⟩:=tP hA;obtain ⟨rfl,rfl⟩:=trodVars_none hV;have XT:∀ x ∈ p0,x.block < W.heap.size:=by obtain ⟨m,hm⟩:=h0;exact DataW.trod_lt m _ _ _ hm
 have XU:∀ x ∈ p1,x.block < W.heap.size:=by obtain ⟨m,hm⟩:=h1;exact DataW.trod_lt m _ _ _ hm
 have lt2:∀ x ∈ p2,x.block < W.heap.size:=by obtain ⟨m,hm⟩:=h2;exact DataW.trod_lt m _ _ _ hm
 have lt3:∀ x ∈ p3,x.block < W.heap.size:=by obtain ⟨m,hm⟩:=h3;exact DataW.trod_lt m _ _ _ hm
 have lt4:∀ x ∈ p4,x.block < W.heap.size:=by obtain ⟨m,hm⟩:=h4;exact DataW.trod_lt m _ _ _ hm
 obtain ⟨m0,hr0,hl0⟩:=Ex (hval 0 28 v0 rfl rfl) h0;obtain ⟨za0,zb0⟩:=RW hr0 h0 (Sz.L8 hsz (j:=0) rfl rfl);obtain ⟨l1,hr1,hl1⟩:=BU (hval 1 29 v1 rfl rfl) h1;obtain ⟨g2,hr2⟩:=Cf (hval 2 30 v2 rfl rfl) h2;obtain ⟨n3,rfl,hn3⟩:=open_int Tryz.underlying3 (hval 3 3 v3 rfl rfl) h3;obtain ⟨n4,rfl,hn4⟩:=open_int Tryz.underlying3 (hval 4 3 v4 rfl rfl) h4;clear hA0 hval0;refine (CM v0 v1 v2 m0 l1 g2 n3 n4 W hr0 hr1 hr2 hl0 hl1 za0 zb0).mono fun e W' ⟨he,bel⟩=>?_;subst he;exact ⟨_,rfl,_,_,_,[],_,[],hW',trodAll_mk1 (shut_bool Tryz.underlying4 _),vX (Below.trod lV ak (of_decide_eq_true ak) h0 bel XT) (Below.trod lV ak (of_decide_eq_true ak) h1 bel XU) (Below.trod lV ak (of_decide_eq_true ak) h2 bel lt2) (Below.trod lV ak (of_decide_eq_true ak) h3 bel lt3) (Below.trod lV ak (of_decide_eq_true ak) h4 bel lt4),rfl,bel.frame _,fun h=>by cases h⟩
theorem mat22L_holds:Rows.IterateMatchesSaid:=
 OpenClaim.holds_of_wide 3 Tryz.f3 rfl rfl rfl rfl rfl rfl rfl ⟨rfl,rfl,rfl,rfl,rfl⟩ rfl rfl rfl rfl rfl ak Tryz.func3 ak
  (of_decide_eq_true ak) (by unfold Func.isWrapper;first|(rw [if_pos (by decide +kernel)];kernel_rfl)|(rw [if_neg (by decide +kernel)];exact ⟨rfl,rfl⟩))
  (fun os started H enc _=>se os started H enc)
end
end Go.Proofs.YtnnjbaijcaiohaaGreat
