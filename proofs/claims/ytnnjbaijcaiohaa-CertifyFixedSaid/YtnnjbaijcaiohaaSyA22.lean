/- Walks and lemmas. -/
import Derived.Test.YtnnjbaijcaiohaaSyA13
import Derived.Test.YtnnjbaijcaiohaaSyA16
import Derived.Defers
import Derived.Test.YtnnjbaijcaiohaaSyA21
import Derived.Test.YtnnjbaijcaiohaaSyA17
set_option linter.unusedVariables false
set_option linter.unusedSimpArgs false
set_option maxRecDepth 100000
set_option maxHeartbeats 16000000
namespace Go.Proofs.Ytnnjbaijcaiohaa
open Go.RowKit
theorem cevalDefW_ret {nn:Nat} (be b1:Nat) (w:World) (hbe:Blk w be #[.int .i64 0] 33) :
  CallsDIn Fence.wide nn Try.prog 27 #[.pointer (some ⟨be,0,none⟩),.pointer (some ⟨b1,0,none⟩)] .returning w fun e u' w'=>e=.returned (.tuple #[])∧u'=.returning∧w'=(w.setCell ⟨be,0,none⟩ (.int .i64 0)).drew:=by
 have he:=(hbe.cell 0);have hz:=hbe.free 0;simp only [List.getElem?_toArray,List.getElem?_cons_zero] at he;refine callsDW_of_wpS Try.func27 rfl fun c₀ cs hu=>?_;apply wpS_seq;refine wpS_region_rec (by kernel_rfl) (by kernel_rfl) (by kernel_rfl) (by kernel_rfl) (by kernel_rfl) (by kernel_rfl) rfl ?_ ?_;all_goals
  simp [wpOpsS,go_sem,recoverD,hu,Try.ntmps27,Exit.thenS,he,hz];refine (ccaught_nil 0 _).mono ?_;rintro e w1 ⟨rfl,rfl⟩;simp [wpOpsS,go_sem,recoverD,hu,Try.ntmps27,Exit.thenS,he,hz];refine wpS_of_wp ?_;go_wp2
  simp [bodyPostS,results,Try.results27,go_sem] <;> (cases c₀;simp_all)
theorem cevalDefW_err {nn:Nat} (be b1:Nat) (c e0:Int) (hc:c≠0) (older:List PanicEntry) (w:World) (xb1:Value) (tb1:TypeId) (hbe:Blk w be #[.int .i64 e0] 33) (hb1:Blk w b1 #[xb1] tb1) (nb1:b1≠be) :
  CallsDIn Fence.wide nn Try.prog 27 #[.pointer (some ⟨be,0,none⟩),.pointer (some ⟨b1,0,none⟩)] (.panicking (errP c :: older)) w fun e u' w'=>e=.returned (.tuple #[])∧u'=.panicking ({ errP c with recovered:=true } :: older)∧w'=((w.setCell ⟨be,0,none⟩ (.int .i64 c)).setCell ⟨b1,0,none⟩ (.slice none 0 0)).drew:=by
 have q1:(c != 0)=true:=by simpa using hc
 unfold errP;have he:=(hbe.cell 0);have hz:=hbe.free 0;simp only [List.getElem?_toArray,List.getElem?_cons_zero] at he;have kb1:=hb1.cell 0;have zb1:=hb1.free 0;simp only [List.getElem?_toArray,List.getElem?_cons_zero] at kb1;refine callsDW_of_wpS Try.func27 rfl fun c₀ cs hu=>?_;apply wpS_seq;refine wpS_region_rec (by kernel_rfl) (by kernel_rfl) (by kernel_rfl) (by kernel_rfl) (by kernel_rfl) (by kernel_rfl) rfl ?_ ?_;all_goals
  simp [wpOpsS,go_sem,recoverD,hu,Try.ntmps27,Exit.thenS,he,hz];refine (ccaught_err c e0 _).mono ?_;rintro e w1 ⟨rfl,rfl⟩;simp [wpOpsS,go_sem,recoverD,hu,Try.ntmps27,Exit.thenS,he,hz];refine wpS_of_wp ?_;go_wp2
  simp [bodyPostS,results,Try.results27,go_sem] <;> (cases c₀;simp_all)
theorem cevalDefW_retE {nn:Nat} (be b1:Nat) (c:Int) (hc:c≠0) (w:World) (xb1:Value) (tb1:TypeId) (hbe:Blk w be #[.int .i64 c] 33) (hb1:Blk w b1 #[xb1] tb1) (nb1:b1≠be) :
  CallsDIn Fence.wide nn Try.prog 27 #[.pointer (some ⟨be,0,none⟩),.pointer (some ⟨b1,0,none⟩)] .returning w fun e u' w'=>e=.returned (.tuple #[])∧u'=.returning∧w'=((w.setCell ⟨be,0,none⟩ (.int .i64 c)).setCell ⟨b1,0,none⟩ (.slice none 0 0)).drew:=by
 have q1:(c != 0)=true:=by simpa using hc
 have he:=(hbe.cell 0);have hz:=hbe.free 0;simp only [List.getElem?_toArray,List.getElem?_cons_zero] at he;have kb1:=hb1.cell 0;have zb1:=hb1.free 0;simp only [List.getElem?_toArray,List.getElem?_cons_zero] at kb1;refine callsDW_of_wpS Try.func27 rfl fun c₀ cs hu=>?_;apply wpS_seq;refine wpS_region_rec (by kernel_rfl) (by kernel_rfl) (by kernel_rfl) (by kernel_rfl) (by kernel_rfl) (by kernel_rfl) rfl ?_ ?_;all_goals
  simp [wpOpsS,go_sem,recoverD,hu,Try.ntmps27,Exit.thenS,he,hz];refine (ccaught_nil c _).mono ?_;rintro e w1 ⟨rfl,rfl⟩;simp [wpOpsS,go_sem,recoverD,hu,Try.ntmps27,Exit.thenS,he,hz];refine wpS_of_wp ?_;go_wp2
  simp [bodyPostS,results,Try.results27,go_sem] <;> (cases c₀;simp_all)
theorem cevalDef_retE (be b1:Nat) (c:Int) (hc:c≠0) (w:World) (xb1:Value) (tb1:TypeId) (hbe:Blk w be #[.int .i64 c] 33) (hb1:Blk w b1 #[xb1] tb1) (nb1:b1≠be) :
  CallsD Try.prog 27 #[.pointer (some ⟨be,0,none⟩),.pointer (some ⟨b1,0,none⟩)] .returning w fun e u' w'=>e=.returned (.tuple #[])∧u'=.returning∧w'=((w.setCell ⟨be,0,none⟩ (.int .i64 c)).setCell ⟨b1,0,none⟩ (.slice none 0 0)).drew:=callsD_of_W (cevalDefW_retE (nn:=0) be b1 c hc w xb1 tb1 hbe hb1 nb1)
theorem cevalDef_ret (be b1:Nat) (w:World) (hbe:Blk w be #[.int .i64 0] 33) :
  CallsD Try.prog 27 #[.pointer (some ⟨be,0,none⟩),.pointer (some ⟨b1,0,none⟩)] .returning w fun e u' w'=>e=.returned (.tuple #[])∧u'=.returning∧w'=(w.setCell ⟨be,0,none⟩ (.int .i64 0)).drew:=callsD_of_W (cevalDefW_ret (nn:=0) be b1 w hbe)
theorem cevalDef_err (be b1:Nat) (c e0:Int) (hc:c≠0) (older:List PanicEntry) (w:World) (xb1:Value) (tb1:TypeId) (hbe:Blk w be #[.int .i64 e0] 33) (hb1:Blk w b1 #[xb1] tb1) (nb1:b1≠be) :
  CallsD Try.prog 27 #[.pointer (some ⟨be,0,none⟩),.pointer (some ⟨b1,0,none⟩)] (.panicking (errP c :: older)) w fun e u' w'=>e=.returned (.tuple #[])∧u'=.panicking ({ errP c with recovered:=true } :: older)∧w'=((w.setCell ⟨be,0,none⟩ (.int .i64 c)).setCell ⟨b1,0,none⟩ (.slice none 0 0)).drew:=callsD_of_W (cevalDefW_err (nn:=0) be b1 c e0 hc older w xb1 tb1 hbe hb1 nb1)
theorem coptimDefW_ret {nn:Nat} (be b1 b2:Nat) (w:World) (hbe:Blk w be #[.int .i64 0] 33) :
  CallsDIn Fence.wide nn Try.prog 18 #[.pointer (some ⟨be,0,none⟩),.pointer (some ⟨b1,0,none⟩),.pointer (some ⟨b2,0,none⟩)] .returning w fun e u' w'=>e=.returned (.tuple #[])∧u'=.returning∧w'=(w.setCell ⟨be,0,none⟩ (.int .i64 0)).drew:=by
 have he:=(hbe.cell 0);have hz:=hbe.free 0;simp only [List.getElem?_toArray,List.getElem?_cons_zero] at he;refine callsDW_of_wpS Try.func18 rfl fun c₀ cs hu=>?_;apply wpS_seq;refine wpS_region_rec (by kernel_rfl) (by kernel_rfl) (by kernel_rfl) (by kernel_rfl) (by kernel_rfl) (by kernel_rfl) rfl ?_ ?_;all_goals
  simp [wpOpsS,go_sem,recoverD,hu,Try.ntmps18,Exit.thenS,he,hz];refine (ccaught_nil 0 _).mono ?_;rintro e w1 ⟨rfl,rfl⟩;simp [wpOpsS,go_sem,recoverD,hu,Try.ntmps18,Exit.thenS,he,hz];refine wpS_of_wp ?_;go_wp2
  simp [bodyPostS,results,Try.results18,go_sem] <;> (cases c₀;simp_all)
theorem coptimDefW_err {nn:Nat} (be b1 b2:Nat) (c e0:Int) (hc:c≠0) (older:List PanicEntry) (w:World) (xb1 xb2:Value) (tb1 tb2:TypeId) (hbe:Blk w be #[.int .i64 e0] 33) (hb1:Blk w b1 #[xb1] tb1) (nb1:b1≠be) (hb2:Blk w b2 #[xb2] tb2) (nb2:b2≠be) (n12:b2≠b1) :
  CallsDIn Fence.wide nn Try.prog 18 #[.pointer (some ⟨be,0,none⟩),.pointer (some ⟨b1,0,none⟩),.pointer (some ⟨b2,0,none⟩)] (.panicking (errP c :: older)) w fun e u' w'=>e=.returned (.tuple #[])∧u'=.panicking ({ errP c with recovered:=true } :: older)∧w'=(((w.setCell ⟨be,0,none⟩ (.int .i64 c)).setCell ⟨b1,0,none⟩ (.slice none 0 0)).setCell ⟨b2,0,none⟩ (.slice none 0 0)).drew:=by
 have q1:(c != 0)=true:=by simpa using hc
 unfold errP;have he:=(hbe.cell 0);have hz:=hbe.free 0;simp only [List.getElem?_toArray,List.getElem?_cons_zero] at he;have kb1:=hb1.cell 0;have zb1:=hb1.free 0;have kb2:=hb2.cell 0;have zb2:=hb2.free 0;simp only [List.getElem?_toArray,List.getElem?_cons_zero] at kb1 kb2;refine callsDW_of_wpS Try.func18 rfl fun c₀ cs hu=>?_;apply wpS_seq;refine wpS_region_rec (by kernel_rfl) (by kernel_rfl) (by kernel_rfl) (by kernel_rfl) (by kernel_rfl) (by kernel_rfl) rfl ?_ ?_;all_goals
  simp [wpOpsS,go_sem,recoverD,hu,Try.ntmps18,Exit.thenS,he,hz];refine (ccaught_err c e0 _).mono ?_;rintro e w1 ⟨rfl,rfl⟩;simp [wpOpsS,go_sem,recoverD,hu,Try.ntmps18,Exit.thenS,he,hz];refine wpS_of_wp ?_;go_wp2
  simp [bodyPostS,results,Try.results18,go_sem] <;> (cases c₀;simp_all)
theorem coptimDefW_retE {nn:Nat} (be b1 b2:Nat) (c:Int) (hc:c≠0) (w:World) (xb1 xb2:Value) (tb1 tb2:TypeId) (hbe:Blk w be #[.int .i64 c] 33) (hb1:Blk w b1 #[xb1] tb1) (nb1:b1≠be) (hb2:Blk w b2 #[xb2] tb2) (nb2:b2≠be) (n12:b2≠b1) :
  CallsDIn Fence.wide nn Try.prog 18 #[.pointer (some ⟨be,0,none⟩),.pointer (some ⟨b1,0,none⟩),.pointer (some ⟨b2,0,none⟩)] .returning w fun e u' w'=>e=.returned (.tuple #[])∧u'=.returning∧w'=(((w.setCell ⟨be,0,none⟩ (.int .i64 c)).setCell ⟨b1,0,none⟩ (.slice none 0 0)).setCell ⟨b2,0,none⟩ (.slice none 0 0)).drew:=by
 have q1:(c != 0)=true:=by simpa using hc
 have he:=(hbe.cell 0);have hz:=hbe.free 0;simp only [List.getElem?_toArray,List.getElem?_cons_zero] at he;have kb1:=hb1.cell 0;have zb1:=hb1.free 0;have kb2:=hb2.cell 0;have zb2:=hb2.free 0;simp only [List.getElem?_toArray,List.getElem?_cons_zero] at kb1 kb2;refine callsDW_of_wpS Try.func18 rfl fun c₀ cs hu=>?_;apply wpS_seq;refine wpS_region_rec (by kernel_rfl) (by kernel_rfl) (by kernel_rfl) (by kernel_rfl) (by kernel_rfl) (by kernel_rfl) rfl ?_ ?_;all_goals
  simp [wpOpsS,go_sem,recoverD,hu,Try.ntmps18,Exit.thenS,he,hz];refine (ccaught_nil c _).mono ?_;rintro e w1 ⟨rfl,rfl⟩;simp [wpOpsS,go_sem,recoverD,hu,Try.ntmps18,Exit.thenS,he,hz];refine wpS_of_wp ?_;go_wp2
  simp [bodyPostS,results,Try.results18,go_sem] <;> (cases c₀;simp_all)
theorem coptimDef_retE (be b1 b2:Nat) (c:Int) (hc:c≠0) (w:World) (xb1 xb2:Value) (tb1 tb2:TypeId) (hbe:Blk w be #[.int .i64 c] 33) (hb1:Blk w b1 #[xb1] tb1) (nb1:b1≠be) (hb2:Blk w b2 #[xb2] tb2) (nb2:b2≠be) (n12:b2≠b1) :
  CallsD Try.prog 18 #[.pointer (some ⟨be,0,none⟩),.pointer (some ⟨b1,0,none⟩),.pointer (some ⟨b2,0,none⟩)] .returning w fun e u' w'=>e=.returned (.tuple #[])∧u'=.returning∧w'=(((w.setCell ⟨be,0,none⟩ (.int .i64 c)).setCell ⟨b1,0,none⟩ (.slice none 0 0)).setCell ⟨b2,0,none⟩ (.slice none 0 0)).drew:=callsD_of_W (coptimDefW_retE (nn:=0) be b1 b2 c hc w xb1 xb2 tb1 tb2 hbe hb1 nb1 hb2 nb2 n12)
theorem coptimDef_ret (be b1 b2:Nat) (w:World) (hbe:Blk w be #[.int .i64 0] 33) :
  CallsD Try.prog 18 #[.pointer (some ⟨be,0,none⟩),.pointer (some ⟨b1,0,none⟩),.pointer (some ⟨b2,0,none⟩)] .returning w fun e u' w'=>e=.returned (.tuple #[])∧u'=.returning∧w'=(w.setCell ⟨be,0,none⟩ (.int .i64 0)).drew:=callsD_of_W (coptimDefW_ret (nn:=0) be b1 b2 w hbe)
theorem coptimDef_err (be b1 b2:Nat) (c e0:Int) (hc:c≠0) (older:List PanicEntry) (w:World) (xb1 xb2:Value) (tb1 tb2:TypeId) (hbe:Blk w be #[.int .i64 e0] 33) (hb1:Blk w b1 #[xb1] tb1) (nb1:b1≠be) (hb2:Blk w b2 #[xb2] tb2) (nb2:b2≠be) (n12:b2≠b1) :
  CallsD Try.prog 18 #[.pointer (some ⟨be,0,none⟩),.pointer (some ⟨b1,0,none⟩),.pointer (some ⟨b2,0,none⟩)] (.panicking (errP c :: older)) w fun e u' w'=>e=.returned (.tuple #[])∧u'=.panicking ({ errP c with recovered:=true } :: older)∧w'=(((w.setCell ⟨be,0,none⟩ (.int .i64 c)).setCell ⟨b1,0,none⟩ (.slice none 0 0)).setCell ⟨b2,0,none⟩ (.slice none 0 0)).drew:=callsD_of_W (coptimDefW_err (nn:=0) be b1 b2 c e0 hc older w xb1 xb2 tb1 tb2 hbe hb1 nb1 hb2 nb2 n12)
theorem eval_1 {m:MD} {p:List Int} {c:Int} (h:cwE m=c) (hc:c≠0):evalS m p=([],c):=by unfold evalS;rw [h,if_pos hc]
theorem eval_2 {m:MD} {p:List Int} (h:cwE m=0) (h2:8 < m.states.length):evalS m p=([],4):=by unfold evalS;rw [if_neg (by simpa using h),if_pos h2]
theorem eval_3 {m:MD} {p:List Int} {c:Int} (h:cwE m=0) (h2:¬ 8 < m.states.length) (h3:cpE m p=c) (hc:c≠0):evalS m p=([],c):=by unfold evalS;rw [if_neg (by simpa using h),if_neg h2,h3,if_pos hc]
theorem eval_4 {m:MD} {p:List Int} (h:cwE m=0) (h2:¬ 8 < m.states.length) (h3:cpE m p=0):evalS m p=solveS m p:=by unfold evalS;rw [if_neg (by simpa using h),if_neg h2,if_neg (by simpa using h3)]
theorem cw_ok {m:MD} (h:cwE m=0):mdE m=0∧qv m.disc≠1:=by
 unfold cwE at h;by_cases h1:mdE m=0
 ·rw [if_neg (fun k=>k h1)] at h;refine ⟨h1,fun e=>?_⟩;rw [if_pos e] at h;cases h
 ·rw [if_pos h1] at h;exact absurd h h1
theorem solve_nil {m:MD} {p:List Int} {c:Int} (h:(solveS m p).2=c) (hc:c≠0):solveS m p=([],c):=by
 unfold solveS at h ⊢;by_cases h1:frstE (fun s=>(eqnS m p s).2) p.length=0
 ·rw [if_neg (fun k=>k h1)] at h ⊢;by_cases h2:(redS p.length p.length 0 (sysS m p)).2=0
  ·rw [if_neg (fun k=>k h2)] at h;exact absurd h.symm hc
  ·rw [if_pos h2] at h ⊢;rw [← h]
 ·rw [if_pos h1] at h ⊢;rw [← h]
theorem ceval_any (mv pv:Value) (m:MD) (p:List Int) (w:World) (hm:RdM w mv m) (hp:RdI .i64 w pv p) (hlm:LimM m) :
  Calls Try.prog 8 #[mv,pv] w fun e w'=>ResN w w' e (evalS m p)∧Ext w w':=by
 have HCK:=kI (fun W mv (h:RdM W mv m)=>ccheck_any mv m W h hlm);have HCP:=kI (fun W mv pv (h:RdM W mv m) (k:RdI .i64 W pv p)=>ccheckP_any mv pv m p W h k);have HSO:=kI (fun W mv pv (h:RdM W mv m) (k:RdI .i64 W pv p) (h1:mdE m=0) (h2:cpE m p=0)=>csolve_any mv pv m p W h k hlm h1 h2);have HM:=kI hm;have HP:=kI hp;obtain ⟨m1,n1,m2,n2,m3,n3,rfl,-,-⟩:=hm;obtain ⟨pa,pc,rfl,-,-,-⟩:=hp.get;clear hp hlm;have bb0:=(((Blk.new w #[.bool m.disc.neg,.slice m1 m.disc.num.length n1,.slice m2 m.disc.den.length n2,.slice m3 m.states.length n3] 28).alloc (.cells #[.slice none 0 0] 32)).alloc (.cells #[.int .i64 0] 33));have bb1:=((Blk.new (w.alloc (.cells #[.bool m.disc.neg,.slice m1 m.disc.num.length n1,.slice m2 m.disc.den.length n2,.slice m3 m.states.length n3] 28)) #[.slice none 0 0] 32).alloc (.cells #[.int .i64 0] 33));have bb2:=(Blk.new ((w.alloc (.cells #[.bool m.disc.neg,.slice m1 m.disc.num.length n1,.slice m2 m.disc.den.length n2,.slice m3 m.states.length n3] 28)).alloc (.cells #[.slice none 0 0] 32)) #[.int .i64 0] 33);rw [World.size_alloc] at bb1;rw [World.size_alloc,World.size_alloc] at bb2;have x0:Ext w (((w.alloc (.cells #[.bool m.disc.neg,.slice m1 m.disc.num.length n1,.slice m2 m.disc.den.length n2,.slice m3 m.states.length n3] 28)).alloc (.cells #[.slice none 0 0] 32)).alloc (.cells #[.int .i64 0] 33)):=((((Ext.refl w).alloc _).alloc _).alloc _);have A0:=kI bb0;have A1:=kI bb1;have A2:=kI bb2;have X:=kI x0;clear x0 bb0 bb1 bb2;replace HM:=kI (HM.o.ext X.o);replace HP:=kI (HP.o.ext X.o);have hmf:∀ (fn:Fn) (first cap:Array Value) (w:World),(Instr.makeFunc fn first cap).run Try.prog w=.ok (.func fn first cap) w:=fun _ _ _ _=>rfl;go_enter_defers Try.func8,Try.ntmps8
 obtain ⟨qA0,fA0,lA0⟩:=A0.o.q3;obtain ⟨qA1,fA1,lA1⟩:=A1.o.q3;obtain ⟨qA2,fA2,lA2⟩:=A2.o.q3;go_wp2_with fail;clear hmf;refine (HCK.o _ _ HM.o).mono ?_;rintro e w1 ⟨rfl,hx⟩;clear qA0 fA0 lA0 qA1 fA1 lA1 qA2 fA2 lA2;replace HM:=kI (HM.o.ext hx);replace HP:=kI (HP.o.ext hx);replace A0:=kI (A0.o.ext hx);replace A1:=kI (A1.o.ext hx);replace A2:=kI (A2.o.ext hx);replace X:=kI (X.o.trans hx);clear hx HCK;obtain ⟨c1,hc1⟩:=gN (cwE m);rw [← hc1];by_cases h1:c1=0
 rotate_left
 ·have E:=kI (eval_1 (p:=p) hc1.symm h1);have q1:(c1 != 0)=true:=by simpa using h1
  have H1:=kI h1;clear hc1 h1;obtain ⟨qA1,fA1,lA1⟩:=A1.o.q3;obtain ⟨qA2,fA2,lA2⟩:=A2.o.q3;go_wp2_with fail;clear qA1 fA1 lA1 qA2 fA2 lA2;obtain ⟨wr,hwr⟩:=gN (((w1.setCell ⟨w.heap.size+1,0,none⟩ (.slice none 0 0)).setCell ⟨w.heap.size+1+1,0,none⟩ (.int .i64 c1)));have ha1:Blk wr (w.heap.size+1) #[.slice none 0 0] 32:=by
   have:=(A1.o.set 0 (.slice none 0 0)).setOther (a:=⟨w.heap.size+1+1,0,none⟩) (by dsimp only;omega) (.int .i64 c1);rw [hwr];simpa using this
  have ha2:Blk wr (w.heap.size+1+1) #[.int .i64 c1] 33:=by
   have:=(A2.o.setOther (a:=⟨w.heap.size+1,0,none⟩) (by dsimp only;omega) (.slice none 0 0)).set 0 (.int .i64 c1);rw [hwr];simpa using this
  have hxr:Ext w wr:=by rw [hwr];exact (X.o.set (p:=⟨w.heap.size+1,0,none⟩) (by dsimp only;omega) _).set (p:=⟨w.heap.size+1+1,0,none⟩) (by dsimp only;omega) _
  rw [← hwr];clear hwr;replace A1:=kI ha1;replace A2:=kI ha2;replace X:=kI hxr;clear ha1 ha2 hxr;refine leaves_cons (f:=27) (args:=#[.pointer (some ⟨w.heap.size+1+1,0,none⟩),.pointer (some ⟨w.heap.size+1,0,none⟩)]) (by simp) (by simp [go_sem]) ?_;refine (cevalDef_retE (w.heap.size+1+1) (w.heap.size+1) c1 H1.o _ _ _ A2.o A1.o (by omega)).mono ?_;rintro e u' w'' ⟨rfl,rfl,rfl⟩;obtain ⟨wf,hwf⟩:=gN (((wr.setCell ⟨w.heap.size+1+1,0,none⟩ (.int .i64 c1)).setCell ⟨w.heap.size+1,0,none⟩ (.slice none 0 0)));have hfe:Blk wf (w.heap.size+1+1) #[.int .i64 c1] 33:=by
   have:=((A2.o).set 0 (.int .i64 c1)).setOther (a:=⟨w.heap.size+1,0,none⟩) (by dsimp only;omega) (.slice none 0 0);rw [hwf];simpa using this
  have hf0:Blk wf (w.heap.size+1) #[.slice none 0 0] 32:=by
   have:=((A1.o).setOther (a:=⟨w.heap.size+1+1,0,none⟩) (by dsimp only;omega) (.int .i64 c1)).set 0 (.slice none 0 0);rw [hwf];simpa using this
  have hxf:Ext w wf:=by rw [hwf];exact ((X.o).set (p:=⟨w.heap.size+1+1,0,none⟩) (by (try dsimp only);omega) _).set (p:=⟨w.heap.size+1,0,none⟩) (by (try dsimp only);omega) _
  rw [← hwf];clear hwf;have HFE:=kI hfe;have HF0:=kI hf0;have HXF:=kI hxf;have ke:=hfe.cell 0;have k0:=hf0.cell 0;simp only [List.getElem?_toArray,List.getElem?_cons_zero] at ke k0;clear hfe hxf hf0;simp [Leaves,settle,results,Try.results8,go_sem,errP,ke,k0];exact ⟨ResN.mk (OwN.nil _ _) E.o,HXF.o.drew⟩
 subst h1;have H1:=kI hc1.symm;clear hc1;by_cases h2:8 < m.states.length
 ·have E:=kI (eval_2 (p:=p) H1.o h2);have q2:(8:Int) < (m.states.length:Int):=by omega
  obtain ⟨qA0,fA0,lA0⟩:=A0.o.q3;obtain ⟨qA1,fA1,lA1⟩:=A1.o.q3;obtain ⟨qA2,fA2,lA2⟩:=A2.o.q3;go_wp2_with fail;clear qA0 fA0 lA0 qA1 fA1 lA1 qA2 fA2 lA2;obtain ⟨wr,hwr⟩:=gN (((w1.setCell ⟨w.heap.size+1,0,none⟩ (.slice none 0 0)).setCell ⟨w.heap.size+1+1,0,none⟩ (.int .i64 4)));have ha1:Blk wr (w.heap.size+1) #[.slice none 0 0] 32:=by
   have:=(A1.o.set 0 (.slice none 0 0)).setOther (a:=⟨w.heap.size+1+1,0,none⟩) (by dsimp only;omega) (.int .i64 4);rw [hwr];simpa using this
  have ha2:Blk wr (w.heap.size+1+1) #[.int .i64 4] 33:=by
   have:=(A2.o.setOther (a:=⟨w.heap.size+1,0,none⟩) (by dsimp only;omega) (.slice none 0 0)).set 0 (.int .i64 4);rw [hwr];simpa using this
  have hxr:Ext w wr:=by rw [hwr];exact (X.o.set (p:=⟨w.heap.size+1,0,none⟩) (by dsimp only;omega) _).set (p:=⟨w.heap.size+1+1,0,none⟩) (by dsimp only;omega) _
  rw [← hwr];clear hwr;replace A1:=kI ha1;replace A2:=kI ha2;replace X:=kI hxr;clear ha1 ha2 hxr;refine leaves_cons (f:=27) (args:=#[.pointer (some ⟨w.heap.size+1+1,0,none⟩),.pointer (some ⟨w.heap.size+1,0,none⟩)]) (by simp) (by simp [go_sem]) ?_;refine (cevalDef_retE (w.heap.size+1+1) (w.heap.size+1) 4 (by decide) _ _ _ A2.o A1.o (by omega)).mono ?_;rintro e u' w'' ⟨rfl,rfl,rfl⟩;obtain ⟨wf,hwf⟩:=gN (((wr.setCell ⟨w.heap.size+1+1,0,none⟩ (.int .i64 4)).setCell ⟨w.heap.size+1,0,none⟩ (.slice none 0 0)));have hfe:Blk wf (w.heap.size+1+1) #[.int .i64 4] 33:=by
   have:=((A2.o).set 0 (.int .i64 4)).setOther (a:=⟨w.heap.size+1,0,none⟩) (by dsimp only;omega) (.slice none 0 0);rw [hwf];simpa using this
  have hf0:Blk wf (w.heap.size+1) #[.slice none 0 0] 32:=by
   have:=((A1.o).setOther (a:=⟨w.heap.size+1+1,0,none⟩) (by dsimp only;omega) (.int .i64 4)).set 0 (.slice none 0 0);rw [hwf];simpa using this
  have hxf:Ext w wf:=by rw [hwf];exact ((X.o).set (p:=⟨w.heap.size+1+1,0,none⟩) (by (try dsimp only);omega) _).set (p:=⟨w.heap.size+1,0,none⟩) (by (try dsimp only);omega) _
  rw [← hwf];clear hwf;have HFE:=kI hfe;have HF0:=kI hf0;have HXF:=kI hxf;have ke:=hfe.cell 0;have k0:=hf0.cell 0;simp only [List.getElem?_toArray,List.getElem?_cons_zero] at ke k0;clear hfe hxf hf0;simp [Leaves,settle,results,Try.results8,go_sem,errP,ke,k0];exact ⟨ResN.mk (OwN.nil _ _) E.o,HXF.o.drew⟩
 have H2:=kI h2;have q2:¬ (8:Int) < (m.states.length:Int):=by omega
 clear h2;obtain ⟨qA0,fA0,lA0⟩:=A0.o.q3;obtain ⟨qA1,fA1,lA1⟩:=A1.o.q3;obtain ⟨qA2,fA2,lA2⟩:=A2.o.q3;go_wp2_with fail;refine (HCP.o _ _ _ HM.o HP.o).mono ?_;rintro e w2 ⟨rfl,hx⟩;clear qA0 fA0 lA0 qA1 fA1 lA1 qA2 fA2 lA2;replace HM:=kI (HM.o.ext hx);replace HP:=kI (HP.o.ext hx);replace A0:=kI (A0.o.ext hx);replace A1:=kI (A1.o.ext hx);replace A2:=kI (A2.o.ext hx);replace X:=kI (X.o.trans hx);clear hx HCP q2;obtain ⟨c2,hc2⟩:=gN (cpE m p);rw [← hc2];by_cases h3:c2=0
 rotate_left
 ·have E:=kI (eval_3 H1.o H2.o hc2.symm h3);have q1:(c2 != 0)=true:=by simpa using h3
  have H3:=kI h3;clear hc2 h3;obtain ⟨qA1,fA1,lA1⟩:=A1.o.q3;obtain ⟨qA2,fA2,lA2⟩:=A2.o.q3;go_wp2_with fail;clear qA1 fA1 lA1 qA2 fA2 lA2;obtain ⟨wr,hwr⟩:=gN (((w2.setCell ⟨w.heap.size+1,0,none⟩ (.slice none 0 0)).setCell ⟨w.heap.size+1+1,0,none⟩ (.int .i64 c2)));have ha1:Blk wr (w.heap.size+1) #[.slice none 0 0] 32:=by
   have:=(A1.o.set 0 (.slice none 0 0)).setOther (a:=⟨w.heap.size+1+1,0,none⟩) (by dsimp only;omega) (.int .i64 c2);rw [hwr];simpa using this
  have ha2:Blk wr (w.heap.size+1+1) #[.int .i64 c2] 33:=by
   have:=(A2.o.setOther (a:=⟨w.heap.size+1,0,none⟩) (by dsimp only;omega) (.slice none 0 0)).set 0 (.int .i64 c2);rw [hwr];simpa using this
  have hxr:Ext w wr:=by rw [hwr];exact (X.o.set (p:=⟨w.heap.size+1,0,none⟩) (by dsimp only;omega) _).set (p:=⟨w.heap.size+1+1,0,none⟩) (by dsimp only;omega) _
  rw [← hwr];clear hwr;replace A1:=kI ha1;replace A2:=kI ha2;replace X:=kI hxr;clear ha1 ha2 hxr;refine leaves_cons (f:=27) (args:=#[.pointer (some ⟨w.heap.size+1+1,0,none⟩),.pointer (some ⟨w.heap.size+1,0,none⟩)]) (by simp) (by simp [go_sem]) ?_;refine (cevalDef_retE (w.heap.size+1+1) (w.heap.size+1) c2 H3.o _ _ _ A2.o A1.o (by omega)).mono ?_;rintro e u' w'' ⟨rfl,rfl,rfl⟩;obtain ⟨wf,hwf⟩:=gN (((wr.setCell ⟨w.heap.size+1+1,0,none⟩ (.int .i64 c2)).setCell ⟨w.heap.size+1,0,none⟩ (.slice none 0 0)));have hfe:Blk wf (w.heap.size+1+1) #[.int .i64 c2] 33:=by
   have:=((A2.o).set 0 (.int .i64 c2)).setOther (a:=⟨w.heap.size+1,0,none⟩) (by dsimp only;omega) (.slice none 0 0);rw [hwf];simpa using this
  have hf0:Blk wf (w.heap.size+1) #[.slice none 0 0] 32:=by
   have:=((A1.o).setOther (a:=⟨w.heap.size+1+1,0,none⟩) (by dsimp only;omega) (.int .i64 c2)).set 0 (.slice none 0 0);rw [hwf];simpa using this
  have hxf:Ext w wf:=by rw [hwf];exact ((X.o).set (p:=⟨w.heap.size+1+1,0,none⟩) (by (try dsimp only);omega) _).set (p:=⟨w.heap.size+1,0,none⟩) (by (try dsimp only);omega) _
  rw [← hwf];clear hwf;have HFE:=kI hfe;have HF0:=kI hf0;have HXF:=kI hxf;have ke:=hfe.cell 0;have k0:=hf0.cell 0;simp only [List.getElem?_toArray,List.getElem?_cons_zero] at ke k0;clear hfe hxf hf0;simp [Leaves,settle,results,Try.results8,go_sem,errP,ke,k0];exact ⟨ResN.mk (OwN.nil _ _) E.o,HXF.o.drew⟩
 subst h3;have H3:=kI hc2.symm;clear hc2;obtain ⟨qA0,fA0,lA0⟩:=A0.o.q3;obtain ⟨qA1,fA1,lA1⟩:=A1.o.q3;obtain ⟨qA2,fA2,lA2⟩:=A2.o.q3;have XS:=kI X.o.size;go_wp2_with fail;refine (HSO.o _ _ _ HM.o HP.o (cw_ok H1.o).1 H3.o).mono ?_;rintro e w3 ⟨he,hx⟩;clear qA0 fA0 lA0 qA1 fA1 lA1 qA2 fA2 lA2;replace HM:=kI (HM.o.ext hx);replace HP:=kI (HP.o.ext hx);replace A0:=kI (A0.o.ext hx);replace A1:=kI (A1.o.ext hx);replace A2:=kI (A2.o.ext hx);replace X:=kI (X.o.trans hx);clear hx HSO;have E4:=kI (eval_4 H1.o H2.o H3.o);obtain ⟨S2,hS2⟩:=gN (solveS m p);rw [← hS2] at he E4;obtain ⟨l,c3⟩:=S2;dsimp only at he E4;by_cases h4:c3=0
 rotate_left
 ·obtain rfl:=he.getE h4;have E:=kI (show evalS m p=([],c3) from by rw [E4.o,hS2];exact solve_nil (by rw [← hS2]) h4);have H4:=kI h4;clear he hS2 h4;refine leaves_cons (f:=27) (args:=#[.pointer (some ⟨w.heap.size+1+1,0,none⟩),.pointer (some ⟨w.heap.size+1,0,none⟩)]) (by simp) (by simp [go_sem]) ?_;refine (cevalDef_err (w.heap.size+1+1) (w.heap.size+1) c3 0 H4.o [] _ _ _ A2.o A1.o (by omega)).mono ?_;rintro e u' w'' ⟨rfl,rfl,rfl⟩;obtain ⟨wf,hwf⟩:=gN (((w3.setCell ⟨w.heap.size+1+1,0,none⟩ (.int .i64 c3)).setCell ⟨w.heap.size+1,0,none⟩ (.slice none 0 0)));have hfe:Blk wf (w.heap.size+1+1) #[.int .i64 c3] 33:=by
   have:=((A2.o).set 0 (.int .i64 c3)).setOther (a:=⟨w.heap.size+1,0,none⟩) (by dsimp only;omega) (.slice none 0 0);rw [hwf];simpa using this
  have hf0:Blk wf (w.heap.size+1) #[.slice none 0 0] 32:=by
   have:=((A1.o).setOther (a:=⟨w.heap.size+1+1,0,none⟩) (by dsimp only;omega) (.int .i64 c3)).set 0 (.slice none 0 0);rw [hwf];simpa using this
  have hxf:Ext w wf:=by rw [hwf];exact ((X.o).set (p:=⟨w.heap.size+1+1,0,none⟩) (by (try dsimp only);omega) _).set (p:=⟨w.heap.size+1,0,none⟩) (by (try dsimp only);omega) _
  rw [← hwf];clear hwf;have HFE:=kI hfe;have HF0:=kI hf0;have HXF:=kI hxf;have ke:=hfe.cell 0;have k0:=hf0.cell 0;simp only [List.getElem?_toArray,List.getElem?_cons_zero] at ke k0;clear hfe hxf hf0;simp [Leaves,settle,results,Try.results8,go_sem,errP,ke,k0];exact ⟨ResN.mk (OwN.nil _ _) E.o,HXF.o.drew⟩
 subst h4;obtain ⟨rv,rfl,ho⟩:=he.get0;obtain ⟨ra,rc,rfl⟩:=ho.shape;have OW:=kI (ho.mono XS.o);clear he ho hS2;obtain ⟨qA1,fA1,lA1⟩:=A1.o.q3;obtain ⟨qA2,fA2,lA2⟩:=A2.o.q3;go_wp2_with fail;clear qA1 fA1 lA1 qA2 fA2 lA2;obtain ⟨wt,hwt⟩:=gN ((w3.setCell ⟨w.heap.size+1,0,none⟩ (.slice ra l.length rc)).setCell ⟨w.heap.size+1+1,0,none⟩ (.int .i64 0));have hx9:Ext w wt:=by rw [hwt];exact (X.o.set (p:=⟨w.heap.size+1,0,none⟩) (by dsimp only;omega) (.slice ra l.length rc)).set (p:=⟨w.heap.size+1+1,0,none⟩) (by dsimp only;omega) _
 have hA1:Blk wt (w.heap.size+1) #[(.slice ra l.length rc)] 32:=by rw [hwt];have:=(A1.o.set 0 (.slice ra l.length rc)).setOther (a:=⟨w.heap.size+1+1,0,none⟩) (by dsimp only;omega) (.int .i64 0);simpa using this
 have hA2:Blk wt (w.heap.size+1+1) #[.int .i64 0] 33:=by rw [hwt];have:=(A2.o.setOther (a:=⟨w.heap.size+1,0,none⟩) (by dsimp only;omega) (.slice ra l.length rc)).set 0 (.int .i64 0);simpa using this
 have how:OwN w.heap.size wt (.slice ra l.length rc) l:=by rw [hwt];exact (OW.o.keeps (keepsR A1.o 0 (.slice ra l.length rc)) (by decide) (by decide)).keeps (keepsR (A2.o.setOther (a:=⟨w.heap.size+1,0,none⟩) (by dsimp only;omega) (.slice ra l.length rc)) 0 (.int .i64 0)) (by decide) (by decide)
 rw [← hwt];replace A1:=kI hA1;replace A2:=kI hA2;replace X:=kI hx9;replace OW:=kI how;clear hwt hx9 hA1 hA2 how A0;refine leaves_cons (f:=27) (args:=#[.pointer (some ⟨w.heap.size+1+1,0,none⟩),.pointer (some ⟨w.heap.size+1,0,none⟩)]) (by simp) (by simp [go_sem]) ?_;refine (cevalDef_ret (w.heap.size+1+1) (w.heap.size+1) _ A2.o).mono ?_;rintro e u' w'' ⟨rfl,rfl,rfl⟩;obtain ⟨wf,hwf⟩:=gN ((wt.setCell ⟨w.heap.size+1+1,0,none⟩ (.int .i64 0)));have hfe:Blk wf (w.heap.size+1+1) #[.int .i64 0] 33:=by
  have:=(A2.o).set 0 (.int .i64 0);rw [hwf];simpa using this
 have hf0:Blk wf (w.heap.size+1) #[(.slice ra l.length rc)] 32:=by
  have:=(A1.o).setOther (a:=⟨w.heap.size+1+1,0,none⟩) (by dsimp only;omega) (.int .i64 0);rw [hwf];simpa using this
 have hxf:Ext w wf:=by rw [hwf];exact (X.o).set (p:=⟨w.heap.size+1+1,0,none⟩) (by (try dsimp only);omega) _
 have OWF:=kI (show OwN w.heap.size wf (.slice ra l.length rc) l from by rw [hwf];exact OW.o.keeps (keepsR A2.o 0 (.int .i64 0)) (by decide) (by decide));rw [← hwf];clear hwf;have HFE:=kI hfe;have HF0:=kI hf0;have HXF:=kI hxf;have ke:=hfe.cell 0;have k0:=hf0.cell 0;simp only [List.getElem?_toArray,List.getElem?_cons_zero] at ke k0;clear hfe hxf hf0;simp [Leaves,settle,results,Try.results8,go_sem,errP,ke,k0];exact ⟨ResN.mk (OWF.o.ext' (Ext.refl _).drew) E4.o,HXF.o.drew⟩
theorem eq_of_qv {a b:RR} (ha:LimR a) (hb:LimR b) (ca:chkR a=0) (cb:chkR b=0) (h:qv a=qv b):a=b:=by
 rw [← (valid_rep ha ca).2.2,← (valid_rep hb cb).2.2,h]
def NN (r:RR):Prop:=chkR r=0∧LimR r∧r.neg=false
def sumF (f:Nat→Rat):Nat→Rat
 | 0=>0
 | n+1=>sumF f n+f n
theorem sumF_congr {f g:Nat→Rat}:∀ {n:Nat},(∀ i,i < n→f i=g i)→sumF f n=sumF g n
 | 0,_=>rfl
 | n+1,h=>by
  show sumF f n+f n=sumF g n+g n;rw [sumF_congr (fun i hi=>h i (by omega)),h n (by omega)]
theorem sumF_zero {f:Nat→Rat}:∀ {n:Nat},(∀ i,i < n→f i=0)→sumF f n=0
 | 0,_=>rfl
 | n+1,h=>by
  show sumF f n+f n=0;rw [sumF_zero (fun i hi=>h i (by omega)),h n (by omega),Rat.add_zero]
theorem sumF_one {f g:Nat→Rat} {i:Nat}:∀ {n:Nat},i < n→(∀ j,j < n→j≠i→g j=f j)→sumF g n=sumF f n+(g i - f i)
 | 0,h,_=>by omega
 | n+1,h,hj=>by
  show sumF g n+g n=sumF f n+f n+(g i - f i);by_cases e:i=n
  ·subst e;rw [sumF_congr (f:=g) (g:=f) (fun j h1=>hj j (by omega) (by omega))];grind
  ·rw [sumF_one (n:=n) (by omega) (fun j h1 h2=>hj j (by omega) h2),hj n (by omega) (by omega)];grind
theorem sumF_front (f:Nat→Rat):∀ n,sumF f (n+1)=f 0+sumF (fun i=>f (i+1)) n
 | 0=>by show (0:Rat)+f 0=f 0+0;rw [Rat.zero_add,Rat.add_zero]
 | n+1=>by
  show sumF f (n+1)+f (n+1)=f 0+(sumF (fun i=>f (i+1)) n+f (n+1));rw [sumF_front f n,Rat.add_assoc]
theorem sumF_mul (c:Rat) (f:Nat→Rat):∀ n,sumF (fun i=>c*f i) n=c*sumF f n
 | 0=>by show (0:Rat)=c*0;rw [Rat.mul_zero]
 | n+1=>by
  show sumF (fun i=>c*f i) n+c*f n=c*(sumF f n+f n);rw [sumF_mul c f n,Rat.mul_add]
def dotO:List Out→(Nat→Rat)→Rat
 | [],_=>0
 | o :: os,f=>qv o.2*f o.1.toNat+dotO os f
theorem dotO_eq (v:List RR):∀ l:List Out,dotQ (prs l) (vls v l)=dotO l (fun t=>qv (v.getD t zR))
 | []=>rfl
 | o :: l=>by
  show qv o.2*qv (v.getD o.1.toNat zR)+dotQ (prs l) (vls v l)=_;rw [dotO_eq v l];rfl
theorem dotO_congr {f g:Nat→Rat}:∀ {l:List Out},(∀ o ∈ l,f o.1.toNat=g o.1.toNat)→dotO l f=dotO l g
 | [],_=>rfl
 | o :: l,h=>by
  show qv o.2*f o.1.toNat+dotO l f=qv o.2*g o.1.toNat+dotO l g;rw [h o (by simp),dotO_congr (fun x hx=>h x (by simp [hx]))]
def OutsV (n:Nat) (os:List Out):Prop:=∀ o ∈ os,0≤o.1∧o.1 < (n:Int)∧chkR o.2=0∧o.2.neg=false
theorem qv_nil {r:RR} (h:r.num=[]):qv r=0:=by
 unfold qv;rw [h];have e:sg r.neg (nv [])=0:=by cases r.neg <;> rfl
 rw [e,Rat.zero_mkRat]
def TT (m:MD):List (List Int)→(Nat→Rat)→Nat→Rat
 | [],f=>f
 | p :: ps,f=>fun u=>dotO (m.act u (p.getD u 0).toNat).next (TT m ps f)
def PolV (m:MD) (p:List Int):Prop:=p.length=m.states.length∧∀ u,u < m.states.length→0≤p.getD u 0∧p.getD u 0 < ((m.states.getD u []).length:Int)
theorem outs_of {m:MD} (hm:mdE m=0) {p:List Int} (hp:PolV m p) {u:Nat} (hu:u < m.states.length):OutsV m.states.length (m.act u (p.getD u 0).toNat).next:=by
 have h:=hp.2 u hu;exact out_mem (act_valid (md_act hm hu (by omega))).2.2.2.1
theorem addL_val:∀ (l:List RR) (s:RR),chkR s=0→(addL s l).2=0→qv (addL s l).1=qv s+(l.map qv).foldr (· + ·) 0
 | [],s,_,_=>by show qv s=qv s+0;rw [Rat.add_zero]
 | x :: l,s,hs,h=>by
  unfold addL at h ⊢;by_cases h1:(addR s x).2=0
  ·rw [if_pos h1] at h ⊢;rw [addL_val l _ (addR_val h1).2 h,(addR_val h1).1];show _=qv s+(qv x+_);rw [Rat.add_assoc]
  ·rw [if_neg h1] at h;exact absurd h h1
theorem dotO_ones:∀ (l:List Out),dotO l (fun _=>1)=((prs l).map qv).foldr (· + ·) 0
 | []=>rfl
 | o :: l=>by
  show qv o.2*1+dotO l (fun _=>1)=qv o.2+((prs l).map qv).foldr (· + ·) 0;rw [Rat.mul_one,dotO_ones l]
theorem act_one {n:Nat} {x:DAct} (h:actE n x=0):dotO x.next (fun _=>1)=1:=by
 have h5:=(act_valid h).2.2.2.2;have e:=addL_val (prs x.next) zR rfl (by rw [h5]);rw [h5,qv_zR,Rat.zero_add] at e;dsimp only at e;rw [qv_rep] at e;rw [dotO_ones,← e]
theorem subR_val {a b:RR} (h:(subR a b).2=0):qv (subR a b).1=qv a - qv b∧chkR (subR a b).1=0:=by
 obtain ⟨h1,h2⟩:=opR_ok h;have e:subR a b=fitR (qv a - qv b):=h1;rw [e];exact fitR_val h2
theorem divR_val {a b:RR} (h:(divR a b).2=0):b.num≠[]∧qv (divR a b).1=qv a / qv b∧chkR (divR a b).1=0∧chkR b=0:=by
 have h0:chkR2 a b=0:=by
  unfold divR opR at h;by_cases e:chkR2 a b=0
  ·exact e
  ·rw [if_neg e] at h;exact h
 by_cases e:b.num=[]
 ·unfold divR opR at h;rw [if_pos h0,if_pos e] at h;cases h
 ·have e1:divR a b=fitR (qv a / qv b):=by unfold divR opR;rw [if_pos h0,if_neg e]
  rw [e1] at h ⊢;have:=fitR_val h;exact ⟨e,this.1,this.2,(chkR2_0 h0).2⟩
theorem qv_ne {b:RR} (hl:LimR b) (hc:chkR b=0) (h:b.num≠[]):qv b≠0:=fun e=>h (by
 have:=eq_of_qv hl zR_lim hc rfl (by rw [e,qv_zR]);rw [this];rfl)
theorem stp_val {x f y:RR} (h:(stp x f y).2=0):qv (stp x f y).1=qv x - qv f*qv y∧chkR (stp x f y).1=0:=by
 unfold stp at h ⊢;by_cases h1:(mulR f y).2=0
 ·rw [if_neg (fun k=>k h1)] at h ⊢;have:=subR_val h;rw [(mulR_val h1).1] at this;exact this
 ·rw [if_pos h1] at h;exact absurd h h1
theorem sumF_sub (f g:Nat→Rat):∀ n,sumF (fun i=>f i - g i) n=sumF f n - sumF g n
 | 0=>by show (0:Rat)=0 - 0;grind
 | n+1=>by simp only [sumF,sumF_sub f g n];grind
theorem sumF_add (f:Nat→Rat) (a:Nat):∀ b,sumF f (a+b)=sumF f a+sumF (fun j=>f (a+j)) b
 | 0=>by show sumF f a=sumF f a+0;grind
 | b+1=>by
  show sumF f (a+b)+f (a+b)=sumF f a+(sumF (fun j=>f (a+j)) b+f (a+b));rw [sumF_add f a b];grind
theorem stpQ_lim (x f y:RR):LimR (stp x f y).1:=by
 unfold stp;split
 ·exact zR_lim
 ·exact opR_lim _ _ _
def Sat (n:Nat) (M:Nat→RR) (S:RR) (x:Nat→Rat):Prop:=sumF (fun i=>qv (M i)*x i) n=qv S
theorem elim1_sat {n s t:Nat} {y y':Sys} (h:elim1 n s t y=(y',0)) (_hst:s≠t) :
  ((∀ i,LimR (y.M t i))→∀ i,LimR (y'.M t i))∧
  (∀ r,r≠t→y'.M r=y.M r∧y'.S r=y.S r)∧y'.V=y.V∧(divR (y.M t s) (y.M s s)).2=0∧(∀ i,i < n→qv (y'.M t i)=qv (y.M t i) - qv (divR (y.M t s) (y.M s s)).1*qv (y.M s i))∧∀ x,Sat n (y'.M t) (y'.S t) x→Sat n (y.M s) (y.S s) x→Sat n (y.M t) (y.S t) x:=by
 unfold elim1 at h;by_cases h1:(divR (y.M t s) (y.M s s)).2=0
 ·rw [if_neg (fun k=>k h1)] at h;by_cases h2:subE (y.M t) (divR (y.M t s) (y.M s s)).1 (y.M s) n=0
  ·rw [if_neg (fun k=>k h2)] at h;by_cases h3:(stp (y.S t) (divR (y.M t s) (y.M s s)).1 (y.S s)).2=0
   ·rw [if_neg (fun k=>k h3)] at h;injection h with h _
    subst h;have hrow:∀ i,i < n→qv (updF y.M t (subK (y.M t) (divR (y.M t s) (y.M s s)).1 (y.M s) n) t i)=qv (y.M t i) - qv (divR (y.M t s) (y.M s s)).1*qv (y.M s i):=fun i hi=>by
     rw [updF_same];unfold subK;rw [if_pos hi];exact (stp_val (frstE_all h2 i hi)).1
    refine ⟨fun hl i=>?_,fun r hr=>⟨updF_ne hr,updF_ne hr⟩,rfl,h1,hrow,fun x hx hs=>?_⟩
    ·show LimR (updF y.M t _ t i);rw [updF_same];unfold subK;split
     ·exact stpQ_lim _ _ _
     ·exact hl i
    unfold Sat at hx hs ⊢;dsimp only at hx;rw [updF_same (f:=y.S),(stp_val h3).1] at hx;have e:sumF (fun i=>qv (updF y.M t (subK (y.M t) (divR (y.M t s) (y.M s s)).1 (y.M s) n) t i)*x i) n=sumF (fun i=>qv (y.M t i)*x i) n - qv (divR (y.M t s) (y.M s s)).1*sumF (fun i=>qv (y.M s i)*x i) n:=by
     rw [← sumF_mul,← sumF_sub];exact sumF_congr (fun i hi=>by rw [hrow i hi];grind)
    rw [e,hs] at hx;grind
   ·rw [if_pos h3] at h;injection h with _ h;exact absurd h h3
  ·rw [if_pos h2] at h;injection h with _ h;exact absurd h h2
 ·rw [if_pos h1] at h;injection h with _ h;exact absurd h h1
theorem fwdK_sat {n s:Nat} {y:Sys} (hl:∀ t i,LimR (y.M t i)):∀ {k:Nat} {y':Sys},fwdK n s y k=(y',0)→s+1+k≤n→
  (∀ r,(r≤s∨s+k < r)→y'.M r=y.M r∧y'.S r=y.S r)∧y'.V=y.V∧(∀ t i,LimR (y'.M t i))∧
  ∀ t,s < t→t≤s+k→(∃ f,∀ i,i < n→qv (y'.M t i)=qv (y.M t i) - f*qv (y.M s i))∧qv (y'.M t s)=0∧
   ∀ x,Sat n (y'.M t) (y'.S t) x→Sat n (y.M s) (y.S s) x→Sat n (y.M t) (y.S t) x
 | 0,y',h,_=>by
  injection h with h _;subst h
  exact ⟨fun _ _=>⟨rfl,rfl⟩,rfl,hl,fun t h1 h2=>absurd h1 (by omega)⟩
 | k+1,y',h,hk=>by
  unfold fwdK at h;by_cases h1:(fwdK n s y k).2=0
  ·rw [if_neg (fun k=>k h1)] at h;obtain ⟨a1,a2,a3,a4⟩:=fwdK_sat hl (y':=(fwdK n s y k).1) (k:=k) (by rw [← h1]) (by omega);obtain ⟨b1,b2,b3,b4,b5,b6⟩:=elim1_sat h (by omega);have es:=a1 s (.inl (Nat.le_refl _));have et:=a1 (s+1+k) (.inr (by omega));rw [es.1,es.2,et.1,et.2] at b6;rw [es.1,et.1] at b4 b5;refine ⟨fun r hr=>?_,b3.trans a2,fun t i=>?_,fun t h2 h3=>?_⟩
   ·have:=b2 r (by omega);rw [this.1,this.2];exact a1 r (by omega)
   ·by_cases e:t=s+1+k
    ·rw [e];exact b1 (fun i=>a3 _ i) i
    ·rw [(b2 t e).1];exact a3 t i
   ·by_cases e:t=s+1+k
    ·subst e;refine ⟨⟨_,b5⟩,?_,b6⟩;obtain ⟨d1,d2,_,d4⟩:=divR_val b4;have:=qv_ne (hl s s) d4 d1;rw [b5 s (by omega),d2];grind
    ·rw [(b2 t e).1,(b2 t e).2];exact a4 t h2 (by omega)
  ·rw [if_pos h1] at h;rw [h] at h1;exact absurd rfl h1
theorem bakK_val {s:Nat} {y:Sys}:∀ {k:Nat} {v:RR},bakK s y k=(v,0)→qv v=qv (y.S s) - sumF (fun j=>qv (y.M s (s+1+j))*qv (y.V (s+1+j))) k
 | 0,v,h=>by
  injection h with h _;subst h
  show qv (y.S s)=qv (y.S s) - 0;grind
 | k+1,v,h=>by
  unfold bakK at h;by_cases h1:(bakK s y k).2=0
  ·rw [if_neg (fun k=>k h1)] at h;have a:=bakK_val (y:=y) (s:=s) (k:=k) (v:=(bakK s y k).1) (by rw [← h1]);have b:=stp_val (x:=(bakK s y k).1) (f:=y.M s (s+1+k)) (y:=y.V (s+1+k)) (by rw [h]);rw [h,a] at b;show qv v=qv (y.S s) - (sumF (fun j=>qv (y.M s (s+1+j))*qv (y.V (s+1+j))) k+qv (y.M s (s+1+k))*qv (y.V (s+1+k)));rw [b.1];grind
  ·rw [if_pos h1] at h;rw [h] at h1;exact absurd rfl h1
theorem redS_sat {n:Nat}:∀ {k s:Nat} {y y':Sys},redS n k s y=(y',0)→s+k=n→(∀ t i,LimR (y.M t i))→(∀ t,s≤t→t < n→∀ i,i < s→qv (y.M t i)=0)→
  (∀ r,r < s→y'.M r=y.M r∧y'.S r=y.S r∧y'.V r=y.V r)∧∀ t,s≤t→t < n→chkR (y'.V t)=0∧Sat n (y.M t) (y.S t) (fun i=>qv (y'.V i))
 | 0,s,y,y',h,hk,_,_=>by
  injection h with h _;subst h
  exact ⟨fun _ _=>⟨rfl,rfl,rfl⟩,fun t h1 h2=>absurd h1 (by omega)⟩
 | k+1,s,y,y',h,hk,hl,hz=>by
  unfold redS at h;by_cases h1:(fwdK n s y (n - (s+1))).2=0
  ·rw [if_neg (fun k=>k h1)] at h;obtain ⟨a1,a2,a3,a4⟩:=fwdK_sat hl (y':=(fwdK n s y (n - (s+1))).1) (k:=n - (s+1)) (by rw [← h1]) (by omega);generalize (fwdK n s y (n - (s+1))).1=y1 at *
   by_cases h2:(redS n k (s+1) y1).2=0
   ·rw [if_neg (fun k=>k h2)] at h;obtain ⟨c1,c2⟩:=redS_sat (y':=(redS n k (s+1) y1).1) (n:=n) (k:=k) (s:=s+1) (y:=y1) (by rw [← h2]) (by omega) a3 (fun t ht htn i hi=>by
     obtain ⟨⟨f,f1⟩,f2,_⟩:=a4 t (by omega) (by omega);by_cases e:i=s
     ·rw [e];exact f2
     ·rw [f1 i (by omega),hz t (by omega) htn i (by omega),hz s (Nat.le_refl _) (by omega) i (by omega)];grind)
    generalize (redS n k (s+1) y1).1=y2 at *
    by_cases h3:(bakK s y2 (n - (s+1))).2=0
    ·rw [if_neg (fun k=>k h3)] at h;have hb:=bakK_val (v:=(bakK s y2 (n - (s+1))).1) (y:=y2) (s:=s) (k:=n - (s+1)) (by rw [← h3]);generalize (bakK s y2 (n - (s+1))).1=b at *
     by_cases h4:(divR b (y2.M s s)).2=0
     ·rw [if_neg (fun k=>k h4)] at h;injection h with h _
      obtain ⟨d1,d2,d3,d4⟩:=divR_val h4;generalize (divR b (y2.M s s)).1=v at *
      have es:=c1 s (by omega);have ey:=a1 s (.inl (Nat.le_refl _));rw [es.1,es.2.1] at hb;rw [es.1] at d1 d2 d4;rw [ey.1,ey.2] at hb;rw [ey.1] at d1 d2 d4;have hne:=qv_ne (hl s s) d4 d1;have hV:∀ i,y'.V i=updF y2.V s v i:=fun i=>by rw [← h]
      have hVs:y'.V s=v:=by rw [hV,updF_same]
      have hVn:∀ i,i≠s→y'.V i=y2.V i:=fun i hi=>by rw [hV,updF_ne hi]
      have hrow:Sat n (y.M s) (y.S s) (fun i=>qv (y'.V i)):=by
       unfold Sat;have en:n=s+1+(n - (s+1)):=by omega
       have e0:sumF (fun i=>qv (y.M s i)*qv (y'.V i)) n=sumF (fun i=>qv (y.M s i)*qv (y'.V i)) (s+1)+sumF (fun j=>qv (y.M s (s+1+j))*qv (y'.V (s+1+j))) (n - (s+1)):=by
        rw [← sumF_add,← en]
       have e1:sumF (fun i=>qv (y.M s i)*qv (y'.V i)) (s+1)=qv (y.M s s)*qv v:=by
        show sumF _ s+qv (y.M s s)*qv (y'.V s)=_;rw [sumF_zero (fun i hi=>by rw [hz s (Nat.le_refl _) (by omega) i hi,Rat.zero_mul]),hVs];grind
       have e2:sumF (fun j=>qv (y.M s (s+1+j))*qv (y'.V (s+1+j))) (n - (s+1))=sumF (fun j=>qv (y.M s (s+1+j))*qv (y2.V (s+1+j))) (n - (s+1)):=
        sumF_congr (fun j _=>by rw [hVn (s+1+j) (by omega)])
       rw [e0,e1,e2,d2];grind
      refine ⟨fun r hr=>⟨?_,?_,?_⟩,fun t ht htn=>?_⟩
      ·rw [← h];exact (c1 r (by omega)).1.trans (a1 r (.inl (by omega))).1
      ·rw [← h];exact (c1 r (by omega)).2.1.trans (a1 r (.inl (by omega))).2
      ·rw [hVn r (by omega),(c1 r (by omega)).2.2,a2]
      ·by_cases e:t=s
       ·subst e;exact ⟨by rw [hVs];exact d3,hrow⟩
       ·have g:=c2 t (by omega) htn;refine ⟨by rw [hVn t e];exact g.1,(a4 t (by omega) (by omega)).2.2 _ ?_ hrow⟩;have g2:=g.2;unfold Sat at g2 ⊢;rw [← g2];refine sumF_congr (fun i hi=>?_);by_cases ei:i=s
        ·rw [ei,(a4 t (by omega) (by omega)).2.1];grind
        ·show qv (y1.M t i)*qv (y'.V i)=qv (y1.M t i)*qv (y2.V i);rw [hVn i ei]
     ·rw [if_pos h4] at h;injection h with _ h;exact absurd h h4
    ·rw [if_pos h3] at h;injection h with _ h;exact absurd h h3
   ·rw [if_pos h2] at h;rw [h] at h2;exact absurd rfl h2
  ·rw [if_pos h1] at h;rw [h] at h1;exact absurd rfl h1
theorem sumF_upd {n t:Nat} (M:Nat→RR) (v:RR) (x:Nat→Rat) (ht:t < n):sumF (fun i=>qv (updF M t v i)*x i) n=sumF (fun i=>qv (M i)*x i) n+(qv v - qv (M t))*x t:=by
 rw [sumF_one (f:=fun i=>qv (M i)*x i) (g:=fun i=>qv (updF M t v i)*x i) ht (fun j h1 h2=>by
  show qv (updF M t v j)*x j=qv (M j)*x j;rw [updF_ne h2])]
 show _+(qv (updF M t v t)*x t - qv (M t)*x t)=_;rw [updF_same];grind
theorem updF_lim {f:Nat→RR} {t:Nat} {v:RR} (h:∀ i,LimR (f i)) (hv:LimR v) (i:Nat):LimR (updF f t v i):=by
 unfold updF;split
 ·exact hv
 ·exact h i
theorem dotO_take (l:List Out) (x:Nat→Rat) (k:Nat) (h:k < l.length):dotO (l.take (k+1)) x=dotO (l.take k) x+qv (l.getD k dO).2*x (l.getD k dO).1.toNat:=by
 induction l generalizing k with
 | nil=>exact absurd h (by simp)
 | cons o os ih=>
  cases k with
  | zero=>show qv o.2*x o.1.toNat+dotO (os.take 0) x=dotO [] x+qv o.2*x o.1.toNat;show _+(0:Rat)=0+_;grind
  | succ k=>
   have:=ih k (by simpa using h);show qv o.2*x o.1.toNat+dotO (os.take (k+1)) x=qv o.2*x o.1.toNat+dotO (os.take k) x+qv (os.getD k dO).2*x (os.getD k dO).1.toNat;rw [this];grind
theorem rowK_sat {n:Nat} (d:RR) (l:List Out) (s:Nat) (hs:s < n) (hl:∀ o ∈ l,o.1.toNat < n):∀ {k:Nat} {M:Nat→RR},rowK d l s k=(M,0)→k≤l.length→
  (∀ i,LimR (M i))∧∀ x:Nat→Rat,sumF (fun i=>qv (M i)*x i) n=x s - qv d*dotO (l.take k) x
 | 0,M,h,_=>by
  injection h with h _;subst h
  refine ⟨updF_lim (fun _=>zR_lim) (limR_rep _),fun x=>?_⟩;rw [sumF_upd _ _ _ hs,sumF_zero (fun i _=>by rw [qv_zR,Rat.zero_mul]),qv_rep,qv_zR];show _=x s - qv d*(0:Rat);grind
 | k+1,M,h,hk=>by
  unfold rowK at h;by_cases h1:(rowK d l s k).2=0
  ·rw [if_neg (fun k=>k h1)] at h;obtain ⟨a1,a2⟩:=rowK_sat d l s hs hl (M:=(rowK d l s k).1) (k:=k) (by rw [← h1]) (by omega);generalize (rowK d l s k).1=M1 at *
   by_cases h2:(stp (M1 (l.getD k dO).1.toNat) d (l.getD k dO).2).2=0
   ·rw [if_neg (fun k=>k h2)] at h;injection h with h _;subst h
    have ht:(l.getD k dO).1.toNat < n:=hl _ (by rw [List.getD_eq_getElem?_getD,List.getElem?_eq_getElem (by omega)];exact List.getElem_mem _);refine ⟨updF_lim a1 (stpQ_lim _ _ _),fun x=>?_⟩;rw [sumF_upd _ _ _ ht,a2 x,(stp_val h2).1,dotO_take l x k (by omega)];grind
   ·rw [if_pos h2] at h;injection h with _ h;exact absurd h h2
  ·rw [if_pos h1] at h;rw [h] at h1;exact absurd rfl h1
theorem rowK_limq (d:RR) (l:List Out) (s:Nat):∀ k i,LimR ((rowK d l s k).1 i)
 | 0,i=>updF_lim (fun _=>zR_lim) (limR_rep _) i
 | k+1,i=>by
  unfold rowK;split
  ·exact rowK_limq d l s k i
  ·split
   ·exact rowK_limq d l s k i
   ·exact updF_lim (rowK_limq d l s k) (stpQ_lim _ _ _) i
theorem solve_sat {m:MD} {p:List Int} {vs:List RR} (h:solveS m p=(vs,0)) (hl:∀ s,s < p.length→∀ o ∈ (polX m p s).next,o.1.toNat < p.length) :
  vs.length=p.length∧∀ s,s < p.length→chkR (vs.getD s zR)=0∧qv (vs.getD s zR)=qv (polX m p s).cost+qv m.disc*dotO (polX m p s).next (fun t=>qv (vs.getD t zR)):=by
 unfold solveS at h;by_cases h1:frstE (fun s=>(eqnS m p s).2) p.length=0
 ·rw [if_neg (fun k=>k h1)] at h;by_cases h2:(redS p.length p.length 0 (sysS m p)).2=0
  ·rw [if_neg (fun k=>k h2)] at h;injection h with h _
   have hrow:∀ s,s < p.length→_:=fun s hs=>rowK_sat m.disc (polX m p s).next s hs (hl s hs) (M:=(eqnS m p s).1) (by
    have:=frstE_all h1 s hs;unfold eqnS at this ⊢;rw [← this]) (Nat.le_refl _)
   obtain ⟨r1,r2⟩:=redS_sat (n:=p.length) (k:=p.length) (s:=0) (y:=sysS m p) (y':=(redS p.length p.length 0 (sysS m p)).1) (by rw [← h2]) (by omega)
    (fun t i=>rowK_limq _ _ _ _ i) (fun _ _ _ i hi=>absurd hi (by omega))
   generalize (redS p.length p.length 0 (sysS m p)).1=y at *
   subst h;have hv:∀ i,i < p.length→((List.range p.length).map y.V).getD i zR=y.V i:=fun i hi=>by
    rw [List.getD_eq_getElem?_getD,List.getElem?_eq_getElem (by simpa using hi)];simp
   refine ⟨by simp,fun s hs=>?_⟩;obtain ⟨g1,g2⟩:=r2 s (Nat.zero_le _) hs;rw [hv s hs];refine ⟨g1,?_⟩;have e1:=(hrow s hs).2 (fun i=>qv (y.V i));have e2:sumF (fun i=>qv ((eqnS m p s).1 i)*qv (y.V i)) p.length=qv (polX m p s).cost:=g2;rw [e2,List.take_length] at e1;have e3:dotO (polX m p s).next (fun t=>qv (((List.range p.length).map y.V).getD t zR))=dotO (polX m p s).next (fun i=>qv (y.V i)):=dotO_congr (fun o ho=>by rw [hv _ (hl s hs o ho)]);rw [e3];grind
  ·rw [if_pos h2] at h;injection h with _ h;exact absurd h h2
 ·rw [if_pos h1] at h;injection h with _ h;exact absurd h h1
theorem dotO_le {M:Rat} {f:Nat→Rat}:∀ {l:List Out},(∀ o ∈ l,0≤qv o.2)→(∀ o ∈ l,f o.1.toNat≤M)→dotO l f≤M*dotO l (fun _=>1)
 | [],_,_=>by show (0:Rat)≤M*0;grind
 | o :: os,h1,h2=>by
  have a:=dotO_le (f:=f) (M:=M) (l:=os) (fun x hx=>h1 x (by simp [hx])) (fun x hx=>h2 x (by simp [hx]));have b:=rat_mul_le (h1 o (by simp)) (h2 o (by simp));show qv o.2*f o.1.toNat+dotO os f≤M*(qv o.2*1+dotO os (fun _=>1));have c:=add_le2 b a;have e:qv o.2*M+M*dotO os (fun _=>1)=M*(qv o.2*1+dotO os (fun _=>1)):=by grind
  rw [e] at c;exact c
theorem max_at (d:Nat→Rat):∀ n,∃ j,j < n+1∧∀ s,s < n+1→d s≤d j
 | 0=>⟨0,by omega,fun s hs=>by rw [show s=0 by omega];exact Rat.le_refl⟩
 | n+1=>by
  obtain ⟨j,hj,h⟩:=max_at d n;by_cases e:d j≤d (n+1)
  ·refine ⟨n+1,by omega,fun s hs=>?_⟩;by_cases e2:s=n+1
   ·rw [e2];exact Rat.le_refl
   ·exact Rat.le_trans (h s (by omega)) e
  ·refine ⟨j,by omega,fun s hs=>?_⟩;by_cases e2:s=n+1
   ·rw [e2];exact Rat.le_of_lt (Rat.not_le.1 e)
   ·exact h s (by omega)
theorem contract {n:Nat} {g:Rat} (h0:0≤g) (h1:g < 1) {L:Nat→List Out} {d:Nat→Rat} (hO:∀ s,s < n→OutsV n (L s)) (hS:∀ s,s < n→dotO (L s) (fun _=>1)=1)
  (h:∀ s,s < n→d s≤g*dotO (L s) d):∀ s,s < n→d s≤0:=fun s hs=>by
 obtain ⟨k,rfl⟩:∃ k,n=k+1:=⟨n - 1,by omega⟩;obtain ⟨j,hj,hm⟩:=max_at d k;have a:=dotO_le (f:=d) (M:=d j) (l:=L j) (fun o ho=>qv_nonneg (hO j hj o ho).2.2.2) (fun o ho=>hm _ (by have:=hO j hj o ho;omega));rw [hS j hj] at a;have b:=Rat.le_trans (h j hj) (rat_mul_le h0 a);refine Rat.le_trans (hm s hs) (Rat.not_lt.1 fun hp=>?_);have c:0 < (1 - g)*d j:=Rat.mul_pos (by grind) hp;have e:g*(d j*1)=d j - (1 - g)*d j:=by grind
 rw [e] at b;grind
theorem dotO_sub (f g:Nat→Rat):∀ l:List Out,dotO l (fun t=>f t - g t)=dotO l f - dotO l g
 | []=>by show (0:Rat)=0 - 0;grind
 | o :: os=>by
  show qv o.2*(f o.1.toNat - g o.1.toNat)+dotO os (fun t=>f t - g t)=qv o.2*f o.1.toNat+dotO os f - (qv o.2*g o.1.toNat+dotO os g);rw [dotO_sub f g os];grind
theorem sub_le {n:Nat} {g:Rat} (h0:0≤g) (h1:g < 1) {L:Nat→List Out} {c u v:Nat→Rat} (hO:∀ s,s < n→OutsV n (L s)) (hS:∀ s,s < n→dotO (L s) (fun _=>1)=1)
  (hu:∀ s,s < n→u s≤c s+g*dotO (L s) u) (hv:∀ s,s < n→c s+g*dotO (L s) v≤v s):∀ s,s < n→u s≤v s:=fun s hs=>by
 have:=contract h0 h1 (d:=fun t=>u t - v t) hO hS (fun t ht=>by
  show u t - v t≤_;rw [dotO_sub];have a:=hu t ht;have b:=hv t ht;grind) s hs
 grind
theorem sat_one {n:Nat} {g:Rat} (h0:0≤g) (h1:g < 1) {L:Nat→List Out} {c u v:Nat→Rat} (hO:∀ s,s < n→OutsV n (L s)) (hS:∀ s,s < n→dotO (L s) (fun _=>1)=1)
  (hu:∀ s,s < n→u s=c s+g*dotO (L s) u) (hv:∀ s,s < n→v s=c s+g*dotO (L s) v) (s:Nat) (hs:s < n):u s=v s:=
 Rat.le_antisymm (sub_le h0 h1 hO hS (fun t ht=>by rw [← hu t ht];exact Rat.le_refl) (fun t ht=>by rw [← hv t ht];exact Rat.le_refl) s hs)
  (sub_le h0 h1 hO hS (fun t ht=>by rw [← hv t ht];exact Rat.le_refl) (fun t ht=>by rw [← hu t ht];exact Rat.le_refl) s hs)
end Go.Proofs.Ytnnjbaijcaiohaa
