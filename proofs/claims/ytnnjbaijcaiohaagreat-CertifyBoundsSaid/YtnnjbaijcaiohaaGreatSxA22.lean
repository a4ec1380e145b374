/- Walks and lemmas. -/
import Derived.Test.YtnnjbaijcaiohaaGreatSxA13
import Derived.Test.YtnnjbaijcaiohaaGreatSxA16
import Derived.Defers
import Derived.Test.YtnnjbaijcaiohaaGreatSxA21
import Derived.Test.YtnnjbaijcaiohaaGreatSxA17
set_option linter.unusedVariables false
set_option linter.unusedSimpArgs false
set_option maxRecDepth 100000
set_option maxHeartbeats 16000000
namespace Go.Proofs.YtnnjbaijcaiohaaGreat
open Go.RowKit
theorem qq {nn:Nat} (be b1:Nat) (w:World) (hbe:af w be #[.int .i64 0] 37) :
  CallsDIn Fence.wide nn Tryz.prog 88 #[.pointer (some ⟨be,0,none⟩),.pointer (some ⟨b1,0,none⟩)] .returning w fun e u' w'=>e=.returned (.tuple #[])∧u'=.returning∧w'=(w.setCell ⟨be,0,none⟩ (.int .i64 0)).drew:=by
 have he:=(hbe.cell 0);have hz:=hbe.free 0;simp only [List.getElem?_toArray,List.getElem?_cons_zero] at he;refine aH Tryz.func88 rfl fun c₀ cs hu=>?_;apply wpS_seq;refine aG (by kernel_rfl) (by kernel_rfl) (by kernel_rfl) (by kernel_rfl) (by kernel_rfl) (by kernel_rfl) rfl ?_ ?_;all_goals
  simp [wpOpsS,go_sem,recoverD,hu,Tryz.ntmps88,Exit.thenS,he,hz];refine (cQ 0 _).mono ?_;rintro e w1 ⟨rfl,rfl⟩;simp [wpOpsS,go_sem,recoverD,hu,Tryz.ntmps88,Exit.thenS,he,hz];refine wpS_of_wp ?_;go_wp2
  simp [bodyPostS,results,Tryz.results88,go_sem] <;> (cases c₀;simp_all)
theorem qr {nn:Nat} (be b1:Nat) (c e0:Int) (hc:c≠0) (older:List PanicEntry) (w:World) (oT:Value) (jY:TypeId) (hbe:af w be #[.int .i64 e0] 37) (hb1:af w b1 #[oT] jY) (su:b1≠be) :
  CallsDIn Fence.wide nn Tryz.prog 88 #[.pointer (some ⟨be,0,none⟩),.pointer (some ⟨b1,0,none⟩)] (.panicking (aY c :: older)) w fun e u' w'=>e=.returned (.tuple #[])∧u'=.panicking ({ aY c with recovered:=true } :: older)∧w'=((w.setCell ⟨be,0,none⟩ (.int .i64 c)).setCell ⟨b1,0,none⟩ (.slice none 0 0)).drew:=by
 have q1:(c != 0)=true:=by simpa using hc
 unfold aY;have he:=(hbe.cell 0);have hz:=hbe.free 0;simp only [List.getElem?_toArray,List.getElem?_cons_zero] at he;have ud:=hb1.cell 0;have It:=hb1.free 0;simp only [List.getElem?_toArray,List.getElem?_cons_zero] at ud;refine aH Tryz.func88 rfl fun c₀ cs hu=>?_;apply wpS_seq;refine aG (by kernel_rfl) (by kernel_rfl) (by kernel_rfl) (by kernel_rfl) (by kernel_rfl) (by kernel_rfl) rfl ?_ ?_;all_goals
  simp [wpOpsS,go_sem,recoverD,hu,Tryz.ntmps88,Exit.thenS,he,hz];refine (gI c e0 _).mono ?_;rintro e w1 ⟨rfl,rfl⟩;simp [wpOpsS,go_sem,recoverD,hu,Tryz.ntmps88,Exit.thenS,he,hz];refine wpS_of_wp ?_;go_wp2
  simp [bodyPostS,results,Tryz.results88,go_sem] <;> (cases c₀;simp_all)
theorem pm {nn:Nat} (be b1:Nat) (c:Int) (hc:c≠0) (w:World) (oT:Value) (jY:TypeId) (hbe:af w be #[.int .i64 c] 37) (hb1:af w b1 #[oT] jY) (su:b1≠be) :
  CallsDIn Fence.wide nn Tryz.prog 88 #[.pointer (some ⟨be,0,none⟩),.pointer (some ⟨b1,0,none⟩)] .returning w fun e u' w'=>e=.returned (.tuple #[])∧u'=.returning∧w'=((w.setCell ⟨be,0,none⟩ (.int .i64 c)).setCell ⟨b1,0,none⟩ (.slice none 0 0)).drew:=by
 have q1:(c != 0)=true:=by simpa using hc
 have he:=(hbe.cell 0);have hz:=hbe.free 0;simp only [List.getElem?_toArray,List.getElem?_cons_zero] at he;have ud:=hb1.cell 0;have It:=hb1.free 0;simp only [List.getElem?_toArray,List.getElem?_cons_zero] at ud;refine aH Tryz.func88 rfl fun c₀ cs hu=>?_;apply wpS_seq;refine aG (by kernel_rfl) (by kernel_rfl) (by kernel_rfl) (by kernel_rfl) (by kernel_rfl) (by kernel_rfl) rfl ?_ ?_;all_goals
  simp [wpOpsS,go_sem,recoverD,hu,Tryz.ntmps88,Exit.thenS,he,hz];refine (cQ c _).mono ?_;rintro e w1 ⟨rfl,rfl⟩;simp [wpOpsS,go_sem,recoverD,hu,Tryz.ntmps88,Exit.thenS,he,hz];refine wpS_of_wp ?_;go_wp2
  simp [bodyPostS,results,Tryz.results88,go_sem] <;> (cases c₀;simp_all)
theorem gW (be b1:Nat) (c:Int) (hc:c≠0) (w:World) (oT:Value) (jY:TypeId) (hbe:af w be #[.int .i64 c] 37) (hb1:af w b1 #[oT] jY) (su:b1≠be) :
  CallsD Tryz.prog 88 #[.pointer (some ⟨be,0,none⟩),.pointer (some ⟨b1,0,none⟩)] .returning w fun e u' w'=>e=.returned (.tuple #[])∧u'=.returning∧w'=((w.setCell ⟨be,0,none⟩ (.int .i64 c)).setCell ⟨b1,0,none⟩ (.slice none 0 0)).drew:=bN (pm (nn:=0) be b1 c hc w oT jY hbe hb1 su)
theorem sL (be b1:Nat) (w:World) (hbe:af w be #[.int .i64 0] 37) :
  CallsD Tryz.prog 88 #[.pointer (some ⟨be,0,none⟩),.pointer (some ⟨b1,0,none⟩)] .returning w fun e u' w'=>e=.returned (.tuple #[])∧u'=.returning∧w'=(w.setCell ⟨be,0,none⟩ (.int .i64 0)).drew:=bN (qq (nn:=0) be b1 w hbe)
theorem sM (be b1:Nat) (c e0:Int) (hc:c≠0) (older:List PanicEntry) (w:World) (oT:Value) (jY:TypeId) (hbe:af w be #[.int .i64 e0] 37) (hb1:af w b1 #[oT] jY) (su:b1≠be) :
  CallsD Tryz.prog 88 #[.pointer (some ⟨be,0,none⟩),.pointer (some ⟨b1,0,none⟩)] (.panicking (aY c :: older)) w fun e u' w'=>e=.returned (.tuple #[])∧u'=.panicking ({ aY c with recovered:=true } :: older)∧w'=((w.setCell ⟨be,0,none⟩ (.int .i64 c)).setCell ⟨b1,0,none⟩ (.slice none 0 0)).drew:=bN (qr (nn:=0) be b1 c e0 hc older w oT jY hbe hb1 su)
theorem pn {nn:Nat} (be b1 b2:Nat) (w:World) (hbe:af w be #[.int .i64 0] 37) :
  CallsDIn Fence.wide nn Tryz.prog 93 #[.pointer (some ⟨be,0,none⟩),.pointer (some ⟨b1,0,none⟩),.pointer (some ⟨b2,0,none⟩)] .returning w fun e u' w'=>e=.returned (.tuple #[])∧u'=.returning∧w'=(w.setCell ⟨be,0,none⟩ (.int .i64 0)).drew:=by
 have he:=(hbe.cell 0);have hz:=hbe.free 0;simp only [List.getElem?_toArray,List.getElem?_cons_zero] at he;refine aH Tryz.func93 rfl fun c₀ cs hu=>?_;apply wpS_seq;refine aG (by kernel_rfl) (by kernel_rfl) (by kernel_rfl) (by kernel_rfl) (by kernel_rfl) (by kernel_rfl) rfl ?_ ?_;all_goals
  simp [wpOpsS,go_sem,recoverD,hu,Tryz.ntmps93,Exit.thenS,he,hz];refine (cQ 0 _).mono ?_;rintro e w1 ⟨rfl,rfl⟩;simp [wpOpsS,go_sem,recoverD,hu,Tryz.ntmps93,Exit.thenS,he,hz];refine wpS_of_wp ?_;go_wp2
  simp [bodyPostS,results,Tryz.results93,go_sem] <;> (cases c₀;simp_all)
theorem pp {nn:Nat} (be b1 b2:Nat) (c e0:Int) (hc:c≠0) (older:List PanicEntry) (w:World) (oT xb2:Value) (jY tb2:TypeId) (hbe:af w be #[.int .i64 e0] 37) (hb1:af w b1 #[oT] jY) (su:b1≠be) (hb2:af w b2 #[xb2] tb2) (Kj:b2≠be) (n12:b2≠b1) :
  CallsDIn Fence.wide nn Tryz.prog 93 #[.pointer (some ⟨be,0,none⟩),.pointer (some ⟨b1,0,none⟩),.pointer (some ⟨b2,0,none⟩)] (.panicking (aY c :: older)) w fun e u' w'=>e=.returned (.tuple #[])∧u'=.panicking ({ aY c with recovered:=true } :: older)∧w'=(((w.setCell ⟨be,0,none⟩ (.int .i64 c)).setCell ⟨b1,0,none⟩ (.slice none 0 0)).setCell ⟨b2,0,none⟩ (.slice none 0 0)).drew:=by
 have q1:(c != 0)=true:=by simpa using hc
 unfold aY;have he:=(hbe.cell 0);have hz:=hbe.free 0;simp only [List.getElem?_toArray,List.getElem?_cons_zero] at he;have ud:=hb1.cell 0;have It:=hb1.free 0;have kb2:=hb2.cell 0;have Ua:=hb2.free 0;simp only [List.getElem?_toArray,List.getElem?_cons_zero] at ud kb2;refine aH Tryz.func93 rfl fun c₀ cs hu=>?_;apply wpS_seq;refine aG (by kernel_rfl) (by kernel_rfl) (by kernel_rfl) (by kernel_rfl) (by kernel_rfl) (by kernel_rfl) rfl ?_ ?_;all_goals
  simp [wpOpsS,go_sem,recoverD,hu,Tryz.ntmps93,Exit.thenS,he,hz];refine (gI c e0 _).mono ?_;rintro e w1 ⟨rfl,rfl⟩;simp [wpOpsS,go_sem,recoverD,hu,Tryz.ntmps93,Exit.thenS,he,hz];refine wpS_of_wp ?_;go_wp2
  simp [bodyPostS,results,Tryz.results93,go_sem] <;> (cases c₀;simp_all)
theorem no {nn:Nat} (be b1 b2:Nat) (c:Int) (hc:c≠0) (w:World) (oT xb2:Value) (jY tb2:TypeId) (hbe:af w be #[.int .i64 c] 37) (hb1:af w b1 #[oT] jY) (su:b1≠be) (hb2:af w b2 #[xb2] tb2) (Kj:b2≠be) (n12:b2≠b1) :
  CallsDIn Fence.wide nn Tryz.prog 93 #[.pointer (some ⟨be,0,none⟩),.pointer (some ⟨b1,0,none⟩),.pointer (some ⟨b2,0,none⟩)] .returning w fun e u' w'=>e=.returned (.tuple #[])∧u'=.returning∧w'=(((w.setCell ⟨be,0,none⟩ (.int .i64 c)).setCell ⟨b1,0,none⟩ (.slice none 0 0)).setCell ⟨b2,0,none⟩ (.slice none 0 0)).drew:=by
 have q1:(c != 0)=true:=by simpa using hc
 have he:=(hbe.cell 0);have hz:=hbe.free 0;simp only [List.getElem?_toArray,List.getElem?_cons_zero] at he;have ud:=hb1.cell 0;have It:=hb1.free 0;have kb2:=hb2.cell 0;have Ua:=hb2.free 0;simp only [List.getElem?_toArray,List.getElem?_cons_zero] at ud kb2;refine aH Tryz.func93 rfl fun c₀ cs hu=>?_;apply wpS_seq;refine aG (by kernel_rfl) (by kernel_rfl) (by kernel_rfl) (by kernel_rfl) (by kernel_rfl) (by kernel_rfl) rfl ?_ ?_;all_goals
  simp [wpOpsS,go_sem,recoverD,hu,Tryz.ntmps93,Exit.thenS,he,hz];refine (cQ c _).mono ?_;rintro e w1 ⟨rfl,rfl⟩;simp [wpOpsS,go_sem,recoverD,hu,Tryz.ntmps93,Exit.thenS,he,hz];refine wpS_of_wp ?_;go_wp2
  simp [bodyPostS,results,Tryz.results93,go_sem] <;> (cases c₀;simp_all)
theorem jx (be b1 b2:Nat) (c:Int) (hc:c≠0) (w:World) (oT xb2:Value) (jY tb2:TypeId) (hbe:af w be #[.int .i64 c] 37) (hb1:af w b1 #[oT] jY) (su:b1≠be) (hb2:af w b2 #[xb2] tb2) (Kj:b2≠be) (n12:b2≠b1) :
  CallsD Tryz.prog 93 #[.pointer (some ⟨be,0,none⟩),.pointer (some ⟨b1,0,none⟩),.pointer (some ⟨b2,0,none⟩)] .returning w fun e u' w'=>e=.returned (.tuple #[])∧u'=.returning∧w'=(((w.setCell ⟨be,0,none⟩ (.int .i64 c)).setCell ⟨b1,0,none⟩ (.slice none 0 0)).setCell ⟨b2,0,none⟩ (.slice none 0 0)).drew:=bN (no (nn:=0) be b1 b2 c hc w oT xb2 jY tb2 hbe hb1 su hb2 Kj n12)
theorem qs (be b1 b2:Nat) (w:World) (hbe:af w be #[.int .i64 0] 37) :
  CallsD Tryz.prog 93 #[.pointer (some ⟨be,0,none⟩),.pointer (some ⟨b1,0,none⟩),.pointer (some ⟨b2,0,none⟩)] .returning w fun e u' w'=>e=.returned (.tuple #[])∧u'=.returning∧w'=(w.setCell ⟨be,0,none⟩ (.int .i64 0)).drew:=bN (pn (nn:=0) be b1 b2 w hbe)
theorem kr (be b1 b2:Nat) (c e0:Int) (hc:c≠0) (older:List PanicEntry) (w:World) (oT xb2:Value) (jY tb2:TypeId) (hbe:af w be #[.int .i64 e0] 37) (hb1:af w b1 #[oT] jY) (su:b1≠be) (hb2:af w b2 #[xb2] tb2) (Kj:b2≠be) (n12:b2≠b1) :
  CallsD Tryz.prog 93 #[.pointer (some ⟨be,0,none⟩),.pointer (some ⟨b1,0,none⟩),.pointer (some ⟨b2,0,none⟩)] (.panicking (aY c :: older)) w fun e u' w'=>e=.returned (.tuple #[])∧u'=.panicking ({ aY c with recovered:=true } :: older)∧w'=(((w.setCell ⟨be,0,none⟩ (.int .i64 c)).setCell ⟨b1,0,none⟩ (.slice none 0 0)).setCell ⟨b2,0,none⟩ (.slice none 0 0)).drew:=bN (pp (nn:=0) be b1 b2 c e0 hc older w oT xb2 jY tb2 hbe hb1 su hb2 Kj n12)
theorem wL {m:MD} {p:List Int} {c:Int} (h:fL m=c) (hc:c≠0):ej m p=([],c):=by unfold ej;rw [h,if_pos hc]
theorem sN {m:MD} {p:List Int} (h:fL m=0) (h2:8 < m.states.length):ej m p=([],4):=by unfold ej;rw [if_neg (by simpa using h),if_pos h2]
theorem wM {m:MD} {p:List Int} {c:Int} (h:fL m=0) (h2:¬ 8 < m.states.length) (h3:kD m p=c) (hc:c≠0):ej m p=([],c):=by unfold ej;rw [if_neg (by simpa using h),if_neg h2,h3,if_pos hc]
theorem pq {m:MD} {p:List Int} (h:fL m=0) (h2:¬ 8 < m.states.length) (h3:kD m p=0):ej m p=ax m p:=by unfold ej;rw [if_neg (by simpa using h),if_neg h2,if_neg (by simpa using h3)]
theorem mV {m:MD} (h:fL m=0):ew m=0∧qv m.ag≠1:=by
 unfold fL at h;by_cases h1:ew m=0
 ·rw [if_neg (fun k=>k h1)] at h;refine ⟨h1,fun e=>?_⟩;rw [if_pos e] at h;cases h
 ·rw [if_pos h1] at h;exact absurd h h1
theorem rm {m:MD} {p:List Int} {c:Int} (h:(ax m p).2=c) (hc:c≠0):ax m p=([],c):=by
 unfold ax at h ⊢;by_cases h1:bF (fun s=>(dY m p s).2) p.length=0
 ·rw [if_neg (fun k=>k h1)] at h ⊢;by_cases h2:(bG p.length p.length 0 (js m p)).2=0
  ·rw [if_neg (fun k=>k h2)] at h;exact absurd h.symm hc
  ·rw [if_pos h2] at h ⊢;rw [← h]
 ·rw [if_pos h1] at h ⊢;rw [← h]
theorem mu (mv pv:Value) (m:MD) (p:List Int) (w:World) (hm:eK w mv m) (hp:aV .i64 w pv p) (hlm:iO m) :
  Calls Tryz.prog 32 #[mv,pv] w fun e w'=>pY w w' e (ej m p)∧Ext w w':=by
 have qe:=kI (fun W mv (h:eK W mv m)=>iI mv m W h hlm);have M0:=kI (fun W mv pv (h:eK W mv m) (k:aV .i64 W pv p)=>mR mv pv m p W h k);have Oz:=kI (fun W mv pv (h:eK W mv m) (k:aV .i64 W pv p) (h1:ew m=0) (h2:kD m p=0)=>pj mv pv m p W h k hlm h1 h2);have HM:=kI hm;have HP:=kI hp;obtain ⟨m1,n1,m2,n2,m3,n3,rfl,-,-⟩:=hm;obtain ⟨pa,pc,rfl,-,-,-⟩:=hp.get;clear hp hlm;have bb0:=(((af.new w #[.bool m.ag.neg,.slice m1 m.ag.num.length n1,.slice m2 m.ag.den.length n2,.slice m3 m.states.length n3] 28).alloc (.cells #[.slice none 0 0] 29)).alloc (.cells #[.int .i64 0] 37));have bb1:=((af.new (w.alloc (.cells #[.bool m.ag.neg,.slice m1 m.ag.num.length n1,.slice m2 m.ag.den.length n2,.slice m3 m.states.length n3] 28)) #[.slice none 0 0] 29).alloc (.cells #[.int .i64 0] 37));have bb2:=(af.new ((w.alloc (.cells #[.bool m.ag.neg,.slice m1 m.ag.num.length n1,.slice m2 m.ag.den.length n2,.slice m3 m.states.length n3] 28)).alloc (.cells #[.slice none 0 0] 29)) #[.int .i64 0] 37);rw [World.size_alloc] at bb1;rw [World.size_alloc,World.size_alloc] at bb2;have x0:Ext w (((w.alloc (.cells #[.bool m.ag.neg,.slice m1 m.ag.num.length n1,.slice m2 m.ag.den.length n2,.slice m3 m.states.length n3] 28)).alloc (.cells #[.slice none 0 0] 29)).alloc (.cells #[.int .i64 0] 37)):=((((Ext.refl w).alloc _).alloc _).alloc _);have A0:=kI bb0;have A1:=kI bb1;have A2:=kI bb2;have X:=kI x0;clear x0 bb0 bb1 bb2;replace HM:=kI (HM.o.ext X.o);replace HP:=kI (HP.o.ext X.o);have hmf:∀ (fn:Fn) (first cap:Array Value) (w:World),(Instr.makeFunc fn first cap).run Tryz.prog w=.ok (.func fn first cap) w:=fun _ _ _ _=>rfl;go_enter_defers Tryz.func32,Tryz.ntmps32
 obtain ⟨aE,fA0,aC⟩:=A0.o.q3;obtain ⟨aQ,aR,lA1⟩:=A1.o.q3;obtain ⟨bB,bC,lA2⟩:=A2.o.q3;go_wp2_with fail;clear hmf;refine (qe.o _ _ HM.o).mono ?_;rintro e w1 ⟨rfl,hx⟩;clear aE fA0 aC aQ aR lA1 bB bC lA2;replace HM:=kI (HM.o.ext hx);replace HP:=kI (HP.o.ext hx);replace A0:=kI (A0.o.ext hx);replace A1:=kI (A1.o.ext hx);replace A2:=kI (A2.o.ext hx);replace X:=kI (X.o.trans hx);clear hx qe;obtain ⟨c1,hc1⟩:=gN (fL m);rw [← hc1];by_cases h1:c1=0
 rotate_left
 ·have E:=kI (wL (p:=p) hc1.symm h1);have q1:(c1 != 0)=true:=by simpa using h1
  have H1:=kI h1;clear hc1 h1;obtain ⟨aQ,aR,lA1⟩:=A1.o.q3;obtain ⟨bB,bC,lA2⟩:=A2.o.q3;go_wp2_with fail;clear aQ aR lA1 bB bC lA2;obtain ⟨wr,hwr⟩:=gN (((w1.setCell ⟨w.heap.size+1,0,none⟩ (.slice none 0 0)).setCell ⟨w.heap.size+1+1,0,none⟩ (.int .i64 c1)));have ha1:af wr (w.heap.size+1) #[.slice none 0 0] 29:=by
   have:=(A1.o.set 0 (.slice none 0 0)).setOther (a:=⟨w.heap.size+1+1,0,none⟩) (by dsimp only;omega) (.int .i64 c1);rw [hwr];simpa using this
  have ha2:af wr (w.heap.size+1+1) #[.int .i64 c1] 37:=by
   have:=(A2.o.setOther (a:=⟨w.heap.size+1,0,none⟩) (by dsimp only;omega) (.slice none 0 0)).set 0 (.int .i64 c1);rw [hwr];simpa using this
  have hxr:Ext w wr:=by rw [hwr];exact (X.o.set (p:=⟨w.heap.size+1,0,none⟩) (by dsimp only;omega) _).set (p:=⟨w.heap.size+1+1,0,none⟩) (by dsimp only;omega) _
  rw [← hwr];clear hwr;replace A1:=kI ha1;replace A2:=kI ha2;replace X:=kI hxr;clear ha1 ha2 hxr;refine leaves_cons (f:=88) (args:=#[.pointer (some ⟨w.heap.size+1+1,0,none⟩),.pointer (some ⟨w.heap.size+1,0,none⟩)]) (by simp) (by simp [go_sem]) ?_;refine (gW (w.heap.size+1+1) (w.heap.size+1) c1 H1.o _ _ _ A2.o A1.o (by omega)).mono ?_;rintro e u' w'' ⟨rfl,rfl,rfl⟩;obtain ⟨wf,hwf⟩:=gN (((wr.setCell ⟨w.heap.size+1+1,0,none⟩ (.int .i64 c1)).setCell ⟨w.heap.size+1,0,none⟩ (.slice none 0 0)));have hfe:af wf (w.heap.size+1+1) #[.int .i64 c1] 37:=by
   have:=((A2.o).set 0 (.int .i64 c1)).setOther (a:=⟨w.heap.size+1,0,none⟩) (by dsimp only;omega) (.slice none 0 0);rw [hwf];simpa using this
  have hf0:af wf (w.heap.size+1) #[.slice none 0 0] 29:=by
   have:=((A1.o).setOther (a:=⟨w.heap.size+1+1,0,none⟩) (by dsimp only;omega) (.int .i64 c1)).set 0 (.slice none 0 0);rw [hwf];simpa using this
  have cp:Ext w wf:=by rw [hwf];exact ((X.o).set (p:=⟨w.heap.size+1+1,0,none⟩) (by (try dsimp only);omega) _).set (p:=⟨w.heap.size+1,0,none⟩) (by (try dsimp only);omega) _
  rw [← hwf];clear hwf;have Fd:=kI hfe;have Fe:=kI hf0;have d5:=kI cp;have ke:=hfe.cell 0;have k0:=hf0.cell 0;simp only [List.getElem?_toArray,List.getElem?_cons_zero] at ke k0;clear hfe cp hf0;simp [Leaves,settle,results,Tryz.results32,go_sem,aY,ke,k0];exact ⟨pY.mk (bT.nil _ _) E.o,d5.o.drew⟩
 subst h1;have H1:=kI hc1.symm;clear hc1;by_cases h2:8 < m.states.length
 ·have E:=kI (sN (p:=p) H1.o h2);have q2:(8:Int) < (m.states.length:Int):=by omega
  obtain ⟨aE,fA0,aC⟩:=A0.o.q3;obtain ⟨aQ,aR,lA1⟩:=A1.o.q3;obtain ⟨bB,bC,lA2⟩:=A2.o.q3;go_wp2_with fail;clear aE fA0 aC aQ aR lA1 bB bC lA2;obtain ⟨wr,hwr⟩:=gN (((w1.setCell ⟨w.heap.size+1,0,none⟩ (.slice none 0 0)).setCell ⟨w.heap.size+1+1,0,none⟩ (.int .i64 4)));have ha1:af wr (w.heap.size+1) #[.slice none 0 0] 29:=by
   have:=(A1.o.set 0 (.slice none 0 0)).setOther (a:=⟨w.heap.size+1+1,0,none⟩) (by dsimp only;omega) (.int .i64 4);rw [hwr];simpa using this
  have ha2:af wr (w.heap.size+1+1) #[.int .i64 4] 37:=by
   have:=(A2.o.setOther (a:=⟨w.heap.size+1,0,none⟩) (by dsimp only;omega) (.slice none 0 0)).set 0 (.int .i64 4);rw [hwr];simpa using this
  have hxr:Ext w wr:=by rw [hwr];exact (X.o.set (p:=⟨w.heap.size+1,0,none⟩) (by dsimp only;omega) _).set (p:=⟨w.heap.size+1+1,0,none⟩) (by dsimp only;omega) _
  rw [← hwr];clear hwr;replace A1:=kI ha1;replace A2:=kI ha2;replace X:=kI hxr;clear ha1 ha2 hxr;refine leaves_cons (f:=88) (args:=#[.pointer (some ⟨w.heap.size+1+1,0,none⟩),.pointer (some ⟨w.heap.size+1,0,none⟩)]) (by simp) (by simp [go_sem]) ?_;refine (gW (w.heap.size+1+1) (w.heap.size+1) 4 (by decide) _ _ _ A2.o A1.o (by omega)).mono ?_;rintro e u' w'' ⟨rfl,rfl,rfl⟩;obtain ⟨wf,hwf⟩:=gN (((wr.setCell ⟨w.heap.size+1+1,0,none⟩ (.int .i64 4)).setCell ⟨w.heap.size+1,0,none⟩ (.slice none 0 0)));have hfe:af wf (w.heap.size+1+1) #[.int .i64 4] 37:=by
   have:=((A2.o).set 0 (.int .i64 4)).setOther (a:=⟨w.heap.size+1,0,none⟩) (by dsimp only;omega) (.slice none 0 0);rw [hwf];simpa using this
  have hf0:af wf (w.heap.size+1) #[.slice none 0 0] 29:=by
   have:=((A1.o).setOther (a:=⟨w.heap.size+1+1,0,none⟩) (by dsimp only;omega) (.int .i64 4)).set 0 (.slice none 0 0);rw [hwf];simpa using this
  have cp:Ext w wf:=by rw [hwf];exact ((X.o).set (p:=⟨w.heap.size+1+1,0,none⟩) (by (try dsimp only);omega) _).set (p:=⟨w.heap.size+1,0,none⟩) (by (try dsimp only);omega) _
  rw [← hwf];clear hwf;have Fd:=kI hfe;have Fe:=kI hf0;have d5:=kI cp;have ke:=hfe.cell 0;have k0:=hf0.cell 0;simp only [List.getElem?_toArray,List.getElem?_cons_zero] at ke k0;clear hfe cp hf0;simp [Leaves,settle,results,Tryz.results32,go_sem,aY,ke,k0];exact ⟨pY.mk (bT.nil _ _) E.o,d5.o.drew⟩
 have H2:=kI h2;have q2:¬ (8:Int) < (m.states.length:Int):=by omega
 clear h2;obtain ⟨aE,fA0,aC⟩:=A0.o.q3;obtain ⟨aQ,aR,lA1⟩:=A1.o.q3;obtain ⟨bB,bC,lA2⟩:=A2.o.q3;go_wp2_with fail;refine (M0.o _ _ _ HM.o HP.o).mono ?_;rintro e w2 ⟨rfl,hx⟩;clear aE fA0 aC aQ aR lA1 bB bC lA2;replace HM:=kI (HM.o.ext hx);replace HP:=kI (HP.o.ext hx);replace A0:=kI (A0.o.ext hx);replace A1:=kI (A1.o.ext hx);replace A2:=kI (A2.o.ext hx);replace X:=kI (X.o.trans hx);clear hx M0 q2;obtain ⟨c2,hc2⟩:=gN (kD m p);rw [← hc2];by_cases h3:c2=0
 rotate_left
 ·have E:=kI (wM H1.o H2.o hc2.symm h3);have q1:(c2 != 0)=true:=by simpa using h3
  have H3:=kI h3;clear hc2 h3;obtain ⟨aQ,aR,lA1⟩:=A1.o.q3;obtain ⟨bB,bC,lA2⟩:=A2.o.q3;go_wp2_with fail;clear aQ aR lA1 bB bC lA2;obtain ⟨wr,hwr⟩:=gN (((w2.setCell ⟨w.heap.size+1,0,none⟩ (.slice none 0 0)).setCell ⟨w.heap.size+1+1,0,none⟩ (.int .i64 c2)));have ha1:af wr (w.heap.size+1) #[.slice none 0 0] 29:=by
   have:=(A1.o.set 0 (.slice none 0 0)).setOther (a:=⟨w.heap.size+1+1,0,none⟩) (by dsimp only;omega) (.int .i64 c2);rw [hwr];simpa using this
  have ha2:af wr (w.heap.size+1+1) #[.int .i64 c2] 37:=by
   have:=(A2.o.setOther (a:=⟨w.heap.size+1,0,none⟩) (by dsimp only;omega) (.slice none 0 0)).set 0 (.int .i64 c2);rw [hwr];simpa using this
  have hxr:Ext w wr:=by rw [hwr];exact (X.o.set (p:=⟨w.heap.size+1,0,none⟩) (by dsimp only;omega) _).set (p:=⟨w.heap.size+1+1,0,none⟩) (by dsimp only;omega) _
  rw [← hwr];clear hwr;replace A1:=kI ha1;replace A2:=kI ha2;replace X:=kI hxr;clear ha1 ha2 hxr;refine leaves_cons (f:=88) (args:=#[.pointer (some ⟨w.heap.size+1+1,0,none⟩),.pointer (some ⟨w.heap.size+1,0,none⟩)]) (by simp) (by simp [go_sem]) ?_;refine (gW (w.heap.size+1+1) (w.heap.size+1) c2 H3.o _ _ _ A2.o A1.o (by omega)).mono ?_;rintro e u' w'' ⟨rfl,rfl,rfl⟩;obtain ⟨wf,hwf⟩:=gN (((wr.setCell ⟨w.heap.size+1+1,0,none⟩ (.int .i64 c2)).setCell ⟨w.heap.size+1,0,none⟩ (.slice none 0 0)));have hfe:af wf (w.heap.size+1+1) #[.int .i64 c2] 37:=by
   have:=((A2.o).set 0 (.int .i64 c2)).setOther (a:=⟨w.heap.size+1,0,none⟩) (by dsimp only;omega) (.slice none 0 0);rw [hwf];simpa using this
  have hf0:af wf (w.heap.size+1) #[.slice none 0 0] 29:=by
   have:=((A1.o).setOther (a:=⟨w.heap.size+1+1,0,none⟩) (by dsimp only;omega) (.int .i64 c2)).set 0 (.slice none 0 0);rw [hwf];simpa using this
  have cp:Ext w wf:=by rw [hwf];exact ((X.o).set (p:=⟨w.heap.size+1+1,0,none⟩) (by (try dsimp only);omega) _).set (p:=⟨w.heap.size+1,0,none⟩) (by (try dsimp only);omega) _
  rw [← hwf];clear hwf;have Fd:=kI hfe;have Fe:=kI hf0;have d5:=kI cp;have ke:=hfe.cell 0;have k0:=hf0.cell 0;simp only [List.getElem?_toArray,List.getElem?_cons_zero] at ke k0;clear hfe cp hf0;simp [Leaves,settle,results,Tryz.results32,go_sem,aY,ke,k0];exact ⟨pY.mk (bT.nil _ _) E.o,d5.o.drew⟩
 subst h3;have H3:=kI hc2.symm;clear hc2;obtain ⟨aE,fA0,aC⟩:=A0.o.q3;obtain ⟨aQ,aR,lA1⟩:=A1.o.q3;obtain ⟨bB,bC,lA2⟩:=A2.o.q3;have XS:=kI X.o.size;go_wp2_with fail;refine (Oz.o _ _ _ HM.o HP.o (mV H1.o).1 H3.o).mono ?_;rintro e w3 ⟨he,hx⟩;clear aE fA0 aC aQ aR lA1 bB bC lA2;replace HM:=kI (HM.o.ext hx);replace HP:=kI (HP.o.ext hx);replace A0:=kI (A0.o.ext hx);replace A1:=kI (A1.o.ext hx);replace A2:=kI (A2.o.ext hx);replace X:=kI (X.o.trans hx);clear hx Oz;have E4:=kI (pq H1.o H2.o H3.o);obtain ⟨S2,hS2⟩:=gN (ax m p);rw [← hS2] at he E4;obtain ⟨l,c3⟩:=S2;dsimp only at he E4;by_cases h4:c3=0
 rotate_left
 ·obtain rfl:=he.oX h4;have E:=kI (show ej m p=([],c3) from by rw [E4.o,hS2];exact rm (by rw [← hS2]) h4);have H4:=kI h4;clear he hS2 h4;refine leaves_cons (f:=88) (args:=#[.pointer (some ⟨w.heap.size+1+1,0,none⟩),.pointer (some ⟨w.heap.size+1,0,none⟩)]) (by simp) (by simp [go_sem]) ?_;refine (sM (w.heap.size+1+1) (w.heap.size+1) c3 0 H4.o [] _ _ _ A2.o A1.o (by omega)).mono ?_;rintro e u' w'' ⟨rfl,rfl,rfl⟩;obtain ⟨wf,hwf⟩:=gN (((w3.setCell ⟨w.heap.size+1+1,0,none⟩ (.int .i64 c3)).setCell ⟨w.heap.size+1,0,none⟩ (.slice none 0 0)));have hfe:af wf (w.heap.size+1+1) #[.int .i64 c3] 37:=by
   have:=((A2.o).set 0 (.int .i64 c3)).setOther (a:=⟨w.heap.size+1,0,none⟩) (by dsimp only;omega) (.slice none 0 0);rw [hwf];simpa using this
  have hf0:af wf (w.heap.size+1) #[.slice none 0 0] 29:=by
   have:=((A1.o).setOther (a:=⟨w.heap.size+1+1,0,none⟩) (by dsimp only;omega) (.int .i64 c3)).set 0 (.slice none 0 0);rw [hwf];simpa using this
  have cp:Ext w wf:=by rw [hwf];exact ((X.o).set (p:=⟨w.heap.size+1+1,0,none⟩) (by (try dsimp only);omega) _).set (p:=⟨w.heap.size+1,0,none⟩) (by (try dsimp only);omega) _
  rw [← hwf];clear hwf;have Fd:=kI hfe;have Fe:=kI hf0;have d5:=kI cp;have ke:=hfe.cell 0;have k0:=hf0.cell 0;simp only [List.getElem?_toArray,List.getElem?_cons_zero] at ke k0;clear hfe cp hf0;simp [Leaves,settle,results,Tryz.results32,go_sem,aY,ke,k0];exact ⟨pY.mk (bT.nil _ _) E.o,d5.o.drew⟩
 subst h4;obtain ⟨rv,rfl,ho⟩:=he.oW;obtain ⟨ra,rc,rfl⟩:=ho.shape;have OW:=kI (ho.mono XS.o);clear he ho hS2;obtain ⟨aQ,aR,lA1⟩:=A1.o.q3;obtain ⟨bB,bC,lA2⟩:=A2.o.q3;go_wp2_with fail;clear aQ aR lA1 bB bC lA2;obtain ⟨wt,hwt⟩:=gN ((w3.setCell ⟨w.heap.size+1,0,none⟩ (.slice ra l.length rc)).setCell ⟨w.heap.size+1+1,0,none⟩ (.int .i64 0));have kw:Ext w wt:=by rw [hwt];exact (X.o.set (p:=⟨w.heap.size+1,0,none⟩) (by dsimp only;omega) (.slice ra l.length rc)).set (p:=⟨w.heap.size+1+1,0,none⟩) (by dsimp only;omega) _
 have hA1:af wt (w.heap.size+1) #[(.slice ra l.length rc)] 29:=by rw [hwt];have:=(A1.o.set 0 (.slice ra l.length rc)).setOther (a:=⟨w.heap.size+1+1,0,none⟩) (by dsimp only;omega) (.int .i64 0);simpa using this
 have hA2:af wt (w.heap.size+1+1) #[.int .i64 0] 37:=by rw [hwt];have:=(A2.o.setOther (a:=⟨w.heap.size+1,0,none⟩) (by dsimp only;omega) (.slice ra l.length rc)).set 0 (.int .i64 0);simpa using this
 have how:bT w.heap.size wt (.slice ra l.length rc) l:=by rw [hwt];exact (OW.o.keeps (ak A1.o 0 (.slice ra l.length rc)) (by decide) (by decide)).keeps (ak (A2.o.setOther (a:=⟨w.heap.size+1,0,none⟩) (by dsimp only;omega) (.slice ra l.length rc)) 0 (.int .i64 0)) (by decide) (by decide)
 rw [← hwt];replace A1:=kI hA1;replace A2:=kI hA2;replace X:=kI kw;replace OW:=kI how;clear hwt kw hA1 hA2 how A0;refine leaves_cons (f:=88) (args:=#[.pointer (some ⟨w.heap.size+1+1,0,none⟩),.pointer (some ⟨w.heap.size+1,0,none⟩)]) (by simp) (by simp [go_sem]) ?_;refine (sL (w.heap.size+1+1) (w.heap.size+1) _ A2.o).mono ?_;rintro e u' w'' ⟨rfl,rfl,rfl⟩;obtain ⟨wf,hwf⟩:=gN ((wt.setCell ⟨w.heap.size+1+1,0,none⟩ (.int .i64 0)));have hfe:af wf (w.heap.size+1+1) #[.int .i64 0] 37:=by
  have:=(A2.o).set 0 (.int .i64 0);rw [hwf];simpa using this
 have hf0:af wf (w.heap.size+1) #[(.slice ra l.length rc)] 29:=by
  have:=(A1.o).setOther (a:=⟨w.heap.size+1+1,0,none⟩) (by dsimp only;omega) (.int .i64 0);rw [hwf];simpa using this
 have cp:Ext w wf:=by rw [hwf];exact (X.o).set (p:=⟨w.heap.size+1+1,0,none⟩) (by (try dsimp only);omega) _
 have Zi:=kI (show bT w.heap.size wf (.slice ra l.length rc) l from by rw [hwf];exact OW.o.keeps (ak A2.o 0 (.int .i64 0)) (by decide) (by decide));rw [← hwf];clear hwf;have Fd:=kI hfe;have Fe:=kI hf0;have d5:=kI cp;have ke:=hfe.cell 0;have k0:=hf0.cell 0;simp only [List.getElem?_toArray,List.getElem?_cons_zero] at ke k0;clear hfe cp hf0;simp [Leaves,settle,results,Tryz.results32,go_sem,aY,ke,k0];exact ⟨pY.mk (Zi.o.ext' (Ext.refl _).drew) E4.o,d5.o.drew⟩
theorem Cp {a b:RR} (ha:au a) (hb:au b) (ca:am a=0) (cb:am b=0) (h:qv a=qv b):a=b:=by
 rw [← (dW ha ca).2.2,← (dW hb cb).2.2,h]
def NN (r:RR):Prop:=am r=0∧au r∧r.neg=false
def sumF (f:Nat→Rat):Nat→Rat
 | 0=>0
 | n+1=>sumF f n+f n
theorem dV {f g:Nat→Rat}:∀ {n:Nat},(∀ i,i < n→f i=g i)→sumF f n=sumF g n
 | 0,_=>rfl
 | n+1,h=>by
  show sumF f n+f n=sumF g n+g n;rw [dV (fun i hi=>h i (by omega)),h n (by omega)]
theorem mw {f:Nat→Rat}:∀ {n:Nat},(∀ i,i < n→f i=0)→sumF f n=0
 | 0,_=>rfl
 | n+1,h=>by
  show sumF f n+f n=0;rw [mw (fun i hi=>h i (by omega)),h n (by omega),Rat.add_zero]
theorem pr {f g:Nat→Rat} {i:Nat}:∀ {n:Nat},i < n→(∀ j,j < n→j≠i→g j=f j)→sumF g n=sumF f n+(g i - f i)
 | 0,h,_=>by omega
 | n+1,h,hj=>by
  show sumF g n+g n=sumF f n+f n+(g i - f i);by_cases e:i=n
  ·subst e;rw [dV (f:=g) (g:=f) (fun j h1=>hj j (by omega) (by omega))];grind
  ·rw [pr (n:=n) (by omega) (fun j h1 h2=>hj j (by omega) h2),hj n (by omega) (by omega)];grind
theorem wN (f:Nat→Rat):∀ n,sumF f (n+1)=f 0+sumF (fun i=>f (i+1)) n
 | 0=>by show (0:Rat)+f 0=f 0+0;rw [Rat.zero_add,Rat.add_zero]
 | n+1=>by
  show sumF f (n+1)+f (n+1)=f 0+(sumF (fun i=>f (i+1)) n+f (n+1));rw [wN f n,Rat.add_assoc]
theorem pt (c:Rat) (f:Nat→Rat):∀ n,sumF (fun i=>c*f i) n=c*sumF f n
 | 0=>by show (0:Rat)=c*0;rw [Rat.mul_zero]
 | n+1=>by
  show sumF (fun i=>c*f i) n+c*f n=c*(sumF f n+f n);rw [pt c f n,Rat.mul_add]
def bM:List Out→(Nat→Rat)→Rat
 | [],_=>0
 | o :: os,f=>qv o.2*f o.1.toNat+bM os f
theorem iJ (v:List RR):∀ l:List Out,uo (eV l) (jg v l)=bM l (fun t=>qv (v.getD t zR))
 | []=>rfl
 | o :: l=>by
  show qv o.2*qv (v.getD o.1.toNat zR)+uo (eV l) (jg v l)=_;rw [iJ v l];rfl
theorem pu {f g:Nat→Rat}:∀ {l:List Out},(∀ o ∈ l,f o.1.toNat=g o.1.toNat)→bM l f=bM l g
 | [],_=>rfl
 | o :: l,h=>by
  show qv o.2*f o.1.toNat+bM l f=qv o.2*g o.1.toNat+bM l g;rw [h o (by simp),pu (fun x hx=>h x (by simp [hx]))]
def mW (n:Nat) (os:List Out):Prop:=∀ o ∈ os,0≤o.1∧o.1 < (n:Int)∧am o.2=0∧o.2.neg=false
theorem I8 {r:RR} (h:r.num=[]):qv r=0:=by
 unfold qv;rw [h];have e:sg r.neg (nv [])=0:=by cases r.neg <;> rfl
 rw [e,Rat.zero_mkRat]
def TT (m:MD):List (List Int)→(Nat→Rat)→Nat→Rat
 | [],f=>f
 | p :: ps,f=>fun u=>bM (m.act u (p.getD u 0).toNat).next (TT m ps f)
def fd (m:MD) (p:List Int):Prop:=p.length=m.states.length∧∀ u,u < m.states.length→0≤p.getD u 0∧p.getD u 0 < ((m.states.getD u []).length:Int)
theorem iK {m:MD} (hm:ew m=0) {p:List Int} (hp:fd m p) {u:Nat} (hu:u < m.states.length):mW m.states.length (m.act u (p.getD u 0).toNat).next:=by
 have h:=hp.2 u hu;exact sG (eL (mt hm hu (by omega))).2.2.2.1
theorem uD:∀ (l:List RR) (s:RR),am s=0→(cN s l).2=0→qv (cN s l).1=qv s+(l.map qv).foldr (· + ·) 0
 | [],s,_,_=>by show qv s=qv s+0;rw [Rat.add_zero]
 | x :: l,s,hs,h=>by
  unfold cN at h ⊢;by_cases h1:(cE s x).2=0
  ·rw [if_pos h1] at h ⊢;rw [uD l _ (gg h1).2 h,(gg h1).1];show _=qv s+(qv x+_);rw [Rat.add_assoc]
  ·rw [if_neg h1] at h;exact absurd h h1
theorem rn:∀ (l:List Out),bM l (fun _=>1)=((eV l).map qv).foldr (· + ·) 0
 | []=>rfl
 | o :: l=>by
  show qv o.2*1+bM l (fun _=>1)=qv o.2+((eV l).map qv).foldr (· + ·) 0;rw [Rat.mul_one,rn l]
theorem yl {n:Nat} {x:aU} (h:ex n x=0):bM x.next (fun _=>1)=1:=by
 have h5:=(eL h).2.2.2.2;have e:=uD (eV x.next) zR rfl (by rw [h5]);rw [h5,lH,Rat.zero_add] at e;dsimp only at e;rw [iZ] at e;rw [rn,← e]
theorem jy {a b:RR} (h:(bR a b).2=0):qv (bR a b).1=qv a - qv b∧am (bR a b).1=0:=by
 obtain ⟨h1,h2⟩:=wA h;have e:bR a b=dB (qv a - qv b):=h1;rw [e];exact lG h2
theorem jz {a b:RR} (h:(bD a b).2=0):b.num≠[]∧qv (bD a b).1=qv a / qv b∧am (bD a b).1=0∧am b=0:=by
 have h0:cK a b=0:=by
  unfold bD iS at h;by_cases e:cK a b=0
  ·exact e
  ·rw [if_neg e] at h;exact h
 by_cases e:b.num=[]
 ·unfold bD iS at h;rw [if_pos h0,if_pos e] at h;cases h
 ·have e1:bD a b=dB (qv a / qv b):=by unfold bD iS;rw [if_pos h0,if_neg e]
  rw [e1] at h ⊢;have:=lG h;exact ⟨e,this.1,this.2,(bA h0).2⟩
theorem Gy {b:RR} (hl:au b) (hc:am b=0) (h:b.num≠[]):qv b≠0:=fun e=>h (by
 have:=Cp hl aM hc rfl (by rw [e,lH]);rw [this];rfl)
theorem fD {x f y:RR} (h:(fh x f y).2=0):qv (fh x f y).1=qv x - qv f*qv y∧am (fh x f y).1=0:=by
 unfold fh at h ⊢;by_cases h1:(mulR f y).2=0
 ·rw [if_neg (fun k=>k h1)] at h ⊢;have:=jy h;rw [(ij h1).1] at this;exact this
 ·rw [if_pos h1] at h;exact absurd h h1
theorem pw (f g:Nat→Rat):∀ n,sumF (fun i=>f i - g i) n=sumF f n - sumF g n
 | 0=>by show (0:Rat)=0 - 0;grind
 | n+1=>by simp only [sumF,pw f g n];grind
theorem uE (f:Nat→Rat) (a:Nat):∀ b,sumF f (a+b)=sumF f a+sumF (fun j=>f (a+j)) b
 | 0=>by show sumF f a=sumF f a+0;grind
 | b+1=>by
  show sumF f (a+b)+f (a+b)=sumF f a+(sumF (fun j=>f (a+j)) b+f (a+b));rw [uE f a b];grind
theorem px (x f y:RR):au (fh x f y).1:=by
 unfold fh;split
 ·exact aM
 ·exact lh _ _ _
def Sat (n:Nat) (M:Nat→RR) (S:RR) (x:Nat→Rat):Prop:=sumF (fun i=>qv (M i)*x i) n=qv S
theorem ro {n s t:Nat} {y y':Sys} (h:eY n s t y=(y',0)) (Zj:s≠t) :
  ((∀ i,au (y.M t i))→∀ i,au (y'.M t i))∧
  (∀ r,r≠t→y'.M r=y.M r∧y'.S r=y.S r)∧y'.V=y.V∧(bD (y.M t s) (y.M s s)).2=0∧(∀ i,i < n→qv (y'.M t i)=qv (y.M t i) - qv (bD (y.M t s) (y.M s s)).1*qv (y.M s i))∧∀ x,Sat n (y'.M t) (y'.S t) x→Sat n (y.M s) (y.S s) x→Sat n (y.M t) (y.S t) x:=by
 unfold eY at h;by_cases h1:(bD (y.M t s) (y.M s s)).2=0
 ·rw [if_neg (fun k=>k h1)] at h;by_cases h2:nm (y.M t) (bD (y.M t s) (y.M s s)).1 (y.M s) n=0
  ·rw [if_neg (fun k=>k h2)] at h;by_cases h3:(fh (y.S t) (bD (y.M t s) (y.M s s)).1 (y.S s)).2=0
   ·rw [if_neg (fun k=>k h3)] at h;injection h with h _
    subst h;have hrow:∀ i,i < n→qv (bU y.M t (iH (y.M t) (bD (y.M t s) (y.M s s)).1 (y.M s) n) t i)=qv (y.M t i) - qv (bD (y.M t s) (y.M s s)).1*qv (y.M s i):=fun i hi=>by
     rw [aW];unfold iH;rw [if_pos hi];exact (fD (bm h2 i hi)).1
    refine ⟨fun hl i=>?_,fun r hr=>⟨bS hr,bS hr⟩,rfl,h1,hrow,fun x hx hs=>?_⟩
    ·show au (bU y.M t _ t i);rw [aW];unfold iH;split
     ·exact px _ _ _
     ·exact hl i
    unfold Sat at hx hs ⊢;dsimp only at hx;rw [aW (f:=y.S),(fD h3).1] at hx;have e:sumF (fun i=>qv (bU y.M t (iH (y.M t) (bD (y.M t s) (y.M s s)).1 (y.M s) n) t i)*x i) n=sumF (fun i=>qv (y.M t i)*x i) n - qv (bD (y.M t s) (y.M s s)).1*sumF (fun i=>qv (y.M s i)*x i) n:=by
     rw [← pt,← pw];exact dV (fun i hi=>by rw [hrow i hi];grind)
    rw [e,hs] at hx;grind
   ·rw [if_pos h3] at h;injection h with _ h;exact absurd h h3
  ·rw [if_pos h2] at h;injection h with _ h;exact absurd h h2
 ·rw [if_pos h1] at h;injection h with _ h;exact absurd h h1
theorem pz {n s:Nat} {y:Sys} (hl:∀ t i,au (y.M t i)):∀ {k:Nat} {y':Sys},bV n s y k=(y',0)→s+1+k≤n→
  (∀ r,(r≤s∨s+k < r)→y'.M r=y.M r∧y'.S r=y.S r)∧y'.V=y.V∧(∀ t i,au (y'.M t i))∧
  ∀ t,s < t→t≤s+k→(∃ f,∀ i,i < n→qv (y'.M t i)=qv (y.M t i) - f*qv (y.M s i))∧qv (y'.M t s)=0∧
   ∀ x,Sat n (y'.M t) (y'.S t) x→Sat n (y.M s) (y.S s) x→Sat n (y.M t) (y.S t) x
 | 0,y',h,_=>by
  injection h with h _;subst h
  exact ⟨fun _ _=>⟨rfl,rfl⟩,rfl,hl,fun t h1 h2=>absurd h1 (by omega)⟩
 | k+1,y',h,hk=>by
  unfold bV at h;by_cases h1:(bV n s y k).2=0
  ·rw [if_neg (fun k=>k h1)] at h;obtain ⟨a1,a2,a3,a4⟩:=pz hl (y':=(bV n s y k).1) (k:=k) (by rw [← h1]) (by omega);obtain ⟨b1,b2,b3,b4,b5,b6⟩:=ro h (by omega);have es:=a1 s (.inl (Nat.le_refl _));have et:=a1 (s+1+k) (.inr (by omega));rw [es.1,es.2,et.1,et.2] at b6;rw [es.1,et.1] at b4 b5;refine ⟨fun r hr=>?_,b3.trans a2,fun t i=>?_,fun t h2 h3=>?_⟩
   ·have:=b2 r (by omega);rw [this.1,this.2];exact a1 r (by omega)
   ·by_cases e:t=s+1+k
    ·rw [e];exact b1 (fun i=>a3 _ i) i
    ·rw [(b2 t e).1];exact a3 t i
   ·by_cases e:t=s+1+k
    ·subst e;refine ⟨⟨_,b5⟩,?_,b6⟩;obtain ⟨d1,d2,_,d4⟩:=jz b4;have:=Gy (hl s s) d4 d1;rw [b5 s (by omega),d2];grind
    ·rw [(b2 t e).1,(b2 t e).2];exact a4 t h2 (by omega)
  ·rw [if_pos h1] at h;rw [h] at h1;exact absurd rfl h1
theorem uF {s:Nat} {y:Sys}:∀ {k:Nat} {v:RR},cT s y k=(v,0)→qv v=qv (y.S s) - sumF (fun j=>qv (y.M s (s+1+j))*qv (y.V (s+1+j))) k
 | 0,v,h=>by
  injection h with h _;subst h
  show qv (y.S s)=qv (y.S s) - 0;grind
 | k+1,v,h=>by
  unfold cT at h;by_cases h1:(cT s y k).2=0
  ·rw [if_neg (fun k=>k h1)] at h;have a:=uF (y:=y) (s:=s) (k:=k) (v:=(cT s y k).1) (by rw [← h1]);have b:=fD (x:=(cT s y k).1) (f:=y.M s (s+1+k)) (y:=y.V (s+1+k)) (by rw [h]);rw [h,a] at b;show qv v=qv (y.S s) - (sumF (fun j=>qv (y.M s (s+1+j))*qv (y.V (s+1+j))) k+qv (y.M s (s+1+k))*qv (y.V (s+1+k)));rw [b.1];grind
  ·rw [if_pos h1] at h;rw [h] at h1;exact absurd rfl h1
theorem uG {n:Nat}:∀ {k s:Nat} {y y':Sys},bG n k s y=(y',0)→s+k=n→(∀ t i,au (y.M t i))→(∀ t,s≤t→t < n→∀ i,i < s→qv (y.M t i)=0)→
  (∀ r,r < s→y'.M r=y.M r∧y'.S r=y.S r∧y'.V r=y.V r)∧∀ t,s≤t→t < n→am (y'.V t)=0∧Sat n (y.M t) (y.S t) (fun i=>qv (y'.V i))
 | 0,s,y,y',h,hk,_,_=>by
  injection h with h _;subst h
  exact ⟨fun _ _=>⟨rfl,rfl,rfl⟩,fun t h1 h2=>absurd h1 (by omega)⟩
 | k+1,s,y,y',h,hk,hl,hz=>by
  unfold bG at h;by_cases h1:(bV n s y (n - (s+1))).2=0
  ·rw [if_neg (fun k=>k h1)] at h;obtain ⟨a1,a2,a3,a4⟩:=pz hl (y':=(bV n s y (n - (s+1))).1) (k:=n - (s+1)) (by rw [← h1]) (by omega);generalize (bV n s y (n - (s+1))).1=y1 at *
   by_cases h2:(bG n k (s+1) y1).2=0
   ·rw [if_neg (fun k=>k h2)] at h;obtain ⟨c1,c2⟩:=uG (y':=(bG n k (s+1) y1).1) (n:=n) (k:=k) (s:=s+1) (y:=y1) (by rw [← h2]) (by omega) a3 (fun t ht htn i hi=>by
     obtain ⟨⟨f,f1⟩,f2,_⟩:=a4 t (by omega) (by omega);by_cases e:i=s
     ·rw [e];exact f2
     ·rw [f1 i (by omega),hz t (by omega) htn i (by omega),hz s (Nat.le_refl _) (by omega) i (by omega)];grind)
    generalize (bG n k (s+1) y1).1=y2 at *
    by_cases h3:(cT s y2 (n - (s+1))).2=0
    ·rw [if_neg (fun k=>k h3)] at h;have hb:=uF (v:=(cT s y2 (n - (s+1))).1) (y:=y2) (s:=s) (k:=n - (s+1)) (by rw [← h3]);generalize (cT s y2 (n - (s+1))).1=b at *
     by_cases h4:(bD b (y2.M s s)).2=0
     ·rw [if_neg (fun k=>k h4)] at h;injection h with h _
      obtain ⟨d1,d2,d3,d4⟩:=jz h4;generalize (bD b (y2.M s s)).1=v at *
      have es:=c1 s (by omega);have ey:=a1 s (.inl (Nat.le_refl _));rw [es.1,es.2.1] at hb;rw [es.1] at d1 d2 d4;rw [ey.1,ey.2] at hb;rw [ey.1] at d1 d2 d4;have hne:=Gy (hl s s) d4 d1;have hV:∀ i,y'.V i=bU y2.V s v i:=fun i=>by rw [← h]
      have U7:y'.V s=v:=by rw [hV,aW]
      have OD:∀ i,i≠s→y'.V i=y2.V i:=fun i hi=>by rw [hV,bS hi]
      have hrow:Sat n (y.M s) (y.S s) (fun i=>qv (y'.V i)):=by
       unfold Sat;have en:n=s+1+(n - (s+1)):=by omega
       have e0:sumF (fun i=>qv (y.M s i)*qv (y'.V i)) n=sumF (fun i=>qv (y.M s i)*qv (y'.V i)) (s+1)+sumF (fun j=>qv (y.M s (s+1+j))*qv (y'.V (s+1+j))) (n - (s+1)):=by
        rw [← uE,← en]
       have e1:sumF (fun i=>qv (y.M s i)*qv (y'.V i)) (s+1)=qv (y.M s s)*qv v:=by
        show sumF _ s+qv (y.M s s)*qv (y'.V s)=_;rw [mw (fun i hi=>by rw [hz s (Nat.le_refl _) (by omega) i hi,Rat.zero_mul]),U7];grind
       have e2:sumF (fun j=>qv (y.M s (s+1+j))*qv (y'.V (s+1+j))) (n - (s+1))=sumF (fun j=>qv (y.M s (s+1+j))*qv (y2.V (s+1+j))) (n - (s+1)):=
        dV (fun j _=>by rw [OD (s+1+j) (by omega)])
       rw [e0,e1,e2,d2];grind
      refine ⟨fun r hr=>⟨?_,?_,?_⟩,fun t ht htn=>?_⟩
      ·rw [← h];exact (c1 r (by omega)).1.trans (a1 r (.inl (by omega))).1
      ·rw [← h];exact (c1 r (by omega)).2.1.trans (a1 r (.inl (by omega))).2
      ·rw [OD r (by omega),(c1 r (by omega)).2.2,a2]
      ·by_cases e:t=s
       ·subst e;exact ⟨by rw [U7];exact d3,hrow⟩
       ·have g:=c2 t (by omega) htn;refine ⟨by rw [OD t e];exact g.1,(a4 t (by omega) (by omega)).2.2 _ ?_ hrow⟩;have g2:=g.2;unfold Sat at g2 ⊢;rw [← g2];refine dV (fun i hi=>?_);by_cases ei:i=s
        ·rw [ei,(a4 t (by omega) (by omega)).2.1];grind
        ·show qv (y1.M t i)*qv (y'.V i)=qv (y1.M t i)*qv (y2.V i);rw [OD i ei]
     ·rw [if_pos h4] at h;injection h with _ h;exact absurd h h4
    ·rw [if_pos h3] at h;injection h with _ h;exact absurd h h3
   ·rw [if_pos h2] at h;rw [h] at h2;exact absurd rfl h2
  ·rw [if_pos h1] at h;rw [h] at h1;exact absurd rfl h1
theorem uH {n t:Nat} (M:Nat→RR) (v:RR) (x:Nat→Rat) (ht:t < n):sumF (fun i=>qv (bU M t v i)*x i) n=sumF (fun i=>qv (M i)*x i) n+(qv v - qv (M t))*x t:=by
 rw [pr (f:=fun i=>qv (M i)*x i) (g:=fun i=>qv (bU M t v i)*x i) ht (fun j h1 h2=>by
  show qv (bU M t v j)*x j=qv (M j)*x j;rw [bS h2])]
 show _+(qv (bU M t v t)*x t - qv (M t)*x t)=_;rw [aW];grind
theorem lM {f:Nat→RR} {t:Nat} {v:RR} (h:∀ i,au (f i)) (hv:au v) (i:Nat):au (bU f t v i):=by
 unfold bU;split
 ·exact hv
 ·exact h i
theorem zG (l:List Out) (x:Nat→Rat) (k:Nat) (h:k < l.length):bM (l.take (k+1)) x=bM (l.take k) x+qv (l.getD k dO).2*x (l.getD k dO).1.toNat:=by
 induction l generalizing k with
 | nil=>exact absurd h (by simp)
 | cons o os ih=>
  cases k with
  | zero=>show qv o.2*x o.1.toNat+bM (os.take 0) x=bM [] x+qv o.2*x o.1.toNat;show _+(0:Rat)=0+_;grind
  | succ k=>
   have:=ih k (by simpa using h);show qv o.2*x o.1.toNat+bM (os.take (k+1)) x=qv o.2*x o.1.toNat+bM (os.take k) x+qv (os.getD k dO).2*x (os.getD k dO).1.toNat;rw [this];grind
theorem pA {n:Nat} (d:RR) (l:List Out) (s:Nat) (hs:s < n) (hl:∀ o ∈ l,o.1.toNat < n):∀ {k:Nat} {M:Nat→RR},di d l s k=(M,0)→k≤l.length→
  (∀ i,au (M i))∧∀ x:Nat→Rat,sumF (fun i=>qv (M i)*x i) n=x s - qv d*bM (l.take k) x
 | 0,M,h,_=>by
  injection h with h _;subst h
  refine ⟨lM (fun _=>aM) (cJ _),fun x=>?_⟩;rw [uH _ _ _ hs,mw (fun i _=>by rw [lH,Rat.zero_mul]),iZ,lH];show _=x s - qv d*(0:Rat);grind
 | k+1,M,h,hk=>by
  unfold di at h;by_cases h1:(di d l s k).2=0
  ·rw [if_neg (fun k=>k h1)] at h;obtain ⟨a1,a2⟩:=pA d l s hs hl (M:=(di d l s k).1) (k:=k) (by rw [← h1]) (by omega);generalize (di d l s k).1=M1 at *
   by_cases h2:(fh (M1 (l.getD k dO).1.toNat) d (l.getD k dO).2).2=0
   ·rw [if_neg (fun k=>k h2)] at h;injection h with h _;subst h
    have ht:(l.getD k dO).1.toNat < n:=hl _ (by rw [List.getD_eq_getElem?_getD,List.getElem?_eq_getElem (by omega)];exact List.getElem_mem _);refine ⟨lM a1 (px _ _ _),fun x=>?_⟩;rw [uH _ _ _ ht,a2 x,(fD h2).1,zG l x k (by omega)];grind
   ·rw [if_pos h2] at h;injection h with _ h;exact absurd h h2
  ·rw [if_pos h1] at h;rw [h] at h1;exact absurd rfl h1
theorem ik (d:RR) (l:List Out) (s:Nat):∀ k i,au ((di d l s k).1 i)
 | 0,i=>lM (fun _=>aM) (cJ _) i
 | k+1,i=>by
  unfold di;split
  ·exact ik d l s k i
  ·split
   ·exact ik d l s k i
   ·exact lM (ik d l s k) (px _ _ _) i
theorem zH {m:MD} {p:List Int} {vs:List RR} (h:ax m p=(vs,0)) (hl:∀ s,s < p.length→∀ o ∈ (bl m p s).next,o.1.toNat < p.length) :
  vs.length=p.length∧∀ s,s < p.length→am (vs.getD s zR)=0∧qv (vs.getD s zR)=qv (bl m p s).cost+qv m.ag*bM (bl m p s).next (fun t=>qv (vs.getD t zR)):=by
 unfold ax at h;by_cases h1:bF (fun s=>(dY m p s).2) p.length=0
 ·rw [if_neg (fun k=>k h1)] at h;by_cases h2:(bG p.length p.length 0 (js m p)).2=0
  ·rw [if_neg (fun k=>k h2)] at h;injection h with h _
   have hrow:∀ s,s < p.length→_:=fun s hs=>pA m.ag (bl m p s).next s hs (hl s hs) (M:=(dY m p s).1) (by
    have:=bm h1 s hs;unfold dY at this ⊢;rw [← this]) (Nat.le_refl _)
   obtain ⟨r1,r2⟩:=uG (n:=p.length) (k:=p.length) (s:=0) (y:=js m p) (y':=(bG p.length p.length 0 (js m p)).1) (by rw [← h2]) (by omega)
    (fun t i=>ik _ _ _ _ i) (fun _ _ _ i hi=>absurd hi (by omega))
   generalize (bG p.length p.length 0 (js m p)).1=y at *
   subst h;have hv:∀ i,i < p.length→((List.range p.length).map y.V).getD i zR=y.V i:=fun i hi=>by
    rw [List.getD_eq_getElem?_getD,List.getElem?_eq_getElem (by simpa using hi)];simp
   refine ⟨by simp,fun s hs=>?_⟩;obtain ⟨g1,g2⟩:=r2 s (Nat.zero_le _) hs;rw [hv s hs];refine ⟨g1,?_⟩;have e1:=(hrow s hs).2 (fun i=>qv (y.V i));have e2:sumF (fun i=>qv ((dY m p s).1 i)*qv (y.V i)) p.length=qv (bl m p s).cost:=g2;rw [e2,List.take_length] at e1;have e3:bM (bl m p s).next (fun t=>qv (((List.range p.length).map y.V).getD t zR))=bM (bl m p s).next (fun i=>qv (y.V i)):=pu (fun o ho=>by rw [hv _ (hl s hs o ho)]);rw [e3];grind
  ·rw [if_pos h2] at h;injection h with _ h;exact absurd h h2
 ·rw [if_pos h1] at h;injection h with _ h;exact absurd h h1
theorem sO {M:Rat} {f:Nat→Rat}:∀ {l:List Out},(∀ o ∈ l,0≤qv o.2)→(∀ o ∈ l,f o.1.toNat≤M)→bM l f≤M*bM l (fun _=>1)
 | [],_,_=>by show (0:Rat)≤M*0;grind
 | o :: os,h1,h2=>by
  have a:=sO (f:=f) (M:=M) (l:=os) (fun x hx=>h1 x (by simp [hx])) (fun x hx=>h2 x (by simp [hx]));have b:=iG (h1 o (by simp)) (h2 o (by simp));show qv o.2*f o.1.toNat+bM os f≤M*(qv o.2*1+bM os (fun _=>1));have c:=xQ b a;have e:qv o.2*M+M*bM os (fun _=>1)=M*(qv o.2*1+bM os (fun _=>1)):=by grind
  rw [e] at c;exact c
theorem Cq (d:Nat→Rat):∀ n,∃ j,j < n+1∧∀ s,s < n+1→d s≤d j
 | 0=>⟨0,by omega,fun s hs=>by rw [show s=0 by omega];exact Rat.le_refl⟩
 | n+1=>by
  obtain ⟨j,hj,h⟩:=Cq d n;by_cases e:d j≤d (n+1)
  ·refine ⟨n+1,by omega,fun s hs=>?_⟩;by_cases e2:s=n+1
   ·rw [e2];exact Rat.le_refl
   ·exact Rat.le_trans (h s (by omega)) e
  ·refine ⟨j,by omega,fun s hs=>?_⟩;by_cases e2:s=n+1
   ·rw [e2];exact Rat.le_of_lt (Rat.not_le.1 e)
   ·exact h s (by omega)
theorem contract {n:Nat} {g:Rat} (h0:0≤g) (h1:g < 1) {L:Nat→List Out} {d:Nat→Rat} (hO:∀ s,s < n→mW n (L s)) (hS:∀ s,s < n→bM (L s) (fun _=>1)=1)
  (h:∀ s,s < n→d s≤g*bM (L s) d):∀ s,s < n→d s≤0:=fun s hs=>by
 obtain ⟨k,rfl⟩:∃ k,n=k+1:=⟨n - 1,by omega⟩;obtain ⟨j,hj,hm⟩:=Cq d k;have a:=sO (f:=d) (M:=d j) (l:=L j) (fun o ho=>fK (hO j hj o ho).2.2.2) (fun o ho=>hm _ (by have:=hO j hj o ho;omega));rw [hS j hj] at a;have b:=Rat.le_trans (h j hj) (iG h0 a);refine Rat.le_trans (hm s hs) (Rat.not_lt.1 fun hp=>?_);have c:0 < (1 - g)*d j:=Rat.mul_pos (by grind) hp;have e:g*(d j*1)=d j - (1 - g)*d j:=by grind
 rw [e] at b;grind
theorem jA (f g:Nat→Rat):∀ l:List Out,bM l (fun t=>f t - g t)=bM l f - bM l g
 | []=>by show (0:Rat)=0 - 0;grind
 | o :: os=>by
  show qv o.2*(f o.1.toNat - g o.1.toNat)+bM os (fun t=>f t - g t)=qv o.2*f o.1.toNat+bM os f - (qv o.2*g o.1.toNat+bM os g);rw [jA f g os];grind
theorem sub_le {n:Nat} {g:Rat} (h0:0≤g) (h1:g < 1) {L:Nat→List Out} {c u v:Nat→Rat} (hO:∀ s,s < n→mW n (L s)) (hS:∀ s,s < n→bM (L s) (fun _=>1)=1)
  (hu:∀ s,s < n→u s≤c s+g*bM (L s) u) (hv:∀ s,s < n→c s+g*bM (L s) v≤v s):∀ s,s < n→u s≤v s:=fun s hs=>by
 have:=contract h0 h1 (d:=fun t=>u t - v t) hO hS (fun t ht=>by
  show u t - v t≤_;rw [jA];have a:=hu t ht;have b:=hv t ht;grind) s hs
 grind
theorem Ff {n:Nat} {g:Rat} (h0:0≤g) (h1:g < 1) {L:Nat→List Out} {c u v:Nat→Rat} (hO:∀ s,s < n→mW n (L s)) (hS:∀ s,s < n→bM (L s) (fun _=>1)=1)
  (hu:∀ s,s < n→u s=c s+g*bM (L s) u) (hv:∀ s,s < n→v s=c s+g*bM (L s) v) (s:Nat) (hs:s < n):u s=v s:=
 Rat.le_antisymm (sub_le h0 h1 hO hS (fun t ht=>by rw [← hu t ht];exact Rat.le_refl) (fun t ht=>by rw [← hv t ht];exact Rat.le_refl) s hs)
  (sub_le h0 h1 hO hS (fun t ht=>by rw [← hv t ht];exact Rat.le_refl) (fun t ht=>by rw [← hu t ht];exact Rat.le_refl) s hs)
end Go.Proofs.YtnnjbaijcaiohaaGreat
