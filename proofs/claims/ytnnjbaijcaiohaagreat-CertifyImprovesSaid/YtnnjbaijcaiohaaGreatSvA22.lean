/- Walks and lemmas. -/
import Derived.Test.YtnnjbaijcaiohaaGreatSvA13
import Derived.Test.YtnnjbaijcaiohaaGreatSvA17
import Derived.Defers
import Derived.Test.YtnnjbaijcaiohaaGreatSvA21
import Derived.Test.YtnnjbaijcaiohaaGreatSvA16
import Derived.Test.YtnnjbaijcaiohaaGreatSvA10
import Derived.Test.YtnnjbaijcaiohaaGreatSvA18
import Derived.Test.YtnnjbaijcaiohaaGreatSvA20
set_option linter.unusedVariables false
set_option linter.unusedSimpArgs false
set_option maxRecDepth 100000
set_option maxHeartbeats 16000000
namespace Go.Proofs.YtnnjbaijcaiohaaGreat
open Go.RowKit
theorem rg {nn:Nat} (be b1:Nat) (w:World) (hbe:ag w be #[.int .i64 0] 37) :
  CallsDIn Fence.wide nn Tryz.prog 88 #[.pointer (some ⟨be,0,none⟩),.pointer (some ⟨b1,0,none⟩)] .returning w fun e u' w'=>e=.returned (.tuple #[])∧u'=.returning∧w'=(w.setCell ⟨be,0,none⟩ (.int .i64 0)).drew:=by
 have he:=(hbe.cell 0);have hz:=hbe.free 0;simp only [List.getElem?_toArray,List.getElem?_cons_zero] at he;refine aN Tryz.func88 rfl fun c₀ cs hu=>?_;apply wpS_seq;refine aM ax ax ax ax ax ax rfl ?_ ?_;all_goals
  simp [wpOpsS,go_sem,recoverD,hu,Tryz.ntmps88,Exit.thenS,he,hz];refine (dg 0 _).mono ?_;rintro e w1 ⟨rfl,rfl⟩;simp [wpOpsS,go_sem,recoverD,hu,Tryz.ntmps88,Exit.thenS,he,hz];refine wpS_of_wp ?_;go_wp2
  simp [bodyPostS,results,Tryz.results88,go_sem] <;> (cases c₀;simp_all)
theorem rh {nn:Nat} (be b1:Nat) (c e0:Int) (hc:c≠0) (older:List PanicEntry) (w:World) (pJ:Value) (kw:TypeId) (hbe:ag w be #[.int .i64 e0] 37) (hb1:ag w b1 #[pJ] kw) (th:b1≠be) :
  CallsDIn Fence.wide nn Tryz.prog 88 #[.pointer (some ⟨be,0,none⟩),.pointer (some ⟨b1,0,none⟩)] (.panicking (bk c :: older)) w fun e u' w'=>e=.returned (.tuple #[])∧u'=.panicking ({ bk c with recovered:=true } :: older)∧w'=((w.setCell ⟨be,0,none⟩ (.int .i64 c)).setCell ⟨b1,0,none⟩ (.slice none 0 0)).drew:=by
 have q1:(c != 0)=true:=by simpa using hc
 unfold bk;have he:=(hbe.cell 0);have hz:=hbe.free 0;simp only [List.getElem?_toArray,List.getElem?_cons_zero] at he;have rS:=hb1.cell 0;have JM:=hb1.free 0;simp only [List.getElem?_toArray,List.getElem?_cons_zero] at rS;refine aN Tryz.func88 rfl fun c₀ cs hu=>?_;apply wpS_seq;refine aM ax ax ax ax ax ax rfl ?_ ?_;all_goals
  simp [wpOpsS,go_sem,recoverD,hu,Tryz.ntmps88,Exit.thenS,he,hz];refine (gT c e0 _).mono ?_;rintro e w1 ⟨rfl,rfl⟩;simp [wpOpsS,go_sem,recoverD,hu,Tryz.ntmps88,Exit.thenS,he,hz];refine wpS_of_wp ?_;go_wp2
  simp [bodyPostS,results,Tryz.results88,go_sem] <;> (cases c₀;simp_all)
theorem pZ {nn:Nat} (be b1:Nat) (c:Int) (hc:c≠0) (w:World) (pJ:Value) (kw:TypeId) (hbe:ag w be #[.int .i64 c] 37) (hb1:ag w b1 #[pJ] kw) (th:b1≠be) :
  CallsDIn Fence.wide nn Tryz.prog 88 #[.pointer (some ⟨be,0,none⟩),.pointer (some ⟨b1,0,none⟩)] .returning w fun e u' w'=>e=.returned (.tuple #[])∧u'=.returning∧w'=((w.setCell ⟨be,0,none⟩ (.int .i64 c)).setCell ⟨b1,0,none⟩ (.slice none 0 0)).drew:=by
 have q1:(c != 0)=true:=by simpa using hc
 have he:=(hbe.cell 0);have hz:=hbe.free 0;simp only [List.getElem?_toArray,List.getElem?_cons_zero] at he;have rS:=hb1.cell 0;have JM:=hb1.free 0;simp only [List.getElem?_toArray,List.getElem?_cons_zero] at rS;refine aN Tryz.func88 rfl fun c₀ cs hu=>?_;apply wpS_seq;refine aM ax ax ax ax ax ax rfl ?_ ?_;all_goals
  simp [wpOpsS,go_sem,recoverD,hu,Tryz.ntmps88,Exit.thenS,he,hz];refine (dg c _).mono ?_;rintro e w1 ⟨rfl,rfl⟩;simp [wpOpsS,go_sem,recoverD,hu,Tryz.ntmps88,Exit.thenS,he,hz];refine wpS_of_wp ?_;go_wp2
  simp [bodyPostS,results,Tryz.results88,go_sem] <;> (cases c₀;simp_all)
theorem il (be b1:Nat) (c:Int) (hc:c≠0) (w:World) (pJ:Value) (kw:TypeId) (hbe:ag w be #[.int .i64 c] 37) (hb1:ag w b1 #[pJ] kw) (th:b1≠be) :
  CallsD Tryz.prog 88 #[.pointer (some ⟨be,0,none⟩),.pointer (some ⟨b1,0,none⟩)] .returning w fun e u' w'=>e=.returned (.tuple #[])∧u'=.returning∧w'=((w.setCell ⟨be,0,none⟩ (.int .i64 c)).setCell ⟨b1,0,none⟩ (.slice none 0 0)).drew:=bT (pZ (nn:=0) be b1 c hc w pJ kw hbe hb1 th)
theorem tI (be b1:Nat) (w:World) (hbe:ag w be #[.int .i64 0] 37) :
  CallsD Tryz.prog 88 #[.pointer (some ⟨be,0,none⟩),.pointer (some ⟨b1,0,none⟩)] .returning w fun e u' w'=>e=.returned (.tuple #[])∧u'=.returning∧w'=(w.setCell ⟨be,0,none⟩ (.int .i64 0)).drew:=bT (rg (nn:=0) be b1 w hbe)
theorem tJ (be b1:Nat) (c e0:Int) (hc:c≠0) (older:List PanicEntry) (w:World) (pJ:Value) (kw:TypeId) (hbe:ag w be #[.int .i64 e0] 37) (hb1:ag w b1 #[pJ] kw) (th:b1≠be) :
  CallsD Tryz.prog 88 #[.pointer (some ⟨be,0,none⟩),.pointer (some ⟨b1,0,none⟩)] (.panicking (bk c :: older)) w fun e u' w'=>e=.returned (.tuple #[])∧u'=.panicking ({ bk c with recovered:=true } :: older)∧w'=((w.setCell ⟨be,0,none⟩ (.int .i64 c)).setCell ⟨b1,0,none⟩ (.slice none 0 0)).drew:=bT (rh (nn:=0) be b1 c e0 hc older w pJ kw hbe hb1 th)
theorem qd {nn:Nat} (be b1 b2:Nat) (w:World) (hbe:ag w be #[.int .i64 0] 37) :
  CallsDIn Fence.wide nn Tryz.prog 93 #[.pointer (some ⟨be,0,none⟩),.pointer (some ⟨b1,0,none⟩),.pointer (some ⟨b2,0,none⟩)] .returning w fun e u' w'=>e=.returned (.tuple #[])∧u'=.returning∧w'=(w.setCell ⟨be,0,none⟩ (.int .i64 0)).drew:=by
 have he:=(hbe.cell 0);have hz:=hbe.free 0;simp only [List.getElem?_toArray,List.getElem?_cons_zero] at he;refine aN Tryz.func93 rfl fun c₀ cs hu=>?_;apply wpS_seq;refine aM ax ax ax ax ax ax rfl ?_ ?_;all_goals
  simp [wpOpsS,go_sem,recoverD,hu,Tryz.ntmps93,Exit.thenS,he,hz];refine (dg 0 _).mono ?_;rintro e w1 ⟨rfl,rfl⟩;simp [wpOpsS,go_sem,recoverD,hu,Tryz.ntmps93,Exit.thenS,he,hz];refine wpS_of_wp ?_;go_wp2
  simp [bodyPostS,results,Tryz.results93,go_sem] <;> (cases c₀;simp_all)
theorem qe {nn:Nat} (be b1 b2:Nat) (c e0:Int) (hc:c≠0) (older:List PanicEntry) (w:World) (pJ xb2:Value) (kw tb2:TypeId) (hbe:ag w be #[.int .i64 e0] 37) (hb1:ag w b1 #[pJ] kw) (th:b1≠be) (hb2:ag w b2 #[xb2] tb2) (MH:b2≠be) (n12:b2≠b1) :
  CallsDIn Fence.wide nn Tryz.prog 93 #[.pointer (some ⟨be,0,none⟩),.pointer (some ⟨b1,0,none⟩),.pointer (some ⟨b2,0,none⟩)] (.panicking (bk c :: older)) w fun e u' w'=>e=.returned (.tuple #[])∧u'=.panicking ({ bk c with recovered:=true } :: older)∧w'=(((w.setCell ⟨be,0,none⟩ (.int .i64 c)).setCell ⟨b1,0,none⟩ (.slice none 0 0)).setCell ⟨b2,0,none⟩ (.slice none 0 0)).drew:=by
 have q1:(c != 0)=true:=by simpa using hc
 unfold bk;have he:=(hbe.cell 0);have hz:=hbe.free 0;simp only [List.getElem?_toArray,List.getElem?_cons_zero] at he;have rS:=hb1.cell 0;have JM:=hb1.free 0;have kb2:=hb2.cell 0;have Xg:=hb2.free 0;simp only [List.getElem?_toArray,List.getElem?_cons_zero] at rS kb2;refine aN Tryz.func93 rfl fun c₀ cs hu=>?_;apply wpS_seq;refine aM ax ax ax ax ax ax rfl ?_ ?_;all_goals
  simp [wpOpsS,go_sem,recoverD,hu,Tryz.ntmps93,Exit.thenS,he,hz];refine (gT c e0 _).mono ?_;rintro e w1 ⟨rfl,rfl⟩;simp [wpOpsS,go_sem,recoverD,hu,Tryz.ntmps93,Exit.thenS,he,hz];refine wpS_of_wp ?_;go_wp2
  simp [bodyPostS,results,Tryz.results93,go_sem] <;> (cases c₀;simp_all)
theorem ox {nn:Nat} (be b1 b2:Nat) (c:Int) (hc:c≠0) (w:World) (pJ xb2:Value) (kw tb2:TypeId) (hbe:ag w be #[.int .i64 c] 37) (hb1:ag w b1 #[pJ] kw) (th:b1≠be) (hb2:ag w b2 #[xb2] tb2) (MH:b2≠be) (n12:b2≠b1) :
  CallsDIn Fence.wide nn Tryz.prog 93 #[.pointer (some ⟨be,0,none⟩),.pointer (some ⟨b1,0,none⟩),.pointer (some ⟨b2,0,none⟩)] .returning w fun e u' w'=>e=.returned (.tuple #[])∧u'=.returning∧w'=(((w.setCell ⟨be,0,none⟩ (.int .i64 c)).setCell ⟨b1,0,none⟩ (.slice none 0 0)).setCell ⟨b2,0,none⟩ (.slice none 0 0)).drew:=by
 have q1:(c != 0)=true:=by simpa using hc
 have he:=(hbe.cell 0);have hz:=hbe.free 0;simp only [List.getElem?_toArray,List.getElem?_cons_zero] at he;have rS:=hb1.cell 0;have JM:=hb1.free 0;have kb2:=hb2.cell 0;have Xg:=hb2.free 0;simp only [List.getElem?_toArray,List.getElem?_cons_zero] at rS kb2;refine aN Tryz.func93 rfl fun c₀ cs hu=>?_;apply wpS_seq;refine aM ax ax ax ax ax ax rfl ?_ ?_;all_goals
  simp [wpOpsS,go_sem,recoverD,hu,Tryz.ntmps93,Exit.thenS,he,hz];refine (dg c _).mono ?_;rintro e w1 ⟨rfl,rfl⟩;simp [wpOpsS,go_sem,recoverD,hu,Tryz.ntmps93,Exit.thenS,he,hz];refine wpS_of_wp ?_;go_wp2
  simp [bodyPostS,results,Tryz.results93,go_sem] <;> (cases c₀;simp_all)
theorem jQ (be b1 b2:Nat) (c:Int) (hc:c≠0) (w:World) (pJ xb2:Value) (kw tb2:TypeId) (hbe:ag w be #[.int .i64 c] 37) (hb1:ag w b1 #[pJ] kw) (th:b1≠be) (hb2:ag w b2 #[xb2] tb2) (MH:b2≠be) (n12:b2≠b1) :
  CallsD Tryz.prog 93 #[.pointer (some ⟨be,0,none⟩),.pointer (some ⟨b1,0,none⟩),.pointer (some ⟨b2,0,none⟩)] .returning w fun e u' w'=>e=.returned (.tuple #[])∧u'=.returning∧w'=(((w.setCell ⟨be,0,none⟩ (.int .i64 c)).setCell ⟨b1,0,none⟩ (.slice none 0 0)).setCell ⟨b2,0,none⟩ (.slice none 0 0)).drew:=bT (ox (nn:=0) be b1 b2 c hc w pJ xb2 kw tb2 hbe hb1 th hb2 MH n12)
theorem ri (be b1 b2:Nat) (w:World) (hbe:ag w be #[.int .i64 0] 37) :
  CallsD Tryz.prog 93 #[.pointer (some ⟨be,0,none⟩),.pointer (some ⟨b1,0,none⟩),.pointer (some ⟨b2,0,none⟩)] .returning w fun e u' w'=>e=.returned (.tuple #[])∧u'=.returning∧w'=(w.setCell ⟨be,0,none⟩ (.int .i64 0)).drew:=bT (qd (nn:=0) be b1 b2 w hbe)
theorem kV (be b1 b2:Nat) (c e0:Int) (hc:c≠0) (older:List PanicEntry) (w:World) (pJ xb2:Value) (kw tb2:TypeId) (hbe:ag w be #[.int .i64 e0] 37) (hb1:ag w b1 #[pJ] kw) (th:b1≠be) (hb2:ag w b2 #[xb2] tb2) (MH:b2≠be) (n12:b2≠b1) :
  CallsD Tryz.prog 93 #[.pointer (some ⟨be,0,none⟩),.pointer (some ⟨b1,0,none⟩),.pointer (some ⟨b2,0,none⟩)] (.panicking (bk c :: older)) w fun e u' w'=>e=.returned (.tuple #[])∧u'=.panicking ({ bk c with recovered:=true } :: older)∧w'=(((w.setCell ⟨be,0,none⟩ (.int .i64 c)).setCell ⟨b1,0,none⟩ (.slice none 0 0)).setCell ⟨b2,0,none⟩ (.slice none 0 0)).drew:=bT (qe (nn:=0) be b1 b2 c e0 hc older w pJ xb2 kw tb2 hbe hb1 th hb2 MH n12)
theorem Ks {m:MD} {p:List Int} {c:Int} (h:gG m=c) (hc:c≠0):iX m p=([],c):=by unfold iX;rw [h,if_pos hc]
theorem Kt {m:MD} {p:List Int} (h:gG m=0) (h2:8 < m.states.length):iX m p=([],4):=by unfold iX;rw [if_neg kN,if_pos h2]
theorem Ku {m:MD} {p:List Int} {c:Int} (h:gG m=0) (h2:¬ 8 < m.states.length) (h3:nP m p=c) (hc:c≠0):iX m p=([],c):=by unfold iX;rw [if_neg kN,if_neg h2,h3,if_pos hc]
theorem Kv {m:MD} {p:List Int} (h:gG m=0) (h2:¬ 8 < m.states.length) (h3:nP m p=0):iX m p=aH m p:=by unfold iX;rw [if_neg kN,if_neg h2,if_neg (by simpa using h3)]
theorem kW {m:MD} (h:gG m=0):fs m=0∧qv m.ah≠1:=by
 unfold gG at h;by_cases h1:fs m=0
 ·rw [if_neg (fun k=>k h1)] at h;refine ⟨h1,fun e=>?_⟩;rw [if_pos e] at h;cases h
 ·rw [if_pos h1] at h;exact absurd h h1
theorem AJ {m:MD} {p:List Int} {c:Int} (h:(aH m p).2=c) (hc:c≠0):aH m p=([],c):=by
 unfold aH at h ⊢;by_cases h1:bG (fun s=>(fC m p s).2) p.length=0
 ·rw [if_neg (fun k=>k h1)] at h ⊢;by_cases h2:(bY p.length p.length 0 (mB m p)).2=0
  ·rw [if_neg (fun k=>k h2)] at h;exact absurd h.symm hc
  ·rw [if_pos h2] at h ⊢;rw [← h]
 ·rw [if_pos h1] at h ⊢;rw [← h]
theorem sj (mv pv:Value) (m:MD) (p:List Int) (w:World) (hm:eY w mv m) (hp:bj .i64 w pv p) (hlm:iY m) :
  Calls Tryz.prog 32 #[mv,pv] w fun e w'=>sZ w w' e (iX m p)∧Ext w w':=by
 have qP:=kI (fun W mv (h:eY W mv m)=>iS mv m W h hlm);have Qf:=kI (fun W mv pv (h:eY W mv m) (k:bj .i64 W pv p)=>nQ mv pv m p W h k);have RZ:=kI (fun W mv pv (h:eY W mv m) (k:bj .i64 W pv p) (h1:fs m=0) (h2:nP m p=0)=>pY mv pv m p W h k hlm h1 h2);have HM:=kI hm;have HP:=kI hp;obtain ⟨m1,n1,m2,n2,m3,n3,rfl,-,-⟩:=hm;obtain ⟨pa,pc,rfl,-,-,-⟩:=hp.get;clear hp hlm;have bb0:=(((ag.new w #[.bool m.ah.neg,.slice m1 m.ah.num.length n1,.slice m2 m.ah.den.length n2,.slice m3 m.states.length n3] 28).alloc (.cells #[.slice none 0 0] 29)).alloc (.cells #[.int .i64 0] 37));have bb1:=((ag.new (w.alloc (.cells #[.bool m.ah.neg,.slice m1 m.ah.num.length n1,.slice m2 m.ah.den.length n2,.slice m3 m.states.length n3] 28)) #[.slice none 0 0] 29).alloc (.cells #[.int .i64 0] 37));have bb2:=(ag.new ((w.alloc (.cells #[.bool m.ah.neg,.slice m1 m.ah.num.length n1,.slice m2 m.ah.den.length n2,.slice m3 m.states.length n3] 28)).alloc (.cells #[.slice none 0 0] 29)) #[.int .i64 0] 37);rw [World.size_alloc] at bb1;rw [World.size_alloc,World.size_alloc] at bb2;have x0:Ext w (((w.alloc (.cells #[.bool m.ah.neg,.slice m1 m.ah.num.length n1,.slice m2 m.ah.den.length n2,.slice m3 m.states.length n3] 28)).alloc (.cells #[.slice none 0 0] 29)).alloc (.cells #[.int .i64 0] 37)):=((((Ext.refl w).alloc _).alloc _).alloc _);have A0:=kI bb0;have A1:=kI bb1;have A2:=kI bb2;have X:=kI x0;clear x0 bb0 bb1 bb2;replace HM:=kI (HM.o.ext X.o);replace HP:=kI (HP.o.ext X.o);have hmf:∀ (fn:Fn) (first cap:Array Value) (w:World),(Instr.makeFunc fn first cap).run Tryz.prog w=.ok (.func fn first cap) w:=fun _ _ _ _=>rfl;go_enter_defers Tryz.func32,Tryz.ntmps32
 obtain ⟨aK,fA0,aJ⟩:=A0.o.q3;obtain ⟨aY,aZ,lA1⟩:=A1.o.q3;obtain ⟨bA,bB,lA2⟩:=A2.o.q3;go_wp2_with fail;clear hmf;refine (qP.o _ _ HM.o).mono ?_;rintro e w1 ⟨rfl,hx⟩;clear aK fA0 aJ aY aZ lA1 bA bB lA2;replace HM:=kI (HM.o.ext hx);replace HP:=kI (HP.o.ext hx);replace A0:=kI (A0.o.ext hx);replace A1:=kI (A1.o.ext hx);replace A2:=kI (A2.o.ext hx);replace X:=kI (X.o.trans hx);clear hx qP;obtain ⟨c1,hc1⟩:=gN (gG m);rw [← hc1];by_cases h1:c1=0
 rotate_left
 ·have E:=kI (Ks (p:=p) hc1.symm h1);have q1:(c1 != 0)=true:=by simpa using h1
  have H1:=kI h1;clear hc1 h1;obtain ⟨aY,aZ,lA1⟩:=A1.o.q3;obtain ⟨bA,bB,lA2⟩:=A2.o.q3;go_wp2_with fail;clear aY aZ lA1 bA bB lA2;obtain ⟨wr,hwr⟩:=gN (((w1.setCell ⟨w.heap.size+1,0,none⟩ (.slice none 0 0)).setCell ⟨w.heap.size+1+1,0,none⟩ (.int .i64 c1)));have ha1:ag wr (w.heap.size+1) #[.slice none 0 0] 29:=by
   have:=(A1.o.set 0 (.slice none 0 0)).setOther (a:=⟨w.heap.size+1+1,0,none⟩) au (.int .i64 c1);rw [hwr];simpa using this
  have ha2:ag wr (w.heap.size+1+1) #[.int .i64 c1] 37:=by
   have:=(A2.o.setOther (a:=⟨w.heap.size+1,0,none⟩) au (.slice none 0 0)).set 0 (.int .i64 c1);rw [hwr];simpa using this
  have hxr:Ext w wr:=by rw [hwr];exact (X.o.set (p:=⟨w.heap.size+1,0,none⟩) au _).set (p:=⟨w.heap.size+1+1,0,none⟩) au _
  rw [← hwr];clear hwr;replace A1:=kI ha1;replace A2:=kI ha2;replace X:=kI hxr;clear ha1 ha2 hxr;refine leaves_cons (f:=88) (args:=#[.pointer (some ⟨w.heap.size+1+1,0,none⟩),.pointer (some ⟨w.heap.size+1,0,none⟩)]) cp ks ?_;refine (il (w.heap.size+1+1) (w.heap.size+1) c1 H1.o _ _ _ A2.o A1.o Z).mono ?_;rintro e u' w'' ⟨rfl,rfl,rfl⟩;obtain ⟨wf,hwf⟩:=gN (((wr.setCell ⟨w.heap.size+1+1,0,none⟩ (.int .i64 c1)).setCell ⟨w.heap.size+1,0,none⟩ (.slice none 0 0)));have hfe:ag wf (w.heap.size+1+1) #[.int .i64 c1] 37:=by
   have:=((A2.o).set 0 (.int .i64 c1)).setOther (a:=⟨w.heap.size+1,0,none⟩) au (.slice none 0 0);rw [hwf];simpa using this
  have hf0:ag wf (w.heap.size+1) #[.slice none 0 0] 29:=by
   have:=((A1.o).setOther (a:=⟨w.heap.size+1+1,0,none⟩) au (.int .i64 c1)).set 0 (.slice none 0 0);rw [hwf];simpa using this
  have cu:Ext w wf:=by rw [hwf];exact ((X.o).set (p:=⟨w.heap.size+1+1,0,none⟩) qz _).set (p:=⟨w.heap.size+1,0,none⟩) qz _
  rw [← hwf];clear hwf;have Gw:=kI hfe;have Gx:=kI hf0;have ex:=kI cu;have ke:=hfe.cell 0;have k0:=hf0.cell 0;simp only [List.getElem?_toArray,List.getElem?_cons_zero] at ke k0;clear hfe cu hf0;simp [Leaves,settle,results,Tryz.results32,go_sem,bk,ke,k0];exact ⟨sZ.mk (bV.nil _ _) E.o,ex.o.drew⟩
 subst h1;have H1:=kI hc1.symm;clear hc1;by_cases h2:8 < m.states.length
 ·have E:=kI (Kt (p:=p) H1.o h2);have q2:(8:Int) < (m.states.length:Int):=Z
  obtain ⟨aK,fA0,aJ⟩:=A0.o.q3;obtain ⟨aY,aZ,lA1⟩:=A1.o.q3;obtain ⟨bA,bB,lA2⟩:=A2.o.q3;go_wp2_with fail;clear aK fA0 aJ aY aZ lA1 bA bB lA2;obtain ⟨wr,hwr⟩:=gN (((w1.setCell ⟨w.heap.size+1,0,none⟩ (.slice none 0 0)).setCell ⟨w.heap.size+1+1,0,none⟩ (.int .i64 4)));have ha1:ag wr (w.heap.size+1) #[.slice none 0 0] 29:=by
   have:=(A1.o.set 0 (.slice none 0 0)).setOther (a:=⟨w.heap.size+1+1,0,none⟩) au (.int .i64 4);rw [hwr];simpa using this
  have ha2:ag wr (w.heap.size+1+1) #[.int .i64 4] 37:=by
   have:=(A2.o.setOther (a:=⟨w.heap.size+1,0,none⟩) au (.slice none 0 0)).set 0 (.int .i64 4);rw [hwr];simpa using this
  have hxr:Ext w wr:=by rw [hwr];exact (X.o.set (p:=⟨w.heap.size+1,0,none⟩) au _).set (p:=⟨w.heap.size+1+1,0,none⟩) au _
  rw [← hwr];clear hwr;replace A1:=kI ha1;replace A2:=kI ha2;replace X:=kI hxr;clear ha1 ha2 hxr;refine leaves_cons (f:=88) (args:=#[.pointer (some ⟨w.heap.size+1+1,0,none⟩),.pointer (some ⟨w.heap.size+1,0,none⟩)]) cp ks ?_;refine (il (w.heap.size+1+1) (w.heap.size+1) 4 ap _ _ _ A2.o A1.o Z).mono ?_;rintro e u' w'' ⟨rfl,rfl,rfl⟩;obtain ⟨wf,hwf⟩:=gN (((wr.setCell ⟨w.heap.size+1+1,0,none⟩ (.int .i64 4)).setCell ⟨w.heap.size+1,0,none⟩ (.slice none 0 0)));have hfe:ag wf (w.heap.size+1+1) #[.int .i64 4] 37:=by
   have:=((A2.o).set 0 (.int .i64 4)).setOther (a:=⟨w.heap.size+1,0,none⟩) au (.slice none 0 0);rw [hwf];simpa using this
  have hf0:ag wf (w.heap.size+1) #[.slice none 0 0] 29:=by
   have:=((A1.o).setOther (a:=⟨w.heap.size+1+1,0,none⟩) au (.int .i64 4)).set 0 (.slice none 0 0);rw [hwf];simpa using this
  have cu:Ext w wf:=by rw [hwf];exact ((X.o).set (p:=⟨w.heap.size+1+1,0,none⟩) qz _).set (p:=⟨w.heap.size+1,0,none⟩) qz _
  rw [← hwf];clear hwf;have Gw:=kI hfe;have Gx:=kI hf0;have ex:=kI cu;have ke:=hfe.cell 0;have k0:=hf0.cell 0;simp only [List.getElem?_toArray,List.getElem?_cons_zero] at ke k0;clear hfe cu hf0;simp [Leaves,settle,results,Tryz.results32,go_sem,bk,ke,k0];exact ⟨sZ.mk (bV.nil _ _) E.o,ex.o.drew⟩
 have H2:=kI h2;have q2:¬ (8:Int) < (m.states.length:Int):=Z
 clear h2;obtain ⟨aK,fA0,aJ⟩:=A0.o.q3;obtain ⟨aY,aZ,lA1⟩:=A1.o.q3;obtain ⟨bA,bB,lA2⟩:=A2.o.q3;go_wp2_with fail;refine (Qf.o _ _ _ HM.o HP.o).mono ?_;rintro e w2 ⟨rfl,hx⟩;clear aK fA0 aJ aY aZ lA1 bA bB lA2;replace HM:=kI (HM.o.ext hx);replace HP:=kI (HP.o.ext hx);replace A0:=kI (A0.o.ext hx);replace A1:=kI (A1.o.ext hx);replace A2:=kI (A2.o.ext hx);replace X:=kI (X.o.trans hx);clear hx Qf q2;obtain ⟨c2,hc2⟩:=gN (nP m p);rw [← hc2];by_cases h3:c2=0
 rotate_left
 ·have E:=kI (Ku H1.o H2.o hc2.symm h3);have q1:(c2 != 0)=true:=by simpa using h3
  have H3:=kI h3;clear hc2 h3;obtain ⟨aY,aZ,lA1⟩:=A1.o.q3;obtain ⟨bA,bB,lA2⟩:=A2.o.q3;go_wp2_with fail;clear aY aZ lA1 bA bB lA2;obtain ⟨wr,hwr⟩:=gN (((w2.setCell ⟨w.heap.size+1,0,none⟩ (.slice none 0 0)).setCell ⟨w.heap.size+1+1,0,none⟩ (.int .i64 c2)));have ha1:ag wr (w.heap.size+1) #[.slice none 0 0] 29:=by
   have:=(A1.o.set 0 (.slice none 0 0)).setOther (a:=⟨w.heap.size+1+1,0,none⟩) au (.int .i64 c2);rw [hwr];simpa using this
  have ha2:ag wr (w.heap.size+1+1) #[.int .i64 c2] 37:=by
   have:=(A2.o.setOther (a:=⟨w.heap.size+1,0,none⟩) au (.slice none 0 0)).set 0 (.int .i64 c2);rw [hwr];simpa using this
  have hxr:Ext w wr:=by rw [hwr];exact (X.o.set (p:=⟨w.heap.size+1,0,none⟩) au _).set (p:=⟨w.heap.size+1+1,0,none⟩) au _
  rw [← hwr];clear hwr;replace A1:=kI ha1;replace A2:=kI ha2;replace X:=kI hxr;clear ha1 ha2 hxr;refine leaves_cons (f:=88) (args:=#[.pointer (some ⟨w.heap.size+1+1,0,none⟩),.pointer (some ⟨w.heap.size+1,0,none⟩)]) cp ks ?_;refine (il (w.heap.size+1+1) (w.heap.size+1) c2 H3.o _ _ _ A2.o A1.o Z).mono ?_;rintro e u' w'' ⟨rfl,rfl,rfl⟩;obtain ⟨wf,hwf⟩:=gN (((wr.setCell ⟨w.heap.size+1+1,0,none⟩ (.int .i64 c2)).setCell ⟨w.heap.size+1,0,none⟩ (.slice none 0 0)));have hfe:ag wf (w.heap.size+1+1) #[.int .i64 c2] 37:=by
   have:=((A2.o).set 0 (.int .i64 c2)).setOther (a:=⟨w.heap.size+1,0,none⟩) au (.slice none 0 0);rw [hwf];simpa using this
  have hf0:ag wf (w.heap.size+1) #[.slice none 0 0] 29:=by
   have:=((A1.o).setOther (a:=⟨w.heap.size+1+1,0,none⟩) au (.int .i64 c2)).set 0 (.slice none 0 0);rw [hwf];simpa using this
  have cu:Ext w wf:=by rw [hwf];exact ((X.o).set (p:=⟨w.heap.size+1+1,0,none⟩) qz _).set (p:=⟨w.heap.size+1,0,none⟩) qz _
  rw [← hwf];clear hwf;have Gw:=kI hfe;have Gx:=kI hf0;have ex:=kI cu;have ke:=hfe.cell 0;have k0:=hf0.cell 0;simp only [List.getElem?_toArray,List.getElem?_cons_zero] at ke k0;clear hfe cu hf0;simp [Leaves,settle,results,Tryz.results32,go_sem,bk,ke,k0];exact ⟨sZ.mk (bV.nil _ _) E.o,ex.o.drew⟩
 subst h3;have H3:=kI hc2.symm;clear hc2;obtain ⟨aK,fA0,aJ⟩:=A0.o.q3;obtain ⟨aY,aZ,lA1⟩:=A1.o.q3;obtain ⟨bA,bB,lA2⟩:=A2.o.q3;have XS:=kI X.o.size;go_wp2_with fail;refine (RZ.o _ _ _ HM.o HP.o (kW H1.o).1 H3.o).mono ?_;rintro e w3 ⟨he,hx⟩;clear aK fA0 aJ aY aZ lA1 bA bB lA2;replace HM:=kI (HM.o.ext hx);replace HP:=kI (HP.o.ext hx);replace A0:=kI (A0.o.ext hx);replace A1:=kI (A1.o.ext hx);replace A2:=kI (A2.o.ext hx);replace X:=kI (X.o.trans hx);clear hx RZ;have E4:=kI (Kv H1.o H2.o H3.o);obtain ⟨S2,hS2⟩:=gN (aH m p);rw [← hS2] at he E4;obtain ⟨l,c3⟩:=S2;dsimp only at he E4;by_cases h4:c3=0
 rotate_left
 ·obtain rfl:=he.pN h4;have E:=kI (show iX m p=([],c3) from by rw [E4.o,hS2];exact AJ (by rw [← hS2]) h4);have H4:=kI h4;clear he hS2 h4;refine leaves_cons (f:=88) (args:=#[.pointer (some ⟨w.heap.size+1+1,0,none⟩),.pointer (some ⟨w.heap.size+1,0,none⟩)]) cp ks ?_;refine (tJ (w.heap.size+1+1) (w.heap.size+1) c3 0 H4.o [] _ _ _ A2.o A1.o Z).mono ?_;rintro e u' w'' ⟨rfl,rfl,rfl⟩;obtain ⟨wf,hwf⟩:=gN (((w3.setCell ⟨w.heap.size+1+1,0,none⟩ (.int .i64 c3)).setCell ⟨w.heap.size+1,0,none⟩ (.slice none 0 0)));have hfe:ag wf (w.heap.size+1+1) #[.int .i64 c3] 37:=by
   have:=((A2.o).set 0 (.int .i64 c3)).setOther (a:=⟨w.heap.size+1,0,none⟩) au (.slice none 0 0);rw [hwf];simpa using this
  have hf0:ag wf (w.heap.size+1) #[.slice none 0 0] 29:=by
   have:=((A1.o).setOther (a:=⟨w.heap.size+1+1,0,none⟩) au (.int .i64 c3)).set 0 (.slice none 0 0);rw [hwf];simpa using this
  have cu:Ext w wf:=by rw [hwf];exact ((X.o).set (p:=⟨w.heap.size+1+1,0,none⟩) qz _).set (p:=⟨w.heap.size+1,0,none⟩) qz _
  rw [← hwf];clear hwf;have Gw:=kI hfe;have Gx:=kI hf0;have ex:=kI cu;have ke:=hfe.cell 0;have k0:=hf0.cell 0;simp only [List.getElem?_toArray,List.getElem?_cons_zero] at ke k0;clear hfe cu hf0;simp [Leaves,settle,results,Tryz.results32,go_sem,bk,ke,k0];exact ⟨sZ.mk (bV.nil _ _) E.o,ex.o.drew⟩
 subst h4;obtain ⟨rv,rfl,ho⟩:=he.pM;obtain ⟨ra,rc,rfl⟩:=ho.shape;have OW:=kI (ho.mono XS.o);clear he ho hS2;obtain ⟨aY,aZ,lA1⟩:=A1.o.q3;obtain ⟨bA,bB,lA2⟩:=A2.o.q3;go_wp2_with fail;clear aY aZ lA1 bA bB lA2;obtain ⟨wt,hwt⟩:=gN ((w3.setCell ⟨w.heap.size+1,0,none⟩ (.slice ra l.length rc)).setCell ⟨w.heap.size+1+1,0,none⟩ (.int .i64 0));have lh:Ext w wt:=by rw [hwt];exact (X.o.set (p:=⟨w.heap.size+1,0,none⟩) au (.slice ra l.length rc)).set (p:=⟨w.heap.size+1+1,0,none⟩) au _
 have hA1:ag wt (w.heap.size+1) #[(.slice ra l.length rc)] 29:=by rw [hwt];have:=(A1.o.set 0 (.slice ra l.length rc)).setOther (a:=⟨w.heap.size+1+1,0,none⟩) au (.int .i64 0);simpa using this
 have hA2:ag wt (w.heap.size+1+1) #[.int .i64 0] 37:=by rw [hwt];have:=(A2.o.setOther (a:=⟨w.heap.size+1,0,none⟩) au (.slice ra l.length rc)).set 0 (.int .i64 0);simpa using this
 have how:bV w.heap.size wt (.slice ra l.length rc) l:=by rw [hwt];exact (OW.o.keeps (ay A1.o 0 (.slice ra l.length rc)) ap ap).keeps (ay (A2.o.setOther (a:=⟨w.heap.size+1,0,none⟩) au (.slice ra l.length rc)) 0 (.int .i64 0)) ap ap
 rw [← hwt];replace A1:=kI hA1;replace A2:=kI hA2;replace X:=kI lh;replace OW:=kI how;clear hwt lh hA1 hA2 how A0;refine leaves_cons (f:=88) (args:=#[.pointer (some ⟨w.heap.size+1+1,0,none⟩),.pointer (some ⟨w.heap.size+1,0,none⟩)]) cp ks ?_;refine (tI (w.heap.size+1+1) (w.heap.size+1) _ A2.o).mono ?_;rintro e u' w'' ⟨rfl,rfl,rfl⟩;obtain ⟨wf,hwf⟩:=gN ((wt.setCell ⟨w.heap.size+1+1,0,none⟩ (.int .i64 0)));have hfe:ag wf (w.heap.size+1+1) #[.int .i64 0] 37:=by
  have:=(A2.o).set 0 (.int .i64 0);rw [hwf];simpa using this
 have hf0:ag wf (w.heap.size+1) #[(.slice ra l.length rc)] 29:=by
  have:=(A1.o).setOther (a:=⟨w.heap.size+1+1,0,none⟩) au (.int .i64 0);rw [hwf];simpa using this
 have cu:Ext w wf:=by rw [hwf];exact (X.o).set (p:=⟨w.heap.size+1+1,0,none⟩) qz _
 have OWF:=kI (show bV w.heap.size wf (.slice ra l.length rc) l from by rw [hwf];exact OW.o.keeps (ay A2.o 0 (.int .i64 0)) ap ap);rw [← hwf];clear hwf;have Gw:=kI hfe;have Gx:=kI hf0;have ex:=kI cu;have ke:=hfe.cell 0;have k0:=hf0.cell 0;simp only [List.getElem?_toArray,List.getElem?_cons_zero] at ke k0;clear hfe cu hf0;simp [Leaves,settle,results,Tryz.results32,go_sem,bk,ke,k0];exact ⟨sZ.mk (OWF.o.ext' (Ext.refl _).drew) E4.o,ex.o.drew⟩
theorem Dw {a b:RR} (ha:aC a) (hb:aC b) (ca:aA a=0) (cb:aA b=0) (h:qv a=qv b):a=b:=by
 rw [← (eQ ha ca).2.2,← (eQ hb cb).2.2,h]
def NN (r:RR):Prop:=aA r=0∧aC r∧r.neg=false
def sumF (f:Nat→Rat):Nat→Rat
 | 0=>0
 | n+1=>sumF f n+f n
theorem gD {f g:Nat→Rat}:∀ {n:Nat},(∀ i,i < n→f i=g i)→sumF f n=sumF g n
 | 0,_=>rfl
 | n+1,h=>by
  show sumF f n+f n=sumF g n+g n;rw [gD (fun i hi=>h i Z),h n Z]
theorem nh {f:Nat→Rat}:∀ {n:Nat},(∀ i,i < n→f i=0)→sumF f n=0
 | 0,_=>rfl
 | n+1,h=>by
  show sumF f n+f n=0;rw [nh (fun i hi=>h i Z),h n Z,Rat.add_zero]
theorem vJ {f g:Nat→Rat} {i:Nat}:∀ {n:Nat},i < n→(∀ j,j < n→j≠i→g j=f j)→sumF g n=sumF f n+(g i - f i)
 | 0,h,_=>by omega
 | n+1,h,hj=>by
  show sumF g n+g n=sumF f n+f n+(g i - f i);by_cases e:i=n
  ·subst e;rw [gD (f:=g) (g:=f) (fun j h1=>hj j Z Z)];grind
  ·rw [vJ (n:=n) Z (fun j h1 h2=>hj j Z h2),hj n Z Z];grind
theorem yd (f:Nat→Rat):∀ n,sumF f (n+1)=f 0+sumF (fun i=>f (i+1)) n
 | 0=>by show (0:Rat)+f 0=f 0+0;rw [Rat.zero_add,Rat.add_zero]
 | n+1=>by
  show sumF f (n+1)+f (n+1)=f 0+(sumF (fun i=>f (i+1)) n+f (n+1));rw [yd f n,Rat.add_assoc]
theorem vK (c:Rat) (f:Nat→Rat):∀ n,sumF (fun i=>c*f i) n=c*sumF f n
 | 0=>by show (0:Rat)=c*0;rw [Rat.mul_zero]
 | n+1=>by
  show sumF (fun i=>c*f i) n+c*f n=c*(sumF f n+f n);rw [vK c f n,Rat.mul_add]
def cO:List Out→(Nat→Rat)→Rat
 | [],_=>0
 | o :: os,f=>qv o.2*f o.1.toNat+cO os f
theorem tK (v:List RR):∀ l:List Out,vu (fj l) (jA v l)=cO l (fun t=>qv (v.getD t zR))
 | []=>rfl
 | o :: l=>by
  show qv o.2*qv (v.getD o.1.toNat zR)+vu (fj l) (jA v l)=_;rw [tK v l];rfl
theorem qg {f g:Nat→Rat}:∀ {l:List Out},(∀ o ∈ l,f o.1.toNat=g o.1.toNat)→cO l f=cO l g
 | [],_=>rfl
 | o :: l,h=>by
  show qv o.2*f o.1.toNat+cO l f=qv o.2*g o.1.toNat+cO l g;rw [h o cp,qg (fun x hx=>h x Nj)]
def vL (n:Nat) (os:List Out):Prop:=∀ o ∈ os,0≤o.1∧o.1 < (n:Int)∧aA o.2=0∧o.2.neg=false
theorem Kw {r:RR} (h:r.num=[]):qv r=0:=by
 unfold qv;rw [h];have e:sg r.neg (nv [])=0:=by cases r.neg <;> rfl
 rw [e,Rat.zero_mkRat]
def TT (m:MD):List (List Int)→(Nat→Rat)→Nat→Rat
 | [],f=>f
 | p :: ps,f=>fun u=>cO (m.act u (p.getD u 0).toNat).next (TT m ps f)
def lE (m:MD) (p:List Int):Prop:=p.length=m.states.length∧∀ u,u < m.states.length→0≤p.getD u 0∧p.getD u 0 < ((m.states.getD u []).length:Int)
theorem tL {m:MD} (hm:fs m=0) {p:List Int} (hp:lE m p) {u:Nat} (hu:u < m.states.length):vL m.states.length (m.act u (p.getD u 0).toNat).next:=by
 have h:=hp.2 u hu;exact tx (fW (tz hm hu Z)).2.2.2.1
theorem vM:∀ (l:List RR) (s:RR),aA s=0→(cZ s l).2=0→qv (cZ s l).1=qv s+(l.map qv).foldr (· + ·) 0
 | [],s,_,_=>by show qv s=qv s+0;rw [Rat.add_zero]
 | x :: l,s,hs,h=>by
  unfold cZ at h ⊢;by_cases h1:(cz s x).2=0
  ·rw [if_pos h1] at h ⊢;rw [vM l _ (fo h1).2 h,(fo h1).1];show _=qv s+(qv x+_);rw [Rat.add_assoc]
  ·rw [if_neg h1] at h;exact absurd h h1
theorem sk:∀ (l:List Out),cO l (fun _=>1)=((fj l).map qv).foldr (· + ·) 0
 | []=>rfl
 | o :: l=>by
  show qv o.2*1+cO l (fun _=>1)=qv o.2+((fj l).map qv).foldr (· + ·) 0;rw [Rat.mul_one,sk l]
theorem Gy {n:Nat} {x:bg} (h:eW n x=0):cO x.next (fun _=>1)=1:=by
 have h5:=(fW h).2.2.2.2;have e:=vM (fj x.next) zR rfl (by rw [h5]);rw [h5,my,Rat.zero_add] at e;dsimp only at e;rw [jk] at e;rw [sk,← e]
theorem iA {a b:RR} (h:(bR a b).2=0):qv (bR a b).1=qv a - qv b∧aA (bR a b).1=0:=by
 obtain ⟨h1,h2⟩:=xT h;have e:bR a b=dK (qv a - qv b):=h1;rw [e];exact mx h2
theorem qh {a b:RR} (h:(bJ a b).2=0):b.num≠[]∧qv (bJ a b).1=qv a / qv b∧aA (bJ a b).1=0∧aA b=0:=by
 have h0:cP a b=0:=by
  unfold bJ i9 at h;by_cases e:cP a b=0
  ·exact e
  ·rw [if_neg e] at h;exact h
 by_cases e:b.num=[]
 ·unfold bJ i9 at h;rw [if_pos h0,if_pos e] at h;cases h
 ·have e1:bJ a b=dK (qv a / qv b):=by unfold bJ i9;rw [if_pos h0,if_neg e]
  rw [e1] at h ⊢;have:=mx h;exact ⟨e,this.1,this.2,(bD h0).2⟩
theorem Iz {b:RR} (hl:aC b) (hc:aA b=0) (h:b.num≠[]):qv b≠0:=fun e=>h (by
 have:=Dw hl aT hc rfl (by rw [e,my]);rw [this];rfl)
theorem oM {x f y:RR} (h:(gg x f y).2=0):qv (gg x f y).1=qv x - qv f*qv y∧aA (gg x f y).1=0:=by
 unfold gg at h ⊢;by_cases h1:(mulR f y).2=0
 ·rw [if_neg (fun k=>k h1)] at h ⊢;have:=iA h;rw [(iz h1).1] at this;exact this
 ·rw [if_pos h1] at h;exact absurd h h1
theorem vN (f g:Nat→Rat):∀ n,sumF (fun i=>f i - g i) n=sumF f n - sumF g n
 | 0=>by show (0:Rat)=0 - 0;grind
 | n+1=>by simp only [sumF,vN f g n];grind
theorem vO (f:Nat→Rat) (a:Nat):∀ b,sumF f (a+b)=sumF f a+sumF (fun j=>f (a+j)) b
 | 0=>by show sumF f a=sumF f a+0;grind
 | b+1=>by
  show sumF f (a+b)+f (a+b)=sumF f a+(sumF (fun j=>f (a+j)) b+f (a+b));rw [vO f a b];grind
theorem qi (x f y:RR):aC (gg x f y).1:=by
 unfold gg;split
 ·exact aT
 ·exact mi _ _ _
def Sat (n:Nat) (M:Nat→RR) (S:RR) (x:Nat→Rat):Prop:=sumF (fun i=>qv (M i)*x i) n=qv S
theorem AL {n s t:Nat} {y y':Sys} (h:jM n s t y=(y',0)) (ab1:s≠t) :
  ((∀ i,aC (y.M t i))→∀ i,aC (y'.M t i))∧
  (∀ r,r≠t→y'.M r=y.M r∧y'.S r=y.S r)∧y'.V=y.V∧(bJ (y.M t s) (y.M s s)).2=0∧(∀ i,i < n→qv (y'.M t i)=qv (y.M t i) - qv (bJ (y.M t s) (y.M s s)).1*qv (y.M s i))∧∀ x,Sat n (y'.M t) (y'.S t) x→Sat n (y.M s) (y.S s) x→Sat n (y.M t) (y.S t) x:=by
 unfold jM at h;by_cases h1:(bJ (y.M t s) (y.M s s)).2=0
 ·rw [if_neg (fun k=>k h1)] at h;by_cases h2:tE (y.M t) (bJ (y.M t s) (y.M s s)).1 (y.M s) n=0
  ·rw [if_neg (fun k=>k h2)] at h;by_cases h3:(gg (y.S t) (bJ (y.M t s) (y.M s s)).1 (y.S s)).2=0
   ·rw [if_neg (fun k=>k h3)] at h;injection h with h _
    subst h;have hrow:∀ i,i < n→qv (cN y.M t (iZ (y.M t) (bJ (y.M t s) (y.M s s)).1 (y.M s) n) t i)=qv (y.M t i) - qv (bJ (y.M t s) (y.M s s)).1*qv (y.M s i):=fun i hi=>by
     rw [bL];unfold iZ;rw [if_pos hi];exact (oM (bK h2 i hi)).1
    refine ⟨fun hl i=>?_,fun r hr=>⟨cG hr,cG hr⟩,rfl,h1,hrow,fun x hx hs=>?_⟩
    ·show aC (cN y.M t _ t i);rw [bL];unfold iZ;split
     ·exact qi _ _ _
     ·exact hl i
    unfold Sat at hx hs ⊢;dsimp only at hx;rw [bL (f:=y.S),(oM h3).1] at hx;have e:sumF (fun i=>qv (cN y.M t (iZ (y.M t) (bJ (y.M t s) (y.M s s)).1 (y.M s) n) t i)*x i) n=sumF (fun i=>qv (y.M t i)*x i) n - qv (bJ (y.M t s) (y.M s s)).1*sumF (fun i=>qv (y.M s i)*x i) n:=by
     rw [← vK,← vN];exact gD (fun i hi=>by rw [hrow i hi];grind)
    rw [e,hs] at hx;grind
   ·rw [if_pos h3] at h;injection h with _ h;exact absurd h h3
  ·rw [if_pos h2] at h;injection h with _ h;exact absurd h h2
 ·rw [if_pos h1] at h;injection h with _ h;exact absurd h h1
theorem vP {n s:Nat} {y:Sys} (hl:∀ t i,aC (y.M t i)):∀ {k:Nat} {y':Sys},cI n s y k=(y',0)→s+1+k≤n→
  (∀ r,(r≤s∨s+k < r)→y'.M r=y.M r∧y'.S r=y.S r)∧y'.V=y.V∧(∀ t i,aC (y'.M t i))∧
  ∀ t,s < t→t≤s+k→(∃ f,∀ i,i < n→qv (y'.M t i)=qv (y.M t i) - f*qv (y.M s i))∧qv (y'.M t s)=0∧
   ∀ x,Sat n (y'.M t) (y'.S t) x→Sat n (y.M s) (y.S s) x→Sat n (y.M t) (y.S t) x
 | 0,y',h,_=>by
  injection h with h _;subst h
  exact ⟨fun _ _=>⟨rfl,rfl⟩,rfl,hl,fun t h1 h2=>absurd h1 Z⟩
 | k+1,y',h,hk=>by
  unfold cI at h;by_cases h1:(cI n s y k).2=0
  ·rw [if_neg (fun k=>k h1)] at h;obtain ⟨a1,a2,a3,a4⟩:=vP hl (y':=(cI n s y k).1) (k:=k) (by rw [← h1]) Z;obtain ⟨b1,b2,b3,b4,b5,b6⟩:=AL h Z;have es:=a1 s (.inl (Nat.le_refl _));have et:=a1 (s+1+k) (.inr Z);rw [es.1,es.2,et.1,et.2] at b6;rw [es.1,et.1] at b4 b5;refine ⟨fun r hr=>?_,b3.trans a2,fun t i=>?_,fun t h2 h3=>?_⟩
   ·have:=b2 r Z;rw [this.1,this.2];exact a1 r Z
   ·by_cases e:t=s+1+k
    ·rw [e];exact b1 (fun i=>a3 _ i) i
    ·rw [(b2 t e).1];exact a3 t i
   ·by_cases e:t=s+1+k
    ·subst e;refine ⟨⟨_,b5⟩,?_,b6⟩;obtain ⟨d1,d2,_,d4⟩:=qh b4;have:=Iz (hl s s) d4 d1;rw [b5 s Z,d2];grind
    ·rw [(b2 t e).1,(b2 t e).2];exact a4 t h2 Z
  ·rw [if_pos h1] at h;rw [h] at h1;exact absurd rfl h1
theorem vQ {s:Nat} {y:Sys}:∀ {k:Nat} {v:RR},dP s y k=(v,0)→qv v=qv (y.S s) - sumF (fun j=>qv (y.M s (s+1+j))*qv (y.V (s+1+j))) k
 | 0,v,h=>by
  injection h with h _;subst h
  show qv (y.S s)=qv (y.S s) - 0;grind
 | k+1,v,h=>by
  unfold dP at h;by_cases h1:(dP s y k).2=0
  ·rw [if_neg (fun k=>k h1)] at h;have a:=vQ (y:=y) (s:=s) (k:=k) (v:=(dP s y k).1) (by rw [← h1]);have b:=oM (x:=(dP s y k).1) (f:=y.M s (s+1+k)) (y:=y.V (s+1+k)) (by rw [h]);rw [h,a] at b;show qv v=qv (y.S s) - (sumF (fun j=>qv (y.M s (s+1+j))*qv (y.V (s+1+j))) k+qv (y.M s (s+1+k))*qv (y.V (s+1+k)));rw [b.1];grind
  ·rw [if_pos h1] at h;rw [h] at h1;exact absurd rfl h1
theorem vR {n:Nat}:∀ {k s:Nat} {y y':Sys},bY n k s y=(y',0)→s+k=n→(∀ t i,aC (y.M t i))→(∀ t,s≤t→t < n→∀ i,i < s→qv (y.M t i)=0)→
  (∀ r,r < s→y'.M r=y.M r∧y'.S r=y.S r∧y'.V r=y.V r)∧∀ t,s≤t→t < n→aA (y'.V t)=0∧Sat n (y.M t) (y.S t) (fun i=>qv (y'.V i))
 | 0,s,y,y',h,hk,_,_=>by
  injection h with h _;subst h
  exact ⟨fun _ _=>⟨rfl,rfl,rfl⟩,fun t h1 h2=>absurd h1 Z⟩
 | k+1,s,y,y',h,hk,hl,hz=>by
  unfold bY at h;by_cases h1:(cI n s y (n - (s+1))).2=0
  ·rw [if_neg (fun k=>k h1)] at h;obtain ⟨a1,a2,a3,a4⟩:=vP hl (y':=(cI n s y (n - (s+1))).1) (k:=n - (s+1)) (by rw [← h1]) Z;generalize (cI n s y (n - (s+1))).1=y1 at *
   by_cases h2:(bY n k (s+1) y1).2=0
   ·rw [if_neg (fun k=>k h2)] at h;obtain ⟨c1,c2⟩:=vR (y':=(bY n k (s+1) y1).1) (n:=n) (k:=k) (s:=s+1) (y:=y1) (by rw [← h2]) Z a3 (fun t ht htn i hi=>by
     obtain ⟨⟨f,f1⟩,f2,_⟩:=a4 t Z Z;by_cases e:i=s
     ·rw [e];exact f2
     ·rw [f1 i Z,hz t Z htn i Z,hz s (Nat.le_refl _) Z i Z];grind)
    generalize (bY n k (s+1) y1).1=y2 at *
    by_cases h3:(dP s y2 (n - (s+1))).2=0
    ·rw [if_neg (fun k=>k h3)] at h;have hb:=vQ (v:=(dP s y2 (n - (s+1))).1) (y:=y2) (s:=s) (k:=n - (s+1)) (by rw [← h3]);generalize (dP s y2 (n - (s+1))).1=b at *
     by_cases h4:(bJ b (y2.M s s)).2=0
     ·rw [if_neg (fun k=>k h4)] at h;injection h with h _
      obtain ⟨d1,d2,d3,d4⟩:=qh h4;generalize (bJ b (y2.M s s)).1=v at *
      have es:=c1 s Z;have ey:=a1 s (.inl (Nat.le_refl _));rw [es.1,es.2.1] at hb;rw [es.1] at d1 d2 d4;rw [ey.1,ey.2] at hb;rw [ey.1] at d1 d2 d4;have hne:=Iz (hl s s) d4 d1;have hV:∀ i,y'.V i=cN y2.V s v i:=fun i=>by rw [← h]
      have YE:y'.V s=v:=by rw [hV,bL]
      have R0:∀ i,i≠s→y'.V i=y2.V i:=fun i hi=>by rw [hV,cG hi]
      have hrow:Sat n (y.M s) (y.S s) (fun i=>qv (y'.V i)):=by
       unfold Sat;have en:n=s+1+(n - (s+1)):=Z
       have e0:sumF (fun i=>qv (y.M s i)*qv (y'.V i)) n=sumF (fun i=>qv (y.M s i)*qv (y'.V i)) (s+1)+sumF (fun j=>qv (y.M s (s+1+j))*qv (y'.V (s+1+j))) (n - (s+1)):=by
        rw [← vO,← en]
       have e1:sumF (fun i=>qv (y.M s i)*qv (y'.V i)) (s+1)=qv (y.M s s)*qv v:=by
        show sumF _ s+qv (y.M s s)*qv (y'.V s)=_;rw [nh (fun i hi=>by rw [hz s (Nat.le_refl _) Z i hi,Rat.zero_mul]),YE];grind
       have e2:sumF (fun j=>qv (y.M s (s+1+j))*qv (y'.V (s+1+j))) (n - (s+1))=sumF (fun j=>qv (y.M s (s+1+j))*qv (y2.V (s+1+j))) (n - (s+1)):=
        gD (fun j _=>by rw [R0 (s+1+j) Z])
       rw [e0,e1,e2,d2];grind
      refine ⟨fun r hr=>⟨?_,?_,?_⟩,fun t ht htn=>?_⟩
      ·rw [← h];exact (c1 r Z).1.trans (a1 r (.inl Z)).1
      ·rw [← h];exact (c1 r Z).2.1.trans (a1 r (.inl Z)).2
      ·rw [R0 r Z,(c1 r Z).2.2,a2]
      ·by_cases e:t=s
       ·subst e;exact ⟨by rw [YE];exact d3,hrow⟩
       ·have g:=c2 t Z htn;refine ⟨by rw [R0 t e];exact g.1,(a4 t Z Z).2.2 _ ?_ hrow⟩;have g2:=g.2;unfold Sat at g2 ⊢;rw [← g2];refine gD (fun i hi=>?_);by_cases ei:i=s
        ·rw [ei,(a4 t Z Z).2.1];grind
        ·show qv (y1.M t i)*qv (y'.V i)=qv (y1.M t i)*qv (y2.V i);rw [R0 i ei]
     ·rw [if_pos h4] at h;injection h with _ h;exact absurd h h4
    ·rw [if_pos h3] at h;injection h with _ h;exact absurd h h3
   ·rw [if_pos h2] at h;rw [h] at h2;exact absurd rfl h2
  ·rw [if_pos h1] at h;rw [h] at h1;exact absurd rfl h1
theorem vS {n t:Nat} (M:Nat→RR) (v:RR) (x:Nat→Rat) (ht:t < n):sumF (fun i=>qv (cN M t v i)*x i) n=sumF (fun i=>qv (M i)*x i) n+(qv v - qv (M t))*x t:=by
 rw [vJ (f:=fun i=>qv (M i)*x i) (g:=fun i=>qv (cN M t v i)*x i) ht (fun j h1 h2=>by
  show qv (cN M t v j)*x j=qv (M j)*x j;rw [cG h2])]
 show _+(qv (cN M t v t)*x t - qv (M t)*x t)=_;rw [bL];grind
theorem mE {f:Nat→RR} {t:Nat} {v:RR} (h:∀ i,aC (f i)) (hv:aC v) (i:Nat):aC (cN f t v i):=by
 unfold cN;split
 ·exact hv
 ·exact h i
theorem AM (l:List Out) (x:Nat→Rat) (k:Nat) (h:k < l.length):cO (l.take (k+1)) x=cO (l.take k) x+qv (l.getD k dO).2*x (l.getD k dO).1.toNat:=by
 induction l generalizing k with
 | nil=>exact absurd h cp
 | cons o os ih=>
  cases k with
  | zero=>show qv o.2*x o.1.toNat+cO (os.take 0) x=cO [] x+qv o.2*x o.1.toNat;show _+(0:Rat)=0+_;grind
  | succ k=>
   have:=ih k kN;show qv o.2*x o.1.toNat+cO (os.take (k+1)) x=qv o.2*x o.1.toNat+cO (os.take k) x+qv (os.getD k dO).2*x (os.getD k dO).1.toNat;rw [this];grind
theorem vT {n:Nat} (d:RR) (l:List Out) (s:Nat) (hs:s < n) (hl:∀ o ∈ l,o.1.toNat < n):∀ {k:Nat} {M:Nat→RR},eH d l s k=(M,0)→k≤l.length→
  (∀ i,aC (M i))∧∀ x:Nat→Rat,sumF (fun i=>qv (M i)*x i) n=x s - qv d*cO (l.take k) x
 | 0,M,h,_=>by
  injection h with h _;subst h
  refine ⟨mE (fun _=>aT) (cU _),fun x=>?_⟩;rw [vS _ _ _ hs,nh (fun i _=>by rw [my,Rat.zero_mul]),jk,my];show _=x s - qv d*(0:Rat);grind
 | k+1,M,h,hk=>by
  unfold eH at h;by_cases h1:(eH d l s k).2=0
  ·rw [if_neg (fun k=>k h1)] at h;obtain ⟨a1,a2⟩:=vT d l s hs hl (M:=(eH d l s k).1) (k:=k) (by rw [← h1]) Z;generalize (eH d l s k).1=M1 at *
   by_cases h2:(gg (M1 (l.getD k dO).1.toNat) d (l.getD k dO).2).2=0
   ·rw [if_neg (fun k=>k h2)] at h;injection h with h _;subst h
    have ht:(l.getD k dO).1.toNat < n:=hl _ (by rw [List.getD_eq_getElem?_getD,List.getElem?_eq_getElem Z];exact List.getElem_mem _);refine ⟨mE a1 (qi _ _ _),fun x=>?_⟩;rw [vS _ _ _ ht,a2 x,(oM h2).1,AM l x k Z];grind
   ·rw [if_pos h2] at h;injection h with _ h;exact absurd h h2
  ·rw [if_pos h1] at h;rw [h] at h1;exact absurd rfl h1
theorem kj (d:RR) (l:List Out) (s:Nat):∀ k i,aC ((eH d l s k).1 i)
 | 0,i=>mE (fun _=>aT) (cU _) i
 | k+1,i=>by
  unfold eH;split
  ·exact kj d l s k i
  ·split
   ·exact kj d l s k i
   ·exact mE (kj d l s k) (qi _ _ _) i
theorem AO {m:MD} {p:List Int} {vs:List RR} (h:aH m p=(vs,0)) (hl:∀ s,s < p.length→∀ o ∈ (cJ m p s).next,o.1.toNat < p.length) :
  vs.length=p.length∧∀ s,s < p.length→aA (vs.getD s zR)=0∧qv (vs.getD s zR)=qv (cJ m p s).cost+qv m.ah*cO (cJ m p s).next (fun t=>qv (vs.getD t zR)):=by
 unfold aH at h;by_cases h1:bG (fun s=>(fC m p s).2) p.length=0
 ·rw [if_neg (fun k=>k h1)] at h;by_cases h2:(bY p.length p.length 0 (mB m p)).2=0
  ·rw [if_neg (fun k=>k h2)] at h;injection h with h _
   have hrow:∀ s,s < p.length→_:=fun s hs=>vT m.ah (cJ m p s).next s hs (hl s hs) (M:=(fC m p s).1) (by
    have:=bK h1 s hs;unfold fC at this ⊢;rw [← this]) (Nat.le_refl _)
   obtain ⟨r1,r2⟩:=vR (n:=p.length) (k:=p.length) (s:=0) (y:=mB m p) (y':=(bY p.length p.length 0 (mB m p)).1) (by rw [← h2]) Z
    (fun t i=>kj _ _ _ _ i) (fun _ _ _ i hi=>absurd hi Z)
   generalize (bY p.length p.length 0 (mB m p)).1=y at *
   subst h;have hv:∀ i,i < p.length→((List.range p.length).map y.V).getD i zR=y.V i:=fun i hi=>by
    rw [List.getD_eq_getElem?_getD,List.getElem?_eq_getElem Ia];simp
   refine ⟨by simp,fun s hs=>?_⟩;obtain ⟨g1,g2⟩:=r2 s (Nat.zero_le _) hs;rw [hv s hs];refine ⟨g1,?_⟩;have e1:=(hrow s hs).2 (fun i=>qv (y.V i));have e2:sumF (fun i=>qv ((fC m p s).1 i)*qv (y.V i)) p.length=qv (cJ m p s).cost:=g2;rw [e2,List.take_length] at e1;have e3:cO (cJ m p s).next (fun t=>qv (((List.range p.length).map y.V).getD t zR))=cO (cJ m p s).next (fun i=>qv (y.V i)):=qg (fun o ho=>by rw [hv _ (hl s hs o ho)]);rw [e3];grind
  ·rw [if_pos h2] at h;injection h with _ h;exact absurd h h2
 ·rw [if_pos h1] at h;injection h with _ h;exact absurd h h1
theorem oN {M:Rat} {f:Nat→Rat}:∀ {l:List Out},(∀ o ∈ l,0≤qv o.2)→(∀ o ∈ l,f o.1.toNat≤M)→cO l f≤M*cO l (fun _=>1)
 | [],_,_=>by show (0:Rat)≤M*0;grind
 | o :: os,h1,h2=>by
  have a:=oN (f:=f) (M:=M) (l:=os) (fun x hx=>h1 x Nj) (fun x hx=>h2 x Nj);have b:=iR (h1 o cp) (h2 o cp);show qv o.2*f o.1.toNat+cO os f≤M*(qv o.2*1+cO os (fun _=>1));have c:=yW b a;have e:qv o.2*M+M*cO os (fun _=>1)=M*(qv o.2*1+cO os (fun _=>1)):=by grind
  rw [e] at c;exact c
theorem Dx (d:Nat→Rat):∀ n,∃ j,j < n+1∧∀ s,s < n+1→d s≤d j
 | 0=>⟨0,by omega,fun s hs=>by rw [show s=0 by omega];exact Rat.le_refl⟩
 | n+1=>by
  obtain ⟨j,hj,h⟩:=Dx d n;by_cases e:d j≤d (n+1)
  ·refine ⟨n+1,by omega,fun s hs=>?_⟩;by_cases e2:s=n+1
   ·rw [e2];exact Rat.le_refl
   ·exact Rat.le_trans (h s Z) e
  ·refine ⟨j,by omega,fun s hs=>?_⟩;by_cases e2:s=n+1
   ·rw [e2];exact Rat.le_of_lt (Rat.not_le.1 e)
   ·exact h s Z
theorem contract {n:Nat} {g:Rat} (h0:0≤g) (h1:g < 1) {L:Nat→List Out} {d:Nat→Rat} (hO:∀ s,s < n→vL n (L s)) (hS:∀ s,s < n→cO (L s) (fun _=>1)=1)
  (h:∀ s,s < n→d s≤g*cO (L s) d):∀ s,s < n→d s≤0:=fun s hs=>by
 obtain ⟨k,rfl⟩:∃ k,n=k+1:=⟨n - 1,by omega⟩;obtain ⟨j,hj,hm⟩:=Dx d k;have a:=oN (f:=d) (M:=d j) (l:=L j) (fun o ho=>gd (hO j hj o ho).2.2.2) (fun o ho=>hm _ (by have:=hO j hj o ho;omega));rw [hS j hj] at a;have b:=Rat.le_trans (h j hj) (iR h0 a);refine Rat.le_trans (hm s hs) (Rat.not_lt.1 fun hp=>?_);have c:0 < (1 - g)*d j:=Rat.mul_pos (by grind) hp;have e:g*(d j*1)=d j - (1 - g)*d j:=by grind
 rw [e] at b;grind
theorem mF (f g:Nat→Rat):∀ l:List Out,cO l (fun t=>f t - g t)=cO l f - cO l g
 | []=>by show (0:Rat)=0 - 0;grind
 | o :: os=>by
  show qv o.2*(f o.1.toNat - g o.1.toNat)+cO os (fun t=>f t - g t)=qv o.2*f o.1.toNat+cO os f - (qv o.2*g o.1.toNat+cO os g);rw [mF f g os];grind
theorem sub_le {n:Nat} {g:Rat} (h0:0≤g) (h1:g < 1) {L:Nat→List Out} {c u v:Nat→Rat} (hO:∀ s,s < n→vL n (L s)) (hS:∀ s,s < n→cO (L s) (fun _=>1)=1)
  (hu:∀ s,s < n→u s≤c s+g*cO (L s) u) (hv:∀ s,s < n→c s+g*cO (L s) v≤v s):∀ s,s < n→u s≤v s:=fun s hs=>by
 have:=contract h0 h1 (d:=fun t=>u t - v t) hO hS (fun t ht=>by
  show u t - v t≤_;rw [mF];have a:=hu t ht;have b:=hv t ht;grind) s hs
 grind
def fQ (r:RR):RR:=⟨false,r.num,r.den⟩
def nU (a b:List RR) (k:Nat):List RR:=zR :: (List.range k).map fun i=>fQ (bR (a.getD i zR) (b.getD i zR)).1
def iB (l:List RR):Nat→Nat
 | 0=>0
 | k+1=>if qv (l.getD (iB l k) zR) < qv (l.getD k zR) then k else iB l k
def Dy (a b:List RR):Int:=bG (fun i=>(bR (a.getD i zR) (b.getD i zR)).2) a.length
def bP (a b:List RR):RR × Int:=
 if a.length≠b.length then (zR,16) else if Dy a b≠0 then (zR,Dy a b) else ((nU a b a.length).getD (iB (nU a b a.length) (a.length+1)) zR,0)
theorem gU (a b:List RR) (k:Nat):(nU a b k).length=k+1:=by simp [nU]
theorem Dz (a b:List RR) (k:Nat):nU a b (k+1)=nU a b k ++ [fQ (bR (a.getD k zR) (b.getD k zR)).1]:=by unfold nU;rw [List.range_succ,List.map_append];rfl
theorem qj {a b:List RR} {k i:Nat} (h:i < k):(nU a b k).getD (i+1) zR=fQ (bR (a.getD i zR) (b.getD i zR)).1:=by
 unfold nU;rw [List.getD_cons_succ,List.getD_eq_getElem?_getD,List.getElem?_map,List.getElem?_range h];rfl
theorem DG {r:RR} (h:aC r):aC (fQ r):=h
theorem DH {r:RR} (h:aA r=0):aA (fQ r)=0:=by
 obtain ⟨b,n,d⟩:=r;unfold fQ;unfold aA at h ⊢;dsimp only at h ⊢;by_cases h1:128 < n.length∨128 < d.length
 ·rw [if_pos h1] at h;cases h
 ·rw [if_neg h1] at h ⊢;by_cases h2:dT n≠0∨dT d≠0∨d=[1]∨(n=[]∧(b=true∨d≠[]))
  ·rw [if_pos h2] at h;cases h
  ·rw [if_neg h2] at h;rw [if_neg (fun z=>h2 (by
    rcases z with z|z|z|⟨z1,z|z⟩
    ·exact .inl z
    ·exact .inr (.inl z)
    ·exact .inr (.inr (.inl z))
    ·cases z
    ·exact .inr (.inr (.inr ⟨z1,.inr z⟩))))]
   exact h
theorem zr (a b:List RR) (k:Nat):dm (nU a b k):=fun i hi=>by
 rw [gU] at hi;cases i with
 | zero=>exact aT
 | succ i=>rw [qj Z];exact DG (gC _ _)
theorem zs {a b:List RR} {k:Nat} (h:∀ i,i < k→(bR (a.getD i zR) (b.getD i zR)).2=0):∀ i,i < (nU a b k).length→aA ((nU a b k).getD i zR)=0:=fun i hi=>by
 rw [gU] at hi;cases i with
 | zero=>rfl
 | succ i=>rw [qj Z];exact DH (iA (h i Z)).2
theorem Kx {a b:List RR} (h:a.length≠b.length):bP a b=(zR,16):=if_pos h
theorem Ky {a b:List RR} (h:a.length=b.length) {k:Nat} {c:Int} (hk:k < a.length) (h0:∀ i,i < k→(bR (a.getD i zR) (b.getD i zR)).2=0) (h1:(bR (a.getD k zR) (b.getD k zR)).2=c) (hc:c≠0):bP a b=(zR,c):=by
 have e:Dy a b=c:=(dF (f:=fun i=>(bR (a.getD i zR) (b.getD i zR)).2) h0 (by rw [h1];exact hc) hk).trans h1;unfold bP;rw [if_neg (fun z=>z h),e,if_pos hc]
theorem KD {a b:List RR} (h:a.length=b.length) (h0:∀ i,i < a.length→(bR (a.getD i zR) (b.getD i zR)).2=0):bP a b=((nU a b a.length).getD (iB (nU a b a.length) (a.length+1)) zR,0):=by
 have e:Dy a b=0:=bH h0;unfold bP;rw [if_neg (fun z=>z h),e,if_neg (fun z=>z rfl)]
theorem AQ (va vb:Value) (ra rb:RR) (w:World) (ha:bh w va ra) (hb:bh w vb rb) (la:aC ra) (lb:aC rb) :
  Calls Tryz.prog 153 #[va,vb] w fun e w'=>e=.returned (.bool (vi rb ra))∧Ext w w':=by
 have hcm:=fun W (x:Ext w W)=>kS vb va rb ra W (hb.ext x) (ha.ext x) lb la;obtain ⟨q,hq⟩:=gN (vi rb ra);rw [← hq] at hcm ⊢;obtain ⟨a1,a2,a3,a4,rfl⟩:=ha.shape;obtain ⟨b1,b2,b3,b4,rfl⟩:=hb.shape;have HC:=kI hcm;have X0:=kI (((Ext.refl w).alloc (.cells #[.bool ra.neg,.slice a1 ra.num.length a2,.slice a3 ra.den.length a4] 25)).alloc (.cells #[.bool rb.neg,.slice b1 rb.num.length b2,.slice b3 rb.den.length b4] 25));clear hcm hq ha hb la lb;go_enter Tryz.func153,Tryz.ntmps153
 go_wp2_with fail;refine (HC.o _ X0.o).mono ?_;rintro e w1 ⟨rfl,hx⟩;have X1:=kI (X0.o.trans hx);clear hx;go_wp2_with fail;go_ret;exact ⟨rfl,X1.o⟩
theorem mG {l:List RR}:∀ {k:Nat},0 < k→iB l k < k
 | 0,h=>by omega
 | k+1,_=>by
  unfold iB;split
  ·omega
  ·rcases Nat.eq_zero_or_pos k with h0|h0
   ·subst h0;exact Nat.zero_lt_one
   ·have:=mG (l:=l) h0;omega
theorem Gz (l:List RR) (k n:Nat) (h:k≤n) (hn:0 < n):iB l k < n:=by
 rcases Nat.eq_zero_or_pos k with h0|h0
 ·subst h0;exact hn
 ·have:=mG (l:=l) h0;omega
theorem AR (v:Value) (l:List RR) (w:World) (h:cH w v l) (hl:dm l) (hv:∀ i,i < l.length→aA (l.getD i zR)=0) :
  Calls Tryz.prog 147 #[v,.func (.func 153) #[] #[]] w fun e w'=>e=.returned (.int .i64 (iB l l.length))∧Ext w w':=by
 obtain ⟨a,c,rfl,hc,hm,_⟩:=h.get;have hll:l.length≤9223372036854775807:=Z
 have HR:=kI h;have HL:=kI hl;have HV:=kI hv;clear h hl hv hc hm;have X:=kI (Ext.refl w);go_enter Tryz.func147,Tryz.ntmps147
 go_wp2_with fail;go_loopw [5,9] (fun b i wr=>∃ k:Nat,k≤l.length∧i=.int .i64 k∧b=.int .i64 (iB l k)∧Ext w wr) (fun _ i _=>l.length - (intOf i).toNat)
 case atStart=>exact ⟨0,by omega,rfl,rfl,Ext.refl _⟩
 case round=>
  obtain ⟨wk,hwk⟩:=gN (wr);subst hwk;obtain ⟨k,hk,rfl,rfl,hx⟩:=hrel;have XK:=kI hx;have HW:=kI (HR.o.ext hx);clear hx;by_cases hlt:k < l.length
  ·have hb:=Gz l k l.length hk Z;have hst:iB l (k+1)=if qv (l.getD (iB l k) zR) < qv (l.getD k zR) then k else iB l k:=rfl;obtain ⟨j,hj⟩:=gN (iB l k);rw [← hj] at hb hst ⊢;obtain ⟨b,off,a1,c1,a2,c2,ea,z0,z1,z2,z3,z4⟩:=HW.o.at hlt;obtain ⟨b',off',a3,c3,a4,c4,eb,y0,y1,y2,y3,y4⟩:=HW.o.at hb;rw [ea] at eb;injection eb with eb
   injection eb with Iq Oq
   subst Iq;subst Oq;subst ea;have hl1:=HL.o k;have hl2:=HL.o j;have hlo:=zk (HV.o j hb) (HV.o k hlt);obtain ⟨r,hr⟩:=gN (l.getD k zR);obtain ⟨s,hs⟩:=gN (l.getD j zR);rw [← hr] at z1 z2 z3 z4 hl1 hlo hst;rw [← hs] at y1 y2 y3 y4 hl2 hlo hst;have NR:=kI z4;have NS:=kI y4;have H1:=kI hl1;have H2:=kI hl2;have Gb:=kI hlo;have HST:=kI hst;have HJ:=kI hj;have q1:(0:Int)≤(k:Int):=Z
   have q2:(k:Int) < (l.length:Int):=Z
   have q3:(0:Int)≤(j:Int):=Z
   have q4:(j:Int) < (l.length:Int):=Z
   clear z4 y4 hl1 hl2 hlo hst hr hs hj;go_wp2_with fail;refine eK 9 ax ax ?_;simp only [List.take_succ_cons,List.take_zero,List.drop_succ_cons,List.drop_zero];(repeat (go_big_quiet_step (fail)))
   refine wpQuiet_nil ?_;rintro w1 ⟨⟨_,hx1⟩,rfl⟩;(try dsimp only);replace XK:=kI (XK.o.trans hx1);clear z0 z1 z2 z3 y0 y1 y2 y3 HW;go_wp2_with fail;refine (AQ _ _ r s w1 (NR.o.ext hx1) (NS.o.ext hx1) (H1.o hlt) (H2.o hb)).mono ?_;rintro e w2 ⟨rfl,hx⟩;replace XK:=kI (XK.o.trans hx);clear hx hx1;obtain ⟨q,hq⟩:=gN (vi s r);have HQ:=kI hq;rw [← hq];clear hq;cases q
   ·go_wp2_with fail;go_roundw
    case rel=>
     have hn:¬ qv s < qv r:=of_decide_eq_false (Gb.o.symm.trans HQ.o.symm);exact ⟨k+1,by omega,by go_num,by rw [HST.o,if_neg hn],XK.o⟩
    case measure=>simp [intOf];omega
   ·go_wp2_with fail;go_roundw
    case rel=>
     have hn:qv s < qv r:=of_decide_eq_true (Gb.o.symm.trans HQ.o.symm);exact ⟨k+1,by omega,by go_num,by rw [HST.o,if_pos hn],XK.o⟩
    case measure=>simp [intOf];omega
  ·obtain rfl:k=l.length:=Z
   have q1:¬ (l.length:Int) < (l.length:Int):=Z
   go_wp2_with fail;go_ret;exact ⟨rfl,XK.o⟩
def AS (w w':World) (e:Ending) (r:RR × Int):Prop:=∃ s1 s2 s3 s4,e=.returned (.tuple #[.agg #[.bool r.1.neg,.slice s1 r.1.num.length s2,.slice s3 r.1.den.length s4],.int .i64 r.2])∧bI w.heap.size w' [.bool r.1.neg,.slice s1 r.1.num.length s2,.slice s3 r.1.den.length s4] r.1
theorem AS.mk {w w':World} {s1 s3:Option Addr} {s2 s4:Nat} {l:RR} {x:Int} {r:RR × Int} (h:bI w.heap.size w' [.bool l.neg,.slice s1 l.num.length s2,.slice s3 l.den.length s4] l) (e:r=(l,x)):AS w w' (.returned (.tuple #[.agg #[.bool l.neg,.slice s1 l.num.length s2,.slice s3 l.den.length s4],.int .i64 x])) r:=by subst e;exact ⟨_,_,_,_,rfl,h⟩
theorem bI.zero (B:Nat) (w:World):bI B w [.bool zR.neg,.slice none zR.num.length 0,.slice none zR.den.length 0] zR:=⟨none,0,none,0,rfl,oK _ _,oK _ _⟩
theorem bI.abs {B:Nat} {w:World} {r:RR} {s1 s3:Option Addr} {s2 s4:Nat} (h:bI B w [.bool r.neg,.slice s1 r.num.length s2,.slice s3 r.den.length s4] r):bI B w [.bool (fQ r).neg,.slice s1 (fQ r).num.length s2,.slice s3 (fQ r).den.length s4] (fQ r):=by
 obtain ⟨a1,c1,a2,c2,e,h1,h2⟩:=h;simp only [List.cons.injEq,Value.slice.injEq,and_true,true_and] at e;obtain ⟨⟨rfl,rfl⟩,rfl,rfl⟩:=e;exact ⟨_,_,_,_,rfl,h1,h2⟩
theorem bV.one {B:Nat} {w:World} {g:Nat} {r:RR} {s1 s3:Option Addr} {s2 s4:Nat} (hb:ag w g #[.bool r.neg,.slice s1 r.num.length s2,.slice s3 r.den.length s4] 25) (hB:B≤g) (h:bI B w [.bool r.neg,.slice s1 r.num.length s2,.slice s3 r.den.length s4] r):bV B w (.slice (some ⟨g,0,none⟩) 1 1) [r]:=by
 refine ⟨[[.bool r.neg,.slice s1 r.num.length s2,.slice s3 r.den.length s4]],⟨rfl,.inr ⟨g,1,_,rfl,hB,hb,Nat.le_refl _,by unfold maxLen;omega,rfl,rfl⟩⟩,rfl,(fun x hx=>by rw [List.mem_singleton.1 hx];rfl),fun i x hi=>?_⟩;cases i with
 | zero=>exact ⟨_,rfl,by injection hi with hi;subst hi;exact h⟩
 | succ i=>simp at hi
def KF (pa:Option Addr) (na ca:Nat) (pb:Option Addr) (nb cb k:Nat) (xa oa xb ob:Nat) (xr yr:RR) (a1:Option Addr) (a2:Nat) (a3:Option Addr) (a4:Nat) (b1:Option Addr) (b2:Nat) (b3:Option Addr) (b4:Nat) (d:RR) (c:Int) (B C:Nat) (j:Nat) (v:Value) (W:World):Prop:=
 match j with
 | 0=>v=.slice pa na ca
 | 1=>v=.int .i64 (k:Nat)
 | 2=>v=.pointer (some ⟨xa,oa+k*3,none⟩)
 | 3=>v=.agg #[.bool xr.neg,.slice a1 xr.num.length a2,.slice a3 xr.den.length a4]
 | 4=>v=.slice pb nb cb
 | 5=>v=.int .i64 (k:Nat)
 | 6=>v=.pointer (some ⟨xb,ob+k*3,none⟩)
 | 7=>v=.agg #[.bool yr.neg,.slice b1 yr.num.length b2,.slice b3 yr.den.length b4]
 | 8=>∃ s1 s2 s3 s4,v=.tuple #[.agg #[.bool d.neg,.slice s1 d.num.length s2,.slice s3 d.den.length s4],.int .i64 c]∧cD B W (.slice s1 d.num.length s2) d.num∧cD B W (.slice s3 d.den.length s4) d.den
 | 9=>∃ s1 s2 s3 s4,v=.tuple #[.agg #[.bool d.neg,.slice s1 d.num.length s2,.slice s3 d.den.length s4],.int .i64 c]∧cD B W (.slice s1 d.num.length s2) d.num∧cD B W (.slice s3 d.den.length s4) d.den
 | 10=>∃ s1 s2 s3 s4,v=.agg #[.bool d.neg,.slice s1 d.num.length s2,.slice s3 d.den.length s4]∧cD B W (.slice s1 d.num.length s2) d.num∧cD B W (.slice s3 d.den.length s4) d.den
 | 11=>v=.int .i64 c
 | 12=>∃ y,v=.pointer (some ⟨y,0,none⟩)∧C≤y∧ag W y #[.bool false,.slice none 0 0,.slice none 0 0] 25
 | _=>True
theorem DI {pa:Option Addr} {na ca:Nat} {pb:Option Addr} {nb cb k:Nat} {xa oa xb ob:Nat} {xr yr:RR} {a1:Option Addr} {a2:Nat} {a3:Option Addr} {a4:Nat} {b1:Option Addr} {b2:Nat} {b3:Option Addr} {b4:Nat} {d:RR} {c:Int} {B C:Nat} {j:Nat} {v:Value} {W W':World} (h:KF pa na ca pb nb cb k xa oa xb ob xr yr a1 a2 a3 a4 b1 b2 b3 b4 d c B C j v W) (xx:Ext W W'):KF pa na ca pb nb cb k xa oa xb ob xr yr a1 a2 a3 a4 b1 b2 b3 b4 d c B C j v W':=by
 match j,h with
 | 0,h=>exact h
 | 1,h=>exact h
 | 2,h=>exact h
 | 3,h=>exact h
 | 4,h=>exact h
 | 5,h=>exact h
 | 6,h=>exact h
 | 7,h=>exact h
 | 8,⟨s1,s2,s3,s4,h0,h1,h2⟩=>exact ⟨s1,s2,s3,s4,h0,h1.ext xx,h2.ext xx⟩
 | 9,⟨s1,s2,s3,s4,h0,h1,h2⟩=>exact ⟨s1,s2,s3,s4,h0,h1.ext xx,h2.ext xx⟩
 | 10,⟨s1,s2,s3,s4,h0,h1,h2⟩=>exact ⟨s1,s2,s3,s4,h0,h1.ext xx,h2.ext xx⟩
 | 11,h=>exact h
 | 12,⟨y,h0,h1,h2⟩=>exact ⟨y,h0,h1,h2.ext xx⟩
 | _+13,_=>trivial
theorem vU (va vb:Value) (a b:List RR) (w:World) (ha:cH w va a) (hb:cH w vb b) (hla:dm a) (hlb:dm b) (h6:a.length≤1000000) :
  Calls Tryz.prog 107 #[va,vb] w fun e w'=>AS w w' e (bP a b)∧Ext w w':=by
 obtain ⟨pa,ca,rfl,hca,hma,-⟩:=ha.get;obtain ⟨pb,cb,rfl,hcb,hmb,-⟩:=hb.get;have HA:=kI ha;have HB:=kI hb;have Ih:=kI hla;have zJ:=kI hlb;have H6:=kI h6;have HA0:=HA;have HB0:=HB;have hal:a.length≤9223372036854775807:=Z
 have hbl:b.length≤9223372036854775807:=Z
 clear ha hb hla hlb hca hma hcb hmb;have bb0:=(ag.new w #[.bool false,.slice none 0 0,.slice none 0 0] 25);have x0:Ext w (w.alloc (.cells #[.bool false,.slice none 0 0,.slice none 0 0] 25)):=((Ext.refl w).alloc _);have A0:=kI bb0;have X:=kI x0;clear x0 bb0;clear HA HB h6;by_cases hn:a.length=b.length
 rotate_left
 ·have q1:((a.length:Int) != (b.length:Int))=true:=bne_iff_ne.2 Z;have E:=kI (Kx hn);clear hn;go_enter Tryz.func107,Tryz.ntmps107
  obtain ⟨aK,fA0,aJ⟩:=A0.o.q3;go_wp2_with fail;refine bodyPost_ret (v:=.tuple #[.agg #[.bool false,.slice none 0 0,.slice none 0 0],.int .i64 16]) Sx rfl ?_;exact ⟨AS.mk (bI.zero _ _) E.o,X.o⟩
 have q1:((a.length:Int) != (b.length:Int))=false:=bne_eq_false_iff_eq.2 Z;go_enter Tryz.func107,Tryz.ntmps107
 obtain ⟨aK,fA0,aJ⟩:=A0.o.q3;go_wp2_with fail;clear aK fA0 aJ;have b1:=ag.new (w.alloc (.cells #[.bool false,.slice none 0 0,.slice none 0 0] 25)) #[.bool false,.slice none 0 0,.slice none 0 0] 25;rw [World.size_alloc] at b1;have hx:Ext (w.alloc (.cells #[.bool false,.slice none 0 0,.slice none 0 0] 25)) ((w.alloc (.cells #[.bool false,.slice none 0 0,.slice none 0 0] 25)).alloc (.cells #[.bool false,.slice none 0 0,.slice none 0 0] 25)):=(Ext.refl _).alloc _;obtain ⟨wl,hwl⟩:=gN ((w.alloc (.cells #[.bool false,.slice none 0 0,.slice none 0 0] 25)).alloc (.cells #[.bool false,.slice none 0 0,.slice none 0 0] 25));rw [← hwl] at b1 hx ⊢;have hone:bV (w.heap.size+1) wl (.slice (some ⟨w.heap.size+1,0,none⟩) 1 1) [zR]:=bV.one (s1:=none) (s2:=0) (s3:=none) (s4:=0) b1 (Nat.le_refl _) (bI.zero _ _);replace A0:=kI (A0.o.ext hx);replace X:=kI (X.o.trans hx);have ON:=kI hone;have HN:=kI hn;have AN:=kI (show w.heap.size < wl.heap.size from A0.o.lt);clear b1 hx hwl hone hn;go_loopw [20,6] (fun i lv wr=>∃ k:Nat,k≤a.length∧i=.int .i64 (k:Nat)∧(∀ i,i < k→(bR (a.getD i zR) (b.getD i zR)).2=0)∧bV (w.heap.size+1) wr lv (nU a b k)∧ag wr w.heap.size #[.bool false,.slice none 0 0,.slice none 0 0] 25∧Ext w wr) (fun i _ _=>a.length - (intOf i).toNat)
 case atStart=>exact ⟨0,Nat.zero_le _,rfl,fun i h=>absurd h (Nat.not_lt_zero _),ON.o,A0.o,X.o⟩
 case round=>
  obtain ⟨wi,hwi⟩:=gN (wr);subst hwi;clear ON A0 X;obtain ⟨k,hk,rfl,hok,how,ha0,hx⟩:=hrel;have OK:=kI hok;have OW:=kI how;have A0:=kI ha0;have X:=kI hx;have HA:=kI (HA0.o.ext hx);have HB:=kI (HB0.o.ext hx);have HK:=kI hk;obtain ⟨la,lc,rfl⟩:=how.shape;rw [gU] at OW ⊢;clear hok how ha0 hx hk;by_cases hlt:k < a.length
  ·have fb:=kI hlt;have q1:(0:Int)≤(k:Int):=Z
   have q2:(k:Int) < (a.length:Int):=Z
   have q4:(k:Int) < (b.length:Int):=by have:=HN.o;omega
   obtain ⟨xa,oa,a1,a2,a3,a4,rfl,x0,x1,x2,x3,x4⟩:=HA.o.at hlt;obtain ⟨xb,ob,b1,b2,b3,b4,rfl,y0,y1,y2,y3,y4⟩:=HB.o.at (i:=k) QZ;have hxl:=Ih.o k hlt;have hyl:=zJ.o k QZ;obtain ⟨xr,hxr⟩:=gN (a.getD k zR);obtain ⟨yr,IC⟩:=gN (b.getD k zR);rw [← hxr] at x1 x2 x3 x4 hxl;rw [← IC] at y1 y2 y3 y4 hyl;have MX:=kI hxr;have Qg:=kI IC;obtain ⟨R,hR⟩:=gN (bR xr yr);have HR:=kI hR;obtain ⟨d,c⟩:=R;have hsub:∀ W,Ext wi W→Calls Tryz.prog 57 #[.agg #[.bool xr.neg,.slice a1 xr.num.length a2,.slice a3 xr.den.length a4],.agg #[.bool yr.neg,.slice b1 yr.num.length b2,.slice b3 yr.den.length b4]] W fun e w'=>bU W w' e (d,c)∧Ext W w':=fun W hW=>by
    have h:=gw _ _ xr yr W (x4.ext hW) (y4.ext hW) hxl hyl;rw [← hR] at h;exact h
   have YF:=kI hsub;have YG:=kI (show w.heap.size+1≤wi.heap.size from A0.o.lt);have XS:=kI (And.intro x0 (And.intro x1 (And.intro x2 x3)));have YS:=kI (And.intro y0 (And.intro y1 (And.intro y2 y3)));clear hxl hyl hxr IC hR hsub x0 x1 x2 x3 x4 y0 y1 y2 y3 y4;go_wp2_with fail;refine dG 13 11 (KF (some ⟨xa,oa,none⟩) a.length ca (some ⟨xb,ob,none⟩) b.length cb k xa oa xb ob xr yr a1 a2 a3 a4 b1 b2 b3 b4 d c (w.heap.size+1) wi.heap.size) rfl ax ax ax (fun _ _ _ _ h x=>DI h x) (fun _ _ d _ _ h=>by cases d <;> exact h) ?_ ?_ ?_
   ·refine ⟨?_,?_,?_,?_,?_,?_,?_,?_,?_,?_,?_,?_,?_,trivial⟩
    ·intro a W hW hB hD K hK;have b0:=hB 0 rfl;simp only [sB] at b0;go_simp;exact hK _ _ (Ext.refl _) rfl
    ·intro a W hW hB hD K hK;have b7:=hB 7 rfl;simp only [sB] at b7;go_simp;exact hK _ _ (Ext.refl _) rfl
    ·intro a W hW hB hD K hK;obtain ⟨v24,e24,rO⟩:=aE (hD 0 _ 24 rfl rfl ax);obtain rfl:=rO;obtain ⟨v25,e25,Cw⟩:=aE (hD 1 _ 25 rfl rfl ax);obtain rfl:=Cw;go_simp;exact hK _ _ (Ext.refl _) rfl
    ·intro a W hW hB hD K hK;obtain ⟨v26,e26,AA⟩:=aE (hD 2 _ 26 rfl rfl ax);obtain rfl:=AA;have m0:=(hW.cell (p:=⟨xa,oa+k*3,none⟩) XS.o.1).trans XS.o.2.1;have m1:=(hW.cell (p:=⟨xa,oa+k*3+1,none⟩) XS.o.1).trans XS.o.2.2.1;have m2:=(hW.cell (p:=⟨xa,oa+k*3+2,none⟩) XS.o.1).trans XS.o.2.2.2;have ml:=Nat.lt_of_lt_of_le XS.o.1 hW.size;go_simp;exact hK _ _ (Ext.refl _) rfl
    ·intro a W hW hB hD K hK;have b1:=hB 1 rfl;simp only [sB] at b1;go_simp;exact hK _ _ (Ext.refl _) rfl
    ·intro a W hW hB hD K hK;have b7:=hB 7 rfl;simp only [sB] at b7;go_simp;exact hK _ _ (Ext.refl _) rfl
    ·intro a W hW hB hD K hK;obtain ⟨v28,e28,h28⟩:=aE (hD 4 _ 28 rfl rfl ax);obtain rfl:=h28;obtain ⟨v29,e29,Dc⟩:=aE (hD 5 _ 29 rfl rfl ax);obtain rfl:=Dc;go_simp;exact hK _ _ (Ext.refl _) rfl
    ·intro a W hW hB hD K hK;obtain ⟨v30,e30,h30⟩:=aE (hD 6 _ 30 rfl rfl ax);obtain rfl:=h30;have m0:=(hW.cell (p:=⟨xb,ob+k*3,none⟩) YS.o.1).trans YS.o.2.1;have m1:=(hW.cell (p:=⟨xb,ob+k*3+1,none⟩) YS.o.1).trans YS.o.2.2.1;have m2:=(hW.cell (p:=⟨xb,ob+k*3+2,none⟩) YS.o.1).trans YS.o.2.2.2;have ml:=Nat.lt_of_lt_of_le YS.o.1 hW.size;go_simp;exact hK _ _ (Ext.refl _) rfl
    ·intro a W hW hB hD K hK;obtain ⟨v27,e27,h27⟩:=aE (hD 3 _ 27 rfl rfl ax);obtain rfl:=h27;obtain ⟨v31,e31,h31⟩:=aE (hD 7 _ 31 rfl rfl ax);obtain rfl:=h31;go_simp;refine (YF.o W hW).mono ?_;rintro e w9 ⟨⟨v,rfl,nn⟩,hx⟩;obtain ⟨t1,t2,t3,t4,rfl⟩:=nn.shape;obtain ⟨hs1,hs2⟩:=nn.sf (B:=w.heap.size+1) (Nat.le_trans YG.o hW.size);exact hK _ _ hx ⟨_,_,_,_,rfl,hs1,hs2⟩
    ·intro a W hW hB hD K hK;obtain ⟨v32,e32,h32⟩:=aE (hD 8 _ 32 rfl rfl ax);obtain ⟨x91,fp,x93,fq,rfl,xq,Qh⟩:=h32;go_simp;exact hK _ _ (Ext.refl _) ⟨_,_,_,_,rfl,xq,Qh⟩
    ·intro a W hW hB hD K hK;obtain ⟨v23,e23,h23⟩:=aE (hD 9 _ 23 rfl rfl ax);obtain ⟨x91,fp,x93,fq,rfl,xq,Qh⟩:=h23;go_simp;exact hK _ _ (Ext.refl _) ⟨_,_,_,_,rfl,xq,Qh⟩
    ·intro a W hW hB hD K hK;obtain ⟨v23,e23,h23⟩:=aE (hD 9 _ 23 rfl rfl ax);obtain ⟨x91,fp,x93,fq,rfl,xq,Qh⟩:=h23;go_simp;exact hK _ _ (Ext.refl _) rfl
    ·intro a W hW hB hD K hK;go_simp;exact hK _ _ ((Ext.refl _).alloc _) ⟨_,rfl,hW.size,ag.new _ _ _⟩
   ·intro a W hW hB hD;have h23:=hD 9 _ 23 rfl rfl ax;obtain ⟨v23,e23⟩:∃ x,a.tmps.getD 23 undef=x:=⟨_,rfl⟩;rw [e23] at h23;obtain ⟨x91,fp,x93,fq,rfl,xq,Qh⟩:=h23;exact ⟨.int .i64 c,fun w9=>iM e23 rfl rfl w9,rfl⟩
   intro w7 hx;simp only [cW,List.take_succ_cons,List.take_zero,List.drop_succ_cons,List.drop_zero];rintro u0 - u1 - u2 - u3 - u4 - u5 - u6 - u7 - u8 - u9 - u10 h10 u11 h11 u12 h12;obtain ⟨r1,r2,r3,r4,rfl,S1,S2⟩:=h10;obtain rfl:=h11;obtain ⟨Y,rfl,hY,BY⟩:=h12;simp only [Act.put,List.setIfInBounds_toArray,List.set_cons_zero,List.set_cons_succ];have X7:=kI (show Ext w w7 from X.o.trans hx);have O7:=kI (OW.o.ext' hx);have A7:=kI (A0.o.ext hx);have YH:=kI hx;have YI:=kI hY;have YL:=kI (show w.heap.size≤Y∧w.heap.size≠Y from ⟨Nat.le_trans X.o.size hY,by have:=A0.o.lt;omega⟩);have EU:=kI BY;have SS1:=kI S1;have SS2:=kI S2;clear hx hY BY S1 S2 XS YS YF;by_cases hc:c=0
   rotate_left
   ·have q3:(c != 0)=true:=by simpa using hc
    have E:=kI (Ky HN.o fb.o OK.o (c:=c) (by rw [← MX.o,← Qg.o,← HR.o]) hc);clear hc;have b0:=EU.o.cell;have b1':=EU.o.free;have b2':=EU.o.lt;have b3':=A7.o.cell;have b4':=A7.o.free;have b5':=A7.o.lt;have b6':=YL.o.2;go_wp2_with fail;refine bodyPost_ret (v:=.tuple #[.agg #[.bool false,.slice none 0 0,.slice none 0 0],.int .i64 c]) Sx rfl ?_;exact ⟨AS.mk (bI.zero _ _) E.o,by have:=YL.o.1;exact Below.setCell (Below.setCell (Below.setCell (Below.setCell (Below.setCell (Below.setCell X7.o au _) au _) au _) au _) au _) au _⟩
   subst hc;have b0:=EU.o.cell;have b1':=EU.o.free;have b2':=EU.o.lt;have U8:=kI (bI.abs (show bI (w.heap.size+1) w7 [.bool d.neg,.slice r1 d.num.length r2,.slice r3 d.den.length r4] d from ⟨_,_,_,_,rfl,SS1.o,SS2.o⟩));have Gh:=kI hal;have Br:=kI (gU a b k);have hxi:=YH.o;have hyi:=YI.o;have hsz:w.heap.size≤wi.heap.size:=X.o.size;go_wp2_with (at_builtin;(go_loud (refine eC (El:=bI (w.heap.size+1)) (l:=nU a b k) _ rfl _ _ 29 rfl (w.heap.size+1) 25 (.agg #[.bool false,.slice none 0 0,.slice none 0 0]) 3 56 Tryz.underlying29 Tryz.fH rfl ap (bI.keeps ap) _ (OW.o.ext' (by have k9:=hyi;exact Below.setCell (Below.setCell (Below.setCell (Below.setCell hxi au _) au _) au _) au _)) (by first|rfl|(rw [Br.o];rfl)) [.bool (fQ d).neg,.slice r1 (fQ d).num.length r2,.slice r3 (fQ d).den.length r4] rfl mQ (fQ d) ?hel (by first|rfl|(simp only [World.size_setCell];rfl)) ?h63 ?hby ?hB ?_)))
   case hel=>exact bI.keeps ap _ _ _ _ U8.o ((((ay EU.o 0 (.bool d.neg)).trans (ay (EU.o.set 0 (.bool d.neg)) 1 (.slice r1 d.num.length r2))).trans (ay ((EU.o.set 0 (.bool d.neg)).set 1 (.slice r1 d.num.length r2)) 2 (.slice r3 d.den.length r4))).trans (ay (((EU.o.set 0 (.bool d.neg)).set 1 (.slice r1 d.num.length r2)).set 2 (.slice r3 d.den.length r4)) 0 (.bool false)))
   case h63=>rw [Br.o];have:=H6.o;have:=fb.o;omega
   case hby=>rw [Br.o];have:=H6.o;have:=fb.o;omega
   case hB=>simp only [World.size_setCell];have:=YG.o;have:=YH.o.size;omega
   intro g cap w9 hown hk;obtain ⟨W8,Sa⟩:=gN ((((w7.setCell ⟨Y,0,none⟩ (.bool d.neg)).setCell ⟨Y,1,none⟩ (.slice r1 d.num.length r2)).setCell ⟨Y,2,none⟩ (.slice r3 d.den.length r4)).setCell ⟨Y,0,none⟩ (.bool false));have a8:ag W8 w.heap.size #[.bool false,.slice none 0 0,.slice none 0 0] 25:=by rw [Sa];exact (((A7.o.setOther (a:=⟨Y,0,none⟩) H7 _).setOther (a:=⟨Y,1,none⟩) H7 _).setOther (a:=⟨Y,2,none⟩) H7 _).setOther (a:=⟨Y,0,none⟩) H7 _
   have x8:Ext w W8:=by rw [Sa];exact Below.setCell (Below.setCell (Below.setCell (Below.setCell X7.o H7 _) H7 _) H7 _) H7 _
   have s8:w.heap.size+1≤W8.heap.size:=a8.lt;rw [← Sa] at hk;have f1:ag w9 w.heap.size #[.bool false,.slice none 0 0,.slice none 0 0] 25:=(hk.block _ a8.lt (.inl Z)).trans a8;have f2:Ext w w9:=Below.trans x8 ((hk.below s8).mono (Nat.le_succ _));have f3:bV (w.heap.size+1) w9 (.slice (some ⟨g,0,none⟩) (k+1+1) cap) (nU a b (k+1)):=by
    rw [Br.o] at hown;rw [Dz,← MX.o,← Qg.o,← HR.o];exact hown
   have f4:∀ i,i < k+1→(bR (a.getD i zR) (b.getD i zR)).2=0:=fun i hi=>by
    by_cases e:i=k
    ·rw [e,← MX.o,← Qg.o,← HR.o]
    ·exact OK.o i Z
   have F1:=kI f1;have F2:=kI f2;have F3:=kI f3;have F4:=kI f4;rw [Br.o];clear hown hk Sa a8 x8 s8 f1 f2 f3 f4 b0 b1' b2';go_wp2_with fail;go_roundw
   case rel=>exact ⟨k+1,fb.o,by go_num,F4.o,F3.o,F1.o,F2.o⟩
   case measure=>first|(simp [intOf];done)|(simp [intOf];omega)
  ·obtain rfl:a.length=k:=by have:=HK.o;omega
   have q1:¬ ((a.length:Int) < (b.length:Int)):=by have:=HN.o;omega
   have Br:=kI (gU a b a.length);clear hlt;obtain ⟨L,hL⟩:=gN (nU a b a.length);have HL:=kI hL;have hlm:dm L:=by rw [hL];exact zr _ _ _
   have hch:∀ i,i < L.length→aA (L.getD i zR)=0:=by rw [hL];exact zs OK.o
   have hln:L.length=a.length+1:=by rw [hL];exact gU _ _ _
   rw [← hL] at OW;have Am:=kI hlm;have Ir:=kI hch;have U9:=kI hln;have E:=kI (KD HN.o OK.o);clear hL hlm hch hln Br;go_wp2_with fail;refine (AR _ L wi OW.o.rd Am.o Ir.o).mono ?_;rintro e w5 ⟨rfl,hx⟩;obtain ⟨j,hj⟩:=gN (iB L L.length);rw [← hj];have hjl:j < L.length:=by rw [hj];exact mG (by rw [U9.o];exact Nat.succ_pos _)
   have JL:=kI hjl;have O5:=kI (OW.o.ext' hx);have A5:=kI (A0.o.ext hx);have X5:=kI (X.o.trans hx);have E5:Hid (bP a b=(L.getD j zR,0)):=kI (by rw [E.o,← HL.o,hj,U9.o]);clear hx hj;obtain ⟨g5,n5,c5,s1,s2,s3,s4,Vd,y0,y1,y2,y3,hel⟩:=O5.o.atS hjl;injection Vd with Vd en5 ec5
   subst Vd;clear en5 ec5;obtain ⟨R,hR⟩:=gN (L.getD j zR);rw [← hR] at y1 y2 y3 hel E5;have q3:(0:Int)≤(j:Int):=Z
   have q4:(j:Int) < ((a.length+1:Nat):Int):=by have:=U9.o;omega
   have EL5:=kI hel;clear hel hR hjl;have b0:=A5.o.cell;have b1':=A5.o.free;have b2':=A5.o.lt;go_wp2_with fail;refine bodyPost_ret (v:=.tuple #[.agg #[.bool R.neg,.slice s1 R.num.length s2,.slice s3 R.den.length s4],.int .i64 0]) Sx rfl ?_;refine ⟨AS.mk (bI.mono (bI.keeps ap _ _ _ _ EL5.o (((ay A5.o 0 (.bool R.neg)).trans (ay (A5.o.set 0 (.bool R.neg)) 1 (.slice s1 R.num.length s2))).trans (ay ((A5.o.set 0 (.bool R.neg)).set 1 (.slice s1 R.num.length s2)) 2 (.slice s3 R.den.length s4)))) (Nat.le_succ _)) E5.o,?_⟩;exact Below.setCell (Below.setCell (Below.setCell X5.o (Nat.le_refl _) _) (Nat.le_refl _) _) (Nat.le_refl _) _
end Go.Proofs.YtnnjbaijcaiohaaGreat
