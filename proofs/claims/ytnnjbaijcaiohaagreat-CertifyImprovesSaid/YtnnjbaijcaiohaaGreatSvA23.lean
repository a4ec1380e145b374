/- Walks and lemmas. -/
import Derived.Test.YtnnjbaijcaiohaaGreatSvA22
import Derived.Test.YtnnjbaijcaiohaaGreatSvA21
import Derived.Test.YtnnjbaijcaiohaaGreatSvA17
import Derived.Test.YtnnjbaijcaiohaaGreatSvA13
import Derived.Defers
import Derived.Test.YtnnjbaijcaiohaaGreatSvA20
import Derived.Test.YtnnjbaijcaiohaaGreatSvA16
import Derived.Test.YtnnjbaijcaiohaaGreatSvA11
set_option linter.unusedVariables false
set_option linter.unusedSimpArgs false
set_option maxRecDepth 100000
set_option maxHeartbeats 16000000
namespace Go.Proofs.YtnnjbaijcaiohaaGreat
open Go.RowKit
def gK (m:MD):RR × Int:=bR (rep ((1:Int):Rat)) m.ah
def lF (B:Nat) (w':World) (e:Ending) (r:RR × Int):Prop:=if r.2=0 then ∃ s1 s2 s3 s4,e=.returned (.agg #[.bool r.1.neg,.slice s1 r.1.num.length s2,.slice s3 r.1.den.length s4])∧bI B w' [.bool r.1.neg,.slice s1 r.1.num.length s2,.slice s3 r.1.den.length s4] r.1 else e=.panicked [bk r.2]
theorem lF.bad {B:Nat} {w':World} {r:RR × Int} {c:Int} (h:r.2=c) (hc:c≠0):lF B w' (.panicked [bk c]) r:=by unfold lF;rw [h,if_neg hc]
theorem lF.ok {B:Nat} {w':World} {d:RR} {s1 s3:Option Addr} {s2 s4:Nat} (h:bI B w' [.bool d.neg,.slice s1 d.num.length s2,.slice s3 d.den.length s4] d):lF B w' (.returned (.agg #[.bool d.neg,.slice s1 d.num.length s2,.slice s3 d.den.length s4])) (d,0):=by unfold lF;rw [if_pos rfl];exact ⟨_,_,_,_,rfl,h⟩
theorem lF.pM {B:Nat} {w':World} {e:Ending} {d:RR} (h:lF B w' e (d,0)):∃ s1 s2 s3 s4,e=.returned (.agg #[.bool d.neg,.slice s1 d.num.length s2,.slice s3 d.den.length s4])∧bI B w' [.bool d.neg,.slice s1 d.num.length s2,.slice s3 d.den.length s4] d:=by unfold lF at h;rwa [if_pos rfl] at h
theorem lF.pN {B:Nat} {w':World} {e:Ending} {r:RR × Int} (h:lF B w' e r) (hc:r.2≠0):e=.panicked [bk r.2]:=by unfold lF at h;rwa [if_neg hc] at h
theorem bI.rd {B:Nat} {w:World} {r:RR} {s1 s3:Option Addr} {s2 s4:Nat} (h:bI B w [.bool r.neg,.slice s1 r.num.length s2,.slice s3 r.den.length s4] r):bh w (.agg #[.bool r.neg,.slice s1 r.num.length s2,.slice s3 r.den.length s4]) r:=by
 obtain ⟨a1,c1,a2,c2,e,h1,h2⟩:=h;simp only [List.cons.injEq,Value.slice.injEq,and_true,true_and] at e;obtain ⟨⟨rfl,rfl⟩,rfl,rfl⟩:=e;exact ⟨_,_,rfl,h1.rd,h2.rd⟩
def KG (An:Nat) (x:RR) (m1:Option Addr) (n1:Nat) (m2:Option Addr) (n2:Nat) (d:RR) (c:Int) (B:Nat) (j:Nat) (v:Value) (W:World):Prop:=
 match j with
 | 0=>∃ s1 s2 s3 s4,v=.agg #[.bool (rep ((1:Int):Rat)).neg,.slice s1 (rep ((1:Int):Rat)).num.length s2,.slice s3 (rep ((1:Int):Rat)).den.length s4]∧bh W (.agg #[.bool (rep ((1:Int):Rat)).neg,.slice s1 (rep ((1:Int):Rat)).num.length s2,.slice s3 (rep ((1:Int):Rat)).den.length s4]) (rep ((1:Int):Rat))
 | 1=>v=.pointer (some ⟨An,0,none⟩)
 | 2=>v=.agg #[.bool x.neg,.slice m1 x.num.length n1,.slice m2 x.den.length n2]
 | 3=>∃ s1 s2 s3 s4,v=.tuple #[.agg #[.bool d.neg,.slice s1 d.num.length s2,.slice s3 d.den.length s4],.int .i64 c]∧cD B W (.slice s1 d.num.length s2) d.num∧cD B W (.slice s3 d.den.length s4) d.den
 | 4=>∃ s1 s2 s3 s4,v=.agg #[.bool d.neg,.slice s1 d.num.length s2,.slice s3 d.den.length s4]∧cD B W (.slice s1 d.num.length s2) d.num∧cD B W (.slice s3 d.den.length s4) d.den
 | 5=>v=.int .i64 c
 | 6=>c=0∧∃ s1 s2 s3 s4,v=.agg #[.bool d.neg,.slice s1 d.num.length s2,.slice s3 d.den.length s4]∧cD B W (.slice s1 d.num.length s2) d.num∧cD B W (.slice s3 d.den.length s4) d.den
 | _=>True
theorem DK {An:Nat} {x:RR} {m1:Option Addr} {n1:Nat} {m2:Option Addr} {n2:Nat} {d:RR} {c:Int} {B:Nat} {j:Nat} {v:Value} {W W':World} (h:KG An x m1 n1 m2 n2 d c B j v W) (xx:Ext W W'):KG An x m1 n1 m2 n2 d c B j v W':=by
 match j,h with
 | 0,⟨s1,s2,s3,s4,h0,h1⟩=>exact ⟨s1,s2,s3,s4,h0,h1.ext xx⟩
 | 1,h=>exact h
 | 2,h=>exact h
 | 3,⟨s1,s2,s3,s4,h0,h1,h2⟩=>exact ⟨s1,s2,s3,s4,h0,h1.ext xx,h2.ext xx⟩
 | 4,⟨s1,s2,s3,s4,h0,h1,h2⟩=>exact ⟨s1,s2,s3,s4,h0,h1.ext xx,h2.ext xx⟩
 | 5,h=>exact h
 | 6,⟨h9,s1,s2,s3,s4,h0,h1,h2⟩=>exact ⟨h9,s1,s2,s3,s4,h0,h1.ext xx,h2.ext xx⟩
 | _+7,_=>trivial
theorem qk (mv:Value) (m:MD) (w:World) (hm:eY w mv m) (hlm:iY m) :
  Calls Tryz.prog 109 #[mv] w fun e w'=>lF w.heap.size w' e (gK m)∧Ext w w':=by
 have Am:=kI hlm.1;obtain ⟨m1,n1,m2,n2,m3,n3,rfl,hd,-⟩:=hm;have HD:=kI hd;obtain ⟨d,c,hdc⟩:∃ d c,gK m=(d,c):=⟨_,_,rfl⟩;have HF:=kI hdc;rw [hdc];clear hlm hd hdc;have bb0:=((ag.new w #[.bool m.ah.neg,.slice m1 m.ah.num.length n1,.slice m2 m.ah.den.length n2,.slice m3 m.states.length n3] 28).alloc (.cells #[.bool false,.slice none 0 0,.slice none 0 0] 25));have bb1:=(ag.new (w.alloc (.cells #[.bool m.ah.neg,.slice m1 m.ah.num.length n1,.slice m2 m.ah.den.length n2,.slice m3 m.states.length n3] 28)) #[.bool false,.slice none 0 0,.slice none 0 0] 25);rw [World.size_alloc] at bb1;have x0:Ext w ((w.alloc (.cells #[.bool m.ah.neg,.slice m1 m.ah.num.length n1,.slice m2 m.ah.den.length n2,.slice m3 m.states.length n3] 28)).alloc (.cells #[.bool false,.slice none 0 0,.slice none 0 0] 25)):=(((Ext.refl w).alloc _).alloc _);have A0:=kI bb0;have A1:=kI bb1;have X:=kI x0;clear x0 bb0 bb1;obtain ⟨wo,hwo⟩:=gN (((w.alloc (.cells #[.bool m.ah.neg,.slice m1 m.ah.num.length n1,.slice m2 m.ah.den.length n2,.slice m3 m.states.length n3] 28)).alloc (.cells #[.bool false,.slice none 0 0,.slice none 0 0] 25)));rw [← hwo] at A0 A1 X;have qF:=kI hwo;replace HD:=kI (HD.o.ext X.o);clear hwo;go_enter Tryz.func109,Tryz.ntmps109
 have q0:=A0.o.cell;have q1:=A0.o.lt;have q2:=A1.o.cell;have q3:=A1.o.lt;have q4:=A1.o.free;go_wp2_with fail;rw [← qF.o];clear q0 q1 q2 q3 q4 qF;refine aI 7 (KG w.heap.size m.ah m1 n1 m2 n2 d c w.heap.size) ax ax ax (fun _ _ _ _ h x=>DK h x) ?_ ?_
 ·refine ⟨?_,?_,?_,?_,?_,?_,?_,trivial⟩
  ·intro a W hW af hB hD K hK;have aQ:=kI af;clear af;go_simp;refine (eV 1 W ap ap).mono ?_;rintro e w9 ⟨⟨v,rfl,nn⟩,hx⟩;obtain ⟨t1,t2,t3,t4,rfl⟩:=nn.shape;exact hK _ _ hx ⟨_,_,_,_,rfl,nn.rd⟩
  ·intro a W hW af hB hD K hK;have aQ:=kI af;clear af;have b1:=hB 1 rfl;simp only [sB] at b1;go_simp;exact hK _ _ (Ext.refl _) rfl
  ·intro a W hW af hB hD K hK;have aQ:=kI af;clear af;obtain ⟨v4,e4,h4⟩:=aE (hD 1 _ 4 rfl rfl ax);obtain rfl:=h4;have q9:=(A0.o.ext hW).cell;have l9:=(A0.o.ext hW).lt;go_simp;exact hK _ _ (Ext.refl _) rfl
  ·intro a W hW af hB hD K hK;have aQ:=kI af;clear af;obtain ⟨v3,e3,h3⟩:=aE (hD 0 _ 3 rfl rfl ax);obtain ⟨x91,fp,x93,fq,rfl,xh⟩:=h3;obtain ⟨v5,e5,h5⟩:=aE (hD 2 _ 5 rfl rfl ax);obtain rfl:=h5;go_simp;have hsu:=gw _ _ _ m.ah W xh (HD.o.ext hW) (cU _) Am.o;rw [show bR (rep ((1:Int):Rat)) m.ah=(d,c) from HF.o] at hsu;refine hsu.mono ?_;rintro e w9 ⟨⟨v,rfl,nn⟩,hx⟩;obtain ⟨t1,t2,t3,t4,rfl⟩:=nn.shape;obtain ⟨hs1,hs2⟩:=nn.sf (B:=w.heap.size) (Nat.le_trans X.o.size hW.size);exact hK _ _ hx ⟨_,_,_,_,rfl,hs1,hs2⟩
  ·intro a W hW af hB hD K hK;have aQ:=kI af;clear af;obtain ⟨v6,e6,h6⟩:=aE (hD 3 _ 6 rfl rfl ax);obtain ⟨x91,fp,x93,fq,rfl,xq,xr⟩:=h6;go_simp;exact hK _ _ (Ext.refl _) ⟨_,_,_,_,rfl,xq,xr⟩
  ·intro a W hW af hB hD K hK;have aQ:=kI af;clear af;obtain ⟨v6,e6,h6⟩:=aE (hD 3 _ 6 rfl rfl ax);obtain ⟨x91,fp,x93,fq,rfl,xq,xr⟩:=h6;go_simp;exact hK _ _ (Ext.refl _) rfl
  ·intro a W hW af hB hD K hK;have aQ:=kI af;clear af;obtain ⟨v7,e7,h7⟩:=aE (hD 4 _ 7 rfl rfl ax);obtain ⟨x91,fp,x93,fq,rfl,xq,xr⟩:=h7;obtain ⟨v8,e8,h8⟩:=aE (hD 5 _ 8 rfl rfl ax);obtain rfl:=h8;go_simp;by_cases hpe:c=0
   ·subst hpe;refine (bO _ _ _ _ _ _ _ W).mono ?_;rintro e w9 ⟨rfl,hx⟩;exact hK _ _ hx ⟨rfl,_,_,_,_,rfl,xq.ext hx,xr.ext hx⟩
   ·refine (bu _ _ _ _ _ _ _ _ rfl hpe W).mono ?_;rintro e w9 ⟨rfl,hx⟩;(try simp +zetaDelta only [Exit.then,Exit.inBlock]);exact aF aQ.o ⟨lF.bad rfl hpe,X.o.trans (hW.trans hx)⟩
 intro w7 hx;simp only [cW,List.take_succ_cons,List.take_zero,List.drop_succ_cons,List.drop_zero];rintro u0 - u1 - u2 - u3 - u4 - u5 - u6 h6;obtain ⟨rfl,r1,r2,r3,r4,rfl,S1,S2⟩:=h6;simp only [Act.put,List.setIfInBounds_toArray,List.set_cons_zero,List.set_cons_succ];have A7:=kI (A1.o.ext hx);have X7:=kI (show Ext w w7 from X.o.trans hx);have EL:=kI (show bI w.heap.size w7 [.bool d.neg,.slice r1 d.num.length r2,.slice r3 d.den.length r4] d from ⟨_,_,_,_,rfl,S1,S2⟩);clear hx S1 S2;have q0:=A7.o.cell;have q1:=A7.o.lt;have q2:=A7.o.free;go_wp2_with fail;refine bodyPost_ret (v:=.agg #[.bool d.neg,.slice r1 d.num.length r2,.slice r3 d.den.length r4]) (by simp only [results,Tryz.results109];go_simp) rfl ?_;refine ⟨lF.ok (bI.keeps ap _ _ _ _ EL.o (((ay A7.o 0 (.bool d.neg)).trans ((ay (A7.o.set 0 (.bool d.neg)) 1 (.slice r1 d.num.length r2)))).trans (ay ((A7.o.set 0 (.bool d.neg)).set 1 (.slice r1 d.num.length r2)) 2 (.slice r3 d.den.length r4)))),?_⟩;exact Below.setCell (Below.setCell (Below.setCell X7.o au _) au _) au _
theorem rj {nn:Nat} (be b1:Nat) (w:World) (hbe:ag w be #[.int .i64 0] 37) :
  CallsDIn Fence.wide nn Tryz.prog 106 #[.pointer (some ⟨be,0,none⟩),.pointer (some ⟨b1,0,none⟩)] .returning w fun e u' w'=>e=.returned (.tuple #[])∧u'=.returning∧w'=(w.setCell ⟨be,0,none⟩ (.int .i64 0)).drew:=by
 have he:=(hbe.cell 0);have hz:=hbe.free 0;simp only [List.getElem?_toArray,List.getElem?_cons_zero] at he;refine aN Tryz.func106 rfl fun c₀ cs hu=>?_;apply wpS_seq;refine aM ax ax ax ax ax ax rfl ?_ ?_;all_goals
  simp [wpOpsS,go_sem,recoverD,hu,Tryz.ntmps106,Exit.thenS,he,hz];refine (dg 0 _).mono ?_;rintro e w1 ⟨rfl,rfl⟩;simp [wpOpsS,go_sem,recoverD,hu,Tryz.ntmps106,Exit.thenS,he,hz];refine wpS_of_wp ?_;go_wp2
  simp [bodyPostS,results,Tryz.results106,go_sem] <;> (cases c₀;simp_all)
theorem rk {nn:Nat} (be b1:Nat) (c e0:Int) (hc:c≠0) (older:List PanicEntry) (w:World) (x0 x1 x2 x3 x4 x5 x6 x7:Value) (kw:TypeId) (hbe:ag w be #[.int .i64 e0] 37) (hb1:ag w b1 #[x0,x1,x2,x3,x4,x5,x6,x7] kw) (th:b1≠be) :
  CallsDIn Fence.wide nn Tryz.prog 106 #[.pointer (some ⟨be,0,none⟩),.pointer (some ⟨b1,0,none⟩)] (.panicking (bk c :: older)) w fun e u' w'=>e=.returned (.tuple #[])∧u'=.panicking ({ bk c with recovered:=true } :: older)∧w'=(((((((((w.setCell ⟨be,0,none⟩ (.int .i64 c)).setCell ⟨b1,0,none⟩ (.slice none 0 0)).setCell ⟨b1,1,none⟩ (.slice none 0 0)).setCell ⟨b1,2,none⟩ (.bool false)).setCell ⟨b1,3,none⟩ (.slice none 0 0)).setCell ⟨b1,4,none⟩ (.slice none 0 0)).setCell ⟨b1,5,none⟩ (.bool false)).setCell ⟨b1,6,none⟩ (.slice none 0 0)).setCell ⟨b1,7,none⟩ (.slice none 0 0)).drew:=by
 have q1:(c != 0)=true:=by simpa using hc
 unfold bk;have he:=(hbe.cell 0);have hz:=hbe.free 0;simp only [List.getElem?_toArray,List.getElem?_cons_zero] at he;have rS:=hb1.cell;have JM:=hb1.free;refine aN Tryz.func106 rfl fun c₀ cs hu=>?_;apply wpS_seq;refine aM ax ax ax ax ax ax rfl ?_ ?_;all_goals
  simp [wpOpsS,go_sem,recoverD,hu,Tryz.ntmps106,Exit.thenS,he,hz];refine (gT c e0 _).mono ?_;rintro e w1 ⟨rfl,rfl⟩;simp [wpOpsS,go_sem,recoverD,hu,Tryz.ntmps106,Exit.thenS,he,hz];refine wpS_of_wp ?_;go_wp2
  simp [bodyPostS,results,Tryz.results106,go_sem] <;> (cases c₀;simp_all)
theorem ql {nn:Nat} (be b1:Nat) (c:Int) (hc:c≠0) (w:World) (x0 x1 x2 x3 x4 x5 x6 x7:Value) (kw:TypeId) (hbe:ag w be #[.int .i64 c] 37) (hb1:ag w b1 #[x0,x1,x2,x3,x4,x5,x6,x7] kw) (th:b1≠be) :
  CallsDIn Fence.wide nn Tryz.prog 106 #[.pointer (some ⟨be,0,none⟩),.pointer (some ⟨b1,0,none⟩)] .returning w fun e u' w'=>e=.returned (.tuple #[])∧u'=.returning∧w'=(((((((((w.setCell ⟨be,0,none⟩ (.int .i64 c)).setCell ⟨b1,0,none⟩ (.slice none 0 0)).setCell ⟨b1,1,none⟩ (.slice none 0 0)).setCell ⟨b1,2,none⟩ (.bool false)).setCell ⟨b1,3,none⟩ (.slice none 0 0)).setCell ⟨b1,4,none⟩ (.slice none 0 0)).setCell ⟨b1,5,none⟩ (.bool false)).setCell ⟨b1,6,none⟩ (.slice none 0 0)).setCell ⟨b1,7,none⟩ (.slice none 0 0)).drew:=by
 have q1:(c != 0)=true:=by simpa using hc
 have he:=(hbe.cell 0);have hz:=hbe.free 0;simp only [List.getElem?_toArray,List.getElem?_cons_zero] at he;have rS:=hb1.cell;have JM:=hb1.free;refine aN Tryz.func106 rfl fun c₀ cs hu=>?_;apply wpS_seq;refine aM ax ax ax ax ax ax rfl ?_ ?_;all_goals
  simp [wpOpsS,go_sem,recoverD,hu,Tryz.ntmps106,Exit.thenS,he,hz];refine (dg c _).mono ?_;rintro e w1 ⟨rfl,rfl⟩;simp [wpOpsS,go_sem,recoverD,hu,Tryz.ntmps106,Exit.thenS,he,hz];refine wpS_of_wp ?_;go_wp2
  simp [bodyPostS,results,Tryz.results106,go_sem] <;> (cases c₀;simp_all)
theorem tM (be b1:Nat) (w:World) (hbe:ag w be #[.int .i64 0] 37) :
  CallsD Tryz.prog 106 #[.pointer (some ⟨be,0,none⟩),.pointer (some ⟨b1,0,none⟩)] .returning w fun e u' w'=>e=.returned (.tuple #[])∧u'=.returning∧w'=(w.setCell ⟨be,0,none⟩ (.int .i64 0)).drew:=bT (rj (nn:=0) be b1 w hbe)
theorem eI (be b1:Nat) (c e0:Int) (hc:c≠0) (older:List PanicEntry) (w:World) (x0 x1 x2 x3 x4 x5 x6 x7:Value) (kw:TypeId) (hbe:ag w be #[.int .i64 e0] 37) (hb1:ag w b1 #[x0,x1,x2,x3,x4,x5,x6,x7] kw) (th:b1≠be) :
  CallsD Tryz.prog 106 #[.pointer (some ⟨be,0,none⟩),.pointer (some ⟨b1,0,none⟩)] (.panicking (bk c :: older)) w fun e u' w'=>e=.returned (.tuple #[])∧u'=.panicking ({ bk c with recovered:=true } :: older)∧w'=(((((((((w.setCell ⟨be,0,none⟩ (.int .i64 c)).setCell ⟨b1,0,none⟩ (.slice none 0 0)).setCell ⟨b1,1,none⟩ (.slice none 0 0)).setCell ⟨b1,2,none⟩ (.bool false)).setCell ⟨b1,3,none⟩ (.slice none 0 0)).setCell ⟨b1,4,none⟩ (.slice none 0 0)).setCell ⟨b1,5,none⟩ (.bool false)).setCell ⟨b1,6,none⟩ (.slice none 0 0)).setCell ⟨b1,7,none⟩ (.slice none 0 0)).drew:=bT (rk (nn:=0) be b1 c e0 hc older w x0 x1 x2 x3 x4 x5 x6 x7 kw hbe hb1 th)
theorem im (be b1:Nat) (c:Int) (hc:c≠0) (w:World) (x0 x1 x2 x3 x4 x5 x6 x7:Value) (kw:TypeId) (hbe:ag w be #[.int .i64 c] 37) (hb1:ag w b1 #[x0,x1,x2,x3,x4,x5,x6,x7] kw) (th:b1≠be) :
  CallsD Tryz.prog 106 #[.pointer (some ⟨be,0,none⟩),.pointer (some ⟨b1,0,none⟩)] .returning w fun e u' w'=>e=.returned (.tuple #[])∧u'=.returning∧w'=(((((((((w.setCell ⟨be,0,none⟩ (.int .i64 c)).setCell ⟨b1,0,none⟩ (.slice none 0 0)).setCell ⟨b1,1,none⟩ (.slice none 0 0)).setCell ⟨b1,2,none⟩ (.bool false)).setCell ⟨b1,3,none⟩ (.slice none 0 0)).setCell ⟨b1,4,none⟩ (.slice none 0 0)).setCell ⟨b1,5,none⟩ (.bool false)).setCell ⟨b1,6,none⟩ (.slice none 0 0)).setCell ⟨b1,7,none⟩ (.slice none 0 0)).drew:=bT (ql (nn:=0) be b1 c hc w x0 x1 x2 x3 x4 x5 x6 x7 kw hbe hb1 th)
theorem tN {nn:Nat} (be:Nat) (w:World) (hbe:ag w be #[.int .i64 0] 37) :
  CallsDIn Fence.wide nn Tryz.prog 110 #[.pointer (some ⟨be,0,none⟩)] .returning w fun e u' w'=>e=.returned (.tuple #[])∧u'=.returning∧w'=(w.setCell ⟨be,0,none⟩ (.int .i64 0)).drew:=by
 have he:=(hbe.cell 0);have hz:=hbe.free 0;simp only [List.getElem?_toArray,List.getElem?_cons_zero] at he;refine aN Tryz.func110 rfl fun c₀ cs hu=>?_;refine aM ax ax ax ax ax ax rfl ?_ ?_;all_goals
  simp [wpOpsS,go_sem,recoverD,hu,Tryz.ntmps110,Exit.thenS,he,hz];refine (dg 0 _).mono ?_;rintro e w1 ⟨rfl,rfl⟩;simp [wpOpsS,go_sem,recoverD,hu,Tryz.ntmps110,Exit.thenS,he,hz];(try simp [bodyPostS,results,Tryz.results110,go_sem] <;> (cases c₀;simp_all))
theorem tO {nn:Nat} (be:Nat) (c e0:Int) (hc:c≠0) (older:List PanicEntry) (w:World) (hbe:ag w be #[.int .i64 e0] 37) :
  CallsDIn Fence.wide nn Tryz.prog 110 #[.pointer (some ⟨be,0,none⟩)] (.panicking (bk c :: older)) w fun e u' w'=>e=.returned (.tuple #[])∧u'=.panicking ({ bk c with recovered:=true } :: older)∧w'=(w.setCell ⟨be,0,none⟩ (.int .i64 c)).drew:=by
 have q1:(c != 0)=true:=by simpa using hc
 unfold bk;have he:=(hbe.cell 0);have hz:=hbe.free 0;simp only [List.getElem?_toArray,List.getElem?_cons_zero] at he;refine aN Tryz.func110 rfl fun c₀ cs hu=>?_;refine aM ax ax ax ax ax ax rfl ?_ ?_;all_goals
  simp [wpOpsS,go_sem,recoverD,hu,Tryz.ntmps110,Exit.thenS,he,hz];refine (gT c e0 _).mono ?_;rintro e w1 ⟨rfl,rfl⟩;simp [wpOpsS,go_sem,recoverD,hu,Tryz.ntmps110,Exit.thenS,he,hz];(try simp [bodyPostS,results,Tryz.results110,go_sem] <;> (cases c₀;simp_all))
theorem rm {nn:Nat} (be:Nat) (c:Int) (hc:c≠0) (w:World) (hbe:ag w be #[.int .i64 c] 37) :
  CallsDIn Fence.wide nn Tryz.prog 110 #[.pointer (some ⟨be,0,none⟩)] .returning w fun e u' w'=>e=.returned (.tuple #[])∧u'=.returning∧w'=(w.setCell ⟨be,0,none⟩ (.int .i64 c)).drew:=by
 have q1:(c != 0)=true:=by simpa using hc
 have he:=(hbe.cell 0);have hz:=hbe.free 0;simp only [List.getElem?_toArray,List.getElem?_cons_zero] at he;refine aN Tryz.func110 rfl fun c₀ cs hu=>?_;refine aM ax ax ax ax ax ax rfl ?_ ?_;all_goals
  simp [wpOpsS,go_sem,recoverD,hu,Tryz.ntmps110,Exit.thenS,he,hz];refine (dg c _).mono ?_;rintro e w1 ⟨rfl,rfl⟩;simp [wpOpsS,go_sem,recoverD,hu,Tryz.ntmps110,Exit.thenS,he,hz];(try simp [bodyPostS,results,Tryz.results110,go_sem] <;> (cases c₀;simp_all))
theorem vV (be:Nat) (w:World) (hbe:ag w be #[.int .i64 0] 37) :
  CallsD Tryz.prog 110 #[.pointer (some ⟨be,0,none⟩)] .returning w fun e u' w'=>e=.returned (.tuple #[])∧u'=.returning∧w'=(w.setCell ⟨be,0,none⟩ (.int .i64 0)).drew:=bT (tN (nn:=0) be w hbe)
theorem gV (be:Nat) (c e0:Int) (hc:c≠0) (older:List PanicEntry) (w:World) (hbe:ag w be #[.int .i64 e0] 37) :
  CallsD Tryz.prog 110 #[.pointer (some ⟨be,0,none⟩)] (.panicking (bk c :: older)) w fun e u' w'=>e=.returned (.tuple #[])∧u'=.panicking ({ bk c with recovered:=true } :: older)∧w'=(w.setCell ⟨be,0,none⟩ (.int .i64 c)).drew:=bT (tO (nn:=0) be c e0 hc older w hbe)
theorem dn (be:Nat) (c:Int) (hc:c≠0) (w:World) (hbe:ag w be #[.int .i64 c] 37) :
  CallsD Tryz.prog 110 #[.pointer (some ⟨be,0,none⟩)] .returning w fun e u' w'=>e=.returned (.tuple #[])∧u'=.returning∧w'=(w.setCell ⟨be,0,none⟩ (.int .i64 c)).drew:=bT (rm (nn:=0) be c hc w hbe)
theorem vW {a b:RR} (h1:aA a=0) (h2:aA b=0):(bR a b).2=0∨(bR a b).2=4:=by
 unfold bR i9;rw [if_pos (dz h1 h2)];exact mz _
theorem DM {a b:RR} (h1:aA a=0) (h2:aA b=0) (h:qv b≠0):(bJ a b).2=0∨(bJ a b).2=4:=by
 unfold bJ i9;rw [if_pos (dz h1 h2),if_neg (fun e=>h (Kw e))];exact mz _
theorem mH {f:Nat→Int} {c:Int}:∀ {n:Nat},(∀ i,i < n→f i=0∨f i=c)→bG f n=0∨bG f n=c
 | 0,_=>.inl rfl
 | n+1,h=>by
  have a:=mH (f:=f) (c:=c) (n:=n) (fun i hi=>h i Z);unfold bG;split
  ·exact a
  ·exact h n Z
def fF (m:MD) (vs:List RR) (p:List Int):List Int:=
 (List.range p.length).map fun s=>if qv ((am m vs).1.getD s zR) < qv (vs.getD s zR) then (am m vs).2.1.getD s 0 else p.getD s 0
theorem tP {m:MD} {vs:List RR} {p:List Int} {s:Nat} (h:s < p.length):(fF m vs p).getD s 0=if qv ((am m vs).1.getD s zR) < qv (vs.getD s zR) then (am m vs).2.1.getD s 0 else p.getD s 0:=by
 unfold fF;rw [List.getD_eq_getElem?_getD,List.getElem?_map,List.getElem?_range h];rfl
theorem qm {m:MD} {vs:List RR} {p:List Int}:(fF m vs p).length=p.length:=by simp [fF]
theorem jR {m:MD} {v:List RR} (h:(am m v).2.2=0) {s:Nat} (hs:s < m.states.length) :
  0≤(am m v).2.1.getD s 0∧(am m v).2.1.getD s 0 < ((m.states.getD s []).length:Int)∧
  qv ((am m v).1.getD s zR)=qv (cJ m (am m v).2.1 s).cost+qv m.ah*cO (cJ m (am m v).2.1 s).next (fun t=>qv (v.getD t zR)):=by
 have e:=greedy h;obtain ⟨k1,k2,k3,k4⟩:=JT (by rw [e]);obtain ⟨e1,e2,e3⟩:=JU (k3 s Z);rw [e] at k4;refine ⟨e1,e2,?_⟩;rw [show (am m v).1=Cu m (am m v).2.1 v from k4,JW Z,rZ e3,tK];rfl
theorem jS {m:MD} {vs:List RR} {p:List Int} (hp:lE m p) (hb:(am m vs).2.2=0):lE m (fF m vs p):=
 ⟨qm.trans hp.1,fun s hs=>by
  rw [tP Q0];split
  ·have:=jR hb hs;exact ⟨this.1,this.2.1⟩
  ·exact hp.2 s hs⟩
theorem oO {m:MD} {p:List Int} {vs:List RR} (hm:fs m=0) (hp:lE m p) (h:aH m p=(vs,0)):vs.length=m.states.length∧∀ s,s < m.states.length→
  aA (vs.getD s zR)=0∧qv (vs.getD s zR)=qv (cJ m p s).cost+qv m.ah*cO (cJ m p s).next (fun t=>qv (vs.getD t zR)):=by
 have hO:∀ s,s < p.length→vL m.states.length (cJ m p s).next:=fun s hs=>tL hm hp Q0;obtain ⟨a,b⟩:=AO h (fun s hs o ho=>by have:=hO s hs o ho;have:=hp.1;omega);exact ⟨a.trans hp.1,fun s hs=>b s Q0⟩
theorem zu {m:MD} {p:List Int} (hm:fs m=0) (hp:lE m p) {s:Nat} (hs:s < m.states.length):cO (cJ m p s).next (fun _=>1)=1:=
 Gy (tz hm hs (by have:=hp.2 s hs;omega))
theorem KL {m:MD} {p:List Int} {vs us:List RR} (hm:fs m=0) (hg:qv m.ah < 1) (hp:lE m p) (h:aH m p=(vs,0)) (hb:(am m vs).2.2=0) (h2:aH m (fF m vs p)=(us,0)) :
  (∀ s,s < m.states.length→qv (us.getD s zR)≤qv (vs.getD s zR))∧∀ s,s < m.states.length→qv ((am m vs).1.getD s zR) < qv (vs.getD s zR)→qv (us.getD s zR) < qv (vs.getD s zR):=by
 have hq:=jS (p:=p) hp hb;have A:=(oO hm hp h).2;have B:=(oO hm hq h2).2;have hO:∀ s,s < m.states.length→vL m.states.length (cJ m (fF m vs p) s).next:=fun s hs=>tL hm hq hs;have hS:∀ s,s < m.states.length→cO (cJ m (fF m vs p) s).next (fun _=>1)=1:=fun s hs=>zu hm hq hs;have hstep:∀ s,s < m.states.length→qv (cJ m (fF m vs p) s).cost+qv m.ah*cO (cJ m (fF m vs p) s).next (fun t=>qv (vs.getD t zR)) =
   if qv ((am m vs).1.getD s zR) < qv (vs.getD s zR) then qv ((am m vs).1.getD s zR) else qv (vs.getD s zR):=fun s hs=>by
  have e:=tP (m:=m) (vs:=vs) (p:=p) (s:=s) Q0;split
  ·rename_i c;rw [if_pos c] at e;rw [(jR hb hs).2.2];unfold cJ;rw [e]
  ·rename_i c;rw [if_neg c] at e;rw [(A s hs).2];unfold cJ;rw [e]
 have hle:=sub_le (gS hm).1 hg (c:=fun s=>qv (cJ m (fF m vs p) s).cost) (u:=fun t=>qv (us.getD t zR)) (v:=fun t=>qv (vs.getD t zR)) hO hS
  (fun s hs=>by show qv (us.getD s zR)≤_;rw [(B s hs).2];exact Rat.le_refl) (fun s hs=>by
   show qv (cJ m (fF m vs p) s).cost+_≤qv (vs.getD s zR);rw [hstep s hs];split
   ·rename_i c;exact Rat.le_of_lt c
   ·exact Rat.le_refl)
 refine ⟨hle,fun s hs c=>?_⟩;have e:=hstep s hs;rw [if_pos c] at e;have a:=oN (M:=0) (f:=fun t=>qv (us.getD t zR) - qv (vs.getD t zR)) (l:=(cJ m (fF m vs p) s).next) (fun o ho=>gd (hO s hs o ho).2.2.2) (fun o ho=>by
  have:=hle o.1.toNat (by have:=hO s hs o ho;omega);grind)
 rw [mF] at a;have b:=iR (gS hm).1 a;rw [(B s hs).2];grind
def vX:List Nat→List (List Int)
 | []=>[[]]
 | a :: ns=>(List.range a).flatMap fun (i:Nat)=>(vX ns).map (fun p=>Int.ofNat i :: p)
theorem vY:∀ {ns:List Nat} {p:List Int},p.length=ns.length→(∀ u,u < ns.length→0≤p.getD u 0∧p.getD u 0 < (ns.getD u 0:Int))→p ∈ vX ns
 | [],p,h,_=>by
  have:p=[]:=List.eq_nil_of_length_eq_zero h;rw [this];exact List.mem_singleton.2 rfl
 | a :: ns,[],h,_=>by cases h
 | a :: ns,x :: p,h,hx=>by
  have h0:=hx 0 cp;have ih:=vY (ns:=ns) (p:=p) kN (fun u hu=>hx (u+1) (by simpa using hu));have e0:0≤x∧x < (a:Int):=h0;unfold vX;refine List.mem_flatMap.2 ⟨x.toNat,List.mem_range.2 Z,List.mem_map.2 ⟨p,ih,?_⟩⟩;show ((x.toNat:Nat):Int) :: p=x :: p;rw [Int.toNat_of_nonneg e0.1]
theorem qn {α:Type} {P Q:α→Bool}:∀ {l:List α},(∀ x ∈ l,P x=true→Q x=true)→l.countP P≤l.countP Q
 | [],_=>Nat.le_refl _
 | x :: l,h=>by
  have a:=qn (P:=P) (Q:=Q) (l:=l) (fun y hy=>h y Mt);have b:=h x cp;rw [List.countP_cons,List.countP_cons];by_cases e:P x=true
  ·rw [if_pos e,if_pos (b e)];omega
  ·rw [if_neg e];split <;> omega
theorem qo {α:Type} {P Q:α→Bool} {y:α}:∀ {l:List α},(∀ x ∈ l,P x=true→Q x=true)→y ∈ l→Q y=true→¬ P y=true→l.countP P < l.countP Q
 | [],_,hy,_,_=>by cases hy
 | x :: l,h,hy,h1,h2=>by
  have b:=h x cp;rw [List.countP_cons,List.countP_cons];rcases List.mem_cons.1 hy with e|e
  ·subst e;have a:=qn (P:=P) (Q:=Q) (l:=l) (fun z hz=>h z (by simp [hz]));rw [if_neg h2,if_pos h1];omega
  ·have a:=qo (l:=l) (fun z hz=>h z (by simp [hz])) e h1 h2;by_cases e:P x=true
   ·rw [if_pos e,if_pos (b e)];omega
   ·rw [if_neg e];split <;> omega
def GA (n:Nat) (l:List RR):Rat:=sumF (fun s=>qv (l.getD s zR)) n
theorem zv {f g:Nat→Rat}:∀ {n:Nat},(∀ i,i < n→f i≤g i)→sumF f n≤sumF g n
 | 0,_=>Rat.le_refl
 | n+1,h=>by
  have a:=zv (f:=f) (g:=g) (n:=n) (fun i hi=>h i Z);have b:=h n Z;show sumF f n+f n≤sumF g n+g n;exact yW a b
theorem vZ {f g:Nat→Rat} {j:Nat}:∀ {n:Nat},(∀ i,i < n→f i≤g i)→j < n→f j < g j→sumF f n < sumF g n
 | n+1,h,hj,hl=>by
  have b:=h n Z;show sumF f n+f n < sumF g n+g n;by_cases e:j=n
  ·subst e;have a:=zv (f:=f) (g:=g) (n:=j) (fun i hi=>h i Z);grind
  ·have a:=vZ (n:=n) (fun i hi=>h i Z) Z hl;grind
def DN (m:MD) (p:List Int):Nat:=
 if (aH m p).2≠0 then 0
 else 1+(vX (m.states.map List.length)).countP fun q=>decide ((aH m q).2=0∧GA m.states.length (aH m q).1 < GA m.states.length (aH m p).1)
theorem GF {m:MD} {p:List Int} (h:lE m p):p ∈ vX (m.states.map List.length):=vY (by simpa using h.1) (fun u hu=>by
 have hu:u < m.states.length:=by simpa using hu
 have a:=h.2 u hu;have e:(m.states.map List.length).getD u 0=(m.states.getD u []).length:=by
  rw [List.getD_eq_getElem?_getD,List.getD_eq_getElem?_getD,List.getElem?_map,List.getElem?_eq_getElem hu];rfl
 rw [e];exact a)
theorem ID {m:MD} {p:List Int} {vs:List RR} {s:Nat} (hm:fs m=0) (hg:qv m.ah < 1) (hp:lE m p) (h:aH m p=(vs,0)) (hb:(am m vs).2.2=0) (hs:s < m.states.length)
  (hl:qv ((am m vs).1.getD s zR) < qv (vs.getD s zR)):DN m (fF m vs p) < DN m p:=by
 unfold DN;rw [if_neg (show ¬ (aH m p).2≠0 by rw [h];simp)];by_cases e:(aH m (fF m vs p)).2=0
 ·rw [if_neg (fun k=>k e)];obtain ⟨a,b⟩:=KL hm hg hp h hb (us:=(aH m (fF m vs p)).1) (by rw [← e]);have hlt:GA m.states.length (aH m (fF m vs p)).1 < GA m.states.length (aH m p).1:=by
   rw [h];exact vZ a hs (b s hs hl)
  refine Nat.add_lt_add_left (qo (y:=fF m vs p) (fun q _ hq=>?_) (GF (jS hp hb)) (decide_eq_true ⟨e,hlt⟩) (fun k=>Rat.lt_irrefl (of_decide_eq_true k).2)) 1;have:=of_decide_eq_true hq;exact decide_eq_true ⟨this.1,by have h2:=this.2;grind⟩
 ·rw [if_pos e];omega
theorem GG (n s t:Nat) (y:Sys):(jM n s t y).1.V=y.V:=by
 unfold jM;split
 ·rfl
 ·split
  ·rfl
  ·split <;> rfl
theorem yf (n s:Nat) (y:Sys):∀ k,(cI n s y k).1.V=y.V
 | 0=>rfl
 | k+1=>by
  unfold cI;split
  ·exact yf n s y k
  ·rw [GG];exact yf n s y k
theorem sm {n:Nat}:∀ {k s:Nat} {y:Sys},(∀ i,aC (y.V i))→∀ i,aC ((bY n k s y).1.V i)
 | 0,_,_,h,i=>h i
 | k+1,s,y,h,i=>by
  have h1:∀ i,aC ((cI n s y (n - (s+1))).1.V i):=fun i=>by rw [yf];exact h i
  have h2:=sm (n:=n) (k:=k) (s:=s+1) h1;unfold bY;split
  ·exact h1 i
  ·split
   ·exact h2 i
   ·split
    ·exact h2 i
    ·split
     ·exact h2 i
     ·show aC (cN _ s _ i);by_cases e:i=s
      ·subst e;rw [bL];exact mC _ _
      ·rw [cG e];exact h2 i
theorem AT (m:MD) (p:List Int):dm (aH m p).1:=by
 unfold aH;split
 ·intro i hi;cases hi
 ·split
  ·intro i hi;cases hi
  ·intro i hi;have hi:i < p.length:=by simpa using hi
   show aC (List.getD _ i zR);rw [List.getD_eq_getElem?_getD,List.getElem?_map,List.getElem?_range hi];exact sm (fun i=>aT) i
theorem oP {m:MD} {p:List Int} (h:lE m p):nP m p=0:=by
 unfold nP;rw [if_neg (fun k=>k h.1)];refine bH (fun i hi=>?_);have:=h.2 i (by have:=h.1;omega);unfold jC;rw [if_neg Z]
def lG (m:MD) (vs:List RR) (k:Nat):Bool:=(List.range k).any fun s=>decide (qv ((am m vs).1.getD s zR) < qv (vs.getD s zR))
theorem su (m:MD) (vs:List RR) (k:Nat):lG m vs (k+1)=(lG m vs k || decide (qv ((am m vs).1.getD k zR) < qv (vs.getD k zR))):=by
 unfold lG;rw [List.range_succ,List.any_append];simp
theorem zw {m:MD} {vs:List RR} {k:Nat} (h:lG m vs k=true):∃ s,s < k∧qv ((am m vs).1.getD s zR) < qv (vs.getD s zR):=by
 obtain ⟨s,h1,h2⟩:=List.any_eq_true.1 h;exact ⟨s,List.mem_range.1 h1,of_decide_eq_true h2⟩
def jT (m:MD) (vs:List RR) (p:List Int) (k:Nat):List Int:=
 (List.range p.length).map fun s=>if s < k∧qv ((am m vs).1.getD s zR) < qv (vs.getD s zR) then (am m vs).2.1.getD s 0 else p.getD s 0
theorem dt {m:MD} {vs:List RR} {p:List Int} {k:Nat}:(jT m vs p k).length=p.length:=by simp [jT]
theorem kl {m:MD} {vs:List RR} {p:List Int} {k s:Nat} (h:s < p.length):(jT m vs p k).getD s 0=if s < k∧qv ((am m vs).1.getD s zR) < qv (vs.getD s zR) then (am m vs).2.1.getD s 0 else p.getD s 0:=by
 unfold jT;rw [List.getD_eq_getElem?_getD,List.getElem?_map,List.getElem?_range h];rfl
theorem kr {p q:List Int} (h:p.length=q.length) (hx:∀ s,s < p.length→p.getD s 0=q.getD s 0):p=q:=by
 refine List.ext_getElem h (fun i h1 h2=>?_);have:=hx i h1;rwa [List.getD_eq_getElem?_getD,List.getD_eq_getElem?_getD,List.getElem?_eq_getElem h1,List.getElem?_eq_getElem h2] at this
theorem AU {m:MD} {vs:List RR} {p:List Int}:jT m vs p 0=p:=
 kr dt (fun s hs=>by rw [dt] at hs;rw [kl hs,if_neg Z])
theorem DQ {m:MD} {vs:List RR} {p:List Int}:jT m vs p p.length=fF m vs p:=
 kr (by rw [dt,qm]) (fun s hs=>by
  rw [dt] at hs;rw [kl hs,tP hs];by_cases e:qv ((am m vs).1.getD s zR) < qv (vs.getD s zR)
  ·rw [if_pos ⟨hs,e⟩,if_pos e]
  ·rw [if_neg (fun k=>e k.2),if_neg e])
theorem DR {m:MD} {vs:List RR} {p:List Int} {k:Nat} (hk:k < p.length) (h:qv ((am m vs).1.getD k zR) < qv (vs.getD k zR)):jT m vs p (k+1)=(jT m vs p k).set k ((am m vs).2.1.getD k 0):=
 kr (by rw [List.length_set,dt,dt]) (fun s hs=>by
  rw [dt] at hs;rw [kl hs,List.getD_eq_getElem?_getD (l:=(jT m vs p k).set k _),List.getElem?_set];by_cases e:k=s
  ·subst e;rw [if_pos ⟨by omega,h⟩,if_pos rfl,if_pos (by rw [dt];exact hs)];rfl
  ·rw [if_neg e,← List.getD_eq_getElem?_getD,kl hs];by_cases e2:s < k
   ·simp only [e2,show s < k+1 by omega]
   ·rw [if_neg Z,if_neg Z])
theorem GH {m:MD} {vs:List RR} {p:List Int} {k:Nat} (h:¬ qv ((am m vs).1.getD k zR) < qv (vs.getD k zR)):jT m vs p (k+1)=jT m vs p k:=
 kr (by rw [dt,dt]) (fun s hs=>by
  rw [dt] at hs;rw [kl hs,kl hs];by_cases e:s=k
  ·subst e;rw [if_neg (fun k=>h k.2),if_neg Z]
  ·by_cases e2:s < k
   ·simp only [e2,show s < k+1 by omega]
   ·rw [if_neg Z,if_neg Z])
def tQ (m:MD):Nat→List Int→List RR × List Int × Int
 | 0,_=>([],[],0)
 | k+1,p=>
  if (aH m p).2≠0 then ([],[],(aH m p).2)
  else if (am m (aH m p).1).2.2≠0 then ([],[],(am m (aH m p).1).2.2)
  else if lG m (aH m p).1 m.states.length=true then tQ m k (fF m (aH m p).1 p)
  else ((aH m p).1,(am m (aH m p).1).2.1,0)
def optG (m:MD) (p:List Int):List RR × List Int × Int:=tQ m (DN m p+1) p
theorem jU {m:MD} (hm:fs m=0) (hg:qv m.ah < 1):∀ (d:Nat) (p:List Int) (k:Nat),lE m p→DN m p < d→DN m p < k→tQ m k p=optG m p
 | 0,p,k,_,h,_=>absurd h (Nat.not_lt_zero _)
 | d+1,p,k,hp,h,hk=>by
  obtain ⟨k,rfl⟩:∃ j,k=j+1:=⟨k - 1,by omega⟩;unfold optG;unfold tQ;by_cases h1:(aH m p).2=0
  ·have n1:¬ (aH m p).2≠0:=fun z=>z h1;rw [if_neg n1,if_neg n1];by_cases h2:(am m (aH m p).1).2.2=0
   ·have n2:¬ (am m (aH m p).1).2.2≠0:=fun z=>z h2;rw [if_neg n2,if_neg n2];by_cases h3:lG m (aH m p).1 m.states.length=true
    ·rw [if_pos h3,if_pos h3];obtain ⟨s,hs,hl⟩:=zw h3;have hlt:=ID (vs:=(aH m p).1) hm hg hp (Prod.ext rfl h1) h2 hs hl;have hv:=jS (vs:=(aH m p).1) hp h2;rw [jU hm hg d _ k hv Z Z,jU hm hg d _ (DN m p) hv Z Z]
    ·rw [if_neg h3,if_neg h3]
   ·rw [if_pos h2,if_pos h2]
  ·rw [if_pos h1,if_pos h1]
theorem AV {m:MD} {p:List Int} {c:Int} (h:(aH m p).2=c) (hc:c≠0):optG m p=([],[],c):=by
 unfold optG tQ;rw [if_pos IM,h]
theorem AW {m:MD} {p:List Int} {vs:List RR} {c:Int} (h:aH m p=(vs,0)) (h2:(am m vs).2.2=c) (hc:c≠0):optG m p=([],[],c):=by
 unfold optG tQ;rw [h,if_neg (fun z=>z rfl),if_pos (by rw [h2];exact hc),h2]
theorem AX {m:MD} {p:List Int} {vs:List RR} (h:aH m p=(vs,0)) (h2:(am m vs).2.2=0) (h3:lG m vs m.states.length=false):optG m p=(vs,(am m vs).2.1,0):=by
 unfold optG tQ;rw [h,if_neg (fun z=>z rfl),if_neg (fun z=>z h2),if_neg (by rw [h3];simp)]
theorem AZ {m:MD} {p:List Int} {vs:List RR} (hm:fs m=0) (hg:qv m.ah < 1) (hp:lE m p) (h:aH m p=(vs,0)) (h2:(am m vs).2.2=0) (h3:lG m vs m.states.length=true) :
  optG m p=optG m (fF m vs p)∧DN m (fF m vs p) < DN m p:=by
 obtain ⟨s,hs,hl⟩:=zw h3;have hlt:=ID hm hg hp h h2 hs hl;refine ⟨?_,hlt⟩;have e:optG m p=tQ m (DN m p) (fF m vs p):=by
  unfold optG;rw [tQ,h,if_neg (fun z=>z rfl),if_neg (fun z=>z h2),if_pos h3]
 rw [e];exact jU hm hg _ _ _ (jS hp h2) (Nat.lt_succ_self _) hlt
theorem DU {m:MD} (hm:fs m=0):lE m (List.replicate m.states.length 0):=by
 refine ⟨by simp,fun u hu=>?_⟩;have e:(List.replicate m.states.length (0:Int)).getD u 0=0:=by
  rw [List.getD_eq_getElem?_getD,List.getElem?_replicate,if_pos hu];rfl
 rw [e];have h0:(m.states.getD u []).length≠0:=fun z=>by
  have:=(bF hm).2.2.2 u hu;rw [Ou z] at this;cases this
 exact ⟨Int.le_refl _,by omega⟩
def oy (m:MD):List RR × List Int × Int:=
 if gG m≠0 then ([],[],gG m) else if 8 < m.states.length then ([],[],4) else optG m (List.replicate m.states.length 0)
theorem KM {m:MD} {c:Int} (h:gG m=c) (hc:c≠0):oy m=([],[],c):=by unfold oy;rw [h,if_pos hc]
theorem KN {m:MD} (h:gG m=0) (h2:8 < m.states.length):oy m=([],[],4):=by unfold oy;rw [if_neg kN,if_pos h2]
theorem KO {m:MD} (h:gG m=0) (h2:¬ 8 < m.states.length):oy m=optG m (List.replicate m.states.length 0):=by unfold oy;rw [if_neg kN,if_neg h2]
theorem sw {m:MD} (h:fs m=0) (h1:qv m.ah≠1):qv m.ah < 1:=by
 have:=(gS h).2;rcases Rat.le_iff_lt_or_eq.1 this with h|h
 ·exact h
 ·exact absurd h h1
theorem iT {m:MD} {vs:List RR} (h:(am m vs).2.2=0):(am m vs).1.length=m.states.length∧(am m vs).2.1.length=m.states.length∧dm (am m vs).1∧∀ s,s < m.states.length→aA ((am m vs).1.getD s zR)=0:=by
 obtain ⟨e1,e2,e3,e4⟩:=fZ h;refine ⟨by rw [e3,fe],by rw [e4,ms],pS m vs,fun s hs=>?_⟩;rw [e3];exact tt e1 e2 s (by rw [fe];exact hs)
end Go.Proofs.YtnnjbaijcaiohaaGreat
