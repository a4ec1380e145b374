/- Walks and lemmas. -/
import Derived.Test.YtnnjbaijcaiohaaGreatSxA23
import Derived.Test.YtnnjbaijcaiohaaGreatSxA21
import Derived.Test.YtnnjbaijcaiohaaGreatSxA17
import Derived.Test.YtnnjbaijcaiohaaGreatSxA13
import Derived.Test.YtnnjbaijcaiohaaGreatSxA16
import Derived.Defers
import Derived.Test.YtnnjbaijcaiohaaGreatSxA22
import Derived.Test.YtnnjbaijcaiohaaGreatSxA20
import Derived.Test.YtnnjbaijcaiohaaGreatSxA11
set_option linter.unusedVariables false
set_option linter.unusedSimpArgs false
set_option maxRecDepth 100000
set_option maxHeartbeats 16000000
namespace Go.Proofs.YtnnjbaijcaiohaaGreat
open Go.RowKit
def gx (m:MD):RR × Int:=bR (rep ((1:Int):Rat)) m.ag
def kE (B:Nat) (w':World) (e:Ending) (r:RR × Int):Prop:=if r.2=0 then ∃ s1 s2 s3 s4,e=.returned (.agg #[.bool r.1.neg,.slice s1 r.1.num.length s2,.slice s3 r.1.den.length s4])∧dg B w' [.bool r.1.neg,.slice s1 r.1.num.length s2,.slice s3 r.1.den.length s4] r.1 else e=.panicked [aY r.2]
theorem kE.bad {B:Nat} {w':World} {r:RR × Int} {c:Int} (h:r.2=c) (hc:c≠0):kE B w' (.panicked [aY c]) r:=by unfold kE;rw [h,if_neg hc]
theorem kE.ok {B:Nat} {w':World} {d:RR} {s1 s3:Option Addr} {s2 s4:Nat} (h:dg B w' [.bool d.neg,.slice s1 d.num.length s2,.slice s3 d.den.length s4] d):kE B w' (.returned (.agg #[.bool d.neg,.slice s1 d.num.length s2,.slice s3 d.den.length s4])) (d,0):=by unfold kE;rw [if_pos rfl];exact ⟨_,_,_,_,rfl,h⟩
theorem kE.oW {B:Nat} {w':World} {e:Ending} {d:RR} (h:kE B w' e (d,0)):∃ s1 s2 s3 s4,e=.returned (.agg #[.bool d.neg,.slice s1 d.num.length s2,.slice s3 d.den.length s4])∧dg B w' [.bool d.neg,.slice s1 d.num.length s2,.slice s3 d.den.length s4] d:=by unfold kE at h;rwa [if_pos rfl] at h
theorem kE.oX {B:Nat} {w':World} {e:Ending} {r:RR × Int} (h:kE B w' e r) (hc:r.2≠0):e=.panicked [aY r.2]:=by unfold kE at h;rwa [if_neg hc] at h
theorem dg.rd {B:Nat} {w:World} {r:RR} {s1 s3:Option Addr} {s2 s4:Nat} (h:dg B w [.bool r.neg,.slice s1 r.num.length s2,.slice s3 r.den.length s4] r):aX w (.agg #[.bool r.neg,.slice s1 r.num.length s2,.slice s3 r.den.length s4]) r:=by
 obtain ⟨a1,c1,a2,c2,e,h1,h2⟩:=h;simp only [List.cons.injEq,Value.slice.injEq,and_true,true_and] at e;obtain ⟨⟨rfl,rfl⟩,rfl,rfl⟩:=e;exact ⟨_,_,rfl,h1.rd,h2.rd⟩
def Jd (An:Nat) (x:RR) (m1:Option Addr) (n1:Nat) (m2:Option Addr) (n2:Nat) (d:RR) (c:Int) (B:Nat) (j:Nat) (v:Value) (W:World):Prop:=
 match j with
 | 0=>∃ s1 s2 s3 s4,v=.agg #[.bool (rep ((1:Int):Rat)).neg,.slice s1 (rep ((1:Int):Rat)).num.length s2,.slice s3 (rep ((1:Int):Rat)).den.length s4]∧aX W (.agg #[.bool (rep ((1:Int):Rat)).neg,.slice s1 (rep ((1:Int):Rat)).num.length s2,.slice s3 (rep ((1:Int):Rat)).den.length s4]) (rep ((1:Int):Rat))
 | 1=>v=.pointer (some ⟨An,0,none⟩)
 | 2=>v=.agg #[.bool x.neg,.slice m1 x.num.length n1,.slice m2 x.den.length n2]
 | 3=>∃ s1 s2 s3 s4,v=.tuple #[.agg #[.bool d.neg,.slice s1 d.num.length s2,.slice s3 d.den.length s4],.int .i64 c]∧cA B W (.slice s1 d.num.length s2) d.num∧cA B W (.slice s3 d.den.length s4) d.den
 | 4=>∃ s1 s2 s3 s4,v=.agg #[.bool d.neg,.slice s1 d.num.length s2,.slice s3 d.den.length s4]∧cA B W (.slice s1 d.num.length s2) d.num∧cA B W (.slice s3 d.den.length s4) d.den
 | 5=>v=.int .i64 c
 | 6=>c=0∧∃ s1 s2 s3 s4,v=.agg #[.bool d.neg,.slice s1 d.num.length s2,.slice s3 d.den.length s4]∧cA B W (.slice s1 d.num.length s2) d.num∧cA B W (.slice s3 d.den.length s4) d.den
 | _=>True
theorem Cw {An:Nat} {x:RR} {m1:Option Addr} {n1:Nat} {m2:Option Addr} {n2:Nat} {d:RR} {c:Int} {B:Nat} {j:Nat} {v:Value} {W W':World} (h:Jd An x m1 n1 m2 n2 d c B j v W) (xx:Ext W W'):Jd An x m1 n1 m2 n2 d c B j v W':=by
 match j,h with
 | 0,⟨s1,s2,s3,s4,h0,h1⟩=>exact ⟨s1,s2,s3,s4,h0,h1.ext xx⟩
 | 1,h=>exact h
 | 2,h=>exact h
 | 3,⟨s1,s2,s3,s4,h0,h1,h2⟩=>exact ⟨s1,s2,s3,s4,h0,h1.ext xx,h2.ext xx⟩
 | 4,⟨s1,s2,s3,s4,h0,h1,h2⟩=>exact ⟨s1,s2,s3,s4,h0,h1.ext xx,h2.ext xx⟩
 | 5,h=>exact h
 | 6,⟨h9,s1,s2,s3,s4,h0,h1,h2⟩=>exact ⟨h9,s1,s2,s3,s4,h0,h1.ext xx,h2.ext xx⟩
 | _+7,_=>trivial
theorem pD (mv:Value) (m:MD) (w:World) (hm:eK w mv m) (hlm:iO m) :
  Calls Tryz.prog 109 #[mv] w fun e w'=>kE w.heap.size w' e (gx m)∧Ext w w':=by
 have wg:=kI hlm.1;obtain ⟨m1,n1,m2,n2,m3,n3,rfl,hd,-⟩:=hm;have HD:=kI hd;obtain ⟨d,c,hdc⟩:∃ d c,gx m=(d,c):=⟨_,_,rfl⟩;have HF:=kI hdc;rw [hdc];clear hlm hd hdc;have bb0:=((af.new w #[.bool m.ag.neg,.slice m1 m.ag.num.length n1,.slice m2 m.ag.den.length n2,.slice m3 m.states.length n3] 28).alloc (.cells #[.bool false,.slice none 0 0,.slice none 0 0] 25));have bb1:=(af.new (w.alloc (.cells #[.bool m.ag.neg,.slice m1 m.ag.num.length n1,.slice m2 m.ag.den.length n2,.slice m3 m.states.length n3] 28)) #[.bool false,.slice none 0 0,.slice none 0 0] 25);rw [World.size_alloc] at bb1;have x0:Ext w ((w.alloc (.cells #[.bool m.ag.neg,.slice m1 m.ag.num.length n1,.slice m2 m.ag.den.length n2,.slice m3 m.states.length n3] 28)).alloc (.cells #[.bool false,.slice none 0 0,.slice none 0 0] 25)):=(((Ext.refl w).alloc _).alloc _);have A0:=kI bb0;have A1:=kI bb1;have X:=kI x0;clear x0 bb0 bb1;obtain ⟨wo,hwo⟩:=gN (((w.alloc (.cells #[.bool m.ag.neg,.slice m1 m.ag.num.length n1,.slice m2 m.ag.den.length n2,.slice m3 m.states.length n3] 28)).alloc (.cells #[.bool false,.slice none 0 0,.slice none 0 0] 25)));rw [← hwo] at A0 A1 X;have sj:=kI hwo;replace HD:=kI (HD.o.ext X.o);clear hwo;go_enter Tryz.func109,Tryz.ntmps109
 have q0:=A0.o.cell;have q1:=A0.o.lt;have q2:=A1.o.cell;have q3:=A1.o.lt;have q4:=A1.o.free;go_wp2_with fail;rw [← sj.o];clear q0 q1 q2 q3 q4 sj;refine aD 7 (Jd w.heap.size m.ag m1 n1 m2 n2 d c w.heap.size) (by kernel_rfl) (by kernel_rfl) (by kernel_rfl) (fun _ _ _ _ h x=>Cw h x) ?_ ?_
 ·refine ⟨?_,?_,?_,?_,?_,?_,?_,trivial⟩
  ·intro a W hW Z hB hD K hK;have aJ:=kI Z;clear Z;go_simp;refine (eI 1 W (by decide) (by decide)).mono ?_;rintro e w9 ⟨⟨v,rfl,nn⟩,hx⟩;obtain ⟨t1,t2,t3,t4,rfl⟩:=nn.shape;exact hK _ _ hx ⟨_,_,_,_,rfl,nn.rd⟩
  ·intro a W hW Z hB hD K hK;have aJ:=kI Z;clear Z;have b1:=hB 1 rfl;simp only [sB] at b1;go_simp;exact hK _ _ (Ext.refl _) rfl
  ·intro a W hW Z hB hD K hK;have aJ:=kI Z;clear Z;obtain ⟨v4,e4,h4⟩:=az (hD 1 _ 4 rfl rfl (by kernel_rfl));obtain rfl:=h4;have q9:=(A0.o.ext hW).cell;have l9:=(A0.o.ext hW).lt;go_simp;exact hK _ _ (Ext.refl _) rfl
  ·intro a W hW Z hB hD K hK;have aJ:=kI Z;clear Z;obtain ⟨v3,e3,h3⟩:=az (hD 0 _ 3 rfl rfl (by kernel_rfl));obtain ⟨x91,eZ,x93,fb,rfl,xh⟩:=h3;obtain ⟨v5,e5,h5⟩:=az (hD 2 _ 5 rfl rfl (by kernel_rfl));obtain rfl:=h5;go_simp;have hsu:=gZ _ _ _ m.ag W xh (HD.o.ext hW) (cJ _) wg.o;rw [show bR (rep ((1:Int):Rat)) m.ag=(d,c) from HF.o] at hsu;refine hsu.mono ?_;rintro e w9 ⟨⟨v,rfl,nn⟩,hx⟩;obtain ⟨t1,t2,t3,t4,rfl⟩:=nn.shape;obtain ⟨hs1,hs2⟩:=nn.sf (B:=w.heap.size) (Nat.le_trans X.o.size hW.size);exact hK _ _ hx ⟨_,_,_,_,rfl,hs1,hs2⟩
  ·intro a W hW Z hB hD K hK;have aJ:=kI Z;clear Z;obtain ⟨v6,e6,h6⟩:=az (hD 3 _ 6 rfl rfl (by kernel_rfl));obtain ⟨x91,eZ,x93,fb,rfl,xq,xr⟩:=h6;go_simp;exact hK _ _ (Ext.refl _) ⟨_,_,_,_,rfl,xq,xr⟩
  ·intro a W hW Z hB hD K hK;have aJ:=kI Z;clear Z;obtain ⟨v6,e6,h6⟩:=az (hD 3 _ 6 rfl rfl (by kernel_rfl));obtain ⟨x91,eZ,x93,fb,rfl,xq,xr⟩:=h6;go_simp;exact hK _ _ (Ext.refl _) rfl
  ·intro a W hW Z hB hD K hK;have aJ:=kI Z;clear Z;obtain ⟨v7,e7,h7⟩:=az (hD 4 _ 7 rfl rfl (by kernel_rfl));obtain ⟨x91,eZ,x93,fb,rfl,xq,xr⟩:=h7;obtain ⟨v8,e8,h8⟩:=az (hD 5 _ 8 rfl rfl (by kernel_rfl));obtain rfl:=h8;go_simp;by_cases hpe:c=0
   ·subst hpe;refine (bI _ _ _ _ _ _ _ W).mono ?_;rintro e w9 ⟨rfl,hx⟩;exact hK _ _ hx ⟨rfl,_,_,_,_,rfl,xq.ext hx,xr.ext hx⟩
   ·refine (bp _ _ _ _ _ _ _ _ rfl hpe W).mono ?_;rintro e w9 ⟨rfl,hx⟩;(try simp +zetaDelta only [Exit.then,Exit.inBlock]);exact aA aJ.o ⟨kE.bad rfl hpe,X.o.trans (hW.trans hx)⟩
 intro w7 hx;simp only [cX,List.take_succ_cons,List.take_zero,List.drop_succ_cons,List.drop_zero];rintro u0 - u1 - u2 - u3 - u4 - u5 - u6 h6;obtain ⟨rfl,r1,r2,r3,r4,rfl,S1,S2⟩:=h6;simp only [Act.put,List.setIfInBounds_toArray,List.set_cons_zero,List.set_cons_succ];have A7:=kI (A1.o.ext hx);have X7:=kI (show Ext w w7 from X.o.trans hx);have EL:=kI (show dg w.heap.size w7 [.bool d.neg,.slice r1 d.num.length r2,.slice r3 d.den.length r4] d from ⟨_,_,_,_,rfl,S1,S2⟩);clear hx S1 S2;have q0:=A7.o.cell;have q1:=A7.o.lt;have q2:=A7.o.free;go_wp2_with fail;refine bodyPost_ret (v:=.agg #[.bool d.neg,.slice r1 d.num.length r2,.slice r3 d.den.length r4]) (by simp only [results,Tryz.results109];go_simp) rfl ?_;refine ⟨kE.ok (dg.keeps (by decide) _ _ _ _ EL.o (((ak A7.o 0 (.bool d.neg)).trans ((ak (A7.o.set 0 (.bool d.neg)) 1 (.slice r1 d.num.length r2)))).trans (ak ((A7.o.set 0 (.bool d.neg)).set 1 (.slice r1 d.num.length r2)) 2 (.slice r3 d.den.length r4)))),?_⟩;exact Below.setCell (Below.setCell (Below.setCell X7.o (by dsimp only;omega) _) (by dsimp only;omega) _) (by dsimp only;omega) _
theorem qt {nn:Nat} (be b1:Nat) (w:World) (hbe:af w be #[.int .i64 0] 37) :
  CallsDIn Fence.wide nn Tryz.prog 106 #[.pointer (some ⟨be,0,none⟩),.pointer (some ⟨b1,0,none⟩)] .returning w fun e u' w'=>e=.returned (.tuple #[])∧u'=.returning∧w'=(w.setCell ⟨be,0,none⟩ (.int .i64 0)).drew:=by
 have he:=(hbe.cell 0);have hz:=hbe.free 0;simp only [List.getElem?_toArray,List.getElem?_cons_zero] at he;refine aH Tryz.func106 rfl fun c₀ cs hu=>?_;apply wpS_seq;refine aG (by kernel_rfl) (by kernel_rfl) (by kernel_rfl) (by kernel_rfl) (by kernel_rfl) (by kernel_rfl) rfl ?_ ?_;all_goals
  simp [wpOpsS,go_sem,recoverD,hu,Tryz.ntmps106,Exit.thenS,he,hz];refine (cQ 0 _).mono ?_;rintro e w1 ⟨rfl,rfl⟩;simp [wpOpsS,go_sem,recoverD,hu,Tryz.ntmps106,Exit.thenS,he,hz];refine wpS_of_wp ?_;go_wp2
  simp [bodyPostS,results,Tryz.results106,go_sem] <;> (cases c₀;simp_all)
theorem qu {nn:Nat} (be b1:Nat) (c e0:Int) (hc:c≠0) (older:List PanicEntry) (w:World) (x0 x1 x2 x3 x4 x5 x6 x7:Value) (jY:TypeId) (hbe:af w be #[.int .i64 e0] 37) (hb1:af w b1 #[x0,x1,x2,x3,x4,x5,x6,x7] jY) (su:b1≠be) :
  CallsDIn Fence.wide nn Tryz.prog 106 #[.pointer (some ⟨be,0,none⟩),.pointer (some ⟨b1,0,none⟩)] (.panicking (aY c :: older)) w fun e u' w'=>e=.returned (.tuple #[])∧u'=.panicking ({ aY c with recovered:=true } :: older)∧w'=(((((((((w.setCell ⟨be,0,none⟩ (.int .i64 c)).setCell ⟨b1,0,none⟩ (.slice none 0 0)).setCell ⟨b1,1,none⟩ (.slice none 0 0)).setCell ⟨b1,2,none⟩ (.bool false)).setCell ⟨b1,3,none⟩ (.slice none 0 0)).setCell ⟨b1,4,none⟩ (.slice none 0 0)).setCell ⟨b1,5,none⟩ (.bool false)).setCell ⟨b1,6,none⟩ (.slice none 0 0)).setCell ⟨b1,7,none⟩ (.slice none 0 0)).drew:=by
 have q1:(c != 0)=true:=by simpa using hc
 unfold aY;have he:=(hbe.cell 0);have hz:=hbe.free 0;simp only [List.getElem?_toArray,List.getElem?_cons_zero] at he;have ud:=hb1.cell;have It:=hb1.free;refine aH Tryz.func106 rfl fun c₀ cs hu=>?_;apply wpS_seq;refine aG (by kernel_rfl) (by kernel_rfl) (by kernel_rfl) (by kernel_rfl) (by kernel_rfl) (by kernel_rfl) rfl ?_ ?_;all_goals
  simp [wpOpsS,go_sem,recoverD,hu,Tryz.ntmps106,Exit.thenS,he,hz];refine (gI c e0 _).mono ?_;rintro e w1 ⟨rfl,rfl⟩;simp [wpOpsS,go_sem,recoverD,hu,Tryz.ntmps106,Exit.thenS,he,hz];refine wpS_of_wp ?_;go_wp2
  simp [bodyPostS,results,Tryz.results106,go_sem] <;> (cases c₀;simp_all)
theorem pE {nn:Nat} (be b1:Nat) (c:Int) (hc:c≠0) (w:World) (x0 x1 x2 x3 x4 x5 x6 x7:Value) (jY:TypeId) (hbe:af w be #[.int .i64 c] 37) (hb1:af w b1 #[x0,x1,x2,x3,x4,x5,x6,x7] jY) (su:b1≠be) :
  CallsDIn Fence.wide nn Tryz.prog 106 #[.pointer (some ⟨be,0,none⟩),.pointer (some ⟨b1,0,none⟩)] .returning w fun e u' w'=>e=.returned (.tuple #[])∧u'=.returning∧w'=(((((((((w.setCell ⟨be,0,none⟩ (.int .i64 c)).setCell ⟨b1,0,none⟩ (.slice none 0 0)).setCell ⟨b1,1,none⟩ (.slice none 0 0)).setCell ⟨b1,2,none⟩ (.bool false)).setCell ⟨b1,3,none⟩ (.slice none 0 0)).setCell ⟨b1,4,none⟩ (.slice none 0 0)).setCell ⟨b1,5,none⟩ (.bool false)).setCell ⟨b1,6,none⟩ (.slice none 0 0)).setCell ⟨b1,7,none⟩ (.slice none 0 0)).drew:=by
 have q1:(c != 0)=true:=by simpa using hc
 have he:=(hbe.cell 0);have hz:=hbe.free 0;simp only [List.getElem?_toArray,List.getElem?_cons_zero] at he;have ud:=hb1.cell;have It:=hb1.free;refine aH Tryz.func106 rfl fun c₀ cs hu=>?_;apply wpS_seq;refine aG (by kernel_rfl) (by kernel_rfl) (by kernel_rfl) (by kernel_rfl) (by kernel_rfl) (by kernel_rfl) rfl ?_ ?_;all_goals
  simp [wpOpsS,go_sem,recoverD,hu,Tryz.ntmps106,Exit.thenS,he,hz];refine (cQ c _).mono ?_;rintro e w1 ⟨rfl,rfl⟩;simp [wpOpsS,go_sem,recoverD,hu,Tryz.ntmps106,Exit.thenS,he,hz];refine wpS_of_wp ?_;go_wp2
  simp [bodyPostS,results,Tryz.results106,go_sem] <;> (cases c₀;simp_all)
theorem sR (be b1:Nat) (w:World) (hbe:af w be #[.int .i64 0] 37) :
  CallsD Tryz.prog 106 #[.pointer (some ⟨be,0,none⟩),.pointer (some ⟨b1,0,none⟩)] .returning w fun e u' w'=>e=.returned (.tuple #[])∧u'=.returning∧w'=(w.setCell ⟨be,0,none⟩ (.int .i64 0)).drew:=bN (qt (nn:=0) be b1 w hbe)
theorem ep (be b1:Nat) (c e0:Int) (hc:c≠0) (older:List PanicEntry) (w:World) (x0 x1 x2 x3 x4 x5 x6 x7:Value) (jY:TypeId) (hbe:af w be #[.int .i64 e0] 37) (hb1:af w b1 #[x0,x1,x2,x3,x4,x5,x6,x7] jY) (su:b1≠be) :
  CallsD Tryz.prog 106 #[.pointer (some ⟨be,0,none⟩),.pointer (some ⟨b1,0,none⟩)] (.panicking (aY c :: older)) w fun e u' w'=>e=.returned (.tuple #[])∧u'=.panicking ({ aY c with recovered:=true } :: older)∧w'=(((((((((w.setCell ⟨be,0,none⟩ (.int .i64 c)).setCell ⟨b1,0,none⟩ (.slice none 0 0)).setCell ⟨b1,1,none⟩ (.slice none 0 0)).setCell ⟨b1,2,none⟩ (.bool false)).setCell ⟨b1,3,none⟩ (.slice none 0 0)).setCell ⟨b1,4,none⟩ (.slice none 0 0)).setCell ⟨b1,5,none⟩ (.bool false)).setCell ⟨b1,6,none⟩ (.slice none 0 0)).setCell ⟨b1,7,none⟩ (.slice none 0 0)).drew:=bN (qu (nn:=0) be b1 c e0 hc older w x0 x1 x2 x3 x4 x5 x6 x7 jY hbe hb1 su)
theorem gX (be b1:Nat) (c:Int) (hc:c≠0) (w:World) (x0 x1 x2 x3 x4 x5 x6 x7:Value) (jY:TypeId) (hbe:af w be #[.int .i64 c] 37) (hb1:af w b1 #[x0,x1,x2,x3,x4,x5,x6,x7] jY) (su:b1≠be) :
  CallsD Tryz.prog 106 #[.pointer (some ⟨be,0,none⟩),.pointer (some ⟨b1,0,none⟩)] .returning w fun e u' w'=>e=.returned (.tuple #[])∧u'=.returning∧w'=(((((((((w.setCell ⟨be,0,none⟩ (.int .i64 c)).setCell ⟨b1,0,none⟩ (.slice none 0 0)).setCell ⟨b1,1,none⟩ (.slice none 0 0)).setCell ⟨b1,2,none⟩ (.bool false)).setCell ⟨b1,3,none⟩ (.slice none 0 0)).setCell ⟨b1,4,none⟩ (.slice none 0 0)).setCell ⟨b1,5,none⟩ (.bool false)).setCell ⟨b1,6,none⟩ (.slice none 0 0)).setCell ⟨b1,7,none⟩ (.slice none 0 0)).drew:=bN (pE (nn:=0) be b1 c hc w x0 x1 x2 x3 x4 x5 x6 x7 jY hbe hb1 su)
theorem sS {nn:Nat} (be:Nat) (w:World) (hbe:af w be #[.int .i64 0] 37) :
  CallsDIn Fence.wide nn Tryz.prog 110 #[.pointer (some ⟨be,0,none⟩)] .returning w fun e u' w'=>e=.returned (.tuple #[])∧u'=.returning∧w'=(w.setCell ⟨be,0,none⟩ (.int .i64 0)).drew:=by
 have he:=(hbe.cell 0);have hz:=hbe.free 0;simp only [List.getElem?_toArray,List.getElem?_cons_zero] at he;refine aH Tryz.func110 rfl fun c₀ cs hu=>?_;refine aG (by kernel_rfl) (by kernel_rfl) (by kernel_rfl) (by kernel_rfl) (by kernel_rfl) (by kernel_rfl) rfl ?_ ?_;all_goals
  simp [wpOpsS,go_sem,recoverD,hu,Tryz.ntmps110,Exit.thenS,he,hz];refine (cQ 0 _).mono ?_;rintro e w1 ⟨rfl,rfl⟩;simp [wpOpsS,go_sem,recoverD,hu,Tryz.ntmps110,Exit.thenS,he,hz];(try simp [bodyPostS,results,Tryz.results110,go_sem] <;> (cases c₀;simp_all))
theorem sT {nn:Nat} (be:Nat) (c e0:Int) (hc:c≠0) (older:List PanicEntry) (w:World) (hbe:af w be #[.int .i64 e0] 37) :
  CallsDIn Fence.wide nn Tryz.prog 110 #[.pointer (some ⟨be,0,none⟩)] (.panicking (aY c :: older)) w fun e u' w'=>e=.returned (.tuple #[])∧u'=.panicking ({ aY c with recovered:=true } :: older)∧w'=(w.setCell ⟨be,0,none⟩ (.int .i64 c)).drew:=by
 have q1:(c != 0)=true:=by simpa using hc
 unfold aY;have he:=(hbe.cell 0);have hz:=hbe.free 0;simp only [List.getElem?_toArray,List.getElem?_cons_zero] at he;refine aH Tryz.func110 rfl fun c₀ cs hu=>?_;refine aG (by kernel_rfl) (by kernel_rfl) (by kernel_rfl) (by kernel_rfl) (by kernel_rfl) (by kernel_rfl) rfl ?_ ?_;all_goals
  simp [wpOpsS,go_sem,recoverD,hu,Tryz.ntmps110,Exit.thenS,he,hz];refine (gI c e0 _).mono ?_;rintro e w1 ⟨rfl,rfl⟩;simp [wpOpsS,go_sem,recoverD,hu,Tryz.ntmps110,Exit.thenS,he,hz];(try simp [bodyPostS,results,Tryz.results110,go_sem] <;> (cases c₀;simp_all))
theorem qw {nn:Nat} (be:Nat) (c:Int) (hc:c≠0) (w:World) (hbe:af w be #[.int .i64 c] 37) :
  CallsDIn Fence.wide nn Tryz.prog 110 #[.pointer (some ⟨be,0,none⟩)] .returning w fun e u' w'=>e=.returned (.tuple #[])∧u'=.returning∧w'=(w.setCell ⟨be,0,none⟩ (.int .i64 c)).drew:=by
 have q1:(c != 0)=true:=by simpa using hc
 have he:=(hbe.cell 0);have hz:=hbe.free 0;simp only [List.getElem?_toArray,List.getElem?_cons_zero] at he;refine aH Tryz.func110 rfl fun c₀ cs hu=>?_;refine aG (by kernel_rfl) (by kernel_rfl) (by kernel_rfl) (by kernel_rfl) (by kernel_rfl) (by kernel_rfl) rfl ?_ ?_;all_goals
  simp [wpOpsS,go_sem,recoverD,hu,Tryz.ntmps110,Exit.thenS,he,hz];refine (cQ c _).mono ?_;rintro e w1 ⟨rfl,rfl⟩;simp [wpOpsS,go_sem,recoverD,hu,Tryz.ntmps110,Exit.thenS,he,hz];(try simp [bodyPostS,results,Tryz.results110,go_sem] <;> (cases c₀;simp_all))
theorem uI (be:Nat) (w:World) (hbe:af w be #[.int .i64 0] 37) :
  CallsD Tryz.prog 110 #[.pointer (some ⟨be,0,none⟩)] .returning w fun e u' w'=>e=.returned (.tuple #[])∧u'=.returning∧w'=(w.setCell ⟨be,0,none⟩ (.int .i64 0)).drew:=bN (sS (nn:=0) be w hbe)
theorem gK (be:Nat) (c e0:Int) (hc:c≠0) (older:List PanicEntry) (w:World) (hbe:af w be #[.int .i64 e0] 37) :
  CallsD Tryz.prog 110 #[.pointer (some ⟨be,0,none⟩)] (.panicking (aY c :: older)) w fun e u' w'=>e=.returned (.tuple #[])∧u'=.panicking ({ aY c with recovered:=true } :: older)∧w'=(w.setCell ⟨be,0,none⟩ (.int .i64 c)).drew:=bN (sT (nn:=0) be c e0 hc older w hbe)
theorem cU (be:Nat) (c:Int) (hc:c≠0) (w:World) (hbe:af w be #[.int .i64 c] 37) :
  CallsD Tryz.prog 110 #[.pointer (some ⟨be,0,none⟩)] .returning w fun e u' w'=>e=.returned (.tuple #[])∧u'=.returning∧w'=(w.setCell ⟨be,0,none⟩ (.int .i64 c)).drew:=bN (qw (nn:=0) be c hc w hbe)
theorem uJ {a b:RR} (h1:am a=0) (h2:am b=0):(bR a b).2=0∨(bR a b).2=4:=by
 unfold bR iS;rw [if_pos (dt h1 h2)];exact lI _
theorem uK {a b:RR} (h1:am a=0) (h2:am b=0) (h:qv b≠0):(bD a b).2=0∨(bD a b).2=4:=by
 unfold bD iS;rw [if_pos (dt h1 h2),if_neg (fun e=>h (I8 e))];exact lI _
theorem nS {x f y:RR} (hx:am x=0) (hf:am f=0) (hy:am y=0):(fh x f y).2=0∨(fh x f y).2=4:=by
 unfold fh;rcases o7 hf hy with e|e
 ·rw [if_neg (fun k=>k e)];exact uJ hx (ij e).2
 ·rw [if_pos (by rw [e];decide)];exact .inr e
theorem gh {f:Nat→Int} {c:Int}:∀ {n:Nat},(∀ i,i < n→f i=0∨f i=c)→bF f n=0∨bF f n=c
 | 0,_=>.inl rfl
 | n+1,h=>by
  have a:=gh (f:=f) (c:=c) (n:=n) (fun i hi=>h i (by omega));unfold bF;split
  ·exact a
  ·exact h n (by omega)
theorem Fh {f:Nat→Rat} {t:Nat}:∀ {n:Nat},t < n→(∀ i,i < n→i≠t→f i≤0)→sumF f n≤f t:=fun {n} ht h=>by
 have a:=pr (f:=fun i=>if i=t then 0 else f i) (g:=f) (i:=t) (n:=n) ht (fun j _ h2=>by rw [if_neg h2]);rw [if_pos rfl] at a;have b:∀ {k:Nat},k≤n→sumF (fun i=>if i=t then 0 else f i) k≤0:=fun {k}=>by
  induction k with
  | zero=>intro _;exact Rat.le_refl
  | succ k ih=>
   intro hk;have c:=ih (by omega);show sumF _ k+(if k=t then 0 else f k)≤0;by_cases e:k=t
   ·rw [if_pos e];grind
   ·rw [if_neg e];have:=h k (by omega) e;grind
 have c:=b (Nat.le_refl n);grind
structure Dom (n s:Nat) (y:Sys):Prop where
 lim:∀ t i,au (y.M t i)
 chk:∀ t,t < n→∀ i,i < n→am (y.M t i)=0
 M9:∀ t,t < n→am (y.S t)=0
 off:∀ t,s≤t→t < n→∀ i,i < n→i≠t→qv (y.M t i)≤0
 pos:∀ t,s≤t→t < n→0 < sumF (fun i=>qv (y.M t i)) n
theorem Dom.piv {n s:Nat} {y:Sys} (h:Dom n s y) {t:Nat} (h1:s≤t) (h2:t < n):0 < qv (y.M t t):=by
 have a:=Fh (f:=fun i=>qv (y.M t i)) h2 (h.off t h1 h2);have b:=h.pos t h1 h2;exact Rat.not_le.1 (fun c=>Rat.not_lt.2 (Rat.le_trans a c) b)
theorem zL {n s t:Nat} {y y':Sys} (h:eY n s t y=(y',0)):(∀ i,i < n→am (y'.M t i)=0)∧am (y'.S t)=0:=by
 unfold eY at h;by_cases h1:(bD (y.M t s) (y.M s s)).2=0
 ·rw [if_neg (fun k=>k h1)] at h;by_cases h2:nm (y.M t) (bD (y.M t s) (y.M s s)).1 (y.M s) n=0
  ·rw [if_neg (fun k=>k h2)] at h;by_cases h3:(fh (y.S t) (bD (y.M t s) (y.M s s)).1 (y.S s)).2=0
   ·rw [if_neg (fun k=>k h3)] at h;injection h with h _
    subst h;refine ⟨fun i hi=>?_,?_⟩
    ·show am (bU y.M t _ t i)=0;rw [aW];unfold iH;rw [if_pos hi];exact (fD (bm h2 i hi)).2
    ·show am (bU y.S t _ t)=0;rw [aW];exact (fD h3).2
   ·rw [if_pos h3] at h;injection h with _ h;exact absurd h h3
  ·rw [if_pos h2] at h;injection h with _ h;exact absurd h h2
 ·rw [if_pos h1] at h;injection h with _ h;exact absurd h h1
theorem zM {n s t:Nat} {y:Sys} (h:Dom n s y) (hst:s < t) (ht:t < n):(eY n s t y).2=0∨(eY n s t y).2=4:=by
 have hp:=h.piv (Nat.le_refl s) (by omega);unfold eY;rcases uK (h.chk t ht s (by omega)) (h.chk s (by omega) s (by omega)) (fun e=>by rw [e] at hp;exact Rat.lt_irrefl hp) with e1|e1
 ·rw [if_neg (fun k=>k e1)];have hf:=(jz e1).2.2.1;generalize (bD (y.M t s) (y.M s s)).1=f at *
  have:nm (y.M t) f (y.M s) n=0∨nm (y.M t) f (y.M s) n=4:=gh (fun i hi=>nS (h.chk t ht i hi) hf (h.chk s (by omega) i hi));rcases this with e2|e2
  ·rw [if_neg (fun k=>k e2)];rcases nS (h.M9 t ht) hf (h.M9 s (by omega)) with e3|e3
   ·rw [if_neg (fun k=>k e3)];exact .inl rfl
   ·rw [if_pos (by rw [e3];decide)];exact .inr e3
  ·rw [if_pos (by rw [e2];decide)];exact .inr e2
 ·rw [if_pos (by rw [e1];decide)];exact .inr e1
theorem zN {n s t:Nat} {y y':Sys} (h:Dom n s y) (hst:s < t) (ht:t < n) (he:eY n s t y=(y',0)):Dom n s y':=by
 have hp:=h.piv (Nat.le_refl s) (by omega);obtain ⟨b1,b2,b3,b4,b5,b6⟩:=ro he (by omega);obtain ⟨c1,c2⟩:=zL he;have hq:=(jz b4).2.1;generalize (bD (y.M t s) (y.M s s)).1=f at *
 have hf:qv f≤0:=by
  rw [hq];have a:=h.off t (by omega) ht s (by omega) (by omega);rw [Rat.div_def];have b:=iG (Rat.le_of_lt (Rat.inv_pos.2 hp)) a;rw [Rat.mul_zero,Rat.mul_comm] at b;exact b
 have hneg:∀ {z:Rat},z≤0→0≤qv f*z:=fun {z} hz=>by
  have:=Rat.mul_nonneg (a:=- qv f) (b:=- z) (by grind) (by grind);grind
 refine ⟨fun r i=>?_,fun r hr i hi=>?_,fun r hr=>?_,fun r h1 h2 i hi hne=>?_,fun r h1 h2=>?_⟩
 ·by_cases e:r=t
  ·rw [e];exact b1 (h.lim t) i
  ·rw [(b2 r e).1];exact h.lim r i
 ·by_cases e:r=t
  ·rw [e];exact c1 i hi
  ·rw [(b2 r e).1];exact h.chk r hr i hi
 ·by_cases e:r=t
  ·rw [e];exact c2
  ·rw [(b2 r e).2];exact h.M9 r hr
 ·by_cases e:r=t
  ·subst e;rw [b5 i hi];by_cases e2:i=s
   ·have hd:qv (y.M r s) / qv (y.M s s)*qv (y.M s s)=qv (y.M r s):=Rat.div_mul_cancel (fun e=>by rw [e] at hp;exact Rat.lt_irrefl hp);rw [e2,hq,hd];grind
   ·have a:=h.off r h1 h2 i hi hne;have b:=hneg (h.off s (Nat.le_refl _) (by omega) i hi e2);grind
  ·rw [(b2 r e).1];exact h.off r h1 h2 i hi hne
 ·by_cases e:r=t
  ·subst e;have e0:sumF (fun i=>qv (y'.M r i)) n=sumF (fun i=>qv (y.M r i)) n - qv f*sumF (fun i=>qv (y.M s i)) n:=by
    rw [← pt,← pw];exact dV (fun i hi=>b5 i hi)
   rw [e0];have a:=h.pos r h1 h2;have b:=Rat.mul_nonneg (a:=- qv f) (b:=sumF (fun i=>qv (y.M s i)) n) (by grind) (Rat.le_of_lt (h.pos s (Nat.le_refl _) (by omega)));grind
  ·rw [(b2 r e).1];exact h.pos r h1 h2
theorem uL {n s:Nat} {y:Sys} (h:Dom n s y):∀ {k:Nat},s+1+k≤n→((bV n s y k).2=0∨(bV n s y k).2=4)∧((bV n s y k).2=0→Dom n s (bV n s y k).1)
 | 0,_=>⟨.inl rfl,fun _=>h⟩
 | k+1,hk=>by
  obtain ⟨a,b⟩:=uL h (k:=k) (by omega);unfold bV;rcases a with a|a
  ·rw [if_neg (fun k=>k a)];have d:=b a;exact ⟨zM d (by omega) (by omega),fun e=>zN (t:=s+1+k) d (by omega) (by omega) (by rw [← e])⟩
  ·rw [if_pos (by rw [a];decide)];exact ⟨.inr a,fun e=>by rw [e] at a;cases a⟩
theorem uM {n s:Nat} {y:Sys} (h1:∀ i,i < n→am (y.M s i)=0) (h2:am (y.S s)=0) (h3:∀ t,s < t→t < n→am (y.V t)=0):∀ {k:Nat},s+1+k≤n→
  ((cT s y k).2=0∨(cT s y k).2=4)∧((cT s y k).2=0→am (cT s y k).1=0)
 | 0,_=>⟨.inl rfl,fun _=>h2⟩
 | k+1,hk=>by
  obtain ⟨a,b⟩:=uM h1 h2 h3 (k:=k) (by omega);unfold cT;rcases a with a|a
  ·rw [if_neg (fun k=>k a)];exact ⟨nS (b a) (h1 _ (by omega)) (h3 _ (by omega) (by omega)),fun e=>(fD e).2⟩
  ·rw [if_pos (by rw [a];decide)];exact ⟨.inr a,fun e=>by rw [e] at a;cases a⟩
theorem Dom.mono {n s:Nat} {y:Sys} (h:Dom n s y):Dom n (s+1) y:=
 ⟨h.lim,h.chk,h.M9,fun t h1=>h.off t (by omega),fun t h1=>h.pos t (by omega)⟩
theorem uN {n:Nat}:∀ {k s:Nat} {y:Sys},s+k=n→Dom n s y→((bG n k s y).2=0∨(bG n k s y).2=4)∧
  ((bG n k s y).2=0→(∀ r,r < s→(bG n k s y).1.M r=y.M r∧(bG n k s y).1.S r=y.S r)∧∀ t,s≤t→t < n→am ((bG n k s y).1.V t)=0)
 | 0,s,y,hk,_=>⟨.inl rfl,fun _=>⟨fun _ _=>⟨rfl,rfl⟩,fun t h1 h2=>absurd h1 (by omega)⟩⟩
 | k+1,s,y,hk,h=>by
  have ih:=fun y1 d=>uN (n:=n) (k:=k) (s:=s+1) (y:=y1) (by omega) d;obtain ⟨a,b⟩:=uL h (k:=n - (s+1)) (by omega);have hs:=fun y' e=>pz h.lim (k:=n - (s+1)) (y':=y') (n:=n) (s:=s) (y:=y) e (by omega);unfold bG;generalize bV n s y (n - (s+1))=F at *
  obtain ⟨y1,e1⟩:=F;dsimp only at a b ⊢;rcases a with a|a
  ·subst a;have hs:=(hs y1 rfl).1;obtain ⟨c,d⟩:=ih y1 (b rfl).mono;have hd:=b rfl;rw [if_neg (fun k=>k rfl)];generalize bG n k (s+1) y1=R at *
   obtain ⟨y2,e2⟩:=R;dsimp only at c d ⊢;rcases c with c|c
   ·subst c;obtain ⟨p,q⟩:=d rfl;have ps:=p s (by omega);obtain ⟨u,v⟩:=uM (n:=n) (s:=s) (y:=y2) (fun i hi=>by rw [ps.1];exact hd.chk s (by omega) i hi) (by rw [ps.2];exact hd.M9 s (by omega)) (fun t h1 h2=>q t (by omega) h2) (k:=n - (s+1)) (by omega);rw [if_neg (fun k=>k rfl)];generalize cT s y2 (n - (s+1))=B at *
    obtain ⟨x,e3⟩:=B;dsimp only at u v ⊢;rcases u with u|u
    ·subst u;rw [if_neg (fun k=>k rfl)];have hp:=hd.piv (Nat.le_refl s) (by omega);have he:=uK (b:=y2.M s s) (v rfl) (by rw [ps.1];exact hd.chk s (by omega) s (by omega)) (fun e=>by rw [ps.1] at e;rw [e] at hp;exact Rat.lt_irrefl hp);rcases he with he|he
     ·rw [if_neg (fun k=>k he)];refine ⟨.inl rfl,fun _=>⟨fun r hr=>?_,fun t h1 h2=>?_⟩⟩
      ·have p1:=p r (by omega);have p2:=hs r (.inl (by omega));exact ⟨p1.1.trans p2.1,p1.2.trans p2.2⟩
      ·show am (bU y2.V s _ t)=0;by_cases e:t=s
       ·rw [e,aW];exact (jz he).2.2.1
       ·rw [bS e];exact q t (by omega) h2
     ·rw [if_pos (by rw [he];decide)];exact ⟨.inr he,fun e=>by dsimp only at e;rw [e] at he;cases he⟩
    ·subst u;rw [if_pos (by decide)];exact ⟨.inr rfl,fun e=>by cases e⟩
   ·subst c;rw [if_pos (by decide)];exact ⟨.inr rfl,fun e=>by cases e⟩
  ·subst a;rw [if_pos (by decide)];exact ⟨.inr rfl,fun e=>by cases e⟩
theorem uO {n:Nat} {d:RR} {l:List Out} {s:Nat} (hd:am d=0) (hd0:0≤qv d) (hO:mW n l):∀ {k:Nat},k≤l.length→
  ((di d l s k).2=0∨(di d l s k).2=4)∧(∀ i,am ((di d l s k).1 i)=0)∧∀ i,i≠s→qv ((di d l s k).1 i)≤0
 | 0,_=>by
  refine ⟨.inl rfl,fun i=>?_,fun i hi=>?_⟩
  ·show am (bU _ s _ i)=0;unfold bU;split
   ·decide
   ·exact nQ
  ·show qv (bU _ s _ i)≤0;rw [bS hi,lH];exact Rat.le_refl
 | k+1,hk=>by
  obtain ⟨a,b,c⟩:=uO (n:=n) (s:=s) hd hd0 hO (k:=k) (by omega);have ho:l.getD k dO ∈ l:=by rw [List.getD_eq_getElem?_getD,List.getElem?_eq_getElem (by omega)];exact List.getElem_mem _
  have hv:=hO _ ho;unfold di;generalize di d l s k=R at *
  obtain ⟨M,e⟩:=R;dsimp only at a b c ⊢;rcases a with a|a
  ·subst a;rw [if_neg (fun k=>k rfl)];rcases nS (b (l.getD k dO).1.toNat) hd hv.2.2.1 with e|e
   ·rw [if_neg (fun k=>k e)];refine ⟨.inl rfl,fun i=>?_,fun i hi=>?_⟩
    ·show am (bU M _ _ i)=0;unfold bU;split
     ·exact (fD e).2
     ·exact b i
    ·show qv (bU M _ _ i)≤0;by_cases e2:i=(l.getD k dO).1.toNat
     ·rw [← e2] at e ⊢;rw [aW,(fD e).1];have:=Rat.mul_nonneg hd0 (fK hv.2.2.2);have:=c i hi;grind
     ·rw [bS e2];exact c i hi
   ·rw [if_pos (by rw [e];decide)];exact ⟨.inr e,b,c⟩
  ·subst a;rw [if_pos (by decide)];exact ⟨.inr rfl,b,c⟩
theorem mx {m:MD} {p:List Int} (hm:ew m=0) (hp:fd m p) (hg:qv m.ag < 1):(ax m p).2=0∨(ax m p).2=4:=by
 have hd:=(bu hm).1;have hd0:=(cP hm).1;have ha:∀ s,s < p.length→ex m.states.length (bl m p s)=0:=fun s hs=>mt hm (by have:=hp.1;omega) (by have:=hp.2 s (by have:=hp.1;omega);omega);have hO:∀ s,s < p.length→mW p.length (bl m p s).next:=fun s hs=>by rw [hp.1];exact iK hm hp (by have:=hp.1;omega)
 have hr:=fun s hs=>uO (n:=p.length) (s:=s) hd hd0 (hO s hs) (Nat.le_refl _);unfold ax;have h1:bF (fun s=>(dY m p s).2) p.length=0∨bF (fun s=>(dY m p s).2) p.length=4:=gh (fun s hs=>(hr s hs).1);rcases h1 with h1|h1
 ·rw [if_neg (fun k=>k h1)];have hD:Dom p.length 0 (js m p):=by
   refine ⟨fun t i=>ik _ _ _ _ i,fun t ht i _=>(hr t ht).2.1 i,fun t ht=>(eL (ha t ht)).1,fun t _ ht i _ hi=>(hr t ht).2.2 i hi,fun t _ ht=>?_⟩;have e0:(di m.ag (bl m p t).next t (bl m p t).next.length).2=0:=bm h1 t ht;have e:=(pA (n:=p.length) m.ag (bl m p t).next t ht (fun o ho=>by have:=hO t ht o ho;omega) (M:=(dY m p t).1) (by
    unfold dY;rw [← e0]) (Nat.le_refl _)).2 (fun _=>1)
   rw [List.take_length,yl (ha t ht)] at e;have e2:sumF (fun i=>qv ((js m p).M t i)) p.length=sumF (fun i=>qv ((dY m p t).1 i)*1) p.length:=dV (fun i _=>by rw [Rat.mul_one];rfl);rw [e2,e];grind
  rcases (uN (n:=p.length) (k:=p.length) (s:=0) (y:=js m p) (by omega) hD).1 with h2|h2
  ·rw [if_neg (fun k=>k h2)];exact .inl rfl
  ·rw [if_pos (by rw [h2];decide)];exact .inr h2
 ·rw [if_pos (by rw [h1];decide)];exact .inr h1
def fq (m:MD) (vs:List RR) (p:List Int):List Int:=
 (List.range p.length).map fun s=>if qv ((ah m vs).1.getD s zR) < qv (vs.getD s zR) then (ah m vs).2.1.getD s 0 else p.getD s 0
theorem sU {m:MD} {vs:List RR} {p:List Int} {s:Nat} (h:s < p.length):(fq m vs p).getD s 0=if qv ((ah m vs).1.getD s zR) < qv (vs.getD s zR) then (ah m vs).2.1.getD s 0 else p.getD s 0:=by
 unfold fq;rw [List.getD_eq_getElem?_getD,List.getElem?_map,List.getElem?_range h];rfl
theorem pF {m:MD} {vs:List RR} {p:List Int}:(fq m vs p).length=p.length:=by simp [fq]
theorem jB {m:MD} {v:List RR} (h:(ah m v).2.2=0) {s:Nat} (hs:s < m.states.length) :
  0≤(ah m v).2.1.getD s 0∧(ah m v).2.1.getD s 0 < ((m.states.getD s []).length:Int)∧
  qv ((ah m v).1.getD s zR)=qv (bl m (ah m v).2.1 s).cost+qv m.ag*bM (bl m (ah m v).2.1 s).next (fun t=>qv (v.getD t zR)):=by
 have e:=greedy h;obtain ⟨k1,k2,k3,k4⟩:=wx (by rw [e]);obtain ⟨e1,e2,e3⟩:=wD (k3 s (by omega));rw [e] at k4;refine ⟨e1,e2,?_⟩;rw [show (ah m v).1=vV m (ah m v).2.1 v from k4,wE (by omega),fJ e3,iJ];rfl
theorem gi {m:MD} {vs:List RR} {p:List Int} (hp:fd m p) (hb:(ah m vs).2.2=0):fd m (fq m vs p):=
 ⟨pF.trans hp.1,fun s hs=>by
  rw [sU (by have:=hp.1;omega)];split
  ·have:=jB hb hs;exact ⟨this.1,this.2.1⟩
  ·exact hp.2 s hs⟩
theorem er {m:MD} {p:List Int} {vs:List RR} (hm:ew m=0) (hp:fd m p) (h:ax m p=(vs,0)):vs.length=m.states.length∧∀ s,s < m.states.length→
  am (vs.getD s zR)=0∧qv (vs.getD s zR)=qv (bl m p s).cost+qv m.ag*bM (bl m p s).next (fun t=>qv (vs.getD t zR)):=by
 have hO:∀ s,s < p.length→mW m.states.length (bl m p s).next:=fun s hs=>iK hm hp (by have:=hp.1;omega);obtain ⟨a,b⟩:=zH h (fun s hs o ho=>by have:=hO s hs o ho;have:=hp.1;omega);exact ⟨a.trans hp.1,fun s hs=>b s (by have:=hp.1;omega)⟩
theorem iL {m:MD} {p:List Int} (hm:ew m=0) (hp:fd m p) {s:Nat} (hs:s < m.states.length):bM (bl m p s).next (fun _=>1)=1:=
 yl (mt hm hs (by have:=hp.2 s hs;omega))
theorem Je {m:MD} {p:List Int} {vs us:List RR} (hm:ew m=0) (hg:qv m.ag < 1) (hp:fd m p) (h:ax m p=(vs,0)) (hb:(ah m vs).2.2=0) (h2:ax m (fq m vs p)=(us,0)) :
  (∀ s,s < m.states.length→qv (us.getD s zR)≤qv (vs.getD s zR))∧∀ s,s < m.states.length→qv ((ah m vs).1.getD s zR) < qv (vs.getD s zR)→qv (us.getD s zR) < qv (vs.getD s zR):=by
 have hq:=gi (p:=p) hp hb;have A:=(er hm hp h).2;have B:=(er hm hq h2).2;have hO:∀ s,s < m.states.length→mW m.states.length (bl m (fq m vs p) s).next:=fun s hs=>iK hm hq hs;have hS:∀ s,s < m.states.length→bM (bl m (fq m vs p) s).next (fun _=>1)=1:=fun s hs=>iL hm hq hs;have hstep:∀ s,s < m.states.length→qv (bl m (fq m vs p) s).cost+qv m.ag*bM (bl m (fq m vs p) s).next (fun t=>qv (vs.getD t zR)) =
   if qv ((ah m vs).1.getD s zR) < qv (vs.getD s zR) then qv ((ah m vs).1.getD s zR) else qv (vs.getD s zR):=fun s hs=>by
  have e:=sU (m:=m) (vs:=vs) (p:=p) (s:=s) (by have:=hp.1;omega);split
  ·rename_i c;rw [if_pos c] at e;rw [(jB hb hs).2.2];unfold bl;rw [e]
  ·rename_i c;rw [if_neg c] at e;rw [(A s hs).2];unfold bl;rw [e]
 have hle:=sub_le (cP hm).1 hg (c:=fun s=>qv (bl m (fq m vs p) s).cost) (u:=fun t=>qv (us.getD t zR)) (v:=fun t=>qv (vs.getD t zR)) hO hS
  (fun s hs=>by show qv (us.getD s zR)≤_;rw [(B s hs).2];exact Rat.le_refl) (fun s hs=>by
   show qv (bl m (fq m vs p) s).cost+_≤qv (vs.getD s zR);rw [hstep s hs];split
   ·rename_i c;exact Rat.le_of_lt c
   ·exact Rat.le_refl)
 refine ⟨hle,fun s hs c=>?_⟩;have e:=hstep s hs;rw [if_pos c] at e;have a:=sO (M:=0) (f:=fun t=>qv (us.getD t zR) - qv (vs.getD t zR)) (l:=(bl m (fq m vs p) s).next) (fun o ho=>fK (hO s hs o ho).2.2.2) (fun o ho=>by
  have:=hle o.1.toNat (by have:=hO s hs o ho;omega);grind)
 rw [jA] at a;have b:=iG (cP hm).1 a;rw [(B s hs).2];grind
theorem zO {m:MD} {p q:List Int} {vs us:List RR} (hm:ew m=0) (hg:qv m.ag < 1) (hp:fd m p) (hb:(ah m vs).2.2=0) (hn:∀ s,s < m.states.length→¬ qv ((ah m vs).1.getD s zR) < qv (vs.getD s zR))
  (hq:fd m q) (h2:∀ s,s < m.states.length→qv (us.getD s zR)=qv (bl m q s).cost+qv m.ag*bM (bl m q s).next (fun t=>qv (us.getD t zR))):∀ s,s < m.states.length→qv (vs.getD s zR)≤qv (us.getD s zR):=
 sub_le (cP hm).1 hg (L:=fun s=>(bl m q s).next) (c:=fun s=>qv (bl m q s).cost) (u:=fun t=>qv (vs.getD t zR)) (v:=fun t=>qv (us.getD t zR)) (fun s hs=>iK hm hq hs) (fun s hs=>iL hm hq hs)
  (fun s hs=>by
   have a:=Rat.not_lt.1 (hn s hs);have ha:(q.getD s 0).toNat < (m.states.getD s []).length:=by have:=hq.2 s hs;omega
   obtain ⟨b1,b2⟩:=yg hb hs ha;have e:=fJ b1;rw [iJ] at e;rw [e] at b2;exact Rat.le_trans a b2)
  (fun s hs=>by
   show _≤qv (us.getD s zR);rw [h2 s hs];exact Rat.le_refl)
def uP:List Nat→List (List Int)
 | []=>[[]]
 | a :: ns=>(List.range a).flatMap fun (i:Nat)=>(uP ns).map (fun p=>Int.ofNat i :: p)
theorem uQ:∀ {ns:List Nat} {p:List Int},p.length=ns.length→(∀ u,u < ns.length→0≤p.getD u 0∧p.getD u 0 < (ns.getD u 0:Int))→p ∈ uP ns
 | [],p,h,_=>by
  have:p=[]:=List.eq_nil_of_length_eq_zero h;rw [this];exact List.mem_singleton.2 rfl
 | a :: ns,[],h,_=>by cases h
 | a :: ns,x :: p,h,hx=>by
  have h0:=hx 0 (by simp);have ih:=uQ (ns:=ns) (p:=p) (by simpa using h) (fun u hu=>hx (u+1) (by simpa using hu));have e0:0≤x∧x < (a:Int):=h0;unfold uP;refine List.mem_flatMap.2 ⟨x.toNat,List.mem_range.2 (by omega),List.mem_map.2 ⟨p,ih,?_⟩⟩;show ((x.toNat:Nat):Int) :: p=x :: p;rw [Int.toNat_of_nonneg e0.1]
theorem pG {α:Type} {P Q:α→Bool}:∀ {l:List α},(∀ x ∈ l,P x=true→Q x=true)→l.countP P≤l.countP Q
 | [],_=>Nat.le_refl _
 | x :: l,h=>by
  have a:=pG (P:=P) (Q:=Q) (l:=l) (fun y hy=>h y (by simp [hy]));have b:=h x (by simp);rw [List.countP_cons,List.countP_cons];by_cases e:P x=true
  ·rw [if_pos e,if_pos (b e)];omega
  ·rw [if_neg e];split <;> omega
theorem pH {α:Type} {P Q:α→Bool} {y:α}:∀ {l:List α},(∀ x ∈ l,P x=true→Q x=true)→y ∈ l→Q y=true→¬ P y=true→l.countP P < l.countP Q
 | [],_,hy,_,_=>by cases hy
 | x :: l,h,hy,h1,h2=>by
  have b:=h x (by simp);rw [List.countP_cons,List.countP_cons];rcases List.mem_cons.1 hy with e|e
  ·subst e;have a:=pG (P:=P) (Q:=Q) (l:=l) (fun z hz=>h z (by simp [hz]));rw [if_neg h2,if_pos h1];omega
  ·have a:=pH (l:=l) (fun z hz=>h z (by simp [hz])) e h1 h2;by_cases e:P x=true
   ·rw [if_pos e,if_pos (b e)];omega
   ·rw [if_neg e];split <;> omega
def Fi (n:Nat) (l:List RR):Rat:=sumF (fun s=>qv (l.getD s zR)) n
theorem yq {f g:Nat→Rat}:∀ {n:Nat},(∀ i,i < n→f i≤g i)→sumF f n≤sumF g n
 | 0,_=>Rat.le_refl
 | n+1,h=>by
  have a:=yq (f:=f) (g:=g) (n:=n) (fun i hi=>h i (by omega));have b:=h n (by omega);show sumF f n+f n≤sumF g n+g n;exact xQ a b
theorem uR {f g:Nat→Rat} {j:Nat}:∀ {n:Nat},(∀ i,i < n→f i≤g i)→j < n→f j < g j→sumF f n < sumF g n
 | n+1,h,hj,hl=>by
  have b:=h n (by omega);show sumF f n+f n < sumF g n+g n;by_cases e:j=n
  ·subst e;have a:=yq (f:=f) (g:=g) (n:=j) (fun i hi=>h i (by omega));grind
  ·have a:=uR (n:=n) (fun i hi=>h i (by omega)) (by omega) hl;grind
def vo (m:MD) (p:List Int):Nat:=
 if (ax m p).2≠0 then 0
 else 1+(uP (m.states.map List.length)).countP fun q=>decide ((ax m q).2=0∧Fi m.states.length (ax m q).1 < Fi m.states.length (ax m p).1)
theorem Fj {m:MD} {p:List Int} (h:fd m p):p ∈ uP (m.states.map List.length):=uQ (by simpa using h.1) (fun u hu=>by
 have hu:u < m.states.length:=by simpa using hu
 have a:=h.2 u hu;have e:(m.states.map List.length).getD u 0=(m.states.getD u []).length:=by
  rw [List.getD_eq_getElem?_getD,List.getD_eq_getElem?_getD,List.getElem?_map,List.getElem?_eq_getElem hu];rfl
 rw [e];exact a)
theorem GA {m:MD} {p:List Int} {vs:List RR} {s:Nat} (hm:ew m=0) (hg:qv m.ag < 1) (hp:fd m p) (h:ax m p=(vs,0)) (hb:(ah m vs).2.2=0) (hs:s < m.states.length)
  (hl:qv ((ah m vs).1.getD s zR) < qv (vs.getD s zR)):vo m (fq m vs p) < vo m p:=by
 unfold vo;rw [if_neg (show ¬ (ax m p).2≠0 by rw [h];simp)];by_cases e:(ax m (fq m vs p)).2=0
 ·rw [if_neg (fun k=>k e)];obtain ⟨a,b⟩:=Je hm hg hp h hb (us:=(ax m (fq m vs p)).1) (by rw [← e]);have hlt:Fi m.states.length (ax m (fq m vs p)).1 < Fi m.states.length (ax m p).1:=by
   rw [h];exact uR a hs (b s hs hl)
  refine Nat.add_lt_add_left (pH (y:=fq m vs p) (fun q _ hq=>?_) (Fj (gi hp hb)) (decide_eq_true ⟨e,hlt⟩) (fun k=>Rat.lt_irrefl (of_decide_eq_true k).2)) 1;have:=of_decide_eq_true hq;exact decide_eq_true ⟨this.1,by have h2:=this.2;grind⟩
 ·rw [if_pos e];omega
theorem Fk (n s t:Nat) (y:Sys):(eY n s t y).1.V=y.V:=by
 unfold eY;split
 ·rfl
 ·split
  ·rfl
  ·split <;> rfl
theorem wO (n s:Nat) (y:Sys):∀ k,(bV n s y k).1.V=y.V
 | 0=>rfl
 | k+1=>by
  unfold bV;split
  ·exact wO n s y k
  ·rw [Fk];exact wO n s y k
theorem rp {n:Nat}:∀ {k s:Nat} {y:Sys},(∀ i,au (y.V i))→∀ i,au ((bG n k s y).1.V i)
 | 0,_,_,h,i=>h i
 | k+1,s,y,h,i=>by
  have h1:∀ i,au ((bV n s y (n - (s+1))).1.V i):=fun i=>by rw [wO];exact h i
  have h2:=rp (n:=n) (k:=k) (s:=s+1) h1;unfold bG;split
  ·exact h1 i
  ·split
   ·exact h2 i
   ·split
    ·exact h2 i
    ·split
     ·exact h2 i
     ·show au (bU _ s _ i);by_cases e:i=s
      ·subst e;rw [aW];exact ph _ _
      ·rw [bS e];exact h2 i
theorem fM (m:MD) (p:List Int):bY (ax m p).1:=by
 unfold ax;split
 ·intro i hi;cases hi
 ·split
  ·intro i hi;cases hi
  ·intro i hi;have hi:i < p.length:=by simpa using hi
   show au (List.getD _ i zR);rw [List.getD_eq_getElem?_getD,List.getElem?_map,List.getElem?_range hi];exact rp (fun i=>aM) i
theorem sV {m:MD} {p:List Int} (h:fd m p):kD m p=0:=by
 unfold kD;rw [if_neg (fun k=>k h.1)];refine bE (fun i hi=>?_);have:=h.2 i (by have:=h.1;omega);unfold ia;rw [if_neg (by omega)]
def gy (m:MD) (vs:List RR) (k:Nat):Bool:=(List.range k).any fun s=>decide (qv ((ah m vs).1.getD s zR) < qv (vs.getD s zR))
theorem rq (m:MD) (vs:List RR) (k:Nat):gy m vs (k+1)=(gy m vs k || decide (qv ((ah m vs).1.getD k zR) < qv (vs.getD k zR))):=by
 unfold gy;rw [List.range_succ,List.any_append];simp
theorem ys {m:MD} {vs:List RR} {k:Nat} (h:gy m vs k=true):∃ s,s < k∧qv ((ah m vs).1.getD s zR) < qv (vs.getD s zR):=by
 obtain ⟨s,h1,h2⟩:=List.any_eq_true.1 h;exact ⟨s,List.mem_range.1 h1,of_decide_eq_true h2⟩
theorem ru {m:MD} {vs:List RR} {k:Nat} (h:gy m vs k=false):∀ s,s < k→¬ qv ((ah m vs).1.getD s zR) < qv (vs.getD s zR):=fun s hs hl=>by
 have:gy m vs k=true:=List.any_eq_true.2 ⟨s,List.mem_range.2 hs,decide_eq_true hl⟩;rw [h] at this;cases this
def jC (m:MD) (vs:List RR) (p:List Int) (k:Nat):List Int:=
 (List.range p.length).map fun s=>if s < k∧qv ((ah m vs).1.getD s zR) < qv (vs.getD s zR) then (ah m vs).2.1.getD s 0 else p.getD s 0
theorem cY {m:MD} {vs:List RR} {p:List Int} {k:Nat}:(jC m vs p k).length=p.length:=by simp [jC]
theorem jU {m:MD} {vs:List RR} {p:List Int} {k s:Nat} (h:s < p.length):(jC m vs p k).getD s 0=if s < k∧qv ((ah m vs).1.getD s zR) < qv (vs.getD s zR) then (ah m vs).2.1.getD s 0 else p.getD s 0:=by
 unfold jC;rw [List.getD_eq_getElem?_getD,List.getElem?_map,List.getElem?_range h];rfl
theorem jV {p q:List Int} (h:p.length=q.length) (hx:∀ s,s < p.length→p.getD s 0=q.getD s 0):p=q:=by
 refine List.ext_getElem h (fun i h1 h2=>?_);have:=hx i h1;rwa [List.getD_eq_getElem?_getD,List.getD_eq_getElem?_getD,List.getElem?_eq_getElem h1,List.getElem?_eq_getElem h2] at this
theorem zP {m:MD} {vs:List RR} {p:List Int}:jC m vs p 0=p:=
 jV cY (fun s hs=>by rw [cY] at hs;rw [jU hs,if_neg (by omega)])
theorem Cx {m:MD} {vs:List RR} {p:List Int}:jC m vs p p.length=fq m vs p:=
 jV (by rw [cY,pF]) (fun s hs=>by
  rw [cY] at hs;rw [jU hs,sU hs];by_cases e:qv ((ah m vs).1.getD s zR) < qv (vs.getD s zR)
  ·rw [if_pos ⟨hs,e⟩,if_pos e]
  ·rw [if_neg (fun k=>e k.2),if_neg e])
theorem Cy {m:MD} {vs:List RR} {p:List Int} {k:Nat} (hk:k < p.length) (h:qv ((ah m vs).1.getD k zR) < qv (vs.getD k zR)):jC m vs p (k+1)=(jC m vs p k).set k ((ah m vs).2.1.getD k 0):=
 jV (by rw [List.length_set,cY,cY]) (fun s hs=>by
  rw [cY] at hs;rw [jU hs,List.getD_eq_getElem?_getD (l:=(jC m vs p k).set k _),List.getElem?_set];by_cases e:k=s
  ·subst e;rw [if_pos ⟨by omega,h⟩,if_pos rfl,if_pos (by rw [cY];exact hs)];rfl
  ·rw [if_neg e,← List.getD_eq_getElem?_getD,jU hs];by_cases e2:s < k
   ·simp only [e2,show s < k+1 by omega]
   ·rw [if_neg (by omega),if_neg (by omega)])
theorem Fl {m:MD} {vs:List RR} {p:List Int} {k:Nat} (h:¬ qv ((ah m vs).1.getD k zR) < qv (vs.getD k zR)):jC m vs p (k+1)=jC m vs p k:=
 jV (by rw [cY,cY]) (fun s hs=>by
  rw [cY] at hs;rw [jU hs,jU hs];by_cases e:s=k
  ·subst e;rw [if_neg (fun k=>h k.2),if_neg (by omega)]
  ·by_cases e2:s < k
   ·simp only [e2,show s < k+1 by omega]
   ·rw [if_neg (by omega),if_neg (by omega)])
def iP (m:MD):Nat→List Int→List RR × List Int × Int
 | 0,_=>([],[],0)
 | k+1,p=>
  if (ax m p).2≠0 then ([],[],(ax m p).2)
  else if (ah m (ax m p).1).2.2≠0 then ([],[],(ah m (ax m p).1).2.2)
  else if gy m (ax m p).1 m.states.length=true then iP m k (fq m (ax m p).1 p)
  else ((ax m p).1,(ah m (ax m p).1).2.1,0)
def optG (m:MD) (p:List Int):List RR × List Int × Int:=iP m (vo m p+1) p
theorem jD {m:MD} (hm:ew m=0) (hg:qv m.ag < 1):∀ (d:Nat) (p:List Int) (k:Nat),fd m p→vo m p < d→vo m p < k→iP m k p=optG m p
 | 0,p,k,_,h,_=>absurd h (Nat.not_lt_zero _)
 | d+1,p,k,hp,h,hk=>by
  obtain ⟨k,rfl⟩:∃ j,k=j+1:=⟨k - 1,by omega⟩;unfold optG;unfold iP;by_cases h1:(ax m p).2=0
  ·have n1:¬ (ax m p).2≠0:=fun z=>z h1;rw [if_neg n1,if_neg n1];by_cases h2:(ah m (ax m p).1).2.2=0
   ·have n2:¬ (ah m (ax m p).1).2.2≠0:=fun z=>z h2;rw [if_neg n2,if_neg n2];by_cases h3:gy m (ax m p).1 m.states.length=true
    ·rw [if_pos h3,if_pos h3];obtain ⟨s,hs,hl⟩:=ys h3;have hlt:=GA (vs:=(ax m p).1) hm hg hp (Prod.ext rfl h1) h2 hs hl;have hv:=gi (vs:=(ax m p).1) hp h2;rw [jD hm hg d _ k hv (by omega) (by omega),jD hm hg d _ (vo m p) hv (by omega) (by omega)]
    ·rw [if_neg h3,if_neg h3]
   ·rw [if_pos h2,if_pos h2]
  ·rw [if_pos h1,if_pos h1]
theorem rA {m:MD} {p:List Int} {c:Int} (h:(ax m p).2=c) (hc:c≠0):optG m p=([],[],c):=by
 unfold optG iP;rw [if_pos (by rw [h];exact hc),h]
theorem rB {m:MD} {p:List Int} {vs:List RR} {c:Int} (h:ax m p=(vs,0)) (h2:(ah m vs).2.2=c) (hc:c≠0):optG m p=([],[],c):=by
 unfold optG iP;rw [h,if_neg (fun z=>z rfl),if_pos (by rw [h2];exact hc),h2]
theorem rC {m:MD} {p:List Int} {vs:List RR} (h:ax m p=(vs,0)) (h2:(ah m vs).2.2=0) (h3:gy m vs m.states.length=false):optG m p=(vs,(ah m vs).2.1,0):=by
 unfold optG iP;rw [h,if_neg (fun z=>z rfl),if_neg (fun z=>z h2),if_neg (by rw [h3];simp)]
theorem rD {m:MD} {p:List Int} {vs:List RR} (hm:ew m=0) (hg:qv m.ag < 1) (hp:fd m p) (h:ax m p=(vs,0)) (h2:(ah m vs).2.2=0) (h3:gy m vs m.states.length=true) :
  optG m p=optG m (fq m vs p)∧vo m (fq m vs p) < vo m p:=by
 obtain ⟨s,hs,hl⟩:=ys h3;have hlt:=GA hm hg hp h h2 hs hl;refine ⟨?_,hlt⟩;have e:optG m p=iP m (vo m p) (fq m vs p):=by
  unfold optG;rw [iP,h,if_neg (fun z=>z rfl),if_neg (fun z=>z h2),if_pos h3]
 rw [e];exact jD hm hg _ _ _ (gi hp h2) (Nat.lt_succ_self _) hlt
theorem pI {m:MD} (hm:ew m=0):fd m (List.replicate m.states.length 0):=by
 refine ⟨by simp,fun u hu=>?_⟩;have e:(List.replicate m.states.length (0:Int)).getD u 0=0:=by
  rw [List.getD_eq_getElem?_getD,List.getElem?_replicate,if_pos hu];rfl
 rw [e];have h0:(m.states.getD u []).length≠0:=fun z=>by
  have:=(bu hm).2.2.2 u hu;rw [LL z] at this;cases this
 exact ⟨Int.le_refl _,by omega⟩
def iQ (m:MD):List RR × List Int × Int:=
 if fL m≠0 then ([],[],fL m) else if 8 < m.states.length then ([],[],4) else optG m (List.replicate m.states.length 0)
theorem wP {m:MD} {c:Int} (h:fL m=c) (hc:c≠0):iQ m=([],[],c):=by unfold iQ;rw [h,if_pos hc]
theorem sW {m:MD} (h:fL m=0) (h2:8 < m.states.length):iQ m=([],[],4):=by unfold iQ;rw [if_neg (by simpa using h),if_pos h2]
theorem sX {m:MD} (h:fL m=0) (h2:¬ 8 < m.states.length):iQ m=optG m (List.replicate m.states.length 0):=by unfold iQ;rw [if_neg (by simpa using h),if_neg h2]
theorem yt {m:MD} (h:ew m=0) (h1:qv m.ag≠1):qv m.ag < 1:=by
 have:=(cP h).2;rcases Rat.le_iff_lt_or_eq.1 this with h|h
 ·exact h
 ·exact absurd h h1
theorem lO {m:MD} {vs:List RR} (h:(ah m vs).2.2=0):(ah m vs).1.length=m.states.length∧(ah m vs).2.1.length=m.states.length∧bY (ah m vs).1∧∀ s,s < m.states.length→am ((ah m vs).1.getD s zR)=0:=by
 obtain ⟨e1,e2,e3,e4⟩:=ii h;refine ⟨by rw [e3,eP],by rw [e4,lE],o6 m vs,fun s hs=>?_⟩;rw [e3];exact yf e1 e2 s (by rw [eP];exact hs)
end Go.Proofs.YtnnjbaijcaiohaaGreat
