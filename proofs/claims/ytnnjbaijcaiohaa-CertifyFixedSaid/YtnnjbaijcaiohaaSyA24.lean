/- Walks and lemmas. -/
import Derived.Test.YtnnjbaijcaiohaaSyA23
import Derived.Test.YtnnjbaijcaiohaaSyA21
import Derived.Test.YtnnjbaijcaiohaaSyA17
import Derived.Test.YtnnjbaijcaiohaaSyA13
import Derived.Test.YtnnjbaijcaiohaaSyA16
import Derived.Defers
import Derived.Test.YtnnjbaijcaiohaaSyA22
import Derived.Test.YtnnjbaijcaiohaaSyA20
import Derived.Test.YtnnjbaijcaiohaaSyA11
set_option linter.unusedVariables false
set_option linter.unusedSimpArgs false
set_option maxRecDepth 100000
set_option maxHeartbeats 16000000
namespace Go.Proofs.Ytnnjbaijcaiohaa
open Go.RowKit
def facS (m:MD):RR × Int:=subR (rep ((1:Int):Rat)) m.disc
def EndR (B:Nat) (w':World) (e:Ending) (r:RR × Int):Prop:=if r.2=0 then ∃ s1 s2 s3 s4,e=.returned (.agg #[.bool r.1.neg,.slice s1 r.1.num.length s2,.slice s3 r.1.den.length s4])∧ElN B w' [.bool r.1.neg,.slice s1 r.1.num.length s2,.slice s3 r.1.den.length s4] r.1 else e=.panicked [errP r.2]
theorem EndR.bad {B:Nat} {w':World} {r:RR × Int} {c:Int} (h:r.2=c) (hc:c≠0):EndR B w' (.panicked [errP c]) r:=by unfold EndR;rw [h,if_neg hc]
theorem EndR.ok {B:Nat} {w':World} {d:RR} {s1 s3:Option Addr} {s2 s4:Nat} (h:ElN B w' [.bool d.neg,.slice s1 d.num.length s2,.slice s3 d.den.length s4] d):EndR B w' (.returned (.agg #[.bool d.neg,.slice s1 d.num.length s2,.slice s3 d.den.length s4])) (d,0):=by unfold EndR;rw [if_pos rfl];exact ⟨_,_,_,_,rfl,h⟩
theorem EndR.get0 {B:Nat} {w':World} {e:Ending} {d:RR} (h:EndR B w' e (d,0)):∃ s1 s2 s3 s4,e=.returned (.agg #[.bool d.neg,.slice s1 d.num.length s2,.slice s3 d.den.length s4])∧ElN B w' [.bool d.neg,.slice s1 d.num.length s2,.slice s3 d.den.length s4] d:=by unfold EndR at h;rwa [if_pos rfl] at h
theorem EndR.getE {B:Nat} {w':World} {e:Ending} {r:RR × Int} (h:EndR B w' e r) (hc:r.2≠0):e=.panicked [errP r.2]:=by unfold EndR at h;rwa [if_neg hc] at h
theorem ElN.rd {B:Nat} {w:World} {r:RR} {s1 s3:Option Addr} {s2 s4:Nat} (h:ElN B w [.bool r.neg,.slice s1 r.num.length s2,.slice s3 r.den.length s4] r):RdR w (.agg #[.bool r.neg,.slice s1 r.num.length s2,.slice s3 r.den.length s4]) r:=by
 obtain ⟨a1,c1,a2,c2,e,h1,h2⟩:=h;simp only [List.cons.injEq,Value.slice.injEq,and_true,true_and] at e;obtain ⟨⟨rfl,rfl⟩,rfl,rfl⟩:=e;exact ⟨_,_,rfl,h1.rd,h2.rd⟩
def cefJ (An:Nat) (x:RR) (m1:Option Addr) (n1:Nat) (m2:Option Addr) (n2:Nat) (d:RR) (c:Int) (B:Nat) (j:Nat) (v:Value) (W:World):Prop:=
 match j with
 | 0=>∃ s1 s2 s3 s4,v=.agg #[.bool (rep ((1:Int):Rat)).neg,.slice s1 (rep ((1:Int):Rat)).num.length s2,.slice s3 (rep ((1:Int):Rat)).den.length s4]∧RdR W (.agg #[.bool (rep ((1:Int):Rat)).neg,.slice s1 (rep ((1:Int):Rat)).num.length s2,.slice s3 (rep ((1:Int):Rat)).den.length s4]) (rep ((1:Int):Rat))
 | 1=>v=.pointer (some ⟨An,0,none⟩)
 | 2=>v=.agg #[.bool x.neg,.slice m1 x.num.length n1,.slice m2 x.den.length n2]
 | 3=>∃ s1 s2 s3 s4,v=.tuple #[.agg #[.bool d.neg,.slice s1 d.num.length s2,.slice s3 d.den.length s4],.int .i64 c]∧SfW B W (.slice s1 d.num.length s2) d.num∧SfW B W (.slice s3 d.den.length s4) d.den
 | 4=>∃ s1 s2 s3 s4,v=.agg #[.bool d.neg,.slice s1 d.num.length s2,.slice s3 d.den.length s4]∧SfW B W (.slice s1 d.num.length s2) d.num∧SfW B W (.slice s3 d.den.length s4) d.den
 | 5=>v=.int .i64 c
 | 6=>c=0∧∃ s1 s2 s3 s4,v=.agg #[.bool d.neg,.slice s1 d.num.length s2,.slice s3 d.den.length s4]∧SfW B W (.slice s1 d.num.length s2) d.num∧SfW B W (.slice s3 d.den.length s4) d.den
 | _=>True
theorem cefJ_ext {An:Nat} {x:RR} {m1:Option Addr} {n1:Nat} {m2:Option Addr} {n2:Nat} {d:RR} {c:Int} {B:Nat} {j:Nat} {v:Value} {W W':World} (h:cefJ An x m1 n1 m2 n2 d c B j v W) (xx:Ext W W'):cefJ An x m1 n1 m2 n2 d c B j v W':=by
 match j,h with
 | 0,⟨s1,s2,s3,s4,h0,h1⟩=>exact ⟨s1,s2,s3,s4,h0,h1.ext xx⟩
 | 1,h=>exact h
 | 2,h=>exact h
 | 3,⟨s1,s2,s3,s4,h0,h1,h2⟩=>exact ⟨s1,s2,s3,s4,h0,h1.ext xx,h2.ext xx⟩
 | 4,⟨s1,s2,s3,s4,h0,h1,h2⟩=>exact ⟨s1,s2,s3,s4,h0,h1.ext xx,h2.ext xx⟩
 | 5,h=>exact h
 | 6,⟨h9,s1,s2,s3,s4,h0,h1,h2⟩=>exact ⟨h9,s1,s2,s3,s4,h0,h1.ext xx,h2.ext xx⟩
 | _+7,_=>trivial
theorem factor_any (mv:Value) (m:MD) (w:World) (hm:RdM w mv m) (hlm:LimM m) :
  Calls Try.prog 41 #[mv] w fun e w'=>EndR w.heap.size w' e (facS m)∧Ext w w':=by
 have HLM:=kI hlm.1;obtain ⟨m1,n1,m2,n2,m3,n3,rfl,hd,-⟩:=hm;have HD:=kI hd;obtain ⟨d,c,hdc⟩:∃ d c,facS m=(d,c):=⟨_,_,rfl⟩;have HF:=kI hdc;rw [hdc];clear hlm hd hdc;have bb0:=((Blk.new w #[.bool m.disc.neg,.slice m1 m.disc.num.length n1,.slice m2 m.disc.den.length n2,.slice m3 m.states.length n3] 28).alloc (.cells #[.bool false,.slice none 0 0,.slice none 0 0] 25));have bb1:=(Blk.new (w.alloc (.cells #[.bool m.disc.neg,.slice m1 m.disc.num.length n1,.slice m2 m.disc.den.length n2,.slice m3 m.states.length n3] 28)) #[.bool false,.slice none 0 0,.slice none 0 0] 25);rw [World.size_alloc] at bb1;have x0:Ext w ((w.alloc (.cells #[.bool m.disc.neg,.slice m1 m.disc.num.length n1,.slice m2 m.disc.den.length n2,.slice m3 m.states.length n3] 28)).alloc (.cells #[.bool false,.slice none 0 0,.slice none 0 0] 25)):=(((Ext.refl w).alloc _).alloc _);have A0:=kI bb0;have A1:=kI bb1;have X:=kI x0;clear x0 bb0 bb1;obtain ⟨wo,hwo⟩:=gN (((w.alloc (.cells #[.bool m.disc.neg,.slice m1 m.disc.num.length n1,.slice m2 m.disc.den.length n2,.slice m3 m.states.length n3] 28)).alloc (.cells #[.bool false,.slice none 0 0,.slice none 0 0] 25)));rw [← hwo] at A0 A1 X;have HWO:=kI hwo;replace HD:=kI (HD.o.ext X.o);clear hwo;go_enter Try.func41,Try.ntmps41
 have q0:=A0.o.cell;have q1:=A0.o.lt;have q2:=A1.o.cell;have q3:=A1.o.lt;have q4:=A1.o.free;go_wp2_with fail;rw [← HWO.o];clear q0 q1 q2 q3 q4 HWO;refine wp_region_eachP_tail 7 (cefJ w.heap.size m.disc m1 n1 m2 n2 d c w.heap.size) (by kernel_rfl) (by kernel_rfl) (by kernel_rfl) (fun _ _ _ _ h x=>cefJ_ext h x) ?_ ?_
 ·refine ⟨?_,?_,?_,?_,?_,?_,?_,trivial⟩
  ·intro a W hW hdf0 hB hD K hK;have HDF:=kI hdf0;clear hdf0;go_simp;refine (fromR_any 1 W (by decide) (by decide)).mono ?_;rintro e w9 ⟨⟨v,rfl,nn⟩,hx⟩;obtain ⟨t1,t2,t3,t4,rfl⟩:=nn.shape;exact hK _ _ hx ⟨_,_,_,_,rfl,nn.rd⟩
  ·intro a W hW hdf0 hB hD K hK;have HDF:=kI hdf0;clear hdf0;have b1:=hB 1 rfl;simp only [sB] at b1;go_simp;exact hK _ _ (Ext.refl _) rfl
  ·intro a W hW hdf0 hB hD K hK;have HDF:=kI hdf0;clear hdf0;obtain ⟨v4,e4,h4⟩:=dpE (hD 1 _ 4 rfl rfl (by kernel_rfl));obtain rfl:=h4;have q9:=(A0.o.ext hW).cell;have l9:=(A0.o.ext hW).lt;go_simp;exact hK _ _ (Ext.refl _) rfl
  ·intro a W hW hdf0 hB hD K hK;have HDF:=kI hdf0;clear hdf0;obtain ⟨v3,e3,h3⟩:=dpE (hD 0 _ 3 rfl rfl (by kernel_rfl));obtain ⟨x91,x92,x93,x94,rfl,xh⟩:=h3;obtain ⟨v5,e5,h5⟩:=dpE (hD 2 _ 5 rfl rfl (by kernel_rfl));obtain rfl:=h5;go_simp;have hsu:=subR_any _ _ _ m.disc W xh (HD.o.ext hW) (limR_rep _) HLM.o;rw [show subR (rep ((1:Int):Rat)) m.disc=(d,c) from HF.o] at hsu;refine hsu.mono ?_;rintro e w9 ⟨⟨v,rfl,nn⟩,hx⟩;obtain ⟨t1,t2,t3,t4,rfl⟩:=nn.shape;obtain ⟨hs1,hs2⟩:=nn.sf (B:=w.heap.size) (Nat.le_trans X.o.size hW.size);exact hK _ _ hx ⟨_,_,_,_,rfl,hs1,hs2⟩
  ·intro a W hW hdf0 hB hD K hK;have HDF:=kI hdf0;clear hdf0;obtain ⟨v6,e6,h6⟩:=dpE (hD 3 _ 6 rfl rfl (by kernel_rfl));obtain ⟨x91,x92,x93,x94,rfl,xq,xr⟩:=h6;go_simp;exact hK _ _ (Ext.refl _) ⟨_,_,_,_,rfl,xq,xr⟩
  ·intro a W hW hdf0 hB hD K hK;have HDF:=kI hdf0;clear hdf0;obtain ⟨v6,e6,h6⟩:=dpE (hD 3 _ 6 rfl rfl (by kernel_rfl));obtain ⟨x91,x92,x93,x94,rfl,xq,xr⟩:=h6;go_simp;exact hK _ _ (Ext.refl _) rfl
  ·intro a W hW hdf0 hB hD K hK;have HDF:=kI hdf0;clear hdf0;obtain ⟨v7,e7,h7⟩:=dpE (hD 4 _ 7 rfl rfl (by kernel_rfl));obtain ⟨x91,x92,x93,x94,rfl,xq,xr⟩:=h7;obtain ⟨v8,e8,h8⟩:=dpE (hD 5 _ 8 rfl rfl (by kernel_rfl));obtain rfl:=h8;go_simp;by_cases hpe:c=0
   ·subst hpe;refine (cmust_ok _ _ _ _ _ _ _ W).mono ?_;rintro e w9 ⟨rfl,hx⟩;exact hK _ _ hx ⟨rfl,_,_,_,_,rfl,xq.ext hx,xr.ext hx⟩
   ·refine (cmust_bad _ _ _ _ _ _ _ _ rfl hpe W).mono ?_;rintro e w9 ⟨rfl,hx⟩;(try simp +zetaDelta only [Exit.then,Exit.inBlock]);exact bodyPost_panic HDF.o ⟨EndR.bad rfl hpe,X.o.trans (hW.trans hx)⟩
 intro w7 hx;simp only [Vals,List.take_succ_cons,List.take_zero,List.drop_succ_cons,List.drop_zero];rintro u0 - u1 - u2 - u3 - u4 - u5 - u6 h6;obtain ⟨rfl,r1,r2,r3,r4,rfl,S1,S2⟩:=h6;simp only [Act.put,List.setIfInBounds_toArray,List.set_cons_zero,List.set_cons_succ];have A7:=kI (A1.o.ext hx);have X7:=kI (show Ext w w7 from X.o.trans hx);have EL:=kI (show ElN w.heap.size w7 [.bool d.neg,.slice r1 d.num.length r2,.slice r3 d.den.length r4] d from ⟨_,_,_,_,rfl,S1,S2⟩);clear hx S1 S2;have q0:=A7.o.cell;have q1:=A7.o.lt;have q2:=A7.o.free;go_wp2_with fail;refine bodyPost_ret (v:=.agg #[.bool d.neg,.slice r1 d.num.length r2,.slice r3 d.den.length r4]) (by simp only [results,Try.results41];go_simp) rfl ?_;refine ⟨EndR.ok (ElN.keeps (by decide) _ _ _ _ EL.o (((keepsR A7.o 0 (.bool d.neg)).trans ((keepsR (A7.o.set 0 (.bool d.neg)) 1 (.slice r1 d.num.length r2)))).trans (keepsR ((A7.o.set 0 (.bool d.neg)).set 1 (.slice r1 d.num.length r2)) 2 (.slice r3 d.den.length r4)))),?_⟩;exact Below.setCell (Below.setCell (Below.setCell X7.o (by dsimp only;omega) _) (by dsimp only;omega) _) (by dsimp only;omega) _
theorem ccertDefW_ret {nn:Nat} (be b1:Nat) (w:World) (hbe:Blk w be #[.int .i64 0] 33) :
  CallsDIn Fence.wide nn Try.prog 37 #[.pointer (some ⟨be,0,none⟩),.pointer (some ⟨b1,0,none⟩)] .returning w fun e u' w'=>e=.returned (.tuple #[])∧u'=.returning∧w'=(w.setCell ⟨be,0,none⟩ (.int .i64 0)).drew:=by
 have he:=(hbe.cell 0);have hz:=hbe.free 0;simp only [List.getElem?_toArray,List.getElem?_cons_zero] at he;refine callsDW_of_wpS Try.func37 rfl fun c₀ cs hu=>?_;apply wpS_seq;refine wpS_region_rec (by kernel_rfl) (by kernel_rfl) (by kernel_rfl) (by kernel_rfl) (by kernel_rfl) (by kernel_rfl) rfl ?_ ?_;all_goals
  simp [wpOpsS,go_sem,recoverD,hu,Try.ntmps37,Exit.thenS,he,hz];refine (ccaught_nil 0 _).mono ?_;rintro e w1 ⟨rfl,rfl⟩;simp [wpOpsS,go_sem,recoverD,hu,Try.ntmps37,Exit.thenS,he,hz];refine wpS_of_wp ?_;go_wp2
  simp [bodyPostS,results,Try.results37,go_sem] <;> (cases c₀;simp_all)
theorem ccertDefW_err {nn:Nat} (be b1:Nat) (c e0:Int) (hc:c≠0) (older:List PanicEntry) (w:World) (x0 x1 x2 x3 x4 x5 x6 x7:Value) (tb1:TypeId) (hbe:Blk w be #[.int .i64 e0] 33) (hb1:Blk w b1 #[x0,x1,x2,x3,x4,x5,x6,x7] tb1) (nb1:b1≠be) :
  CallsDIn Fence.wide nn Try.prog 37 #[.pointer (some ⟨be,0,none⟩),.pointer (some ⟨b1,0,none⟩)] (.panicking (errP c :: older)) w fun e u' w'=>e=.returned (.tuple #[])∧u'=.panicking ({ errP c with recovered:=true } :: older)∧w'=(((((((((w.setCell ⟨be,0,none⟩ (.int .i64 c)).setCell ⟨b1,0,none⟩ (.slice none 0 0)).setCell ⟨b1,1,none⟩ (.slice none 0 0)).setCell ⟨b1,2,none⟩ (.bool false)).setCell ⟨b1,3,none⟩ (.slice none 0 0)).setCell ⟨b1,4,none⟩ (.slice none 0 0)).setCell ⟨b1,5,none⟩ (.bool false)).setCell ⟨b1,6,none⟩ (.slice none 0 0)).setCell ⟨b1,7,none⟩ (.slice none 0 0)).drew:=by
 have q1:(c != 0)=true:=by simpa using hc
 unfold errP;have he:=(hbe.cell 0);have hz:=hbe.free 0;simp only [List.getElem?_toArray,List.getElem?_cons_zero] at he;have kb1:=hb1.cell;have zb1:=hb1.free;refine callsDW_of_wpS Try.func37 rfl fun c₀ cs hu=>?_;apply wpS_seq;refine wpS_region_rec (by kernel_rfl) (by kernel_rfl) (by kernel_rfl) (by kernel_rfl) (by kernel_rfl) (by kernel_rfl) rfl ?_ ?_;all_goals
  simp [wpOpsS,go_sem,recoverD,hu,Try.ntmps37,Exit.thenS,he,hz];refine (ccaught_err c e0 _).mono ?_;rintro e w1 ⟨rfl,rfl⟩;simp [wpOpsS,go_sem,recoverD,hu,Try.ntmps37,Exit.thenS,he,hz];refine wpS_of_wp ?_;go_wp2
  simp [bodyPostS,results,Try.results37,go_sem] <;> (cases c₀;simp_all)
theorem ccertDefW_retE {nn:Nat} (be b1:Nat) (c:Int) (hc:c≠0) (w:World) (x0 x1 x2 x3 x4 x5 x6 x7:Value) (tb1:TypeId) (hbe:Blk w be #[.int .i64 c] 33) (hb1:Blk w b1 #[x0,x1,x2,x3,x4,x5,x6,x7] tb1) (nb1:b1≠be) :
  CallsDIn Fence.wide nn Try.prog 37 #[.pointer (some ⟨be,0,none⟩),.pointer (some ⟨b1,0,none⟩)] .returning w fun e u' w'=>e=.returned (.tuple #[])∧u'=.returning∧w'=(((((((((w.setCell ⟨be,0,none⟩ (.int .i64 c)).setCell ⟨b1,0,none⟩ (.slice none 0 0)).setCell ⟨b1,1,none⟩ (.slice none 0 0)).setCell ⟨b1,2,none⟩ (.bool false)).setCell ⟨b1,3,none⟩ (.slice none 0 0)).setCell ⟨b1,4,none⟩ (.slice none 0 0)).setCell ⟨b1,5,none⟩ (.bool false)).setCell ⟨b1,6,none⟩ (.slice none 0 0)).setCell ⟨b1,7,none⟩ (.slice none 0 0)).drew:=by
 have q1:(c != 0)=true:=by simpa using hc
 have he:=(hbe.cell 0);have hz:=hbe.free 0;simp only [List.getElem?_toArray,List.getElem?_cons_zero] at he;have kb1:=hb1.cell;have zb1:=hb1.free;refine callsDW_of_wpS Try.func37 rfl fun c₀ cs hu=>?_;apply wpS_seq;refine wpS_region_rec (by kernel_rfl) (by kernel_rfl) (by kernel_rfl) (by kernel_rfl) (by kernel_rfl) (by kernel_rfl) rfl ?_ ?_;all_goals
  simp [wpOpsS,go_sem,recoverD,hu,Try.ntmps37,Exit.thenS,he,hz];refine (ccaught_nil c _).mono ?_;rintro e w1 ⟨rfl,rfl⟩;simp [wpOpsS,go_sem,recoverD,hu,Try.ntmps37,Exit.thenS,he,hz];refine wpS_of_wp ?_;go_wp2
  simp [bodyPostS,results,Try.results37,go_sem] <;> (cases c₀;simp_all)
theorem ccertDef_ret (be b1:Nat) (w:World) (hbe:Blk w be #[.int .i64 0] 33) :
  CallsD Try.prog 37 #[.pointer (some ⟨be,0,none⟩),.pointer (some ⟨b1,0,none⟩)] .returning w fun e u' w'=>e=.returned (.tuple #[])∧u'=.returning∧w'=(w.setCell ⟨be,0,none⟩ (.int .i64 0)).drew:=callsD_of_W (ccertDefW_ret (nn:=0) be b1 w hbe)
theorem ccertDef_err (be b1:Nat) (c e0:Int) (hc:c≠0) (older:List PanicEntry) (w:World) (x0 x1 x2 x3 x4 x5 x6 x7:Value) (tb1:TypeId) (hbe:Blk w be #[.int .i64 e0] 33) (hb1:Blk w b1 #[x0,x1,x2,x3,x4,x5,x6,x7] tb1) (nb1:b1≠be) :
  CallsD Try.prog 37 #[.pointer (some ⟨be,0,none⟩),.pointer (some ⟨b1,0,none⟩)] (.panicking (errP c :: older)) w fun e u' w'=>e=.returned (.tuple #[])∧u'=.panicking ({ errP c with recovered:=true } :: older)∧w'=(((((((((w.setCell ⟨be,0,none⟩ (.int .i64 c)).setCell ⟨b1,0,none⟩ (.slice none 0 0)).setCell ⟨b1,1,none⟩ (.slice none 0 0)).setCell ⟨b1,2,none⟩ (.bool false)).setCell ⟨b1,3,none⟩ (.slice none 0 0)).setCell ⟨b1,4,none⟩ (.slice none 0 0)).setCell ⟨b1,5,none⟩ (.bool false)).setCell ⟨b1,6,none⟩ (.slice none 0 0)).setCell ⟨b1,7,none⟩ (.slice none 0 0)).drew:=callsD_of_W (ccertDefW_err (nn:=0) be b1 c e0 hc older w x0 x1 x2 x3 x4 x5 x6 x7 tb1 hbe hb1 nb1)
theorem ccertDef_retE (be b1:Nat) (c:Int) (hc:c≠0) (w:World) (x0 x1 x2 x3 x4 x5 x6 x7:Value) (tb1:TypeId) (hbe:Blk w be #[.int .i64 c] 33) (hb1:Blk w b1 #[x0,x1,x2,x3,x4,x5,x6,x7] tb1) (nb1:b1≠be) :
  CallsD Try.prog 37 #[.pointer (some ⟨be,0,none⟩),.pointer (some ⟨b1,0,none⟩)] .returning w fun e u' w'=>e=.returned (.tuple #[])∧u'=.returning∧w'=(((((((((w.setCell ⟨be,0,none⟩ (.int .i64 c)).setCell ⟨b1,0,none⟩ (.slice none 0 0)).setCell ⟨b1,1,none⟩ (.slice none 0 0)).setCell ⟨b1,2,none⟩ (.bool false)).setCell ⟨b1,3,none⟩ (.slice none 0 0)).setCell ⟨b1,4,none⟩ (.slice none 0 0)).setCell ⟨b1,5,none⟩ (.bool false)).setCell ⟨b1,6,none⟩ (.slice none 0 0)).setCell ⟨b1,7,none⟩ (.slice none 0 0)).drew:=callsD_of_W (ccertDefW_retE (nn:=0) be b1 c hc w x0 x1 x2 x3 x4 x5 x6 x7 tb1 hbe hb1 nb1)
theorem subR_err {a b:RR} (h1:chkR a=0) (h2:chkR b=0):(subR a b).2=0∨(subR a b).2=4:=by
 unfold subR opR;rw [if_pos (chkR2_ok h1 h2)];exact fitR_err _
theorem divR_err {a b:RR} (h1:chkR a=0) (h2:chkR b=0) (h:qv b≠0):(divR a b).2=0∨(divR a b).2=4:=by
 unfold divR opR;rw [if_pos (chkR2_ok h1 h2),if_neg (fun e=>h (qv_nil e))];exact fitR_err _
theorem stp_err {x f y:RR} (hx:chkR x=0) (hf:chkR f=0) (hy:chkR y=0):(stp x f y).2=0∨(stp x f y).2=4:=by
 unfold stp;rcases mulR_err hf hy with e|e
 ·rw [if_neg (fun k=>k e)];exact subR_err hx (mulR_val e).2
 ·rw [if_pos (by rw [e];decide)];exact .inr e
theorem frstE_or {f:Nat→Int} {c:Int}:∀ {n:Nat},(∀ i,i < n→f i=0∨f i=c)→frstE f n=0∨frstE f n=c
 | 0,_=>.inl rfl
 | n+1,h=>by
  have a:=frstE_or (f:=f) (c:=c) (n:=n) (fun i hi=>h i (by omega));unfold frstE;split
  ·exact a
  ·exact h n (by omega)
theorem sumF_lt {f:Nat→Rat} {t:Nat}:∀ {n:Nat},t < n→(∀ i,i < n→i≠t→f i≤0)→sumF f n≤f t:=fun {n} ht h=>by
 have a:=sumF_one (f:=fun i=>if i=t then 0 else f i) (g:=f) (i:=t) (n:=n) ht (fun j _ h2=>by rw [if_neg h2]);rw [if_pos rfl] at a;have b:∀ {k:Nat},k≤n→sumF (fun i=>if i=t then 0 else f i) k≤0:=fun {k}=>by
  induction k with
  | zero=>intro _;exact Rat.le_refl
  | succ k ih=>
   intro hk;have c:=ih (by omega);show sumF _ k+(if k=t then 0 else f k)≤0;by_cases e:k=t
   ·rw [if_pos e];grind
   ·rw [if_neg e];have:=h k (by omega) e;grind
 have c:=b (Nat.le_refl n);grind
structure Dom (n s:Nat) (y:Sys):Prop where
 lim:∀ t i,LimR (y.M t i)
 chk:∀ t,t < n→∀ i,i < n→chkR (y.M t i)=0
 chs:∀ t,t < n→chkR (y.S t)=0
 off:∀ t,s≤t→t < n→∀ i,i < n→i≠t→qv (y.M t i)≤0
 pos:∀ t,s≤t→t < n→0 < sumF (fun i=>qv (y.M t i)) n
theorem Dom.piv {n s:Nat} {y:Sys} (h:Dom n s y) {t:Nat} (h1:s≤t) (h2:t < n):0 < qv (y.M t t):=by
 have a:=sumF_lt (f:=fun i=>qv (y.M t i)) h2 (h.off t h1 h2);have b:=h.pos t h1 h2;exact Rat.not_le.1 (fun c=>Rat.not_lt.2 (Rat.le_trans a c) b)
theorem elim1_chk {n s t:Nat} {y y':Sys} (h:elim1 n s t y=(y',0)):(∀ i,i < n→chkR (y'.M t i)=0)∧chkR (y'.S t)=0:=by
 unfold elim1 at h;by_cases h1:(divR (y.M t s) (y.M s s)).2=0
 ·rw [if_neg (fun k=>k h1)] at h;by_cases h2:subE (y.M t) (divR (y.M t s) (y.M s s)).1 (y.M s) n=0
  ·rw [if_neg (fun k=>k h2)] at h;by_cases h3:(stp (y.S t) (divR (y.M t s) (y.M s s)).1 (y.S s)).2=0
   ·rw [if_neg (fun k=>k h3)] at h;injection h with h _
    subst h;refine ⟨fun i hi=>?_,?_⟩
    ·show chkR (updF y.M t _ t i)=0;rw [updF_same];unfold subK;rw [if_pos hi];exact (stp_val (frstE_all h2 i hi)).2
    ·show chkR (updF y.S t _ t)=0;rw [updF_same];exact (stp_val h3).2
   ·rw [if_pos h3] at h;injection h with _ h;exact absurd h h3
  ·rw [if_pos h2] at h;injection h with _ h;exact absurd h h2
 ·rw [if_pos h1] at h;injection h with _ h;exact absurd h h1
theorem elim1_err {n s t:Nat} {y:Sys} (h:Dom n s y) (hst:s < t) (ht:t < n):(elim1 n s t y).2=0∨(elim1 n s t y).2=4:=by
 have hp:=h.piv (Nat.le_refl s) (by omega);unfold elim1;rcases divR_err (h.chk t ht s (by omega)) (h.chk s (by omega) s (by omega)) (fun e=>by rw [e] at hp;exact Rat.lt_irrefl hp) with e1|e1
 ·rw [if_neg (fun k=>k e1)];have hf:=(divR_val e1).2.2.1;generalize (divR (y.M t s) (y.M s s)).1=f at *
  have:subE (y.M t) f (y.M s) n=0∨subE (y.M t) f (y.M s) n=4:=frstE_or (fun i hi=>stp_err (h.chk t ht i hi) hf (h.chk s (by omega) i hi));rcases this with e2|e2
  ·rw [if_neg (fun k=>k e2)];rcases stp_err (h.chs t ht) hf (h.chs s (by omega)) with e3|e3
   ·rw [if_neg (fun k=>k e3)];exact .inl rfl
   ·rw [if_pos (by rw [e3];decide)];exact .inr e3
  ·rw [if_pos (by rw [e2];decide)];exact .inr e2
 ·rw [if_pos (by rw [e1];decide)];exact .inr e1
theorem elim1_dom {n s t:Nat} {y y':Sys} (h:Dom n s y) (hst:s < t) (ht:t < n) (he:elim1 n s t y=(y',0)):Dom n s y':=by
 have hp:=h.piv (Nat.le_refl s) (by omega);obtain ⟨b1,b2,b3,b4,b5,b6⟩:=elim1_sat he (by omega);obtain ⟨c1,c2⟩:=elim1_chk he;have hq:=(divR_val b4).2.1;generalize (divR (y.M t s) (y.M s s)).1=f at *
 have hf:qv f≤0:=by
  rw [hq];have a:=h.off t (by omega) ht s (by omega) (by omega);rw [Rat.div_def];have b:=rat_mul_le (Rat.le_of_lt (Rat.inv_pos.2 hp)) a;rw [Rat.mul_zero,Rat.mul_comm] at b;exact b
 have hneg:∀ {z:Rat},z≤0→0≤qv f*z:=fun {z} hz=>by
  have:=Rat.mul_nonneg (a:=- qv f) (b:=- z) (by grind) (by grind);grind
 refine ⟨fun r i=>?_,fun r hr i hi=>?_,fun r hr=>?_,fun r h1 h2 i hi hne=>?_,fun r h1 h2=>?_⟩
 ·by_cases e:r=t
  ·rw [e];exact b1 (h.lim t) i
  ·rw [(b2 r e).1];exact h.lim r i
 ·by_cases e:r=t
  ·rw [e];exact c1 i hi
  ·rw [(b2 r e).1];exact h.chk r hr i hi
 ·by_cases e:r=t
  ·rw [e];exact c2
  ·rw [(b2 r e).2];exact h.chs r hr
 ·by_cases e:r=t
  ·subst e;rw [b5 i hi];by_cases e2:i=s
   ·have hd:qv (y.M r s) / qv (y.M s s)*qv (y.M s s)=qv (y.M r s):=Rat.div_mul_cancel (fun e=>by rw [e] at hp;exact Rat.lt_irrefl hp);rw [e2,hq,hd];grind
   ·have a:=h.off r h1 h2 i hi hne;have b:=hneg (h.off s (Nat.le_refl _) (by omega) i hi e2);grind
  ·rw [(b2 r e).1];exact h.off r h1 h2 i hi hne
 ·by_cases e:r=t
  ·subst e;have e0:sumF (fun i=>qv (y'.M r i)) n=sumF (fun i=>qv (y.M r i)) n - qv f*sumF (fun i=>qv (y.M s i)) n:=by
    rw [← sumF_mul,← sumF_sub];exact sumF_congr (fun i hi=>b5 i hi)
   rw [e0];have a:=h.pos r h1 h2;have b:=Rat.mul_nonneg (a:=- qv f) (b:=sumF (fun i=>qv (y.M s i)) n) (by grind) (Rat.le_of_lt (h.pos s (Nat.le_refl _) (by omega)));grind
  ·rw [(b2 r e).1];exact h.pos r h1 h2
theorem fwdK_dom {n s:Nat} {y:Sys} (h:Dom n s y):∀ {k:Nat},s+1+k≤n→((fwdK n s y k).2=0∨(fwdK n s y k).2=4)∧((fwdK n s y k).2=0→Dom n s (fwdK n s y k).1)
 | 0,_=>⟨.inl rfl,fun _=>h⟩
 | k+1,hk=>by
  obtain ⟨a,b⟩:=fwdK_dom h (k:=k) (by omega);unfold fwdK;rcases a with a|a
  ·rw [if_neg (fun k=>k a)];have d:=b a;exact ⟨elim1_err d (by omega) (by omega),fun e=>elim1_dom (t:=s+1+k) d (by omega) (by omega) (by rw [← e])⟩
  ·rw [if_pos (by rw [a];decide)];exact ⟨.inr a,fun e=>by rw [e] at a;cases a⟩
theorem bakK_err {n s:Nat} {y:Sys} (h1:∀ i,i < n→chkR (y.M s i)=0) (h2:chkR (y.S s)=0) (h3:∀ t,s < t→t < n→chkR (y.V t)=0):∀ {k:Nat},s+1+k≤n→
  ((bakK s y k).2=0∨(bakK s y k).2=4)∧((bakK s y k).2=0→chkR (bakK s y k).1=0)
 | 0,_=>⟨.inl rfl,fun _=>h2⟩
 | k+1,hk=>by
  obtain ⟨a,b⟩:=bakK_err h1 h2 h3 (k:=k) (by omega);unfold bakK;rcases a with a|a
  ·rw [if_neg (fun k=>k a)];exact ⟨stp_err (b a) (h1 _ (by omega)) (h3 _ (by omega) (by omega)),fun e=>(stp_val e).2⟩
  ·rw [if_pos (by rw [a];decide)];exact ⟨.inr a,fun e=>by rw [e] at a;cases a⟩
theorem Dom.mono {n s:Nat} {y:Sys} (h:Dom n s y):Dom n (s+1) y:=
 ⟨h.lim,h.chk,h.chs,fun t h1=>h.off t (by omega),fun t h1=>h.pos t (by omega)⟩
theorem redS_err {n:Nat}:∀ {k s:Nat} {y:Sys},s+k=n→Dom n s y→((redS n k s y).2=0∨(redS n k s y).2=4)∧
  ((redS n k s y).2=0→(∀ r,r < s→(redS n k s y).1.M r=y.M r∧(redS n k s y).1.S r=y.S r)∧∀ t,s≤t→t < n→chkR ((redS n k s y).1.V t)=0)
 | 0,s,y,hk,_=>⟨.inl rfl,fun _=>⟨fun _ _=>⟨rfl,rfl⟩,fun t h1 h2=>absurd h1 (by omega)⟩⟩
 | k+1,s,y,hk,h=>by
  have ih:=fun y1 d=>redS_err (n:=n) (k:=k) (s:=s+1) (y:=y1) (by omega) d;obtain ⟨a,b⟩:=fwdK_dom h (k:=n - (s+1)) (by omega);have hs:=fun y' e=>fwdK_sat h.lim (k:=n - (s+1)) (y':=y') (n:=n) (s:=s) (y:=y) e (by omega);unfold redS;generalize fwdK n s y (n - (s+1))=F at *
  obtain ⟨y1,e1⟩:=F;dsimp only at a b ⊢;rcases a with a|a
  ·subst a;have hs:=(hs y1 rfl).1;obtain ⟨c,d⟩:=ih y1 (b rfl).mono;have hd:=b rfl;rw [if_neg (fun k=>k rfl)];generalize redS n k (s+1) y1=R at *
   obtain ⟨y2,e2⟩:=R;dsimp only at c d ⊢;rcases c with c|c
   ·subst c;obtain ⟨p,q⟩:=d rfl;have ps:=p s (by omega);obtain ⟨u,v⟩:=bakK_err (n:=n) (s:=s) (y:=y2) (fun i hi=>by rw [ps.1];exact hd.chk s (by omega) i hi) (by rw [ps.2];exact hd.chs s (by omega)) (fun t h1 h2=>q t (by omega) h2) (k:=n - (s+1)) (by omega);rw [if_neg (fun k=>k rfl)];generalize bakK s y2 (n - (s+1))=B at *
    obtain ⟨x,e3⟩:=B;dsimp only at u v ⊢;rcases u with u|u
    ·subst u;rw [if_neg (fun k=>k rfl)];have hp:=hd.piv (Nat.le_refl s) (by omega);have he:=divR_err (b:=y2.M s s) (v rfl) (by rw [ps.1];exact hd.chk s (by omega) s (by omega)) (fun e=>by rw [ps.1] at e;rw [e] at hp;exact Rat.lt_irrefl hp);rcases he with he|he
     ·rw [if_neg (fun k=>k he)];refine ⟨.inl rfl,fun _=>⟨fun r hr=>?_,fun t h1 h2=>?_⟩⟩
      ·have p1:=p r (by omega);have p2:=hs r (.inl (by omega));exact ⟨p1.1.trans p2.1,p1.2.trans p2.2⟩
      ·show chkR (updF y2.V s _ t)=0;by_cases e:t=s
       ·rw [e,updF_same];exact (divR_val he).2.2.1
       ·rw [updF_ne e];exact q t (by omega) h2
     ·rw [if_pos (by rw [he];decide)];exact ⟨.inr he,fun e=>by dsimp only at e;rw [e] at he;cases he⟩
    ·subst u;rw [if_pos (by decide)];exact ⟨.inr rfl,fun e=>by cases e⟩
   ·subst c;rw [if_pos (by decide)];exact ⟨.inr rfl,fun e=>by cases e⟩
  ·subst a;rw [if_pos (by decide)];exact ⟨.inr rfl,fun e=>by cases e⟩
theorem rowK_dom {n:Nat} {d:RR} {l:List Out} {s:Nat} (hd:chkR d=0) (hd0:0≤qv d) (hO:OutsV n l):∀ {k:Nat},k≤l.length→
  ((rowK d l s k).2=0∨(rowK d l s k).2=4)∧(∀ i,chkR ((rowK d l s k).1 i)=0)∧∀ i,i≠s→qv ((rowK d l s k).1 i)≤0
 | 0,_=>by
  refine ⟨.inl rfl,fun i=>?_,fun i hi=>?_⟩
  ·show chkR (updF _ s _ i)=0;unfold updF;split
   ·decide
   ·exact chkR_zR
  ·show qv (updF _ s _ i)≤0;rw [updF_ne hi,qv_zR];exact Rat.le_refl
 | k+1,hk=>by
  obtain ⟨a,b,c⟩:=rowK_dom (n:=n) (s:=s) hd hd0 hO (k:=k) (by omega);have ho:l.getD k dO ∈ l:=by rw [List.getD_eq_getElem?_getD,List.getElem?_eq_getElem (by omega)];exact List.getElem_mem _
  have hv:=hO _ ho;unfold rowK;generalize rowK d l s k=R at *
  obtain ⟨M,e⟩:=R;dsimp only at a b c ⊢;rcases a with a|a
  ·subst a;rw [if_neg (fun k=>k rfl)];rcases stp_err (b (l.getD k dO).1.toNat) hd hv.2.2.1 with e|e
   ·rw [if_neg (fun k=>k e)];refine ⟨.inl rfl,fun i=>?_,fun i hi=>?_⟩
    ·show chkR (updF M _ _ i)=0;unfold updF;split
     ·exact (stp_val e).2
     ·exact b i
    ·show qv (updF M _ _ i)≤0;by_cases e2:i=(l.getD k dO).1.toNat
     ·rw [← e2] at e ⊢;rw [updF_same,(stp_val e).1];have:=Rat.mul_nonneg hd0 (qv_nonneg hv.2.2.2);have:=c i hi;grind
     ·rw [updF_ne e2];exact c i hi
   ·rw [if_pos (by rw [e];decide)];exact ⟨.inr e,b,c⟩
  ·subst a;rw [if_pos (by decide)];exact ⟨.inr rfl,b,c⟩
theorem solve_err {m:MD} {p:List Int} (hm:mdE m=0) (hp:PolV m p) (hg:qv m.disc < 1):(solveS m p).2=0∨(solveS m p).2=4:=by
 have hd:=(md_valid hm).1;have hd0:=(disc_nonneg hm).1;have ha:∀ s,s < p.length→actE m.states.length (polX m p s)=0:=fun s hs=>md_act hm (by have:=hp.1;omega) (by have:=hp.2 s (by have:=hp.1;omega);omega);have hO:∀ s,s < p.length→OutsV p.length (polX m p s).next:=fun s hs=>by rw [hp.1];exact outs_of hm hp (by have:=hp.1;omega)
 have hr:=fun s hs=>rowK_dom (n:=p.length) (s:=s) hd hd0 (hO s hs) (Nat.le_refl _);unfold solveS;have h1:frstE (fun s=>(eqnS m p s).2) p.length=0∨frstE (fun s=>(eqnS m p s).2) p.length=4:=frstE_or (fun s hs=>(hr s hs).1);rcases h1 with h1|h1
 ·rw [if_neg (fun k=>k h1)];have hD:Dom p.length 0 (sysS m p):=by
   refine ⟨fun t i=>rowK_limq _ _ _ _ i,fun t ht i _=>(hr t ht).2.1 i,fun t ht=>(act_valid (ha t ht)).1,fun t _ ht i _ hi=>(hr t ht).2.2 i hi,fun t _ ht=>?_⟩;have e0:(rowK m.disc (polX m p t).next t (polX m p t).next.length).2=0:=frstE_all h1 t ht;have e:=(rowK_sat (n:=p.length) m.disc (polX m p t).next t ht (fun o ho=>by have:=hO t ht o ho;omega) (M:=(eqnS m p t).1) (by
    unfold eqnS;rw [← e0]) (Nat.le_refl _)).2 (fun _=>1)
   rw [List.take_length,act_one (ha t ht)] at e;have e2:sumF (fun i=>qv ((sysS m p).M t i)) p.length=sumF (fun i=>qv ((eqnS m p t).1 i)*1) p.length:=sumF_congr (fun i _=>by rw [Rat.mul_one];rfl);rw [e2,e];grind
  rcases (redS_err (n:=p.length) (k:=p.length) (s:=0) (y:=sysS m p) (by omega) hD).1 with h2|h2
  ·rw [if_neg (fun k=>k h2)];exact .inl rfl
  ·rw [if_pos (by rw [h2];decide)];exact .inr h2
 ·rw [if_pos (by rw [h1];decide)];exact .inr h1
def impP (m:MD) (vs:List RR) (p:List Int):List Int:=
 (List.range p.length).map fun s=>if qv ((backupS m vs).1.getD s zR) < qv (vs.getD s zR) then (backupS m vs).2.1.getD s 0 else p.getD s 0
theorem impP_at {m:MD} {vs:List RR} {p:List Int} {s:Nat} (h:s < p.length):(impP m vs p).getD s 0=if qv ((backupS m vs).1.getD s zR) < qv (vs.getD s zR) then (backupS m vs).2.1.getD s 0 else p.getD s 0:=by
 unfold impP;rw [List.getD_eq_getElem?_getD,List.getElem?_map,List.getElem?_range h];rfl
theorem impP_len {m:MD} {vs:List RR} {p:List Int}:(impP m vs p).length=p.length:=by simp [impP]
theorem back_val {m:MD} {v:List RR} (h:(backupS m v).2.2=0) {s:Nat} (hs:s < m.states.length) :
  0≤(backupS m v).2.1.getD s 0∧(backupS m v).2.1.getD s 0 < ((m.states.getD s []).length:Int)∧
  qv ((backupS m v).1.getD s zR)=qv (polX m (backupS m v).2.1 s).cost+qv m.disc*dotO (polX m (backupS m v).2.1 s).next (fun t=>qv (v.getD t zR)):=by
 have e:=greedy h;obtain ⟨k1,k2,k3,k4⟩:=und_ok (by rw [e]);obtain ⟨e1,e2,e3⟩:=unE_ok (k3 s (by omega));rw [e] at k4;refine ⟨e1,e2,?_⟩;rw [show (backupS m v).1=unV m (backupS m v).2.1 v from k4,unV_at (by omega),score_val e3,dotO_eq];rfl
theorem impP_val {m:MD} {vs:List RR} {p:List Int} (hp:PolV m p) (hb:(backupS m vs).2.2=0):PolV m (impP m vs p):=
 ⟨impP_len.trans hp.1,fun s hs=>by
  rw [impP_at (by have:=hp.1;omega)];split
  ·have:=back_val hb hs;exact ⟨this.1,this.2.1⟩
  ·exact hp.2 s hs⟩
theorem pol_sat {m:MD} {p:List Int} {vs:List RR} (hm:mdE m=0) (hp:PolV m p) (h:solveS m p=(vs,0)):vs.length=m.states.length∧∀ s,s < m.states.length→
  chkR (vs.getD s zR)=0∧qv (vs.getD s zR)=qv (polX m p s).cost+qv m.disc*dotO (polX m p s).next (fun t=>qv (vs.getD t zR)):=by
 have hO:∀ s,s < p.length→OutsV m.states.length (polX m p s).next:=fun s hs=>outs_of hm hp (by have:=hp.1;omega);obtain ⟨a,b⟩:=solve_sat h (fun s hs o ho=>by have:=hO s hs o ho;have:=hp.1;omega);exact ⟨a.trans hp.1,fun s hs=>b s (by have:=hp.1;omega)⟩
theorem pol_one {m:MD} {p:List Int} (hm:mdE m=0) (hp:PolV m p) {s:Nat} (hs:s < m.states.length):dotO (polX m p s).next (fun _=>1)=1:=
 act_one (md_act hm hs (by have:=hp.2 s hs;omega))
theorem imp_le {m:MD} {p:List Int} {vs us:List RR} (hm:mdE m=0) (hg:qv m.disc < 1) (hp:PolV m p) (h:solveS m p=(vs,0)) (hb:(backupS m vs).2.2=0) (h2:solveS m (impP m vs p)=(us,0)) :
  (∀ s,s < m.states.length→qv (us.getD s zR)≤qv (vs.getD s zR))∧∀ s,s < m.states.length→qv ((backupS m vs).1.getD s zR) < qv (vs.getD s zR)→qv (us.getD s zR) < qv (vs.getD s zR):=by
 have hq:=impP_val (p:=p) hp hb;have A:=(pol_sat hm hp h).2;have B:=(pol_sat hm hq h2).2;have hO:∀ s,s < m.states.length→OutsV m.states.length (polX m (impP m vs p) s).next:=fun s hs=>outs_of hm hq hs;have hS:∀ s,s < m.states.length→dotO (polX m (impP m vs p) s).next (fun _=>1)=1:=fun s hs=>pol_one hm hq hs;have hstep:∀ s,s < m.states.length→qv (polX m (impP m vs p) s).cost+qv m.disc*dotO (polX m (impP m vs p) s).next (fun t=>qv (vs.getD t zR)) =
   if qv ((backupS m vs).1.getD s zR) < qv (vs.getD s zR) then qv ((backupS m vs).1.getD s zR) else qv (vs.getD s zR):=fun s hs=>by
  have e:=impP_at (m:=m) (vs:=vs) (p:=p) (s:=s) (by have:=hp.1;omega);split
  ·rename_i c;rw [if_pos c] at e;rw [(back_val hb hs).2.2];unfold polX;rw [e]
  ·rename_i c;rw [if_neg c] at e;rw [(A s hs).2];unfold polX;rw [e]
 have hle:=sub_le (disc_nonneg hm).1 hg (c:=fun s=>qv (polX m (impP m vs p) s).cost) (u:=fun t=>qv (us.getD t zR)) (v:=fun t=>qv (vs.getD t zR)) hO hS
  (fun s hs=>by show qv (us.getD s zR)≤_;rw [(B s hs).2];exact Rat.le_refl) (fun s hs=>by
   show qv (polX m (impP m vs p) s).cost+_≤qv (vs.getD s zR);rw [hstep s hs];split
   ·rename_i c;exact Rat.le_of_lt c
   ·exact Rat.le_refl)
 refine ⟨hle,fun s hs c=>?_⟩;have e:=hstep s hs;rw [if_pos c] at e;have a:=dotO_le (M:=0) (f:=fun t=>qv (us.getD t zR) - qv (vs.getD t zR)) (l:=(polX m (impP m vs p) s).next) (fun o ho=>qv_nonneg (hO s hs o ho).2.2.2) (fun o ho=>by
  have:=hle o.1.toNat (by have:=hO s hs o ho;omega);grind)
 rw [dotO_sub] at a;have b:=rat_mul_le (disc_nonneg hm).1 a;rw [(B s hs).2];grind
theorem opt_least {m:MD} {p q:List Int} {vs us:List RR} (hm:mdE m=0) (hg:qv m.disc < 1) (hp:PolV m p) (hb:(backupS m vs).2.2=0) (hn:∀ s,s < m.states.length→¬ qv ((backupS m vs).1.getD s zR) < qv (vs.getD s zR))
  (hq:PolV m q) (h2:∀ s,s < m.states.length→qv (us.getD s zR)=qv (polX m q s).cost+qv m.disc*dotO (polX m q s).next (fun t=>qv (us.getD t zR))):∀ s,s < m.states.length→qv (vs.getD s zR)≤qv (us.getD s zR):=
 sub_le (disc_nonneg hm).1 hg (L:=fun s=>(polX m q s).next) (c:=fun s=>qv (polX m q s).cost) (u:=fun t=>qv (vs.getD t zR)) (v:=fun t=>qv (us.getD t zR)) (fun s hs=>outs_of hm hq hs) (fun s hs=>pol_one hm hq hs)
  (fun s hs=>by
   have a:=Rat.not_lt.1 (hn s hs);have ha:(q.getD s 0).toNat < (m.states.getD s []).length:=by have:=hq.2 s hs;omega
   obtain ⟨b1,b2⟩:=bk_le hb hs ha;have e:=score_val b1;rw [dotO_eq] at e;rw [e] at b2;exact Rat.le_trans a b2)
  (fun s hs=>by
   show _≤qv (us.getD s zR);rw [h2 s hs];exact Rat.le_refl)
def polsL:List Nat→List (List Int)
 | []=>[[]]
 | a :: ns=>(List.range a).flatMap fun (i:Nat)=>(polsL ns).map (fun p=>Int.ofNat i :: p)
theorem mem_pols:∀ {ns:List Nat} {p:List Int},p.length=ns.length→(∀ u,u < ns.length→0≤p.getD u 0∧p.getD u 0 < (ns.getD u 0:Int))→p ∈ polsL ns
 | [],p,h,_=>by
  have:p=[]:=List.eq_nil_of_length_eq_zero h;rw [this];exact List.mem_singleton.2 rfl
 | a :: ns,[],h,_=>by cases h
 | a :: ns,x :: p,h,hx=>by
  have h0:=hx 0 (by simp);have ih:=mem_pols (ns:=ns) (p:=p) (by simpa using h) (fun u hu=>hx (u+1) (by simpa using hu));have e0:0≤x∧x < (a:Int):=h0;unfold polsL;refine List.mem_flatMap.2 ⟨x.toNat,List.mem_range.2 (by omega),List.mem_map.2 ⟨p,ih,?_⟩⟩;show ((x.toNat:Nat):Int) :: p=x :: p;rw [Int.toNat_of_nonneg e0.1]
theorem countP_le2 {α:Type} {P Q:α→Bool}:∀ {l:List α},(∀ x ∈ l,P x=true→Q x=true)→l.countP P≤l.countP Q
 | [],_=>Nat.le_refl _
 | x :: l,h=>by
  have a:=countP_le2 (P:=P) (Q:=Q) (l:=l) (fun y hy=>h y (by simp [hy]));have b:=h x (by simp);rw [List.countP_cons,List.countP_cons];by_cases e:P x=true
  ·rw [if_pos e,if_pos (b e)];omega
  ·rw [if_neg e];split <;> omega
theorem countP_lt2 {α:Type} {P Q:α→Bool} {y:α}:∀ {l:List α},(∀ x ∈ l,P x=true→Q x=true)→y ∈ l→Q y=true→¬ P y=true→l.countP P < l.countP Q
 | [],_,hy,_,_=>by cases hy
 | x :: l,h,hy,h1,h2=>by
  have b:=h x (by simp);rw [List.countP_cons,List.countP_cons];rcases List.mem_cons.1 hy with e|e
  ·subst e;have a:=countP_le2 (P:=P) (Q:=Q) (l:=l) (fun z hz=>h z (by simp [hz]));rw [if_neg h2,if_pos h1];omega
  ·have a:=countP_lt2 (l:=l) (fun z hz=>h z (by simp [hz])) e h1 h2;by_cases e:P x=true
   ·rw [if_pos e,if_pos (b e)];omega
   ·rw [if_neg e];split <;> omega
def totV (n:Nat) (l:List RR):Rat:=sumF (fun s=>qv (l.getD s zR)) n
theorem sumF_le {f g:Nat→Rat}:∀ {n:Nat},(∀ i,i < n→f i≤g i)→sumF f n≤sumF g n
 | 0,_=>Rat.le_refl
 | n+1,h=>by
  have a:=sumF_le (f:=f) (g:=g) (n:=n) (fun i hi=>h i (by omega));have b:=h n (by omega);show sumF f n+f n≤sumF g n+g n;exact add_le2 a b
theorem sumF_lt2 {f g:Nat→Rat} {j:Nat}:∀ {n:Nat},(∀ i,i < n→f i≤g i)→j < n→f j < g j→sumF f n < sumF g n
 | n+1,h,hj,hl=>by
  have b:=h n (by omega);show sumF f n+f n < sumF g n+g n;by_cases e:j=n
  ·subst e;have a:=sumF_le (f:=f) (g:=g) (n:=j) (fun i hi=>h i (by omega));grind
  ·have a:=sumF_lt2 (n:=n) (fun i hi=>h i (by omega)) (by omega) hl;grind
def muP (m:MD) (p:List Int):Nat:=
 if (solveS m p).2≠0 then 0
 else 1+(polsL (m.states.map List.length)).countP fun q=>decide ((solveS m q).2=0∧totV m.states.length (solveS m q).1 < totV m.states.length (solveS m p).1)
theorem pol_mem {m:MD} {p:List Int} (h:PolV m p):p ∈ polsL (m.states.map List.length):=mem_pols (by simpa using h.1) (fun u hu=>by
 have hu:u < m.states.length:=by simpa using hu
 have a:=h.2 u hu;have e:(m.states.map List.length).getD u 0=(m.states.getD u []).length:=by
  rw [List.getD_eq_getElem?_getD,List.getD_eq_getElem?_getD,List.getElem?_map,List.getElem?_eq_getElem hu];rfl
 rw [e];exact a)
theorem mu_lt {m:MD} {p:List Int} {vs:List RR} {s:Nat} (hm:mdE m=0) (hg:qv m.disc < 1) (hp:PolV m p) (h:solveS m p=(vs,0)) (hb:(backupS m vs).2.2=0) (hs:s < m.states.length)
  (hl:qv ((backupS m vs).1.getD s zR) < qv (vs.getD s zR)):muP m (impP m vs p) < muP m p:=by
 unfold muP;rw [if_neg (show ¬ (solveS m p).2≠0 by rw [h];simp)];by_cases e:(solveS m (impP m vs p)).2=0
 ·rw [if_neg (fun k=>k e)];obtain ⟨a,b⟩:=imp_le hm hg hp h hb (us:=(solveS m (impP m vs p)).1) (by rw [← e]);have hlt:totV m.states.length (solveS m (impP m vs p)).1 < totV m.states.length (solveS m p).1:=by
   rw [h];exact sumF_lt2 a hs (b s hs hl)
  refine Nat.add_lt_add_left (countP_lt2 (y:=impP m vs p) (fun q _ hq=>?_) (pol_mem (impP_val hp hb)) (decide_eq_true ⟨e,hlt⟩) (fun k=>Rat.lt_irrefl (of_decide_eq_true k).2)) 1;have:=of_decide_eq_true hq;exact decide_eq_true ⟨this.1,by have h2:=this.2;grind⟩
 ·rw [if_pos e];omega
theorem elim1_V (n s t:Nat) (y:Sys):(elim1 n s t y).1.V=y.V:=by
 unfold elim1;split
 ·rfl
 ·split
  ·rfl
  ·split <;> rfl
theorem fwdK_V (n s:Nat) (y:Sys):∀ k,(fwdK n s y k).1.V=y.V
 | 0=>rfl
 | k+1=>by
  unfold fwdK;split
  ·exact fwdK_V n s y k
  ·rw [elim1_V];exact fwdK_V n s y k
theorem redS_limV {n:Nat}:∀ {k s:Nat} {y:Sys},(∀ i,LimR (y.V i))→∀ i,LimR ((redS n k s y).1.V i)
 | 0,_,_,h,i=>h i
 | k+1,s,y,h,i=>by
  have h1:∀ i,LimR ((fwdK n s y (n - (s+1))).1.V i):=fun i=>by rw [fwdK_V];exact h i
  have h2:=redS_limV (n:=n) (k:=k) (s:=s+1) h1;unfold redS;split
  ·exact h1 i
  ·split
   ·exact h2 i
   ·split
    ·exact h2 i
    ·split
     ·exact h2 i
     ·show LimR (updF _ s _ i);by_cases e:i=s
      ·subst e;rw [updF_same];exact divR_lim _ _
      ·rw [updF_ne e];exact h2 i
theorem solve_lim (m:MD) (p:List Int):LimL (solveS m p).1:=by
 unfold solveS;split
 ·intro i hi;cases hi
 ·split
  ·intro i hi;cases hi
  ·intro i hi;have hi:i < p.length:=by simpa using hi
   show LimR (List.getD _ i zR);rw [List.getD_eq_getElem?_getD,List.getElem?_map,List.getElem?_range hi];exact redS_limV (fun i=>zR_lim) i
theorem cpE_val {m:MD} {p:List Int} (h:PolV m p):cpE m p=0:=by
 unfold cpE;rw [if_neg (fun k=>k h.1)];refine frstE_zero (fun i hi=>?_);have:=h.2 i (by have:=h.1;omega);unfold polE;rw [if_neg (by omega)]
def betK (m:MD) (vs:List RR) (k:Nat):Bool:=(List.range k).any fun s=>decide (qv ((backupS m vs).1.getD s zR) < qv (vs.getD s zR))
theorem betK_succ (m:MD) (vs:List RR) (k:Nat):betK m vs (k+1)=(betK m vs k || decide (qv ((backupS m vs).1.getD k zR) < qv (vs.getD k zR))):=by
 unfold betK;rw [List.range_succ,List.any_append];simp
theorem betK_at {m:MD} {vs:List RR} {k:Nat} (h:betK m vs k=true):∃ s,s < k∧qv ((backupS m vs).1.getD s zR) < qv (vs.getD s zR):=by
 obtain ⟨s,h1,h2⟩:=List.any_eq_true.1 h;exact ⟨s,List.mem_range.1 h1,of_decide_eq_true h2⟩
theorem betK_none {m:MD} {vs:List RR} {k:Nat} (h:betK m vs k=false):∀ s,s < k→¬ qv ((backupS m vs).1.getD s zR) < qv (vs.getD s zR):=fun s hs hl=>by
 have:betK m vs k=true:=List.any_eq_true.2 ⟨s,List.mem_range.2 hs,decide_eq_true hl⟩;rw [h] at this;cases this
def impK (m:MD) (vs:List RR) (p:List Int) (k:Nat):List Int:=
 (List.range p.length).map fun s=>if s < k∧qv ((backupS m vs).1.getD s zR) < qv (vs.getD s zR) then (backupS m vs).2.1.getD s 0 else p.getD s 0
theorem impK_len {m:MD} {vs:List RR} {p:List Int} {k:Nat}:(impK m vs p k).length=p.length:=by simp [impK]
theorem impK_at {m:MD} {vs:List RR} {p:List Int} {k s:Nat} (h:s < p.length):(impK m vs p k).getD s 0=if s < k∧qv ((backupS m vs).1.getD s zR) < qv (vs.getD s zR) then (backupS m vs).2.1.getD s 0 else p.getD s 0:=by
 unfold impK;rw [List.getD_eq_getElem?_getD,List.getElem?_map,List.getElem?_range h];rfl
theorem getD_ext0 {p q:List Int} (h:p.length=q.length) (hx:∀ s,s < p.length→p.getD s 0=q.getD s 0):p=q:=by
 refine List.ext_getElem h (fun i h1 h2=>?_);have:=hx i h1;rwa [List.getD_eq_getElem?_getD,List.getD_eq_getElem?_getD,List.getElem?_eq_getElem h1,List.getElem?_eq_getElem h2] at this
theorem impK_zero {m:MD} {vs:List RR} {p:List Int}:impK m vs p 0=p:=
 getD_ext0 impK_len (fun s hs=>by rw [impK_len] at hs;rw [impK_at hs,if_neg (by omega)])
theorem impK_all {m:MD} {vs:List RR} {p:List Int}:impK m vs p p.length=impP m vs p:=
 getD_ext0 (by rw [impK_len,impP_len]) (fun s hs=>by
  rw [impK_len] at hs;rw [impK_at hs,impP_at hs];by_cases e:qv ((backupS m vs).1.getD s zR) < qv (vs.getD s zR)
  ·rw [if_pos ⟨hs,e⟩,if_pos e]
  ·rw [if_neg (fun k=>e k.2),if_neg e])
theorem impK_yes {m:MD} {vs:List RR} {p:List Int} {k:Nat} (hk:k < p.length) (h:qv ((backupS m vs).1.getD k zR) < qv (vs.getD k zR)):impK m vs p (k+1)=(impK m vs p k).set k ((backupS m vs).2.1.getD k 0):=
 getD_ext0 (by rw [List.length_set,impK_len,impK_len]) (fun s hs=>by
  rw [impK_len] at hs;rw [impK_at hs,List.getD_eq_getElem?_getD (l:=(impK m vs p k).set k _),List.getElem?_set];by_cases e:k=s
  ·subst e;rw [if_pos ⟨by omega,h⟩,if_pos rfl,if_pos (by rw [impK_len];exact hs)];rfl
  ·rw [if_neg e,← List.getD_eq_getElem?_getD,impK_at hs];by_cases e2:s < k
   ·simp only [e2,show s < k+1 by omega]
   ·rw [if_neg (by omega),if_neg (by omega)])
theorem impK_no {m:MD} {vs:List RR} {p:List Int} {k:Nat} (h:¬ qv ((backupS m vs).1.getD k zR) < qv (vs.getD k zR)):impK m vs p (k+1)=impK m vs p k:=
 getD_ext0 (by rw [impK_len,impK_len]) (fun s hs=>by
  rw [impK_len] at hs;rw [impK_at hs,impK_at hs];by_cases e:s=k
  ·subst e;rw [if_neg (fun k=>h k.2),if_neg (by omega)]
  ·by_cases e2:s < k
   ·simp only [e2,show s < k+1 by omega]
   ·rw [if_neg (by omega),if_neg (by omega)])
def optF (m:MD):Nat→List Int→List RR × List Int × Int
 | 0,_=>([],[],0)
 | k+1,p=>
  if (solveS m p).2≠0 then ([],[],(solveS m p).2)
  else if (backupS m (solveS m p).1).2.2≠0 then ([],[],(backupS m (solveS m p).1).2.2)
  else if betK m (solveS m p).1 m.states.length=true then optF m k (impP m (solveS m p).1 p)
  else ((solveS m p).1,(backupS m (solveS m p).1).2.1,0)
def optG (m:MD) (p:List Int):List RR × List Int × Int:=optF m (muP m p+1) p
theorem optF_enough {m:MD} (hm:mdE m=0) (hg:qv m.disc < 1):∀ (d:Nat) (p:List Int) (k:Nat),PolV m p→muP m p < d→muP m p < k→optF m k p=optG m p
 | 0,p,k,_,h,_=>absurd h (Nat.not_lt_zero _)
 | d+1,p,k,hp,h,hk=>by
  obtain ⟨k,rfl⟩:∃ j,k=j+1:=⟨k - 1,by omega⟩;unfold optG;unfold optF;by_cases h1:(solveS m p).2=0
  ·have n1:¬ (solveS m p).2≠0:=fun z=>z h1;rw [if_neg n1,if_neg n1];by_cases h2:(backupS m (solveS m p).1).2.2=0
   ·have n2:¬ (backupS m (solveS m p).1).2.2≠0:=fun z=>z h2;rw [if_neg n2,if_neg n2];by_cases h3:betK m (solveS m p).1 m.states.length=true
    ·rw [if_pos h3,if_pos h3];obtain ⟨s,hs,hl⟩:=betK_at h3;have hlt:=mu_lt (vs:=(solveS m p).1) hm hg hp (Prod.ext rfl h1) h2 hs hl;have hv:=impP_val (vs:=(solveS m p).1) hp h2;rw [optF_enough hm hg d _ k hv (by omega) (by omega),optF_enough hm hg d _ (muP m p) hv (by omega) (by omega)]
    ·rw [if_neg h3,if_neg h3]
   ·rw [if_pos h2,if_pos h2]
  ·rw [if_pos h1,if_pos h1]
theorem optG_bad1 {m:MD} {p:List Int} {c:Int} (h:(solveS m p).2=c) (hc:c≠0):optG m p=([],[],c):=by
 unfold optG optF;rw [if_pos (by rw [h];exact hc),h]
theorem optG_bad2 {m:MD} {p:List Int} {vs:List RR} {c:Int} (h:solveS m p=(vs,0)) (h2:(backupS m vs).2.2=c) (hc:c≠0):optG m p=([],[],c):=by
 unfold optG optF;rw [h,if_neg (fun z=>z rfl),if_pos (by rw [h2];exact hc),h2]
theorem optG_done {m:MD} {p:List Int} {vs:List RR} (h:solveS m p=(vs,0)) (h2:(backupS m vs).2.2=0) (h3:betK m vs m.states.length=false):optG m p=(vs,(backupS m vs).2.1,0):=by
 unfold optG optF;rw [h,if_neg (fun z=>z rfl),if_neg (fun z=>z h2),if_neg (by rw [h3];simp)]
theorem optG_step {m:MD} {p:List Int} {vs:List RR} (hm:mdE m=0) (hg:qv m.disc < 1) (hp:PolV m p) (h:solveS m p=(vs,0)) (h2:(backupS m vs).2.2=0) (h3:betK m vs m.states.length=true) :
  optG m p=optG m (impP m vs p)∧muP m (impP m vs p) < muP m p:=by
 obtain ⟨s,hs,hl⟩:=betK_at h3;have hlt:=mu_lt hm hg hp h h2 hs hl;refine ⟨?_,hlt⟩;have e:optG m p=optF m (muP m p) (impP m vs p):=by
  unfold optG;rw [optF,h,if_neg (fun z=>z rfl),if_neg (fun z=>z h2),if_pos h3]
 rw [e];exact optF_enough hm hg _ _ _ (impP_val hp h2) (Nat.lt_succ_self _) hlt
theorem pol_zero {m:MD} (hm:mdE m=0):PolV m (List.replicate m.states.length 0):=by
 refine ⟨by simp,fun u hu=>?_⟩;have e:(List.replicate m.states.length (0:Int)).getD u 0=0:=by
  rw [List.getD_eq_getElem?_getD,List.getElem?_replicate,if_pos hu];rfl
 rw [e];have h0:(m.states.getD u []).length≠0:=fun z=>by
  have:=(md_valid hm).2.2.2 u hu;rw [st_3 z] at this;cases this
 exact ⟨Int.le_refl _,by omega⟩
def optS (m:MD):List RR × List Int × Int:=
 if cwE m≠0 then ([],[],cwE m) else if 8 < m.states.length then ([],[],4) else optG m (List.replicate m.states.length 0)
theorem optS_1 {m:MD} {c:Int} (h:cwE m=c) (hc:c≠0):optS m=([],[],c):=by unfold optS;rw [h,if_pos hc]
theorem optS_2 {m:MD} (h:cwE m=0) (h2:8 < m.states.length):optS m=([],[],4):=by unfold optS;rw [if_neg (by simpa using h),if_pos h2]
theorem optS_3 {m:MD} (h:cwE m=0) (h2:¬ 8 < m.states.length):optS m=optG m (List.replicate m.states.length 0):=by unfold optS;rw [if_neg (by simpa using h),if_neg h2]
theorem cw_lt {m:MD} (h:mdE m=0) (h1:qv m.disc≠1):qv m.disc < 1:=by
 have:=(disc_nonneg h).2;rcases Rat.le_iff_lt_or_eq.1 this with h|h
 ·exact h
 ·exact absurd h h1
theorem back_ok {m:MD} {vs:List RR} (h:(backupS m vs).2.2=0):(backupS m vs).1.length=m.states.length∧(backupS m vs).2.1.length=m.states.length∧LimL (backupS m vs).1∧∀ s,s < m.states.length→chkR ((backupS m vs).1.getD s zR)=0:=by
 obtain ⟨e1,e2,e3,e4⟩:=backup_ok h;refine ⟨by rw [e3,bkV_len],by rw [e4,bkA_len],backup_lim m vs,fun s hs=>?_⟩;rw [e3];exact bkV_chk e1 e2 s (by rw [bkV_len];exact hs)
end Go.Proofs.Ytnnjbaijcaiohaa
