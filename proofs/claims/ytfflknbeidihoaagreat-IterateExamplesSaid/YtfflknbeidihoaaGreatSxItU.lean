/- Lemmas and walks. Conditions: as stated. -/
import Derived.Test.YtfflknbeidihoaaGreatSxSml
import Derived.Test.YtfflknbeidihoaaGreatSxRecC
set_option linter.unusedVariables false
set_option linter.unusedSimpArgs false
set_option maxRecDepth 100000
set_option maxHeartbeats 16000000
namespace Go.Proofs.YtfflknbeidihoaaGreat
open Go.RowKit
abbrev scrClo (An:Nat):Deferred:={ target:=.fn (.func 51) #[.pointer (some ⟨An+1+1,0,none⟩),.pointer (some ⟨An+1,0,none⟩)],args:=#[] }
def ScrT (tmps:Array Value) (An:Nat):Prop:=tmps.getD 4 undef=.pointer (some ⟨An+1,0,none⟩)∧tmps.getD 5 undef=.pointer (some ⟨An+1+1,0,none⟩)
theorem scr_results {tmps:Array Value} {An:Nat} (h:ScrT tmps An) {W:World} {xa:Option Addr} {xn xc:Nat} {c:Int} {t1 t2:TypeId} (b1:Blk W (An+1) #[.slice xa xn xc] t1) (b2:Blk W (An+1+1) #[.int .i64 c] t2) :
  (results Tryz.f17 tmps).run Tryz.prog W=.ok (.tuple #[.slice xa xn xc,.int .i64 c]) W:=by
 obtain ⟨h6,h7⟩:=h;have k1:=b1.cell 0;have k2:=b2.cell 0;simp only [List.getElem?_toArray,List.getElem?_cons_zero] at k1 k2;have l1:=b1.lt;have l2:=b2.lt;simp only [Array.getD_eq_getD_getElem?] at h6 h7;simp only [results,Tryz.results17];simp [h6,h7,go_sem,k1,k2]
theorem scr_leave_err {mm:MD} {vals:List RR} {w W:World} {An:Nat} {c e0:Int} (hc:c≠0) {tmps:Array Value} (ht:ScrT tmps An) {x1:Value} {t1:TypeId} (b1:Blk W (An+1) #[x1] t1) (b3:Blk W (An+1+1) #[.int .i64 e0] 37) (hx:Ext w W) (hA:w.heap.size≤An) (he:scoresS mm vals=([],c)) :
  Leaves Tryz.prog Tryz.f17 tmps (fun e w'=>ResV w w' e (scoresS mm vals)∧Ext w w') [scrClo An] (.panicking [errP c]) W:=by
 refine leaves_cons (f:=51) (args:=#[.pointer (some ⟨An+1+1,0,none⟩),.pointer (some ⟨An+1,0,none⟩)]) (by simp) (by simp [go_sem]) ?_;refine (scoresDef_err (An+1+1) (An+1) c e0 hc [] W _ _ b3 b1 (by omega)).mono ?_;rintro e u' w'' ⟨rfl,rfl,rfl⟩;obtain ⟨wf,hwf⟩:=gN ((W.setCell ⟨An+1+1,0,none⟩ (.int .i64 c)).setCell ⟨An+1,0,none⟩ (.slice none 0 0));have f1:Blk wf (An+1) #[.slice none 0 0] t1:=by
  rw [hwf];exact (b1.setOther (a:=⟨An+1+1,0,none⟩) (by dsimp only;omega) _).set 0 _
 have f3:Blk wf (An+1+1) #[.int .i64 c] 37:=by
  rw [hwf];exact (b3.set 0 (.int .i64 c)).setOther (a:=⟨An+1,0,none⟩) (by dsimp only;omega) _
 have hxf:Ext w wf:=by
  rw [hwf];exact Below.setCell (Below.setCell hx (by dsimp only;omega) _) (by dsimp only;omega) _
 rw [← hwf];clear hwf;have hr:=scr_results ht f1.drew f3.drew;simp only [Leaves,settle,errP];exact ⟨_,hr,ResV.mk (OwVR.nil _ _) he,hxf.drew⟩
theorem scr_leave_ret {mm:MD} {vals:List RR} {w W:World} {An:Nat} {tmps:Array Value} (ht:ScrT tmps An) {xa:Option Addr} {xn xc:Nat} {g:List (List RR)} (b1:Blk W (An+1) #[.slice xa xn xc] 36) (b3:Blk W (An+1+1) #[.int .i64 0] 37) (hx:Ext w W) (hA:w.heap.size≤An)
  (ov:OwVR w.heap.size W (.slice xa xn xc) g) (he:scoresS mm vals=(g,0)) :
  Leaves Tryz.prog Tryz.f17 tmps (fun e w'=>ResV w w' e (scoresS mm vals)∧Ext w w') [scrClo An] .returning W:=by
 refine leaves_cons (f:=51) (args:=#[.pointer (some ⟨An+1+1,0,none⟩),.pointer (some ⟨An+1,0,none⟩)]) (by simp) (by simp [go_sem]) ?_;refine (scoresDef_ret (An+1+1) (An+1) W b3).mono ?_;rintro e u' w'' ⟨rfl,rfl,rfl⟩;obtain ⟨wf,hwf⟩:=gN (W.setCell ⟨An+1+1,0,none⟩ (.int .i64 0));have hk:Keeps 0 37 W wf:=by rw [hwf];exact keeps_setC b3 0 _
 have f1:=b1.keeps hk (by decide);have f3:Blk wf (An+1+1) #[.int .i64 0] 37:=by rw [hwf];exact b3.set 0 (.int .i64 0)
 have hxf:Ext w wf:=by rw [hwf];exact Below.setCell hx (by dsimp only;omega) _
 have ov2:=OwVR.ext' (ov.keeps hk (by decide) (by decide) (by decide)) (Ext.refl wf).drew;rw [← hwf];clear hwf;have hr:=scr_results ht f1.drew f3.drew;simp only [Leaves,settle];exact ⟨_,hr,ResV.mk ov2 he,hxf.drew⟩
def mdiJ (A:Nat) (mv lv sv av xv:Value) (k:Nat) (a:Nat) (sb so ab ao:Nat) (r:RR) (e:Int) (wB:World) (j:Nat) (v:Value) (W:World):Prop:=
 match j with
 | 0=>v=mv
 | 1=>v=lv
 | 2=>v=.pointer (some ⟨A,3,none⟩)
 | 3=>v=sv
 | 4=>v=.int .i64 (k:Nat)
 | 5=>v=.pointer (some ⟨sb,so+k,none⟩)
 | 6=>v=av
 | 7=>v=.int .i64 (a:Nat)
 | 8=>v=.pointer (some ⟨ab,ao+a*4,none⟩)
 | 9=>v=xv
 | 10=>∃ s1 s2 s3 s4,v=.tuple #[.agg #[.bool r.neg,.slice s1 r.num.length s2,.slice s3 r.den.length s4],.int .i64 e]∧NewR wB W (.agg #[.bool r.neg,.slice s1 r.num.length s2,.slice s3 r.den.length s4]) r
 | 11=>∃ s1 s2 s3 s4,v=.agg #[.bool r.neg,.slice s1 r.num.length s2,.slice s3 r.den.length s4]∧NewR wB W (.agg #[.bool r.neg,.slice s1 r.num.length s2,.slice s3 r.den.length s4]) r
 | 12=>v=.int .i64 e
 | _=>True
theorem mdiJ_ext {A:Nat} {mv lv sv av xv:Value} {k:Nat} {a:Nat} {sb so ab ao:Nat} {r:RR} {e:Int} {wB:World} {j:Nat} {v:Value} {W W':World} (h:mdiJ A mv lv sv av xv k a sb so ab ao r e wB j v W) (x:Ext W W'):mdiJ A mv lv sv av xv k a sb so ab ao r e wB j v W':=by
 match j,h with
 | 0,h=>exact h
 | 1,h=>exact h
 | 2,h=>exact h
 | 3,h=>exact h
 | 4,h=>exact h
 | 5,h=>exact h
 | 6,h=>exact h
 | 7,h=>exact h
 | 8,h=>exact h
 | 9,h=>exact h
 | 10,⟨s1,s2,s3,s4,h1,h2⟩=>exact ⟨s1,s2,s3,s4,h1,h2.ext x⟩
 | 11,⟨s1,s2,s3,s4,h1,h2⟩=>exact ⟨s1,s2,s3,s4,h1,h2.ext x⟩
 | 12,h=>exact h
 | _+13,_=>trivial
theorem mdScore_any (mv vv:Value) (m:MD) (vals:List RR) (k ia:Nat) (w:World) (hm:RdM w mv m) (hv:RdRs w vv vals) (hlm:LimM m) (hlv:LimL vals) (hE:mvE m vals=0) (hks:k < m.states.length) (hia:ia < (m.states.getD k []).length) :
  Calls Tryz.prog 86 #[mv,vv,.int .i64 (k:Nat),.int .i64 (ia:Nat)] w fun e w'=>ResR w w' e (scoreS m vals (m.act k ia))∧Ext w w':=by
 have hck:=fun W mv vv (h:RdM W mv m) (k:RdRs W vv vals)=>mdcheck2_any mv vv m vals W h k hlm;have hsc:=fun W mv vv xv (h:RdM W mv m) (g:RdRs W vv vals) (hx:RdAct W xv (m.act k ia))=>scoreOf_any mv vv xv m vals k ia W h g hx hlm hlv hE hks hia;have HM:=kI hm;have HV:=kI hv;obtain ⟨m1,n1,m2,n2,m3,n3,rfl,hmd,hst⟩:=hm;have hsl:m.states.length≤9223372036854775807:=by obtain ⟨_,_,_,h⟩:=hst.shape;exact h
 obtain ⟨av,cv,rfl,hvc,hvm,fv,hvf⟩:=hv.get;have hvl:vals.length≤9223372036854775807:=by omega
 obtain ⟨sb,so,ai,ci,rfl,t0,t1,t2⟩:=hst.at hks;have hact:m.act k ia=(m.states.getD k []).getD ia dA:=rfl;obtain ⟨ac,hac⟩:=gN (m.states.getD k []);rw [← hac] at t1 t2 hact hia;have hal:ac.length≤9223372036854775807:=by obtain ⟨_,_,_,h⟩:=t2.shape;exact h
 obtain ⟨ab,ao,p1,e1,p2,e2,p3,e3,rfl,zz⟩:=t2.at hia;have hrd:=zz.rd;obtain ⟨⟨y0,y1,y2,y3,-⟩,y4,-⟩:=zz;obtain ⟨x,hxx⟩:=gN (m.act k ia);rw [← hxx] at hact hsc ⊢;rw [← hact] at y1 y2 y3 y4 hrd;obtain ⟨R,hR⟩:=gN (scoreS m vals x);rw [← hR] at hsc ⊢;obtain ⟨r,e⟩:=R;unfold ResR at hsc ⊢;dsimp only at hsc ⊢;have HE:=kI hE;have HCK:=kI hck;have HSC2:=kI hsc;have RX:=kI hrd;have g1:(0:Int)≤(k:Int):=by omega
 have g2:(k:Int) < (m.states.length:Int):=by omega
 have g3:(0:Int)≤(ia:Int):=by omega
 have g4:(ia:Int) < (ac.length:Int):=by omega
 have g5:decide ((k:Int) < 0)=false:=decide_eq_false (by omega);have g6:decide ((m.states.length:Int)≤(k:Int))=false:=decide_eq_false (by omega);have g7:decide ((ia:Int) < 0)=false:=decide_eq_false (by omega);have g8:decide ((ac.length:Int)≤(ia:Int))=false:=decide_eq_false (by omega);clear hv hmd hst hvc hvm fv hvf t2 hrd hact hac hxx hR hsc hck hlm hlv hE;have bb0:=((Blk.new w #[.bool m.disc.neg,.slice m1 m.disc.num.length n1,.slice m2 m.disc.den.length n2,.slice (some ⟨sb,so,none⟩) m.states.length n3] 28).alloc (.cells #[.bool false,.slice none 0 0,.slice none 0 0] 25));have bb1:=(Blk.new (w.alloc (.cells #[.bool m.disc.neg,.slice m1 m.disc.num.length n1,.slice m2 m.disc.den.length n2,.slice (some ⟨sb,so,none⟩) m.states.length n3] 28)) #[.bool false,.slice none 0 0,.slice none 0 0] 25);rw [World.size_alloc] at bb1;have x0:Ext w ((w.alloc (.cells #[.bool m.disc.neg,.slice m1 m.disc.num.length n1,.slice m2 m.disc.den.length n2,.slice (some ⟨sb,so,none⟩) m.states.length n3] 28)).alloc (.cells #[.bool false,.slice none 0 0,.slice none 0 0] 25)):=(((Ext.refl w).alloc _).alloc _);have A0:=kI bb0;have A1:=kI bb1;have X:=kI x0;clear x0 bb0 bb1;replace HM:=kI (HM.o.ext X.o);replace HV:=kI (HV.o.ext X.o);replace RX:=kI (RX.o.ext X.o);obtain ⟨ws,hws⟩:=gN (w);go_enter Tryz.func86,Tryz.ntmps86
 obtain ⟨qA0,fA0,lA0⟩:=A0.o.q3;go_wp2_with fail;refine (HCK.o _ _ _ HM.o HV.o).mono ?_;rintro e w1 ⟨rfl,hx⟩;clear qA0 fA0 lA0;replace HM:=kI (HM.o.ext hx);replace HV:=kI (HV.o.ext hx);replace RX:=kI (RX.o.ext hx);replace A0:=kI (A0.o.ext hx);replace A1:=kI (A1.o.ext hx);replace X:=kI (X.o.trans hx);have XW1:=kI X.o;clear hx HCK;rw [HE.o];have t0':=Nat.lt_of_lt_of_le t0 X.o.size;have t1':=(X.o.cell (p:=⟨sb,so+k,none⟩) t0).trans t1;have z0:=Nat.lt_of_lt_of_le y0 X.o.size;have z1:=(X.o.cell (p:=⟨ab,ao+ia*4,none⟩) y0).trans y1;have z2:=(X.o.cell (p:=⟨ab,ao+ia*4+1,none⟩) y0).trans y2;have z3:=(X.o.cell (p:=⟨ab,ao+ia*4+2,none⟩) y0).trans y3;have z4:=(X.o.cell (p:=⟨ab,ao+ia*4+3,none⟩) y0).trans y4;clear t0 t1 y0 y1 y2 y3 y4;obtain ⟨An,hAn⟩:=gN (w.heap.size);rw [← hAn] at A0 A1 ⊢;have WA:Hid (w.heap.size≤An):=kI (by rw [hAn];exact Nat.le_refl _);clear hws hAn;obtain ⟨qA0,fA0,lA0⟩:=A0.o.q3;go_wp2_with fail;clear qA0 fA0 lA0;have wkE:=kI (Eq.refl w1);refine wp_region_each_tail 13 (mdiJ An (.agg #[.bool m.disc.neg,.slice m1 m.disc.num.length n1,.slice m2 m.disc.den.length n2,.slice (some ⟨sb,so,none⟩) m.states.length n3]) (.slice av vals.length cv) (.slice (some ⟨sb,so,none⟩) m.states.length n3) (.slice (some ⟨ab,ao,none⟩) ac.length ci) (.agg #[.bool x.cost.neg,.slice p1 x.cost.num.length e1,.slice p2 x.cost.den.length e2,.slice p3 x.next.length e3]) k ia sb so ab ao r e w1) (by kernel_rfl) (by kernel_rfl) (by kernel_rfl) (fun _ _ _ _ h x=>mdiJ_ext h x) ?_ ?_
 ·refine ⟨?_,?_,?_,?_,?_,?_,?_,?_,?_,?_,?_,?_,?_,trivial⟩
  ·intro a W hW hB hD K hK;have b4:=hB 4 rfl;simp only [sB] at b4;have q9:=(A0.o.ext hW).cell;have l9:=(A0.o.ext hW).lt;go_simp;exact hK _ _ (Ext.refl _) rfl
  ·intro a W hW hB hD K hK;have b1:=hB 1 rfl;simp only [sB] at b1;go_simp;exact hK _ _ (Ext.refl _) rfl
  ·intro a W hW hB hD K hK;have b4:=hB 4 rfl;simp only [sB] at b4;go_simp;exact hK _ _ (Ext.refl _) rfl
  ·intro a W hW hB hD K hK;obtain ⟨v46,e46,h46⟩:=dpE (hD 2 _ 46 rfl rfl (by kernel_rfl));obtain rfl:=h46;have q9:=(A0.o.ext hW).cell;have l9:=(A0.o.ext hW).lt;go_simp;exact hK _ _ (Ext.refl _) rfl
  ·intro a W hW hB hD K hK;have b2:=hB 2 rfl;simp only [sB] at b2;go_simp;exact hK _ _ (Ext.refl _) rfl
  ·intro a W hW hB hD K hK;obtain ⟨v47,e47,h47⟩:=dpE (hD 3 _ 47 rfl rfl (by kernel_rfl));obtain rfl:=h47;obtain ⟨v48,e48,h48⟩:=dpE (hD 4 _ 48 rfl rfl (by kernel_rfl));obtain rfl:=h48;go_simp;exact hK _ _ (Ext.refl _) rfl
  ·intro a W hW hB hD K hK;obtain ⟨v49,e49,h49⟩:=dpE (hD 5 _ 49 rfl rfl (by kernel_rfl));obtain rfl:=h49;have q9:=(hW.cell (p:=⟨sb,so+k,none⟩) t0').trans t1';have l9:=Nat.lt_of_lt_of_le t0' hW.size;go_simp;exact hK _ _ (Ext.refl _) rfl
  ·intro a W hW hB hD K hK;have b3:=hB 3 rfl;simp only [sB] at b3;go_simp;exact hK _ _ (Ext.refl _) rfl
  ·intro a W hW hB hD K hK;obtain ⟨v50,e50,h50⟩:=dpE (hD 6 _ 50 rfl rfl (by kernel_rfl));obtain rfl:=h50;obtain ⟨v51,e51,h51⟩:=dpE (hD 7 _ 51 rfl rfl (by kernel_rfl));obtain rfl:=h51;go_simp;exact hK _ _ (Ext.refl _) rfl
  ·intro a W hW hB hD K hK;obtain ⟨v52,e52,h52⟩:=dpE (hD 8 _ 52 rfl rfl (by kernel_rfl));obtain rfl:=h52;have k1:=(hW.cell (p:=⟨ab,ao+ia*4,none⟩) z0).trans z1;have k2:=(hW.cell (p:=⟨ab,ao+ia*4+1,none⟩) z0).trans z2;have k3:=(hW.cell (p:=⟨ab,ao+ia*4+2,none⟩) z0).trans z3;have k4:=(hW.cell (p:=⟨ab,ao+ia*4+3,none⟩) z0).trans z4;have l9:=Nat.lt_of_lt_of_le z0 hW.size;go_simp;exact hK _ _ (Ext.refl _) rfl
  ·intro a W hW hB hD K hK;obtain ⟨v44,e44,h44⟩:=dpE (hD 0 _ 44 rfl rfl (by kernel_rfl));obtain rfl:=h44;obtain ⟨v45,e45,h45⟩:=dpE (hD 1 _ 45 rfl rfl (by kernel_rfl));obtain rfl:=h45;obtain ⟨v53,e53,h53⟩:=dpE (hD 9 _ 53 rfl rfl (by kernel_rfl));obtain rfl:=h53;go_simp;refine (HSC2.o _ _ _ _ (HM.o.ext hW) (HV.o.ext hW) (RX.o.ext hW)).mono ?_;rintro e9 w9 ⟨⟨v,rfl,nn⟩,hx⟩;obtain ⟨s1,s2,s3,s4,rfl⟩:=nn.shape;exact hK _ _ hx ⟨_,_,_,_,rfl,nn.from hW⟩
  ·intro a W hW hB hD K hK;obtain ⟨v54,e54,h54⟩:=dpE (hD 10 _ 54 rfl rfl (by kernel_rfl));obtain ⟨s1,s2,s3,s4,rfl,hn⟩:=h54;go_simp;exact hK _ _ (Ext.refl _) ⟨_,_,_,_,rfl,hn⟩
  ·intro a W hW hB hD K hK;obtain ⟨v54,e54,h54⟩:=dpE (hD 10 _ 54 rfl rfl (by kernel_rfl));obtain ⟨s1,s2,s3,s4,rfl,hn⟩:=h54;go_simp;exact hK _ _ (Ext.refl _) rfl
 intro w9 hx;simp only [Vals,List.take_succ_cons,List.take_zero,List.drop_succ_cons,List.drop_zero];rintro u0 - u1 - u2 - u3 - u4 - u5 - u6 - u7 - u8 - u9 - u10 - u11 h11 u12 h12;obtain ⟨x1,x2,x3,x4,rfl,hn⟩:=h11;obtain rfl:u12=.int .i64 e:=h12;simp only [Act.put,List.setIfInBounds_toArray,List.set_cons_zero,List.set_cons_succ];have NN:=kI (hn.from X.o);replace HM:=kI (HM.o.ext hx);replace HV:=kI (HV.o.ext hx);replace RX:=kI (RX.o.ext hx);replace A0:=kI (A0.o.ext hx);replace A1:=kI (A1.o.ext hx);replace X:=kI (X.o.trans hx);clear hx hn t0' t1' z0 z1 z2 z3 z4 wkE;obtain ⟨qA1,fA1,lA1⟩:=A1.o.q3;go_wp2_with fail;clear qA1 fA1 lA1;obtain ⟨wf,hwf⟩:=gN ((((w9.setCell ⟨An+1,0,none⟩ (.bool r.neg)).setCell ⟨An+1,1,none⟩ (.slice x1 r.num.length x2)).setCell ⟨An+1,2,none⟩ (.slice x3 r.den.length x4)));have bf:Blk wf (An+1) #[.bool r.neg,.slice x1 r.num.length x2,.slice x3 r.den.length x4] 25:=by rw [hwf];exact A1.o.all3 _ _ _
 have nf:NewR w wf (.agg #[.bool r.neg,.slice x1 r.num.length x2,.slice x3 r.den.length x4]) r:=by rw [hwf];exact NN.o.set3b A1.o (by decide) _ _ _
 have xf:Ext w wf:=by rw [hwf];exact ext_put3 (o:=0) X.o (by have:=WA.o;omega)
 rw [← hwf];clear hwf;have cf:=bf.cell;have lf:=bf.lt;refine bodyPost_ret (v:=.tuple #[.agg #[.bool r.neg,.slice x1 r.num.length x2,.slice x3 r.den.length x4],.int .i64 e]) ?_ rfl ⟨⟨_,rfl,nf⟩,xf⟩;(simp only [results,Tryz.results86];go_simp)
def EndU (e:Ending) (c:Int):Prop:=if c=0 then e=.returned (.tuple #[]) else e=.panicked [errP c]
theorem EndU.ok {c:Int} (h:c=0):EndU (.returned (.tuple #[])) c:=by unfold EndU;rw [if_pos h]
theorem EndU.bad {c d:Int} (h:d≠0) (e:c=d):EndU (.panicked [errP d]) c:=by unfold EndU;rw [e,if_neg h]
theorem bkE_zero {m:MD} {v:List RR} (h:∀ s,s < m.states.length→∀ a,a < (m.states.getD s []).length→(scoreS m v (m.act s a)).2=0):bkE m v=0:=frstE_zero (fun s hs=>frstE_zero (h s hs))
theorem bkE_at {m:MD} {v:List RR} {k j:Nat} (hk:k < m.states.length) (h1:∀ s,s < k→∀ a,a < (m.states.getD s []).length→(scoreS m v (m.act s a)).2=0) (hj:j < (m.states.getD k []).length) (h2:∀ a,a < j→(scoreS m v (m.act k a)).2=0) {c:Int} (h3:(scoreS m v (m.act k j)).2=c) (hc:c≠0):bkE m v=c:=by
 have e1:rowE m v (m.states.getD k [])=c:=by
  have:=frstE_at (f:=fun a=>(scoreS m v ((m.states.getD k []).getD a dA)).2) (k:=j) h2 (by rw [show (scoreS m v ((m.states.getD k []).getD j dA)).2=c from h3];exact hc) hj;exact this.trans h3
 have:=frstE_at (f:=fun s=>rowE m v (m.states.getD s [])) (k:=k) (fun s hs=>frstE_zero (h1 s hs)) (by rw [e1];exact hc) hk;exact this.trans e1
theorem first_any (mv vv:Value) (m:MD) (vals:List RR) (w:World) (hm:RdM w mv m) (hv:RdRs w vv vals) (hlm:LimM m) (hlv:LimL vals) (hE:mvE m vals=0) :
  Calls Tryz.prog 53 #[mv,vv] w fun e w'=>EndU e (bkE m vals)∧Ext w w':=by
 have hsc:=fun W k ia (x:Ext w W) hk hi=>mdScore_any mv vv m vals k ia W (hm.ext x) (hv.ext x) hlm hlv hE hk hi;have hz:=bkE_zero (m:=m) (v:=vals);have hb:=fun k j=>bkE_at (m:=m) (v:=vals) (k:=k) (j:=j);obtain ⟨E0,hE0⟩:=gN (bkE m vals);rw [← hE0] at hz hb ⊢;clear hE0;obtain ⟨m1,n1,m2,n2,m3,n3,rfl,hmd,hst⟩:=hm;have hsl:m.states.length≤9223372036854775807:=by obtain ⟨_,_,_,h⟩:=hst.shape;exact h
 obtain ⟨av,cv,rfl,-,-,-⟩:=hv.get;have HST:=kI hst;have HSC:=kI hsc;have HZ:=kI hz;have HB:=kI hb;clear hv hmd hst hsc hz hb hlm hlv hE;have bb0:=Blk.new w #[.bool m.disc.neg,.slice m1 m.disc.num.length n1,.slice m2 m.disc.den.length n2,.slice m3 m.states.length n3] 28;have x0:Ext w (w.alloc (.cells #[.bool m.disc.neg,.slice m1 m.disc.num.length n1,.slice m2 m.disc.den.length n2,.slice m3 m.states.length n3] 28)):=(Ext.refl w).alloc _;have A0:=kI bb0;have X:=kI x0;clear bb0 x0;go_enter Tryz.func53,Tryz.ntmps53
 have q0:=A0.o.cell;have l0:=A0.o.lt;go_wp2_with fail;clear q0 l0;obtain ⟨wl,hwl⟩:=gN ((w.alloc (.cells #[.bool m.disc.neg,.slice m1 m.disc.num.length n1,.slice m2 m.disc.den.length n2,.slice m3 m.states.length n3] 28)));rw [← hwl] at A0 X ⊢;clear hwl;obtain ⟨An,hAn⟩:=gN (w.heap.size);rw [← hAn] at A0 ⊢;clear hAn;go_loopw [12] (fun i wr=>∃ k:Nat,k≤m.states.length∧i=.int .i64 k∧(∀ s,s < k→∀ a,a < (m.states.getD s []).length→(scoreS m vals (m.act s a)).2=0)∧Ext wl wr) (fun i _=>m.states.length - (intOf i).toNat)
 case atStart=>exact ⟨0,by omega,rfl,(fun s hs=>by omega),Ext.refl _⟩
 case round=>
  obtain ⟨wk,hwk⟩:=gN (wr);subst hwk;obtain ⟨k,hk,rfl,hok,hx⟩:=hrel;have XW:Hid (Ext w wk):=kI (X.o.trans hx);have BK:=kI (A0.o.ext hx);have OK:=kI hok;have XL:=kI hx;clear hok hx;by_cases hlt:k < m.states.length
  ·obtain ⟨sb,so,ai,ci,rfl,t0,t1,t2⟩:=(HST.o.ext XW.o).at hlt;have hal:(m.states.getD k []).length≤9223372036854775807:=by obtain ⟨_,_,_,h⟩:=t2.shape;exact h
   have hsk:=fun W ia (x:Ext w W) hi=>HSC.o W k ia x hlt hi;have hbk:=fun j=>HB.o k j hlt OK.o;have hzz:∀ s,s < k+1→(∀ a,a < (m.states.getD k []).length→(scoreS m vals (m.act k a)).2=0)→∀ a,a < (m.states.getD s []).length→(scoreS m vals (m.act s a)).2=0:=fun s hs h=>by
    by_cases e:s=k
    ·rw [e];exact h
    ·exact OK.o s (by omega)
   obtain ⟨al,hall⟩:=gN ((m.states.getD k []).length);have HALL:=kI hall;rw [← hall] at t1 hal hsk hbk hzz;have HSK:=kI hsk;have HBK:=kI hbk;have HZZ:=kI hzz;have q1:(0:Int)≤(k:Int):=by omega
   have q2:(k:Int) < (m.states.length:Int):=by omega
   clear t2 hall hsk hbk hzz;go_wp2_with fail;clear t0 t1 q1 q2;go_loopw [19] (fun i wq=>∃ j:Nat,j≤al∧i=.int .i64 j∧(∀ a,a < j→(scoreS m vals (m.act k a)).2=0)∧Ext wk wq) (fun i _=>al - (intOf i).toNat)
   case atStart=>exact ⟨0,by omega,rfl,(fun s hs=>by omega),Ext.refl _⟩
   case round=>
    obtain ⟨wj,hwj⟩:=gN (wr);subst hwj;obtain ⟨j,hj,rfl,hok,hx⟩:=hrel;have XJ:Hid (Ext w wj):=kI (XW.o.trans hx);have BJ:=kI (BK.o.ext hx);have OKJ:=kI hok;have XQ:=kI hx;clear hok hx;by_cases hjl:j < al
    ·have hs:=fun W (x:Ext w W)=>HSK.o W j x hjl;have hb:=fun c=>HBK.o j hjl OKJ.o (c:=c);have hn:(scoreS m vals (m.act k j)).2=0→∀ a,a < j+1→(scoreS m vals (m.act k a)).2=0:=fun h a ha=>by
      by_cases e:a=j
      ·rw [e];exact h
      ·exact OKJ.o a (by omega)
     obtain ⟨R,hR⟩:=gN (scoreS m vals (m.act k j));rw [← hR] at hs hb hn;obtain ⟨r,e⟩:=R;unfold ResR at hs;dsimp only at hs hb hn;have HS:=kI hs;have HBJ:=kI hb;have HNJ:=kI hn;have q0:=BJ.o.cell;have l0:=BJ.o.lt;clear hs hb hn hR;go_wp2_with fail;refine (HS.o wj XJ.o).mono ?_;rintro e9 w2 ⟨⟨v,rfl,nn⟩,hx2⟩;obtain ⟨s1,s2,s3,s4,rfl⟩:=nn.shape;have X2:=kI hx2;clear nn hx2 q0 l0;go_wp2_with fail;by_cases he:e=0
     ·subst he;refine (must_ok _).mono ?_;rintro e9 w3 ⟨rfl,rfl⟩;go_wp2_with fail;go_roundw
      case rel=>exact ⟨j+1,by omega,by go_num,HNJ.o (by first|trivial|rfl),(XQ.o.trans X2.o).alloc _⟩
      case measure=>simp [intOf];omega
     ·refine (must_bad he _).mono ?_;rintro e9 w3 ⟨rfl,rfl⟩;simp (config:={zetaDelta:=true}) only [Exit.then,Exit.inBlock];exact bodyPost_panic rfl ⟨EndU.bad he (HBJ.o e (by first|trivial|rfl) he),(XJ.o.trans X2.o).alloc _⟩
    ·obtain rfl:j=al:=by omega
     have q1:¬ (j:Int) < (j:Int):=by omega
     go_wp2_with fail;go_roundw
     case rel=>exact ⟨k+1,by omega,by go_num,(fun s hs=>HZZ.o s hs OKJ.o),XL.o.trans XQ.o⟩
     case measure=>simp [intOf];omega
  ·obtain rfl:k=m.states.length:=by omega
   have q1:¬ (m.states.length:Int) < (m.states.length:Int):=by omega
   go_wp2_with fail;go_end0
   exact ⟨EndU.ok (HZ.o OK.o),XW.o⟩
end Go.Proofs.YtfflknbeidihoaaGreat
