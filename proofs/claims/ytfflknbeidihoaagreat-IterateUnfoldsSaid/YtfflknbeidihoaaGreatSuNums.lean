/- Lemmas and walks. Conditions: as stated. -/
import Derived.Test.YtfflknbeidihoaaGreatSuMdF
import Derived.Test.YtfflknbeidihoaaGreatSuEach
import Derived.Test.YtfflknbeidihoaaGreatSuItO
import Derived.Test.YtfflknbeidihoaaGreatSuGG
import Derived.WalkMore
set_option linter.unusedVariables false
set_option linter.unusedSimpArgs false
set_option maxRecDepth 100000
set_option maxHeartbeats 16000000
namespace Go.Proofs.YtfflknbeidihoaaGreat
open Go.RowKit
theorem plan_1 {m:MD} {v:List RR} {p:List (List Int)} {c:Int} (h:mvE m v=c) (hc:c≠0):planS m v p=([],c):=by unfold planS;rw [h,if_pos hc]
theorem plan_2 {m:MD} {v:List RR} {p:List (List Int)} (h:mvE m v=0) (h2:24 < p.length):planS m v p=([],4):=by unfold planS;rw [if_neg (by simpa using h),if_pos h2]
theorem plan_3 {m:MD} {v:List RR} {p:List (List Int)} {c:Int} (h:mvE m v=0) (h2:¬ 24 < p.length) (h3:plnE m v p p.length=c) (hc:c≠0):planS m v p=([],c):=by unfold planS;rw [if_neg (by simpa using h),if_neg h2,h3,if_pos hc]
theorem plan_4 {m:MD} {v:List RR} {p:List (List Int)} (h:mvE m v=0) (h2:¬ 24 < p.length) (h3:plnE m v p p.length=0):planS m v p=(plnV m v p p.length,0):=by unfold planS;rw [if_neg (by simpa using h),if_neg h2,if_neg (by simpa using h3)]
theorem planI_any (mv vv pv:Value) (m:MD) (vals:List RR) (p:List (List Int)) (w:World) (hm:RdM w mv m) (hv:RdRs w vv vals) (hp:RdPl w pv p) (hlm:LimM m) (hlv:LimL vals) (hln:LenL vals) :
  Calls Tryz.prog 16 #[mv,vv,pv] w fun e w'=>ResN w w' e (planS m vals p)∧Ext w w':=by
 have hst:=fun W (h:RdM W mv m) (k:RdRs W vv vals)=>start_any mv vv m vals W h k hlm hln
 have hun:=fun B W v (h:RdM W mv m) (k:OwN B W v vals) (g:RdPl W pv p) hB=>underI_any mv v pv m vals p B W h k g hlm hlv hB
 have hP1:=fun c=>plan_1 (m:=m) (v:=vals) (p:=p) (c:=c);have hP2:=plan_2 (m:=m) (v:=vals) (p:=p);have hP3:=fun c=>plan_3 (m:=m) (v:=vals) (p:=p) (c:=c);have hP4:=plan_4 (m:=m) (v:=vals) (p:=p)
 obtain ⟨c1,hc1⟩:∃ c,c=mvE m vals:=⟨_,rfl⟩
 obtain ⟨c2,hc2⟩:∃ c,c=plnE m vals p p.length:=⟨_,rfl⟩
 rw [← hc1] at hst hP1 hP2 hP3 hP4;rw [← hc2] at hun hP3 hP4;have HST:=kI hst;have HUN:=kI hun;have HP1:=kI hP1;have HP2:=kI hP2;have HP3:=kI hP3;have HP4:=kI hP4;have HM:=kI hm;have HP:=kI hp;have HV:=kI hv;obtain ⟨m1,n1,m2,n2,m3,n3,rfl,-,-⟩:=hm;obtain ⟨ap,cp,rfl,hpn⟩:=hp.shape;obtain ⟨av,cv,rfl,-,-,-⟩:=hv.get;clear hp hv hst hun hlm hlv hln hc1 hc2 hP1 hP2 hP3 hP4;have bb0:=(((Blk.new w #[.bool m.disc.neg,.slice m1 m.disc.num.length n1,.slice m2 m.disc.den.length n2,.slice m3 m.states.length n3] 28).alloc (.cells #[.slice none 0 0] 29)).alloc (.cells #[.int .i64 0] 37));have bb1:=((Blk.new (w.alloc (.cells #[.bool m.disc.neg,.slice m1 m.disc.num.length n1,.slice m2 m.disc.den.length n2,.slice m3 m.states.length n3] 28)) #[.slice none 0 0] 29).alloc (.cells #[.int .i64 0] 37));have bb2:=(Blk.new ((w.alloc (.cells #[.bool m.disc.neg,.slice m1 m.disc.num.length n1,.slice m2 m.disc.den.length n2,.slice m3 m.states.length n3] 28)).alloc (.cells #[.slice none 0 0] 29)) #[.int .i64 0] 37);rw [World.size_alloc] at bb1;rw [World.size_alloc,World.size_alloc] at bb2;have x0:Ext w (((w.alloc (.cells #[.bool m.disc.neg,.slice m1 m.disc.num.length n1,.slice m2 m.disc.den.length n2,.slice m3 m.states.length n3] 28)).alloc (.cells #[.slice none 0 0] 29)).alloc (.cells #[.int .i64 0] 37)):=((((Ext.refl w).alloc _).alloc _).alloc _);have A0:=kI bb0;have A1:=kI bb1;have A2:=kI bb2;have X:=kI x0;clear x0 bb0 bb1 bb2;have HM0:=HM;have HP0:=HP;replace HM:=kI (HM.o.ext X.o);replace HP:=kI (HP.o.ext X.o);replace HV:=kI (HV.o.ext X.o);have X0:Hid (w.heap.size+1+1+1≤(((w.alloc (.cells #[.bool m.disc.neg,.slice m1 m.disc.num.length n1,.slice m2 m.disc.den.length n2,.slice m3 m.states.length n3] 28)).alloc (.cells #[.slice none 0 0] 29)).alloc (.cells #[.int .i64 0] 37)).heap.size):=kI (by simp only [World.size_alloc];omega);have hmf:∀ (fn:Fn) (first cap:Array Value) (w:World),(Instr.makeFunc fn first cap).run Tryz.prog w=.ok (.func fn first cap) w:=fun _ _ _ _=>rfl
 have HMF:=kI hmf;go_enter_defers Tryz.func16,Tryz.ntmps16
 have qA0:=A0.o.cell;have fA0:=A0.o.free;have lA0:=A0.o.lt;go_wp2_with fail;clear hmf;refine (HST.o _ HM.o HV.o).mono ?_;rintro e w1 ⟨he,hx⟩;clear qA0 fA0 lA0;replace HM:=kI (HM.o.ext hx);replace HP:=kI (HP.o.ext hx);replace HV:=kI (HV.o.ext hx);replace A0:=kI (A0.o.ext hx);replace A1:=kI (A1.o.ext hx);replace A2:=kI (A2.o.ext hx);replace X:=kI (X.o.trans hx);have XS:=kI hx;clear hx HST;by_cases h1:c1=0
 rotate_left
 ·have E:=kI (HP1.o c1 rfl h1);obtain rfl:=he.getE h1;clear he;refine leaves_cons (f:=49) (args:=#[.pointer (some ⟨w.heap.size+1+1,0,none⟩),.pointer (some ⟨w.heap.size+1,0,none⟩)]) (by simp) (by simp [go_sem]) ?_;refine (planDef_err (w.heap.size+1+1) (w.heap.size+1) c1 0 h1 [] _ _ _ A2.o A1.o (by omega)).mono ?_;rintro e u' w'' ⟨rfl,rfl,rfl⟩;obtain ⟨wf,hwf⟩:∃ W,W=((w1.setCell ⟨w.heap.size+1+1,0,none⟩ (.int .i64 c1)).setCell ⟨w.heap.size+1,0,none⟩ (.slice none 0 0)):=⟨_,rfl⟩
  have hfe:Blk wf (w.heap.size+1+1) #[.int .i64 c1] 37:=by
   have:=((A2.o).set 0 (.int .i64 c1)).setOther (a:=⟨w.heap.size+1,0,none⟩) (by dsimp only;omega) (.slice none 0 0);rw [hwf];simpa using this
  have hf0:Blk wf (w.heap.size+1) #[.slice none 0 0] 29:=by
   have:=((A1.o).setOther (a:=⟨w.heap.size+1+1,0,none⟩) (by dsimp only;omega) (.int .i64 c1)).set 0 (.slice none 0 0);rw [hwf];simpa using this
  have hxf:Ext w wf:=by rw [hwf];exact ((X.o).set (p:=⟨w.heap.size+1+1,0,none⟩) (by (try dsimp only);omega) _).set (p:=⟨w.heap.size+1,0,none⟩) (by (try dsimp only);omega) _
  rw [← hwf];clear hwf;have HFE:=kI hfe;have HF0:=kI hf0;have HXF:=kI hxf;have ke:=hfe.cell 0;have k0:=hf0.cell 0;simp only [List.getElem?_toArray,List.getElem?_cons_zero] at ke k0;clear hfe hxf hf0;simp [Leaves,settle,results,Tryz.results16,go_sem,errP,ke,k0]
  exact ⟨ResN.mk (OwN.nil _ _) E.o,HXF.o.drew⟩
 subst h1;obtain ⟨ov,rfl,ho⟩:=he.get0;obtain ⟨oa,oc,rfl⟩:=ho.shape;have OW:=kI (ho.mono X0.o);clear he ho;by_cases h2:24 < p.length
 ·have E:=kI (HP2.o (by first|trivial|rfl) h2);have q2:(24:Int) < (p.length:Int):=by omega
  have qA1:=A1.o.cell;have fA1:=A1.o.free;have lA1:=A1.o.lt;go_wp2_with fail;refine (must_bad (c:=4) (by decide) _).mono ?_;rintro e w9 ⟨rfl,rfl⟩;have A1:=kI (show Blk (w1.setCell ⟨w.heap.size+1,0,none⟩ (.slice oa vals.length oc)) (w.heap.size+1) #[(.slice oa vals.length oc)] 29 from by have:=A1.o.set 0 (.slice oa vals.length oc);simpa using this);have A2:=kI (A2.o.setOther (a:=⟨w.heap.size+1,0,none⟩) (by dsimp only;omega) (.slice oa vals.length oc));have X:=kI (X.o.set (p:=⟨w.heap.size+1,0,none⟩) (by dsimp only;omega) (.slice oa vals.length oc));clear qA1 fA1 lA1;refine leaves_cons (f:=49) (args:=#[.pointer (some ⟨w.heap.size+1+1,0,none⟩),.pointer (some ⟨w.heap.size+1,0,none⟩)]) (by simp) (by simp [go_sem]) ?_;refine (planDef_err (w.heap.size+1+1) (w.heap.size+1) 4 0 (by decide) [] _ _ _ A2.o A1.o (by omega)).mono ?_;rintro e u' w'' ⟨rfl,rfl,rfl⟩;obtain ⟨wf,hwf⟩:∃ W,W=(((w1.setCell ⟨w.heap.size+1,0,none⟩ (.slice oa vals.length oc)).setCell ⟨w.heap.size+1+1,0,none⟩ (.int .i64 4)).setCell ⟨w.heap.size+1,0,none⟩ (.slice none 0 0)):=⟨_,rfl⟩
  have hfe:Blk wf (w.heap.size+1+1) #[.int .i64 4] 37:=by
   have:=((A2.o).set 0 (.int .i64 4)).setOther (a:=⟨w.heap.size+1,0,none⟩) (by dsimp only;omega) (.slice none 0 0);rw [hwf];simpa using this
  have hf0:Blk wf (w.heap.size+1) #[.slice none 0 0] 29:=by
   have:=((A1.o).setOther (a:=⟨w.heap.size+1+1,0,none⟩) (by dsimp only;omega) (.int .i64 4)).set 0 (.slice none 0 0);rw [hwf];simpa using this
  have hxf:Ext w wf:=by rw [hwf];exact ((X.o).set (p:=⟨w.heap.size+1+1,0,none⟩) (by (try dsimp only);omega) _).set (p:=⟨w.heap.size+1,0,none⟩) (by (try dsimp only);omega) _
  rw [← hwf];clear hwf;have HFE:=kI hfe;have HF0:=kI hf0;have HXF:=kI hxf;have ke:=hfe.cell 0;have k0:=hf0.cell 0;simp only [List.getElem?_toArray,List.getElem?_cons_zero] at ke k0;clear hfe hxf hf0;simp [Leaves,settle,results,Tryz.results16,go_sem,errP,ke,k0]
  exact ⟨ResN.mk (OwN.nil _ _) E.o,HXF.o.drew⟩
 have q2:¬ (24:Int) < (p.length:Int):=by omega
 have qA0:=A0.o.cell;have fA0:=A0.o.free;have lA0:=A0.o.lt;have qA1:=A1.o.cell;have fA1:=A1.o.free;have lA1:=A1.o.lt;go_wp2_with fail;clear qA0 fA0 lA0 qA1 fA1 lA1;obtain ⟨ws,hws⟩:∃ W,W=w1.setCell ⟨w.heap.size+1,0,none⟩ (.slice oa vals.length oc):=⟨_,rfl⟩
 have hx9:Ext w ws:=by rw [hws];exact X.o.set (p:=⟨w.heap.size+1,0,none⟩) (by dsimp only;omega) (.slice oa vals.length oc)
 have hA0:Blk ws w.heap.size #[.bool m.disc.neg,.slice m1 m.disc.num.length n1,.slice m2 m.disc.den.length n2,.slice m3 m.states.length n3] 28:=by rw [hws];exact A0.o.setOther (a:=⟨w.heap.size+1,0,none⟩) (by dsimp only;omega) (.slice oa vals.length oc)
 have hA1:Blk ws (w.heap.size+1) #[(.slice oa vals.length oc)] 29:=by rw [hws];have:=A1.o.set 0 (.slice oa vals.length oc);simpa using this
 have hA2:Blk ws (w.heap.size+1+1) #[.int .i64 0] 37:=by rw [hws];exact A2.o.setOther (a:=⟨w.heap.size+1,0,none⟩) (by dsimp only;omega) (.slice oa vals.length oc)
 have how:OwN (w.heap.size+1+1+1) ws (.slice oa vals.length oc) vals:=by rw [hws];exact OW.o.keeps (keepsR A1.o 0 (.slice oa vals.length oc)) (by decide) (by decide)
 have hsz:w.heap.size+1+1+1≤ws.heap.size:=by rw [hws,World.size_setCell];have:=A2.o.lt;omega
 rw [← hws];replace A0:=kI hA0;replace A1:=kI hA1;replace A2:=kI hA2;replace X:=kI hx9;replace OW:=kI how;replace HM:=kI (HM0.o.ext hx9);replace HP:=kI (HP0.o.ext hx9);have SZ:=kI hsz;clear hws hx9 hA0 hA1 hA2 how hsz HV;refine (HUN.o _ _ _ HM.o OW.o HP.o SZ.o).mono ?_;rintro e w2 ⟨he,hx⟩;replace A0:=kI (A0.o.ext hx);replace A1:=kI (A1.o.ext hx);replace A2:=kI (A2.o.ext hx);replace X:=kI (X.o.trans hx);clear hx HUN HM HP OW;by_cases h3:c2=0
 rotate_left
 ·have E:=kI (HP3.o c2 (by first|trivial|rfl) h2 rfl h3);obtain rfl:=he.getE h3;clear he;refine leaves_cons (f:=49) (args:=#[.pointer (some ⟨w.heap.size+1+1,0,none⟩),.pointer (some ⟨w.heap.size+1,0,none⟩)]) (by simp) (by simp [go_sem]) ?_;refine (planDef_err (w.heap.size+1+1) (w.heap.size+1) c2 0 h3 [] _ _ _ A2.o A1.o (by omega)).mono ?_;rintro e u' w'' ⟨rfl,rfl,rfl⟩;obtain ⟨wf,hwf⟩:∃ W,W=((w2.setCell ⟨w.heap.size+1+1,0,none⟩ (.int .i64 c2)).setCell ⟨w.heap.size+1,0,none⟩ (.slice none 0 0)):=⟨_,rfl⟩
  have hfe:Blk wf (w.heap.size+1+1) #[.int .i64 c2] 37:=by
   have:=((A2.o).set 0 (.int .i64 c2)).setOther (a:=⟨w.heap.size+1,0,none⟩) (by dsimp only;omega) (.slice none 0 0);rw [hwf];simpa using this
  have hf0:Blk wf (w.heap.size+1) #[.slice none 0 0] 29:=by
   have:=((A1.o).setOther (a:=⟨w.heap.size+1+1,0,none⟩) (by dsimp only;omega) (.int .i64 c2)).set 0 (.slice none 0 0);rw [hwf];simpa using this
  have hxf:Ext w wf:=by rw [hwf];exact ((X.o).set (p:=⟨w.heap.size+1+1,0,none⟩) (by (try dsimp only);omega) _).set (p:=⟨w.heap.size+1,0,none⟩) (by (try dsimp only);omega) _
  rw [← hwf];clear hwf;have HFE:=kI hfe;have HF0:=kI hf0;have HXF:=kI hxf;have ke:=hfe.cell 0;have k0:=hf0.cell 0;simp only [List.getElem?_toArray,List.getElem?_cons_zero] at ke k0;clear hfe hxf hf0;simp [Leaves,settle,results,Tryz.results16,go_sem,errP,ke,k0]
  exact ⟨ResN.mk (OwN.nil _ _) E.o,HXF.o.drew⟩
 subst h3;obtain ⟨rv,rfl,ho⟩:=he.get0;obtain ⟨ra,rc,rfl⟩:=ho.shape;have OW:=kI ho;have E:=kI (HP4.o (by first|trivial|rfl) h2 (by first|trivial|rfl));clear he ho;have qA1:=A1.o.cell;have fA1:=A1.o.free;have lA1:=A1.o.lt;have qA2:=A2.o.cell;have fA2:=A2.o.free;have lA2:=A2.o.lt;go_wp2_with fail;clear qA1 fA1 lA1 qA2 fA2 lA2;obtain ⟨wt,hwt⟩:∃ W,W=(w2.setCell ⟨w.heap.size+1,0,none⟩ (.slice ra (plnV m vals p p.length).length rc)).setCell ⟨w.heap.size+1+1,0,none⟩ (.int .i64 0):=⟨_,rfl⟩
 have hx9:Ext w wt:=by rw [hwt];exact (X.o.set (p:=⟨w.heap.size+1,0,none⟩) (by dsimp only;omega) (.slice ra (plnV m vals p p.length).length rc)).set (p:=⟨w.heap.size+1+1,0,none⟩) (by dsimp only;omega) _
 have hA1:Blk wt (w.heap.size+1) #[(.slice ra (plnV m vals p p.length).length rc)] 29:=by rw [hwt];have:=(A1.o.set 0 (.slice ra (plnV m vals p p.length).length rc)).setOther (a:=⟨w.heap.size+1+1,0,none⟩) (by dsimp only;omega) (.int .i64 0);simpa using this
 have hA2:Blk wt (w.heap.size+1+1) #[.int .i64 0] 37:=by rw [hwt];have:=(A2.o.setOther (a:=⟨w.heap.size+1,0,none⟩) (by dsimp only;omega) (.slice ra (plnV m vals p p.length).length rc)).set 0 (.int .i64 0);simpa using this
 have how:OwN (w.heap.size+1+1+1) wt (.slice ra (plnV m vals p p.length).length rc) (plnV m vals p p.length):=by rw [hwt];exact (OW.o.keeps (keepsR A1.o 0 (.slice ra (plnV m vals p p.length).length rc)) (by decide) (by decide)).keeps (keepsR (A2.o.setOther (a:=⟨w.heap.size+1,0,none⟩) (by dsimp only;omega) (.slice ra (plnV m vals p p.length).length rc)) 0 (.int .i64 0)) (by decide) (by decide)
 rw [← hwt];replace A1:=kI hA1;replace A2:=kI hA2;replace X:=kI hx9;replace OW:=kI how;clear hwt hx9 hA1 hA2 how A0;refine leaves_cons (f:=49) (args:=#[.pointer (some ⟨w.heap.size+1+1,0,none⟩),.pointer (some ⟨w.heap.size+1,0,none⟩)]) (by simp) (by simp [go_sem]) ?_;refine (planDef_ret (w.heap.size+1+1) (w.heap.size+1) _ A2.o).mono ?_;rintro e u' w'' ⟨rfl,rfl,rfl⟩;obtain ⟨wf,hwf⟩:∃ W,W=(wt.setCell ⟨w.heap.size+1+1,0,none⟩ (.int .i64 0)):=⟨_,rfl⟩
 have hfe:Blk wf (w.heap.size+1+1) #[.int .i64 0] 37:=by
  have:=(A2.o).set 0 (.int .i64 0);rw [hwf];simpa using this
 have hf0:Blk wf (w.heap.size+1) #[(.slice ra (plnV m vals p p.length).length rc)] 29:=by
  have:=(A1.o).setOther (a:=⟨w.heap.size+1+1,0,none⟩) (by dsimp only;omega) (.int .i64 0);rw [hwf];simpa using this
 have hxf:Ext w wf:=by rw [hwf];exact (X.o).set (p:=⟨w.heap.size+1+1,0,none⟩) (by (try dsimp only);omega) _
 have OWF:=kI (show OwN (w.heap.size+1+1+1) wf (.slice ra (plnV m vals p p.length).length rc) (plnV m vals p p.length) from by rw [hwf];exact OW.o.keeps (keepsR A2.o 0 (.int .i64 0)) (by decide) (by decide));rw [← hwf];clear hwf;have HFE:=kI hfe;have HF0:=kI hf0;have HXF:=kI hxf;have ke:=hfe.cell 0;have k0:=hf0.cell 0;simp only [List.getElem?_toArray,List.getElem?_cons_zero] at ke k0;clear hfe hxf hf0;simp [Leaves,settle,results,Tryz.results16,go_sem,errP,ke,k0]
 exact ⟨ResN.mk (((OWF.o.ext' (Ext.refl _).drew)).mono (by omega)) E.o,HXF.o.drew⟩
def numS (l:List Int):List RR:=l.map fun (i:Int)=>rep (i:Rat)
theorem numS_len (l:List Int):(numS l).length=l.length:=by simp [numS]
theorem numS_take {l:List Int} {k:Nat} (h:k < l.length):(numS l).take (k+1)=(numS l).take k ++ [rep ((l.getD k 0:Int):Rat)]:=by
 rw [take_snocD _ k zR (by rw [numS_len];exact h)];congr 2
 unfold numS;rw [List.getD_eq_getElem?_getD,List.getElem?_map,List.getD_eq_getElem?_getD (l:=l),List.getElem?_eq_getElem h];rfl
theorem numbers_any (v:Value) (l:List Int) (w:World) (h:RdI .i64 w v l) (hn:l.length≤1000) (hb:∀ i,i < l.length→-1000000≤l.getD i 0∧l.getD i 0≤1000000) :
  Calls Tryz.prog 34 #[v] w fun e w'=>(∃ v',e=.returned v'∧OwN w.heap.size w' v' (numS l))∧Ext w w':=by
 obtain ⟨a,c,rfl,hc,hm,_⟩:=h.get;have HR:=kI h;have HB:=kI hb;have HT:=kI (fun k=>numS_take (l:=l) (k:=k));have HL:=kI (numS_len l);clear h hb;go_enter Tryz.func34,Tryz.ntmps34
 go_wp2_with fail;go_loopw [3,4] (fun v i wr=>∃ k:Nat,k≤l.length∧i=.int .i64 k∧OwN w.heap.size wr v ((numS l).take k)∧Ext w wr) (fun _ i _=>l.length - (intOf i).toNat)
 case atStart=>exact ⟨0,Nat.zero_le _,rfl,OwN.nil _ _,Ext.refl _⟩
 case round=>
  obtain ⟨wk,hwk⟩:∃ W,W=wr:=⟨_,rfl⟩
  subst hwk;obtain ⟨k,hk,rfl,hown,hx⟩:=hrel;have X:=kI hx;have OW:=kI hown;clear hx hown;by_cases hlt:k < l.length
  ·obtain ⟨b,off,rfl,z0,z1⟩:=rdI_at0 (HR.o.ext X.o) hlt;have hbk:=HB.o k hlt;have ht:=HT.o k hlt;obtain ⟨x,hxx⟩:∃ x,x=l.getD k 0:=⟨_,rfl⟩
   rw [← hxx] at z1 hbk ht;have HT2:=kI ht;have hfr:=fun W=>fromR_any x W (by omega) (by omega)
   obtain ⟨r,hr⟩:∃ r,r=rep (x:Rat):=⟨_,rfl⟩
   rw [← hr] at hfr HT2;have HF:=kI hfr;have hlk:((numS l).take k).length=k:=by rw [List.length_take,HL.o];omega
   obtain ⟨ls,hls⟩:∃ ls,ls=(numS l).take k:=⟨_,rfl⟩
   rw [← hls] at OW HT2 hlk;have HLK:=kI hlk;clear hbk ht hxx hr hfr hls hlk;have q1:(0:Int)≤(k:Int):=by omega
   have q2:(k:Int) < (l.length:Int):=by omega
   go_wp2_with fail;refine (HF.o wk).mono ?_;rintro e w2 ⟨⟨v2,rfl,nn⟩,hx2⟩;obtain ⟨s1,s2,s3,s4,rfl⟩:=nn.shape;have EL:=kI (ElN.new nn X.o.size);have OW2:=kI (OwN.ext' OW.o hx2);have X2:Hid (Ext w w2):=kI (X.o.trans hx2);clear nn hx2 z0 z1;go_wp2_with (at_builtin;(refine wpList_append_row w2 rfl _ _ 29 rfl w.heap.size 25 (.agg #[.bool false,.slice none 0 0,.slice none 0 0]) 3 56 Tryz.underlying29 Tryz.infoR rfl (by decide) (ElN.keeps (by decide)) _ _ OW2.o rfl [.bool r.neg,.slice s1 r.num.length s2,.slice s3 r.den.length s4] rfl (by simp [Value.oneCell']) r EL.o rfl (by have:=HLK.o;omega) (by have:=HLK.o;omega) X2.o.size ?_))
   intro g9 cap9 w3 hown hkp;have O3:=kI hown;have X3:Hid (Ext w w3):=kI (Below.trans X2.o (hkp.below X2.o.size));clear hown hkp;go_wp2_with fail;go_roundw
   case rel=>exact ⟨k+1,by omega,by go_num,by rw [HT2.o];exact O3.o,X3.o⟩
   case measure=>simp [intOf];omega
  ·obtain rfl:k=l.length:=by omega
   have q1:¬ (l.length:Int) < (l.length:Int):=by omega
   have hte:(numS l).take l.length=numS l:=List.take_of_length_le (by rw [HL.o];exact Nat.le_refl _);rw [hte] at OW;clear hte;go_wp2_with fail;go_ret;exact ⟨⟨_,rfl,OW.o⟩,X.o⟩
end Go.Proofs.YtfflknbeidihoaaGreat
