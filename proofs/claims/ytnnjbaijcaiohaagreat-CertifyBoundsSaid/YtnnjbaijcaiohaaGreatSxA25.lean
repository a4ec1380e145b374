/- Walks and lemmas. -/
import Derived.Test.YtnnjbaijcaiohaaGreatSxA21
import Derived.Test.YtnnjbaijcaiohaaGreatSxA22
import Derived.Test.YtnnjbaijcaiohaaGreatSxA24
import Derived.Test.YtnnjbaijcaiohaaGreatSxA15
import Derived.Test.YtnnjbaijcaiohaaGreatSxA17
import Derived.Test.YtnnjbaijcaiohaaGreatSxA16
set_option linter.unusedVariables false
set_option linter.unusedSimpArgs false
set_option maxRecDepth 100000
set_option maxHeartbeats 16000000
namespace Go.Proofs.YtnnjbaijcaiohaaGreat
open Go.RowKit
theorem cS.Mx {B b:Nat} {w w':World} {v:Value} {l:List Int} (h:cS B w v l) (kp:fg b w w') (hb:b < B):cS B w' v l:=by
 obtain ⟨hs,h1,h2,h3,h4⟩:=h;refine ⟨hs,⟨h1.1,?_⟩,h2,h3,fun i x hi=>h4 i x hi⟩;rcases h1.2 with hn|⟨g,cap,cur,rfl,hg,hblk,rest⟩
 ·exact .inl hn
 ·exact .inr ⟨g,cap,cur,rfl,hg,kp.blk hblk (by omega),rest⟩
theorem fg.Jf {n o:Nat} {A B:World} (h:fg o A B) (hn:n≤o) (hA:n≤A.heap.size):Below n A B:=⟨h.zero.os,h.zero.tape,h.zero.output,h.zero.size,fun i hi=>h.block i (by omega) (by omega)⟩
theorem ay.iM {α:Type} {e:TypeId} {size:Nat} {El:World→List Value→α→Prop} {B:Nat} {w:World} {v:Value} {l:List α} (h:ay e size El B w v l) {n:Nat} (hn:l.length=n) (h0:0 < n):∃ g c,v=.slice (some ⟨g,0,none⟩) n c:=by
 obtain ⟨a,cap,hv,_,_,hr⟩:=ay.vi h;obtain ⟨x,hx⟩:∃ x,l[0]?=some x:=⟨_,List.getElem?_eq_getElem (by omega)⟩;obtain ⟨b,h',e1,_⟩:=hr 0 x hx;exact ⟨b,cap,by rw [hv,e1,hn]⟩
theorem bT.iM {B:Nat} {w:World} {v:Value} {l:List RR} (h:bT B w v l) {n:Nat} (hn:l.length=n) (h0:0 < n):∃ g c,v=.slice (some ⟨g,0,none⟩) n c:=ay.iM h hn h0
theorem cS.iM {B:Nat} {w:World} {v:Value} {l:List Int} (h:cS B w v l) {n:Nat} (hn:l.length=n) (h0:0 < n):∃ g c,v=.slice (some ⟨g,0,none⟩) n c:=ay.iM h hn h0
theorem Cz {x y:Rat}:dX x y < 0↔x < y:=by
 unfold dX;by_cases h:x < y
 ·rw [if_pos h];exact ⟨fun _=>h,fun _=>by decide⟩
 ·rw [if_neg h];by_cases h2:x=y
  ·rw [if_pos h2];exact ⟨fun h=>absurd h (by decide),fun h3=>absurd h3 h⟩
  ·rw [if_neg h2];exact ⟨fun h=>absurd h (by decide),fun h3=>absurd h3 h⟩
theorem cS.Zq {B:Nat} {w:World} {g n c:Nat} {l:List Int} (h:cS B w (.slice (some ⟨g,0,none⟩) n c) l) {i:Nat} (hi:i < l.length):B≤g∧g < w.heap.size∧w.cell? ⟨g,i,none⟩=some (.int .i64 (l.getD i 0)):=by
 obtain ⟨a,cap,hv,_,_,hr⟩:=ay.vi h;have hl:l[i]?=some (l.getD i 0):=by rw [List.getD_eq_getElem?_getD,List.getElem?_eq_getElem hi];rfl
 obtain ⟨b,h',e1,e2,e3,e4,e5,hel⟩:=hr i _ hl;obtain rfl:h'=[.int .i64 (l.getD i 0)]:=hel;injection hv with hv _ _
 subst e1;injection hv with hv
 injection hv with hv _ _
 subst hv;have x0:=e5 0 (by omega);exact ⟨e2,e3,by simpa using x0⟩
def yu (W:World) (b n:Nat):List Int:=(List.range n).map fun s=>match W.cell? ⟨b,s,none⟩ with|some (.int _ x)=>x|_=>0
theorem uS {W:World} {b n:Nat} {p:List Int} {t:TypeId} (h:af W b (p.map (Value.int .i64)).toArray t) (hn:p.length=n):yu W b n=p:=by
 subst hn;refine List.ext_getElem (by simp [yu]) (fun i h1 h2=>?_);simp only [yu,List.getElem_map,List.getElem_range];rw [h.cell i];simp [h2]
theorem wQ {W:World} {b k:Nat} {p:List Int} {x:Int} {t:TypeId} (h:af W b (p.map (Value.int .i64)).toArray t):af (W.setCell ⟨b,k,none⟩ (.int .i64 x)) b ((p.set k x).map (Value.int .i64)).toArray t:=by
 have e:((p.set k x).map (Value.int .i64)).toArray=(p.map (Value.int .i64)).toArray.setIfInBounds k (.int .i64 x):=by simp [List.map_set]
 rw [e];exact h.set k _
def CA (va:Option Addr) (vn vc vb k An:Nat) (xr yr:RR) (a1:Option Addr) (a2:Nat) (a3:Option Addr) (a4:Nat) (b1:Option Addr) (b2:Nat) (b3:Option Addr) (b4:Nat) (c:Int) (j:Nat) (v:Value) (W:World):Prop:=
 match j with
 | 0=>v=.agg #[.bool xr.neg,.slice a1 xr.num.length a2,.slice a3 xr.den.length a4]
 | 1=>v=.slice va vn vc
 | 2=>v=.int .i64 (k:Nat)
 | 3=>v=.pointer (some ⟨vb,k*3,none⟩)
 | 4=>v=.agg #[.bool yr.neg,.slice b1 yr.num.length b2,.slice b3 yr.den.length b4]
 | 5=>v=.tuple #[.int .i64 c,.int .i64 0]
 | 6=>v=.tuple #[.int .i64 c,.int .i64 0]
 | 7=>v=.int .i64 c
 | 8=>v=.int .i64 0
 | 9=>v=.int .i64 c
 | 10=>v=.int .i64 0
 | _=>True
theorem zQ {va:Option Addr} {vn vc vb k An:Nat} {xr yr:RR} {a1:Option Addr} {a2:Nat} {a3:Option Addr} {a4:Nat} {b1:Option Addr} {b2:Nat} {b3:Option Addr} {b4:Nat} {c:Int} {j:Nat} {v:Value} {W W':World} (h:CA va vn vc vb k An xr yr a1 a2 a3 a4 b1 b2 b3 b4 c j v W) (x:Ext W W'):CA va vn vc vb k An xr yr a1 a2 a3 a4 b1 b2 b3 b4 c j v W':=by
 match j,h with
 | 0,h=>exact h
 | 1,h=>exact h
 | 2,h=>exact h
 | 3,h=>exact h
 | 4,h=>exact h
 | 5,h=>exact h
 | 6,h=>exact h
 | 7,h=>exact h
 | 8,h=>exact h
 | 9,h=>exact h
 | 10,h=>exact h
 | _+11,_=>trivial
def CD (PB n k g gn gc:Nat) (xg:Int) (j:Nat) (v:Value) (W:World):Prop:=
 match j with
 | 0=>v=.slice (some ⟨PB,0,none⟩) n n
 | 1=>v=.int .i64 (k:Nat)
 | 2=>v=.slice (some ⟨g,0,none⟩) gn gc
 | 3=>v=.int .i64 (k:Nat)
 | 4=>v=.pointer (some ⟨g,k,none⟩)
 | 5=>v=.int .i64 xg
 | 6=>v=.pointer (some ⟨PB,k,none⟩)
 | _=>True
theorem zS {PB n k g gn gc:Nat} {xg:Int} {j:Nat} {v:Value} {W W':World} (h:CD PB n k g gn gc xg j v W) (x:Ext W W'):CD PB n k g gn gc xg j v W':=by
 match j,h with
 | 0,h=>exact h
 | 1,h=>exact h
 | 2,h=>exact h
 | 3,h=>exact h
 | 4,h=>exact h
 | 5,h=>exact h
 | 6,h=>exact h
 | _+7,_=>trivial
theorem uT (mv:Value) (m:MD) (w:World) (hm:eK w mv m) (hlm:iO m) :
  Calls Tryz.prog 33 #[mv] w fun e w'=>lD w w' e (iQ m)∧Ext w w':=by
 have qe:=kI (fun W mv (h:eK W mv m)=>iI mv m W h hlm);have Oz:=kI (fun W mv pv (p:List Int) (h:eK W mv m) (k:aV .i64 W pv p) (h1:ew m=0) (h2:kD m p=0)=>pj mv pv m p W h k hlm h1 h2);have EN:=kI (fun W mv vv (l:List RR) (h:eK W mv m) (k:ct W vv l) (h2:bY l)=>iF mv vv m l W h k hlm h2);have HM:=kI hm;obtain ⟨m1,n1,m2,n2,m3,n3,rfl,-,-⟩:=hm;clear hlm;have bb0:=((((af.new w #[.bool m.ag.neg,.slice m1 m.ag.num.length n1,.slice m2 m.ag.den.length n2,.slice m3 m.states.length n3] 28).alloc (.cells #[.slice none 0 0] 29)).alloc (.cells #[.slice none 0 0] 53)).alloc (.cells #[.int .i64 0] 37));have bb1:=(((af.new (w.alloc (.cells #[.bool m.ag.neg,.slice m1 m.ag.num.length n1,.slice m2 m.ag.den.length n2,.slice m3 m.states.length n3] 28)) #[.slice none 0 0] 29).alloc (.cells #[.slice none 0 0] 53)).alloc (.cells #[.int .i64 0] 37));have bb2:=((af.new ((w.alloc (.cells #[.bool m.ag.neg,.slice m1 m.ag.num.length n1,.slice m2 m.ag.den.length n2,.slice m3 m.states.length n3] 28)).alloc (.cells #[.slice none 0 0] 29)) #[.slice none 0 0] 53).alloc (.cells #[.int .i64 0] 37));have bb3:=(af.new (((w.alloc (.cells #[.bool m.ag.neg,.slice m1 m.ag.num.length n1,.slice m2 m.ag.den.length n2,.slice m3 m.states.length n3] 28)).alloc (.cells #[.slice none 0 0] 29)).alloc (.cells #[.slice none 0 0] 53)) #[.int .i64 0] 37);rw [World.size_alloc] at bb1;rw [World.size_alloc,World.size_alloc] at bb2;rw [World.size_alloc,World.size_alloc,World.size_alloc] at bb3;have x0:Ext w ((((w.alloc (.cells #[.bool m.ag.neg,.slice m1 m.ag.num.length n1,.slice m2 m.ag.den.length n2,.slice m3 m.states.length n3] 28)).alloc (.cells #[.slice none 0 0] 29)).alloc (.cells #[.slice none 0 0] 53)).alloc (.cells #[.int .i64 0] 37)):=(((((Ext.refl w).alloc _).alloc _).alloc _).alloc _);have A0:=kI bb0;have A1:=kI bb1;have A2:=kI bb2;have A3:=kI bb3;have X:=kI x0;clear x0 bb0 bb1 bb2 bb3;have Dl:=HM;replace HM:=kI (HM.o.ext X.o);have hmf:∀ (fn:Fn) (first cap:Array Value) (w:World),(Instr.makeFunc fn first cap).run Tryz.prog w=.ok (.func fn first cap) w:=fun _ _ _ _=>rfl
 go_enter_defers Tryz.func33,Tryz.ntmps33
 obtain ⟨aE,fA0,aC⟩:=A0.o.q3;obtain ⟨aQ,aR,lA1⟩:=A1.o.q3;obtain ⟨bB,bC,lA2⟩:=A2.o.q3;obtain ⟨jn,fA3,lA3⟩:=A3.o.q3;go_wp2_with fail;clear hmf;refine (qe.o _ _ HM.o).mono ?_;rintro e w1 ⟨rfl,hx⟩;clear aE fA0 aC aQ aR lA1 bB bC lA2 jn fA3 lA3;replace HM:=kI (HM.o.ext hx);replace A0:=kI (A0.o.ext hx);replace A1:=kI (A1.o.ext hx);replace A2:=kI (A2.o.ext hx);replace A3:=kI (A3.o.ext hx);replace X:=kI (X.o.trans hx);clear hx qe;obtain ⟨c1,hc1⟩:=gN (fL m);rw [← hc1];by_cases h1:c1=0
 rotate_left
 ·have E:=kI (wP hc1.symm h1);have q1:(c1 != 0)=true:=by simpa using h1
  have H1:=kI h1;clear hc1 h1;obtain ⟨aQ,aR,lA1⟩:=A1.o.q3;obtain ⟨bB,bC,lA2⟩:=A2.o.q3;obtain ⟨jn,fA3,lA3⟩:=A3.o.q3;go_wp2_with fail;clear aQ aR lA1 bB bC lA2 jn fA3 lA3;obtain ⟨wr,hwr⟩:=gN ((((w1.setCell ⟨w.heap.size+1,0,none⟩ (.slice none 0 0)).setCell ⟨w.heap.size+1+1,0,none⟩ (.slice none 0 0)).setCell ⟨w.heap.size+1+1+1,0,none⟩ (.int .i64 c1)));have ha1:af wr (w.heap.size+1) #[.slice none 0 0] 29:=by
   have:=((A1.o.set 0 (.slice none 0 0)).setOther (a:=⟨w.heap.size+1+1,0,none⟩) (by dsimp only;omega) (.slice none 0 0)).setOther (a:=⟨w.heap.size+1+1+1,0,none⟩) (by dsimp only;omega) (.int .i64 c1);rw [hwr];simpa using this
  have ha2:af wr (w.heap.size+1+1) #[.slice none 0 0] 53:=by
   have:=((A2.o.setOther (a:=⟨w.heap.size+1,0,none⟩) (by dsimp only;omega) (.slice none 0 0)).set 0 (.slice none 0 0)).setOther (a:=⟨w.heap.size+1+1+1,0,none⟩) (by dsimp only;omega) (.int .i64 c1);rw [hwr];simpa using this
  have ul:af wr (w.heap.size+1+1+1) #[.int .i64 c1] 37:=by
   have:=((A3.o.setOther (a:=⟨w.heap.size+1,0,none⟩) (by dsimp only;omega) (.slice none 0 0)).setOther (a:=⟨w.heap.size+1+1,0,none⟩) (by dsimp only;omega) (.slice none 0 0)).set 0 (.int .i64 c1);rw [hwr];simpa using this
  have hxr:Ext w wr:=by rw [hwr];exact ((X.o.set (p:=⟨w.heap.size+1,0,none⟩) (by dsimp only;omega) _).set (p:=⟨w.heap.size+1+1,0,none⟩) (by dsimp only;omega) _).set (p:=⟨w.heap.size+1+1+1,0,none⟩) (by dsimp only;omega) _
  rw [← hwr];clear hwr;replace A1:=kI ha1;replace A2:=kI ha2;replace A3:=kI ul;replace X:=kI hxr;clear ha1 ha2 ul hxr;refine leaves_cons (f:=93) (args:=#[.pointer (some ⟨w.heap.size+1+1+1,0,none⟩),.pointer (some ⟨w.heap.size+1,0,none⟩),.pointer (some ⟨w.heap.size+1+1,0,none⟩)]) (by simp) (by simp [go_sem]) ?_;refine (jx (w.heap.size+1+1+1) (w.heap.size+1) (w.heap.size+1+1) c1 H1.o _ _ _ _ _ A3.o A1.o (by omega) A2.o (by omega) (by omega)).mono ?_;rintro e u' w'' ⟨rfl,rfl,rfl⟩;obtain ⟨wf,hwf⟩:=gN ((((wr.setCell ⟨w.heap.size+1+1+1,0,none⟩ (.int .i64 c1)).setCell ⟨w.heap.size+1,0,none⟩ (.slice none 0 0)).setCell ⟨w.heap.size+1+1,0,none⟩ (.slice none 0 0)));have hfe:af wf (w.heap.size+1+1+1) #[.int .i64 c1] 37:=by
   have:=(((A3.o).set 0 (.int .i64 c1)).setOther (a:=⟨w.heap.size+1,0,none⟩) (by dsimp only;omega) (.slice none 0 0)).setOther (a:=⟨w.heap.size+1+1,0,none⟩) (by dsimp only;omega) (.slice none 0 0);rw [hwf];simpa using this
  have hf0:af wf (w.heap.size+1) #[.slice none 0 0] 29:=by
   have:=(((A1.o).setOther (a:=⟨w.heap.size+1+1+1,0,none⟩) (by dsimp only;omega) (.int .i64 c1)).set 0 (.slice none 0 0)).setOther (a:=⟨w.heap.size+1+1,0,none⟩) (by dsimp only;omega) (.slice none 0 0);rw [hwf];simpa using this
  have hf1:af wf (w.heap.size+1+1) #[.slice none 0 0] 53:=by
   have:=(((A2.o).setOther (a:=⟨w.heap.size+1+1+1,0,none⟩) (by dsimp only;omega) (.int .i64 c1)).setOther (a:=⟨w.heap.size+1,0,none⟩) (by dsimp only;omega) (.slice none 0 0)).set 0 (.slice none 0 0);rw [hwf];simpa using this
  have cp:Ext w wf:=by rw [hwf];exact (((X.o).set (p:=⟨w.heap.size+1+1+1,0,none⟩) (by (try dsimp only);omega) _).set (p:=⟨w.heap.size+1,0,none⟩) (by (try dsimp only);omega) _).set (p:=⟨w.heap.size+1+1,0,none⟩) (by (try dsimp only);omega) _
  rw [← hwf];clear hwf;have Fd:=kI hfe;have Fe:=kI hf0;have KG:=kI hf1;have d5:=kI cp;have ke:=hfe.cell 0;have k0:=hf0.cell 0;have k1:=hf1.cell 0;simp only [List.getElem?_toArray,List.getElem?_cons_zero] at ke k0 k1;clear hfe cp hf0 hf1;simp [Leaves,settle,results,Tryz.results33,go_sem,aY,ke,k0,k1];exact ⟨lD.mk (bT.nil _ _) (cS.nil _ _) E.o,d5.o.drew⟩
 subst h1;have H1:=kI hc1.symm;clear hc1;by_cases h2:8 < m.states.length
 ·have E:=kI (sW H1.o h2);have q2:(8:Int) < (m.states.length:Int):=by omega
  obtain ⟨aE,fA0,aC⟩:=A0.o.q3;obtain ⟨aQ,aR,lA1⟩:=A1.o.q3;obtain ⟨bB,bC,lA2⟩:=A2.o.q3;obtain ⟨jn,fA3,lA3⟩:=A3.o.q3;go_wp2_with fail;clear aE fA0 aC aQ aR lA1 bB bC lA2 jn fA3 lA3;obtain ⟨wr,hwr⟩:=gN ((((w1.setCell ⟨w.heap.size+1,0,none⟩ (.slice none 0 0)).setCell ⟨w.heap.size+1+1,0,none⟩ (.slice none 0 0)).setCell ⟨w.heap.size+1+1+1,0,none⟩ (.int .i64 4)));have ha1:af wr (w.heap.size+1) #[.slice none 0 0] 29:=by
   have:=((A1.o.set 0 (.slice none 0 0)).setOther (a:=⟨w.heap.size+1+1,0,none⟩) (by dsimp only;omega) (.slice none 0 0)).setOther (a:=⟨w.heap.size+1+1+1,0,none⟩) (by dsimp only;omega) (.int .i64 4);rw [hwr];simpa using this
  have ha2:af wr (w.heap.size+1+1) #[.slice none 0 0] 53:=by
   have:=((A2.o.setOther (a:=⟨w.heap.size+1,0,none⟩) (by dsimp only;omega) (.slice none 0 0)).set 0 (.slice none 0 0)).setOther (a:=⟨w.heap.size+1+1+1,0,none⟩) (by dsimp only;omega) (.int .i64 4);rw [hwr];simpa using this
  have ul:af wr (w.heap.size+1+1+1) #[.int .i64 4] 37:=by
   have:=((A3.o.setOther (a:=⟨w.heap.size+1,0,none⟩) (by dsimp only;omega) (.slice none 0 0)).setOther (a:=⟨w.heap.size+1+1,0,none⟩) (by dsimp only;omega) (.slice none 0 0)).set 0 (.int .i64 4);rw [hwr];simpa using this
  have hxr:Ext w wr:=by rw [hwr];exact ((X.o.set (p:=⟨w.heap.size+1,0,none⟩) (by dsimp only;omega) _).set (p:=⟨w.heap.size+1+1,0,none⟩) (by dsimp only;omega) _).set (p:=⟨w.heap.size+1+1+1,0,none⟩) (by dsimp only;omega) _
  rw [← hwr];clear hwr;replace A1:=kI ha1;replace A2:=kI ha2;replace A3:=kI ul;replace X:=kI hxr;clear ha1 ha2 ul hxr;refine leaves_cons (f:=93) (args:=#[.pointer (some ⟨w.heap.size+1+1+1,0,none⟩),.pointer (some ⟨w.heap.size+1,0,none⟩),.pointer (some ⟨w.heap.size+1+1,0,none⟩)]) (by simp) (by simp [go_sem]) ?_;refine (jx (w.heap.size+1+1+1) (w.heap.size+1) (w.heap.size+1+1) 4 (by decide) _ _ _ _ _ A3.o A1.o (by omega) A2.o (by omega) (by omega)).mono ?_;rintro e u' w'' ⟨rfl,rfl,rfl⟩;obtain ⟨wf,hwf⟩:=gN ((((wr.setCell ⟨w.heap.size+1+1+1,0,none⟩ (.int .i64 4)).setCell ⟨w.heap.size+1,0,none⟩ (.slice none 0 0)).setCell ⟨w.heap.size+1+1,0,none⟩ (.slice none 0 0)));have hfe:af wf (w.heap.size+1+1+1) #[.int .i64 4] 37:=by
   have:=(((A3.o).set 0 (.int .i64 4)).setOther (a:=⟨w.heap.size+1,0,none⟩) (by dsimp only;omega) (.slice none 0 0)).setOther (a:=⟨w.heap.size+1+1,0,none⟩) (by dsimp only;omega) (.slice none 0 0);rw [hwf];simpa using this
  have hf0:af wf (w.heap.size+1) #[.slice none 0 0] 29:=by
   have:=(((A1.o).setOther (a:=⟨w.heap.size+1+1+1,0,none⟩) (by dsimp only;omega) (.int .i64 4)).set 0 (.slice none 0 0)).setOther (a:=⟨w.heap.size+1+1,0,none⟩) (by dsimp only;omega) (.slice none 0 0);rw [hwf];simpa using this
  have hf1:af wf (w.heap.size+1+1) #[.slice none 0 0] 53:=by
   have:=(((A2.o).setOther (a:=⟨w.heap.size+1+1+1,0,none⟩) (by dsimp only;omega) (.int .i64 4)).setOther (a:=⟨w.heap.size+1,0,none⟩) (by dsimp only;omega) (.slice none 0 0)).set 0 (.slice none 0 0);rw [hwf];simpa using this
  have cp:Ext w wf:=by rw [hwf];exact (((X.o).set (p:=⟨w.heap.size+1+1+1,0,none⟩) (by (try dsimp only);omega) _).set (p:=⟨w.heap.size+1,0,none⟩) (by (try dsimp only);omega) _).set (p:=⟨w.heap.size+1+1,0,none⟩) (by (try dsimp only);omega) _
  rw [← hwf];clear hwf;have Fd:=kI hfe;have Fe:=kI hf0;have KG:=kI hf1;have d5:=kI cp;have ke:=hfe.cell 0;have k0:=hf0.cell 0;have k1:=hf1.cell 0;simp only [List.getElem?_toArray,List.getElem?_cons_zero] at ke k0 k1;clear hfe cp hf0 hf1;simp [Leaves,settle,results,Tryz.results33,go_sem,aY,ke,k0,k1];exact ⟨lD.mk (bT.nil _ _) (cS.nil _ _) E.o,d5.o.drew⟩
 have q2:¬ (8:Int) < (m.states.length:Int):=by omega
 have hmd:=(mV H1.o).1;have lu:=kI hmd;have dQ:=kI (yt hmd (mV H1.o).2);have E3:=kI (sX H1.o h2);obtain ⟨n,hn⟩:=gN (m.states.length);have HN:=kI hn;have Kg:n≤8:=by omega
 have PU:=kI Kg;have Sl:=kI (show 0 < n from by rw [hn];exact Nat.pos_of_ne_zero (bu hmd).2.1);obtain ⟨CC,vX⟩:=gN (madeCells (Value.int .i64 0).cells (n*1));have nL:=kI vX;have GF:=kI (show (#[.bool m.ag.neg,.slice m1 m.ag.num.length n1,.slice m2 m.ag.den.length n2,.slice m3 m.states.length n3]:Array Value)=#[.bool m.ag.neg,.slice m1 m.ag.num.length n1,.slice m2 m.ag.den.length n2,.slice m3 n n3] from by rw [hn]);rw [← hn] at q2;rw [GF.o] at A0;clear h2 hmd hn vX H1;obtain ⟨aE,fA0,aC⟩:=A0.o.q3;obtain ⟨aQ,aR,lA1⟩:=A1.o.q3;obtain ⟨bB,bC,lA2⟩:=A2.o.q3;obtain ⟨jn,fA3,lA3⟩:=A3.o.q3;go_wp2_with (at_make;(refine gU rfl _ _ rfl n rfl rfl Tryz.underlying53 Tryz.nP (by omega) (by omega) CC (by exact nL.o.symm) ?_))
 clear aE fA0 aC aQ aR lA1 bB bC lA2 jn fA3 lA3;clear q2 Kg;obtain ⟨PB,Sm⟩:=gN (w1.heap.size);rw [← Sm];have b0:=(A0.o.setOther (a:=⟨w.heap.size+1+1,0,none⟩) (by dsimp only;omega) (.slice (some ⟨PB,0,none⟩) n n)).alloc (.cells CC 3);have b1:=(A1.o.setOther (a:=⟨w.heap.size+1+1,0,none⟩) (by dsimp only;omega) (.slice (some ⟨PB,0,none⟩) n n)).alloc (.cells CC 3);have b2:=(A2.o.set 0 (.slice (some ⟨PB,0,none⟩) n n)).alloc (.cells CC 3);have b3:=(A3.o.setOther (a:=⟨w.heap.size+1+1,0,none⟩) (by dsimp only;omega) (.slice (some ⟨PB,0,none⟩) n n)).alloc (.cells CC 3);have b4:=af.new (w1.setCell ⟨w.heap.size+1+1,0,none⟩ (.slice (some ⟨PB,0,none⟩) n n)) CC 3;rw [World.size_setCell,← Sm] at b4;have hpl:w.heap.size+4≤PB:=by have:=A3.o.lt;omega
 have hx0:=(X.o.set (p:=⟨w.heap.size+1+1,0,none⟩) (by dsimp only;omega) (.slice (some ⟨PB,0,none⟩) n n)).alloc (.cells CC 3);obtain ⟨wb,hwb⟩:=gN ((w1.setCell ⟨w.heap.size+1+1,0,none⟩ (.slice (some ⟨PB,0,none⟩) n n)).alloc (.cells CC 3));have e0:af wb (w.heap.size) #[.bool m.ag.neg,.slice m1 m.ag.num.length n1,.slice m2 m.ag.den.length n2,.slice m3 n n3] 28:=by rw [hwb];exact b0
 have e1:af wb (w.heap.size+1) #[.slice none 0 0] 29:=by rw [hwb];exact b1
 have e2:af wb (w.heap.size+1+1) #[.slice (some ⟨PB,0,none⟩) n n] 53:=by rw [hwb];simpa using b2
 have e3:af wb (w.heap.size+1+1+1) #[.int .i64 0] 37:=by rw [hwb];exact b3
 have e4:af wb PB (((List.replicate n (0:Int))).map (Value.int .i64)).toArray 3:=by
  rw [hwb,← BE,← nL.o];exact b4
 have e5:Ext w wb:=by rw [hwb];exact hx0
 rw [← hwb];generalize (decide ((8:Int) < (n:Int)))=bq
 replace A0:=kI e0;replace A1:=kI e1;replace A2:=kI e2;replace A3:=kI e3;replace X:=kI e5;have PO:=kI e4;have mJ:=kI hpl;clear b0 b1 b2 b3 b4 e0 e1 e2 e3 e4 e5 hx0 hwb Sm hpl HM nL;go_loopw [] (fun wr=>∃ (p:List Int) (vv:Value),fd m p∧iQ m=optG m p∧af wr (w.heap.size) #[.bool m.ag.neg,.slice m1 m.ag.num.length n1,.slice m2 m.ag.den.length n2,.slice m3 n n3] 28∧af wr (w.heap.size+1) #[vv] 29∧af wr (w.heap.size+1+1) #[.slice (some ⟨PB,0,none⟩) n n] 53∧af wr (w.heap.size+1+1+1) #[.int .i64 0] 37∧af wr PB (p.map (Value.int .i64)).toArray 3∧Ext w wr) (fun wr=>vo m (yu wr PB n))
 case atStart=>exact ⟨List.replicate n 0,.slice none 0 0,by rw [HN.o];exact pI lu.o,by rw [HN.o];exact E3.o,A0.o,A1.o,A2.o,A3.o,PO.o,X.o⟩
 case round=>
  obtain ⟨wi,hwi⟩:=gN (wr);subst hwi;clear A0 A1 A2 A3 PO X E3;obtain ⟨p,vv,hpv,hop,ha0,ha1,ha2,ul,hpo,hx⟩:=hrel;have I3:=kI hpv;have Jg:=kI hop;have A0:=kI ha0;have A1:=kI ha1;have A2:=kI ha2;have A3:=kI ul;have PO:=kI hpo;have X:=kI hx;have hpn:p.length=n:=by rw [HN.o];exact hpv.1
  have I2:=kI hpn;have Ve:=jt p n hpo hpn (by have:=PU.o;omega);have OF:=kI Ve;have Zr:=kI (uS hpo hpn);have pR:=kI (Dl.o.ext hx);rw [GF.o] at pR;clear hpv hop ha0 ha1 ha2 ul hpo hx hpn Ve;obtain ⟨aE,fA0,aC⟩:=A0.o.q3;obtain ⟨aQ,aR,lA1⟩:=A1.o.q3;obtain ⟨bB,bC,lA2⟩:=A2.o.q3;obtain ⟨jn,fA3,lA3⟩:=A3.o.q3;have Zs:=kI (show PB < wi.heap.size from PO.o.lt);go_wp2_with fail;refine (Oz.o _ _ _ p pR.o OF.o lu.o (sV I3.o)).mono ?_;rintro e mL ⟨he,hx⟩;clear aE fA0 aC aQ aR lA1 bB bC lA2 jn fA3 lA3;replace A0:=kI (A0.o.ext hx);replace A1:=kI (A1.o.ext hx);replace A2:=kI (A2.o.ext hx);replace A3:=kI (A3.o.ext hx);replace PO:=kI (PO.o.ext hx);replace pR:=kI (pR.o.ext hx);replace OF:=kI (OF.o.ext hx);replace X:=kI (X.o.trans hx);clear hx;obtain ⟨S2,hS2⟩:=gN (ax m p);rw [← hS2] at he;have HS:=kI hS2.symm;have HSL:=kI (fM m p);obtain ⟨vs,c3⟩:=S2;dsimp only at he;clear hS2;by_cases h4:c3=0
  rotate_left
  ·obtain rfl:=he.oX h4;have E:=kI (show iQ m=([],[],c3) from by rw [Jg.o];exact rA (by rw [HS.o]) h4);have H4:=kI h4;clear he h4;refine leaves_cons (f:=93) (args:=#[.pointer (some ⟨w.heap.size+1+1+1,0,none⟩),.pointer (some ⟨w.heap.size+1,0,none⟩),.pointer (some ⟨w.heap.size+1+1,0,none⟩)]) (by simp) (by simp [go_sem]) ?_;refine (kr (w.heap.size+1+1+1) (w.heap.size+1) (w.heap.size+1+1) c3 0 H4.o [] _ _ _ _ _ A3.o A1.o (by omega) A2.o (by omega) (by omega)).mono ?_;rintro e u' w'' ⟨rfl,rfl,rfl⟩;obtain ⟨wf,hwf⟩:=gN ((((mL.setCell ⟨w.heap.size+1+1+1,0,none⟩ (.int .i64 c3)).setCell ⟨w.heap.size+1,0,none⟩ (.slice none 0 0)).setCell ⟨w.heap.size+1+1,0,none⟩ (.slice none 0 0)));have hfe:af wf (w.heap.size+1+1+1) #[.int .i64 c3] 37:=by
    have:=(((A3.o).set 0 (.int .i64 c3)).setOther (a:=⟨w.heap.size+1,0,none⟩) (by dsimp only;omega) (.slice none 0 0)).setOther (a:=⟨w.heap.size+1+1,0,none⟩) (by dsimp only;omega) (.slice none 0 0);rw [hwf];simpa using this
   have hf0:af wf (w.heap.size+1) #[.slice none 0 0] 29:=by
    have:=(((A1.o).setOther (a:=⟨w.heap.size+1+1+1,0,none⟩) (by dsimp only;omega) (.int .i64 c3)).set 0 (.slice none 0 0)).setOther (a:=⟨w.heap.size+1+1,0,none⟩) (by dsimp only;omega) (.slice none 0 0);rw [hwf];simpa using this
   have hf1:af wf (w.heap.size+1+1) #[.slice none 0 0] 53:=by
    have:=(((A2.o).setOther (a:=⟨w.heap.size+1+1+1,0,none⟩) (by dsimp only;omega) (.int .i64 c3)).setOther (a:=⟨w.heap.size+1,0,none⟩) (by dsimp only;omega) (.slice none 0 0)).set 0 (.slice none 0 0);rw [hwf];simpa using this
   have cp:Ext w wf:=by rw [hwf];exact (((X.o).set (p:=⟨w.heap.size+1+1+1,0,none⟩) (by (try dsimp only);omega) _).set (p:=⟨w.heap.size+1,0,none⟩) (by (try dsimp only);omega) _).set (p:=⟨w.heap.size+1+1,0,none⟩) (by (try dsimp only);omega) _
   rw [← hwf];clear hwf;have Fd:=kI hfe;have Fe:=kI hf0;have KG:=kI hf1;have d5:=kI cp;have ke:=hfe.cell 0;have k0:=hf0.cell 0;have k1:=hf1.cell 0;simp only [List.getElem?_toArray,List.getElem?_cons_zero] at ke k0 k1;clear hfe cp hf0 hf1;simp [Leaves,settle,results,Tryz.results33,go_sem,aY,ke,k0,k1];exact ⟨lD.mk (bT.nil _ _) (cS.nil _ _) E.o,d5.o.drew⟩
  subst h4;obtain ⟨rv,rfl,ho⟩:=he.oW;have hvn:vs.length=n:=by rw [HN.o];exact (er lu.o I3.o HS.o).1
  obtain ⟨vb,vc,rfl⟩:=bT.iM ho hvn Sl.o;have OV:=kI ho;have Vf:=kI hvn;rw [HS.o] at HSL;have Zt:=kI (show w.heap.size≤wi.heap.size from by have:=A3.o.lt;have:=Zs.o;have:=mJ.o;omega);clear he ho hvn;obtain ⟨aE,fA0,aC⟩:=A0.o.q3;obtain ⟨aQ,aR,lA1⟩:=A1.o.q3;obtain ⟨bB,bC,lA2⟩:=A2.o.q3;obtain ⟨jn,fA3,lA3⟩:=A3.o.q3;go_wp2_with fail;clear aE fA0 aC aQ aR lA1 bB bC lA2 jn fA3 lA3;obtain ⟨wc,hwc⟩:=gN (mL.setCell ⟨w.heap.size+1,0,none⟩ (.slice (some ⟨vb,0,none⟩) n vc));have e0:af wc (w.heap.size) #[.bool m.ag.neg,.slice m1 m.ag.num.length n1,.slice m2 m.ag.den.length n2,.slice m3 n n3] 28:=by rw [hwc];exact A0.o.setOther (a:=⟨w.heap.size+1,0,none⟩) (by dsimp only;omega) _
  have e1:af wc (w.heap.size+1) #[.slice (some ⟨vb,0,none⟩) n vc] 29:=by rw [hwc];have:=A1.o.set 0 (.slice (some ⟨vb,0,none⟩) n vc);simpa using this
  have e2:af wc (w.heap.size+1+1) #[.slice (some ⟨PB,0,none⟩) n n] 53:=by rw [hwc];exact A2.o.setOther (a:=⟨w.heap.size+1,0,none⟩) (by dsimp only;omega) _
  have e3:af wc (w.heap.size+1+1+1) #[.int .i64 0] 37:=by rw [hwc];exact A3.o.setOther (a:=⟨w.heap.size+1,0,none⟩) (by dsimp only;omega) _
  have e4:af wc PB (p.map (Value.int .i64)).toArray 3:=by rw [hwc];exact PO.o.setOther (a:=⟨w.heap.size+1,0,none⟩) (by have:=mJ.o;dsimp only;omega) _
  have e5:Ext w wc:=by rw [hwc];exact X.o.set (p:=⟨w.heap.size+1,0,none⟩) (by dsimp only;omega) _
  have e6:bT wi.heap.size wc (.slice (some ⟨vb,0,none⟩) n vc) vs:=by rw [hwc];exact OV.o.keeps (ak A1.o 0 _) (by decide) (by decide)
  rw [← hwc];replace A0:=kI e0;replace A1:=kI e1;replace A2:=kI e2;replace A3:=kI e3;replace PO:=kI e4;replace X:=kI e5;replace OV:=kI e6;replace pR:=kI (show eK wc (.agg #[.bool m.ag.neg,.slice m1 m.ag.num.length n1,.slice m2 m.ag.den.length n2,.slice m3 n n3]) m from by rw [← GF.o];exact Dl.o.ext X.o);clear e0 e1 e2 e3 e4 e5 e6 hwc OF;have WC:=kI (show PB < wc.heap.size from PO.o.lt);obtain ⟨aE,fA0,aC⟩:=A0.o.q3;obtain ⟨aQ,aR,lA1⟩:=A1.o.q3;obtain ⟨bB,bC,lA2⟩:=A2.o.q3;obtain ⟨jn,fA3,lA3⟩:=A3.o.q3;go_wp2_with fail;refine (EN.o _ _ _ vs pR.o OV.o.rd HSL.o).mono ?_;rintro e w12 ⟨he,hx⟩;clear aE fA0 aC aQ aR lA1 bB bC lA2 jn fA3 lA3;replace A0:=kI (A0.o.ext hx);replace A1:=kI (A1.o.ext hx);replace A2:=kI (A2.o.ext hx);replace A3:=kI (A3.o.ext hx);replace PO:=kI (PO.o.ext hx);replace pR:=kI (pR.o.ext hx);replace X:=kI (X.o.trans hx);replace OV:=kI (OV.o.ext' hx);have XC:=kI hx.size;clear hx;obtain ⟨nv,gv,rfl,on,og⟩:=he;obtain ⟨nx,gr,c5,hB⟩:∃ a b c,ah m vs=(a,b,c):=⟨_,_,_,rfl⟩;rw [hB] at on og ⊢;dsimp only at on og ⊢;have mY:=kI hB;clear hB;by_cases h5:c5=0
  rotate_left
  ·have H5:=kI h5;have E:=kI (show iQ m=([],[],c5) from by rw [Jg.o];exact rB HS.o (by rw [mY.o]) h5);clear h5 on og;obtain ⟨aE,fA0,aC⟩:=A0.o.q3;obtain ⟨aQ,aR,lA1⟩:=A1.o.q3;obtain ⟨bB,bC,lA2⟩:=A2.o.q3;obtain ⟨jn,fA3,lA3⟩:=A3.o.q3;go_wp2_with fail;refine (bp _ _ _ _ _ _ _ _ rfl H5.o _).mono ?_;rintro e Fm ⟨rfl,hx⟩;clear aE fA0 aC aQ aR lA1 bB bC lA2 jn fA3 lA3;replace A0:=kI (A0.o.ext hx);replace A1:=kI (A1.o.ext hx);replace A2:=kI (A2.o.ext hx);replace A3:=kI (A3.o.ext hx);replace PO:=kI (PO.o.ext hx);replace pR:=kI (pR.o.ext hx);replace X:=kI (X.o.trans hx);clear hx;refine leaves_cons (f:=93) (args:=#[.pointer (some ⟨w.heap.size+1+1+1,0,none⟩),.pointer (some ⟨w.heap.size+1,0,none⟩),.pointer (some ⟨w.heap.size+1+1,0,none⟩)]) (by simp) (by simp [go_sem]) ?_;refine (kr (w.heap.size+1+1+1) (w.heap.size+1) (w.heap.size+1+1) c5 0 H5.o [] _ _ _ _ _ A3.o A1.o (by omega) A2.o (by omega) (by omega)).mono ?_;rintro e u' w'' ⟨rfl,rfl,rfl⟩;obtain ⟨wf,hwf⟩:=gN ((((Fm.setCell ⟨w.heap.size+1+1+1,0,none⟩ (.int .i64 c5)).setCell ⟨w.heap.size+1,0,none⟩ (.slice none 0 0)).setCell ⟨w.heap.size+1+1,0,none⟩ (.slice none 0 0)));have hfe:af wf (w.heap.size+1+1+1) #[.int .i64 c5] 37:=by
    have:=(((A3.o).set 0 (.int .i64 c5)).setOther (a:=⟨w.heap.size+1,0,none⟩) (by dsimp only;omega) (.slice none 0 0)).setOther (a:=⟨w.heap.size+1+1,0,none⟩) (by dsimp only;omega) (.slice none 0 0);rw [hwf];simpa using this
   have hf0:af wf (w.heap.size+1) #[.slice none 0 0] 29:=by
    have:=(((A1.o).setOther (a:=⟨w.heap.size+1+1+1,0,none⟩) (by dsimp only;omega) (.int .i64 c5)).set 0 (.slice none 0 0)).setOther (a:=⟨w.heap.size+1+1,0,none⟩) (by dsimp only;omega) (.slice none 0 0);rw [hwf];simpa using this
   have hf1:af wf (w.heap.size+1+1) #[.slice none 0 0] 53:=by
    have:=(((A2.o).setOther (a:=⟨w.heap.size+1+1+1,0,none⟩) (by dsimp only;omega) (.int .i64 c5)).setOther (a:=⟨w.heap.size+1,0,none⟩) (by dsimp only;omega) (.slice none 0 0)).set 0 (.slice none 0 0);rw [hwf];simpa using this
   have cp:Ext w wf:=by rw [hwf];exact (((X.o).set (p:=⟨w.heap.size+1+1+1,0,none⟩) (by (try dsimp only);omega) _).set (p:=⟨w.heap.size+1,0,none⟩) (by (try dsimp only);omega) _).set (p:=⟨w.heap.size+1+1,0,none⟩) (by (try dsimp only);omega) _
   rw [← hwf];clear hwf;have Fd:=kI hfe;have Fe:=kI hf0;have KG:=kI hf1;have d5:=kI cp;have ke:=hfe.cell 0;have k0:=hf0.cell 0;have k1:=hf1.cell 0;simp only [List.getElem?_toArray,List.getElem?_cons_zero] at ke k0 k1;clear hfe cp hf0 hf1;simp [Leaves,settle,results,Tryz.results33,go_sem,aY,ke,k0,k1];exact ⟨lD.mk (bT.nil _ _) (cS.nil _ _) E.o,d5.o.drew⟩
  subst h5;have hb0:=lO (m:=m) (vs:=vs) (by rw [mY.o]);rw [mY.o] at hb0;dsimp only at hb0;rw [← HN.o] at hb0;obtain ⟨l1,l2,l3,l4⟩:=hb0;obtain ⟨nb,nc,rfl⟩:=bT.iM on l1 Sl.o;obtain ⟨gb,gc,rfl⟩:=cS.iM og l2 Sl.o;have ON:=kI on;have OG:=kI og;have L1:=kI l1;have L2:=kI l2;have L3:=kI l3;have L4:=kI l4;clear on og l1 l2 l3 l4;obtain ⟨aE,fA0,aC⟩:=A0.o.q3;obtain ⟨aQ,aR,lA1⟩:=A1.o.q3;obtain ⟨bB,bC,lA2⟩:=A2.o.q3;obtain ⟨jn,fA3,lA3⟩:=A3.o.q3;go_wp2_with fail;refine (bI _ _ _ _ _ _ _ _).mono ?_;rintro e Fm ⟨rfl,hx⟩;clear aE fA0 aC aQ aR lA1 bB bC lA2 jn fA3 lA3;replace A0:=kI (A0.o.ext hx);replace A1:=kI (A1.o.ext hx);replace A2:=kI (A2.o.ext hx);replace A3:=kI (A3.o.ext hx);replace PO:=kI (PO.o.ext hx);replace pR:=kI (pR.o.ext hx);replace X:=kI (X.o.trans hx);replace OV:=kI (OV.o.ext' hx);replace ON:=kI (ON.o.ext' hx);replace OG:=kI (OG.o.ext' hx);clear hx;obtain ⟨wl,hwl⟩:=gN (Fm);rw [← hwl] at A0 A1 A2 A3 PO pR OV ON OG X ⊢;clear hwl;go_wp2_with fail;go_loopw [45,9] (fun i bt wr=>∃ k:Nat,k≤n∧i=.int .i64 (k:Nat)∧bt=.bool (gy m vs k)∧af wr PB ((jC m vs p k).map (Value.int .i64)).toArray 3∧fg PB wl wr∧(gy m vs k=false→Ext wl wr)) (fun i _ _=>n - (intOf i).toNat)
  case atStart=>exact ⟨0,Nat.zero_le _,rfl,rfl,by rw [zP];exact PO.o,.ext (Ext.refl _),fun _=>Ext.refl _⟩
  case round=>
   obtain ⟨wj,Bg⟩:=gN (wr);subst Bg;obtain ⟨k,hk,rfl,rfl,hpk,hkp,hxx⟩:=hrel;have KP:=kI hkp;have PK:=kI hpk;have XX:=kI hxx;have HK:=kI hk;have h9:=mJ.o;have Vg:=kI (hkp.blk A0.o (by omega));have OH:=kI (hkp.blk A1.o (by omega));have OL:=kI (hkp.blk A2.o (by omega));have Sn:=kI (hkp.blk A3.o (by omega));have PV:=kI (OV.o.keeps (hkp.ak PO.o) (by decide) (by decide));have PN:=kI (ON.o.keeps (hkp.ak PO.o) (by decide) (by decide));have PG:=kI (OG.o.Mx hkp WC.o);have Na:w.heap.size≤wl.heap.size:=X.o.size;have XJ:=kI (show Ext w wj from Below.trans X.o (hkp.Jf (by omega) Na));clear hpk hkp hxx Na h9 hk;by_cases hlt:k < n
   ·have dQ:=kI hlt;have q1:(0:Int)≤(k:Int):=by omega
    have q2:(k:Int) < (n:Int):=by omega
    obtain ⟨xb,xo,a1,a2,a3,a4,ea,z0,z1,z2,z3,z4⟩:=(PN.o.rd).at (i:=k) (by rw [L1.o];exact hlt);injection ea with ea
    injection ea with ea eo _
    subst ea;subst eo;rw [Nat.zero_add] at z1 z2 z3;obtain ⟨xr,hxr⟩:=gN (nx.getD k zR);rw [← hxr] at z1 z2 z3 z4;have KF:=kI hxr;obtain ⟨wo,hwo⟩:=gN (wj.alloc (.cells #[.bool xr.neg,.slice a1 xr.num.length a2,.slice a3 xr.den.length a4] 25));have hx:Ext wj wo:=by rw [hwo];exact (Ext.refl _).alloc _
    have bo:af wo wj.heap.size #[.bool xr.neg,.slice a1 xr.num.length a2,.slice a3 xr.den.length a4] 25:=by rw [hwo];exact af.new _ _ _
    obtain ⟨Y,hY⟩:=gN (wj.heap.size);have Ib:=kI hY;have sj:=kI hwo;rw [← hY] at bo;have Zu:=kI (z4.ext hx);clear hxr hY hwo;go_wp2_with fail;rw [← sj.o,← Ib.o];clear z0 z1 z2 z3 z4 sj;have BO:=kI bo;have X0:=kI hx;have VO:=kI (PV.o.ext' hx);obtain ⟨yb,yo,b1,b2,b3,b4,eb,g0,g1,g2,g3,g4⟩:=(VO.o.rd).at (i:=k) (by rw [Vf.o];exact hlt);injection eb with eb
    injection eb with eb eo _
    subst eb;subst eo;rw [Nat.zero_add] at g1 g2 g3;obtain ⟨yr,Gz⟩:=gN (vs.getD k zR);rw [← Gz] at g1 g2 g3 g4;have So:=(er lu.o I3.o HS.o).2 k (by rw [← HN.o];exact hlt);have hxc:=L4.o k hlt;have hxl:=L3.o k (by rw [L1.o];exact hlt);have hyl:=HSL.o k (by rw [Vf.o];exact hlt);rw [← Gz] at So hyl;rw [← KF.o] at hxc hxl;have hcm:cj xr yr=(dX (qv xr) (qv yr),0):=if_pos (dt hxc So.1);obtain ⟨c,hc⟩:=gN (dX (qv xr) (qv yr));rw [← hc] at hcm;have YS:Hid (vb < wo.heap.size∧wo.cell? ⟨vb,k*3,none⟩=some (.bool yr.neg)∧wo.cell? ⟨vb,k*3+1,none⟩=some (.slice b1 yr.num.length b2)∧wo.cell? ⟨vb,k*3+2,none⟩=some (.slice b3 yr.den.length b4)∧aX wo (.agg #[.bool yr.neg,.slice b1 yr.num.length b2,.slice b3 yr.den.length b4]) yr):=kI ⟨g0,g1,g2,g3,g4⟩;have HCM:Hid (∀ W,Ext wo W→Calls Tryz.prog 56 #[.agg #[.bool xr.neg,.slice a1 xr.num.length a2,.slice a3 xr.den.length a4],.agg #[.bool yr.neg,.slice b1 yr.num.length b2,.slice b3 yr.den.length b4]] W fun e w'=>e=.returned (.tuple #[.int .i64 c,.int .i64 0])∧Ext W w'):=kI (fun W hW=>by
     have h:=fZ _ _ xr yr W (Zu.o.ext hW) (g4.ext hW) hxl hyl;rw [hcm] at h;exact h)
    have Vh:=kI (OH.o.ext hx);have M6:=kI Gz;have HC:=kI hc;clear bo hx g0 g1 g2 g3 g4 Gz So hxc hxl hyl hcm hc;refine fV (CA (some ⟨vb,0,none⟩) n vc vb k 0 xr yr a1 a2 a3 a4 b1 b2 b3 b4 c) (by kernel_rfl) (by kernel_rfl) (by kernel_rfl) (fun _ _ _ _ h x=>zQ h x) ?_ ?_
    ·refine ⟨?_,?_,?_,?_,?_,?_,?_,?_,?_,?_,?_,trivial⟩
     ·intro a W hW hB hD K hK;have b11:=hB 11 rfl;simp only [sB] at b11;have q9:=(BO.o.ext hW).cell;have l9:=(BO.o.ext hW).lt;go_simp;exact hK _ _ (Ext.refl _) rfl
     ·intro a W hW hB hD K hK;have b2:=hB 2 rfl;simp only [sB] at b2;have q9:=(Vh.o.ext hW).cell;have l9:=(Vh.o.ext hW).lt;go_simp;exact hK _ _ (Ext.refl _) rfl
     ·intro a W hW hB hD K hK;have b10:=hB 10 rfl;simp only [sB] at b10;go_simp;exact hK _ _ (Ext.refl _) rfl
     ·intro a W hW hB hD K hK;obtain ⟨v52,e52,Sc⟩:=az (hD 1 _ 52 rfl rfl (by kernel_rfl));obtain rfl:=Sc;obtain ⟨v53,e53,Sb⟩:=az (hD 2 _ 53 rfl rfl (by kernel_rfl));obtain rfl:=Sb;go_simp;exact hK _ _ (Ext.refl _) rfl
     ·intro a W hW hB hD K hK;obtain ⟨v54,e54,Sd⟩:=az (hD 3 _ 54 rfl rfl (by kernel_rfl));obtain rfl:=Sd;have m0:=(hW.cell (p:=⟨vb,k*3,none⟩) YS.o.1).trans YS.o.2.1;have m1:=(hW.cell (p:=⟨vb,k*3+1,none⟩) YS.o.1).trans YS.o.2.2.1;have m2:=(hW.cell (p:=⟨vb,k*3+2,none⟩) YS.o.1).trans YS.o.2.2.2.1;have ml:=Nat.lt_of_lt_of_le YS.o.1 hW.size;go_simp;exact hK _ _ (Ext.refl _) rfl
     ·intro a W hW hB hD K hK;obtain ⟨v51,e51,Sa⟩:=az (hD 0 _ 51 rfl rfl (by kernel_rfl));obtain rfl:=Sa;obtain ⟨v55,e55,Se⟩:=az (hD 4 _ 55 rfl rfl (by kernel_rfl));obtain rfl:=Se;go_simp;refine (HCM.o W hW).mono ?_;rintro e w9 ⟨rfl,hx⟩;exact hK _ _ hx rfl
     ·intro a W hW hB hD K hK;obtain ⟨v56,e56,Sh⟩:=az (hD 5 _ 56 rfl rfl (by kernel_rfl));obtain rfl:=Sh;go_simp;exact hK _ _ (Ext.refl _) rfl
     ·intro a W hW hB hD K hK;obtain ⟨v50,e50,h50⟩:=az (hD 6 _ 50 rfl rfl (by kernel_rfl));obtain rfl:=h50;go_simp;exact hK _ _ (Ext.refl _) rfl
     ·intro a W hW hB hD K hK;obtain ⟨v50,e50,h50⟩:=az (hD 6 _ 50 rfl rfl (by kernel_rfl));obtain rfl:=h50;go_simp;exact hK _ _ (Ext.refl _) rfl
     ·intro a W hW hB hD K hK;obtain ⟨v57,e57,h57⟩:=az (hD 7 _ 57 rfl rfl (by kernel_rfl));obtain rfl:=h57;go_simp;exact hK _ _ (Ext.refl _) rfl
     ·intro a W hW hB hD K hK;obtain ⟨v58,e58,Sf⟩:=az (hD 8 _ 58 rfl rfl (by kernel_rfl));obtain rfl:=Sf;go_simp;exact hK _ _ (Ext.refl _) rfl
    intro w7 hx;simp only [cX];rintro u0 h0 u1 h1 u2 h2 u3 h3 u4 h4 u5 h5 u6 h6 u7 h7 u8 h8 u9 h9 u10 h10;obtain rfl:=h0;obtain rfl:=h1;obtain rfl:=h2;obtain rfl:=h3;obtain rfl:=h4;obtain rfl:=h5;obtain rfl:=h6;obtain rfl:=h7;obtain rfl:=h8;obtain rfl:=h9;obtain rfl:=h10;simp only [Act.put,List.setIfInBounds_toArray,List.set_cons_zero,List.set_cons_succ];have hif:c < 0↔qv ((ah m vs).1.getD k zR) < qv (vs.getD k zR):=by
     rw [HC.o,KF.o,M6.o,mY.o];exact Cz
    have Vi:=kI hif;have P7:=kI (PK.o.ext (X0.o.trans hx));have Vj:=kI (OL.o.ext (X0.o.trans hx));have X7:=kI (X0.o.trans hx);have G7:=kI (PG.o.ext' (X0.o.trans hx));clear hif hx;by_cases hcl:c < 0
    ·have q3:decide (c < 0)=true:=decide_eq_true hcl;have Nc:=kI (Vi.o.1 hcl);clear hcl;go_wp2_with fail;obtain ⟨e1,e2,e3⟩:=G7.o.Zq (i:=k) (by rw [L2.o];exact dQ.o);obtain ⟨xg,hxg⟩:=gN (gr.getD k 0);rw [← hxg] at e3;have Zv:=kI hxg;have GC:=kI (And.intro e2 e3);clear e1 e2 e3 hxg;have X:=kI (Ext.refl w7);refine cH 7 (CD PB n k gb n gc xg) (by kernel_rfl) (by kernel_rfl) (by kernel_rfl) (fun _ _ _ _ h x=>zS h x) ?_ ?_
     ·refine ⟨?_,?_,?_,?_,?_,?_,?_,trivial⟩
      ·intro a W hW hB hD K hK;have b3:=hB 3 rfl;simp only [sB] at b3;have q9:=(Vj.o.ext hW).cell;have l9:=(Vj.o.ext hW).lt;go_simp;exact hK _ _ (Ext.refl _) rfl
      ·intro a W hW hB hD K hK;have b10:=hB 10 rfl;simp only [sB] at b10;go_simp;exact hK _ _ (Ext.refl _) rfl
      ·intro a W hW hB hD K hK;have b7:=hB 7 rfl;simp only [sB] at b7;go_simp;exact hK _ _ (Ext.refl _) rfl
      ·intro a W hW hB hD K hK;have b10:=hB 10 rfl;simp only [sB] at b10;go_simp;exact hK _ _ (Ext.refl _) rfl
      ·intro a W hW hB hD K hK;obtain ⟨v63,e63,h63⟩:=az (hD 2 _ 63 rfl rfl (by kernel_rfl));obtain rfl:=h63;obtain ⟨v64,e64,h64⟩:=az (hD 3 _ 64 rfl rfl (by kernel_rfl));obtain rfl:=h64;go_simp;exact hK _ _ (Ext.refl _) rfl
      ·intro a W hW hB hD K hK;obtain ⟨v65,e65,h65⟩:=az (hD 4 _ 65 rfl rfl (by kernel_rfl));obtain rfl:=h65;have m0:=(hW.cell (p:=⟨gb,k,none⟩) GC.o.1).trans GC.o.2;have ml:=Nat.lt_of_lt_of_le GC.o.1 hW.size;go_simp;exact hK _ _ (Ext.refl _) rfl
      ·intro a W hW hB hD K hK;obtain ⟨v61,e61,MY⟩:=az (hD 0 _ 61 rfl rfl (by kernel_rfl));obtain rfl:=MY;obtain ⟨v62,e62,Sg⟩:=az (hD 1 _ 62 rfl rfl (by kernel_rfl));obtain rfl:=Sg;go_simp;exact hK _ _ (Ext.refl _) rfl
     intro w8 hx;simp only [cX,List.take_succ_cons,List.take_zero,List.drop_succ_cons,List.drop_zero];rintro u0 h0 u1 h1 u2 h2 u3 h3 u4 h4 u5 h5 u6 h6;obtain rfl:=h0;obtain rfl:=h1;obtain rfl:=h2;obtain rfl:=h3;obtain rfl:=h4;obtain rfl:=h5;obtain rfl:=h6;simp only [Act.put,List.setIfInBounds_toArray,List.set_cons_zero,List.set_cons_succ];have X8:=kI (X7.o.trans hx);have P8:=kI (P7.o.ext hx);clear hx;have hlen:k < (jC m vs p k).length:=by rw [cY,I2.o];exact dQ.o
     have p0:w8.cell? ⟨PB,k,none⟩=some (.int .i64 ((jC m vs p k).getD k 0)):=by
      rw [P8.o.cell,List.getElem?_toArray,List.getElem?_map,List.getElem?_eq_getElem hlen,List.getD_eq_getElem?_getD,List.getElem?_eq_getElem hlen];rfl
     obtain ⟨xo,hxo⟩:=gN ((jC m vs p k).getD k 0);rw [← hxo] at p0;clear hxo hlen;have p1:=P8.o.free k;have p2:=P8.o.lt;go_wp2_with fail;clear p0 p1 p2;obtain ⟨w9,OM⟩:=gN (w8.setCell ⟨PB,k,none⟩ (.int .i64 xg));have f1:af w9 PB ((jC m vs p (k+1)).map (Value.int .i64)).toArray 3:=by
      rw [OM,Cy (by rw [I2.o];exact dQ.o) Nc.o,mY.o,← Zv.o];exact wQ P8.o
     have f2:fg PB wl w9:=by rw [OM];exact (KP.o.trans (fg.ext X8.o)).set _ _
     have f3:gy m vs (k+1)=true:=by rw [rq,decide_eq_true Nc.o,Bool.or_true]
     rw [← OM];clear OM;go_roundw
     case rel=>exact ⟨k+1,dQ.o,by go_num,by rw [f3],f1,f2,fun h=>by rw [f3] at h;cases h⟩
     case measure=>first|(simp [intOf];done)|(simp [intOf];omega)
    ·have q3:decide (c < 0)=false:=decide_eq_false hcl;have Nc:=kI (fun z=>hcl (Vi.o.2 z));clear hcl;go_wp2_with fail;have f1:af w7 PB ((jC m vs p (k+1)).map (Value.int .i64)).toArray 3:=by
      rw [Fl Nc.o];exact P7.o
     have f2:fg PB wl w7:=KP.o.trans (fg.ext X7.o);have f3:gy m vs (k+1)=gy m vs k:=by rw [rq,decide_eq_false Nc.o,Bool.or_false]
     have f4:gy m vs (k+1)=false→Ext wl w7:=fun h=>(XX.o (by rw [← f3];exact h)).trans X7.o;go_roundw
     case rel=>exact ⟨k+1,dQ.o,by go_num,by rw [f3],f1,f2,f4⟩
     case measure=>first|(simp [intOf];done)|(simp [intOf];omega)
   ·obtain rfl:n=k:=by have:=HK.o;omega
    have q1:¬ ((n:Int) < (n:Int)):=by omega
    obtain ⟨bt,hbt⟩:=gN (gy m vs n);rw [← hbt];have Vk:=kI hbt;clear hbt hlt;cases bt
    ·have q3:(!false)=true:=rfl;have E:=kI (show iQ m=(vs,gr,0) from by
      rw [Jg.o];have h:=rC HS.o (by rw [mY.o]) (by rw [← HN.o];exact Vk.o.symm);rw [mY.o] at h;exact h)
     have hle:w.heap.size≤wc.heap.size:=by have:=WC.o;have:=mJ.o;omega
     have ov:=PV.o.mono Zt.o;have og:=PG.o.mono hle;replace A1:=OH;replace A2:=OL;replace A3:=Sn;replace X:=XJ;have Sp:=kI ov;have Sq:=kI og;clear PV PN PG Vg OH OL Sn XJ ov og hle OV ON OG;obtain ⟨aQ,aR,lA1⟩:=A1.o.q3;obtain ⟨bB,bC,lA2⟩:=A2.o.q3;obtain ⟨jn,fA3,lA3⟩:=A3.o.q3;go_wp2_with fail;clear aQ aR lA1 bB bC lA2 jn fA3 lA3;obtain ⟨wr,hwr⟩:=gN ((((wj.setCell ⟨w.heap.size+1,0,none⟩ (.slice (some ⟨vb,0,none⟩) n vc)).setCell ⟨w.heap.size+1+1,0,none⟩ (.slice (some ⟨gb,0,none⟩) n gc)).setCell ⟨w.heap.size+1+1+1,0,none⟩ (.int .i64 0)));have ha1:af wr (w.heap.size+1) #[.slice (some ⟨vb,0,none⟩) n vc] 29:=by
      have:=((A1.o.set 0 (.slice (some ⟨vb,0,none⟩) n vc)).setOther (a:=⟨w.heap.size+1+1,0,none⟩) (by dsimp only;omega) (.slice (some ⟨gb,0,none⟩) n gc)).setOther (a:=⟨w.heap.size+1+1+1,0,none⟩) (by dsimp only;omega) (.int .i64 0);rw [hwr];simpa using this
     have ha2:af wr (w.heap.size+1+1) #[.slice (some ⟨gb,0,none⟩) n gc] 53:=by
      have:=((A2.o.setOther (a:=⟨w.heap.size+1,0,none⟩) (by dsimp only;omega) (.slice (some ⟨vb,0,none⟩) n vc)).set 0 (.slice (some ⟨gb,0,none⟩) n gc)).setOther (a:=⟨w.heap.size+1+1+1,0,none⟩) (by dsimp only;omega) (.int .i64 0);rw [hwr];simpa using this
     have ul:af wr (w.heap.size+1+1+1) #[.int .i64 0] 37:=by
      have:=((A3.o.setOther (a:=⟨w.heap.size+1,0,none⟩) (by dsimp only;omega) (.slice (some ⟨vb,0,none⟩) n vc)).setOther (a:=⟨w.heap.size+1+1,0,none⟩) (by dsimp only;omega) (.slice (some ⟨gb,0,none⟩) n gc)).set 0 (.int .i64 0);rw [hwr];simpa using this
     have hxr:Ext w wr:=by rw [hwr];exact ((X.o.set (p:=⟨w.heap.size+1,0,none⟩) (by dsimp only;omega) _).set (p:=⟨w.heap.size+1+1,0,none⟩) (by dsimp only;omega) _).set (p:=⟨w.heap.size+1+1+1,0,none⟩) (by dsimp only;omega) _
     have hov:bT w.heap.size wr (.slice (some ⟨vb,0,none⟩) n vc) vs:=by rw [hwr];exact (((Sp.o.keeps (ak A1.o 0 (.slice (some ⟨vb,0,none⟩) n vc)) (by decide) (by decide)).keeps (ak (A2.o.setOther (a:=⟨w.heap.size+1,0,none⟩) (by dsimp only;omega) (.slice (some ⟨vb,0,none⟩) n vc)) 0 (.slice (some ⟨gb,0,none⟩) n gc)) (by decide) (by decide)).keeps (ak ((A3.o.setOther (a:=⟨w.heap.size+1,0,none⟩) (by dsimp only;omega) (.slice (some ⟨vb,0,none⟩) n vc)).setOther (a:=⟨w.heap.size+1+1,0,none⟩) (by dsimp only;omega) (.slice (some ⟨gb,0,none⟩) n gc)) 0 (.int .i64 0)) (by decide) (by decide))
     have hog:cS w.heap.size wr (.slice (some ⟨gb,0,none⟩) n gc) gr:=by rw [hwr];exact (((Sq.o.keeps (ak A1.o 0 (.slice (some ⟨vb,0,none⟩) n vc)) (by decide)).keeps (ak (A2.o.setOther (a:=⟨w.heap.size+1,0,none⟩) (by dsimp only;omega) (.slice (some ⟨vb,0,none⟩) n vc)) 0 (.slice (some ⟨gb,0,none⟩) n gc)) (by decide)).keeps (ak ((A3.o.setOther (a:=⟨w.heap.size+1,0,none⟩) (by dsimp only;omega) (.slice (some ⟨vb,0,none⟩) n vc)).setOther (a:=⟨w.heap.size+1+1,0,none⟩) (by dsimp only;omega) (.slice (some ⟨gb,0,none⟩) n gc)) 0 (.int .i64 0)) (by decide))
     replace Sp:=kI hov;replace Sq:=kI hog;clear hov hog;rw [← hwr];clear hwr;replace A1:=kI ha1;replace A2:=kI ha2;replace A3:=kI ul;replace X:=kI hxr;clear ha1 ha2 ul hxr;refine leaves_cons (f:=93) (args:=#[.pointer (some ⟨w.heap.size+1+1+1,0,none⟩),.pointer (some ⟨w.heap.size+1,0,none⟩),.pointer (some ⟨w.heap.size+1+1,0,none⟩)]) (by simp) (by simp [go_sem]) ?_;refine (qs (w.heap.size+1+1+1) (w.heap.size+1) (w.heap.size+1+1) _ A3.o).mono ?_;rintro e u' w'' ⟨rfl,rfl,rfl⟩;obtain ⟨wf,hwf⟩:=gN ((wr.setCell ⟨w.heap.size+1+1+1,0,none⟩ (.int .i64 0)));have hfe:af wf (w.heap.size+1+1+1) #[.int .i64 0] 37:=by
      have:=(A3.o).set 0 (.int .i64 0);rw [hwf];simpa using this
     have hf0:af wf (w.heap.size+1) #[.slice (some ⟨vb,0,none⟩) n vc] 29:=by
      have:=(A1.o).setOther (a:=⟨w.heap.size+1+1+1,0,none⟩) (by dsimp only;omega) (.int .i64 0);rw [hwf];simpa using this
     have hf1:af wf (w.heap.size+1+1) #[.slice (some ⟨gb,0,none⟩) n gc] 53:=by
      have:=(A2.o).setOther (a:=⟨w.heap.size+1+1+1,0,none⟩) (by dsimp only;omega) (.int .i64 0);rw [hwf];simpa using this
     have cp:Ext w wf:=by rw [hwf];exact (X.o).set (p:=⟨w.heap.size+1+1+1,0,none⟩) (by (try dsimp only);omega) _
     have Zw:=kI (show bT w.heap.size wf (.slice (some ⟨vb,0,none⟩) n vc) vs from by rw [hwf];exact Sp.o.keeps (ak A3.o 0 (.int .i64 0)) (by decide) (by decide));have Zx:=kI (show cS w.heap.size wf (.slice (some ⟨gb,0,none⟩) n gc) gr from by rw [hwf];exact Sq.o.keeps (ak A3.o 0 (.int .i64 0)) (by decide));rw [← hwf];clear hwf;have Fd:=kI hfe;have Fe:=kI hf0;have KG:=kI hf1;have d5:=kI cp;have ke:=hfe.cell 0;have k0:=hf0.cell 0;have k1:=hf1.cell 0;simp only [List.getElem?_toArray,List.getElem?_cons_zero] at ke k0 k1;clear hfe cp hf0 hf1;simp [Leaves,settle,results,Tryz.results33,go_sem,aY,ke,k0,k1];exact ⟨lD.mk (Zw.o.ext' (Ext.refl _).drew) (Zx.o.ext' (Ext.refl _).drew) E.o,d5.o.drew⟩
    ·have q3:(!true)=false:=rfl;have hst:=rD lu.o dQ.o I3.o HS.o (by rw [mY.o]) (by rw [← HN.o];exact Vk.o.symm);have Vl:=gi (vs:=vs) I3.o (by rw [mY.o]);have hpk:af wj PB ((fq m vs p).map (Value.int .i64)).toArray 3:=by rw [← Cx,I2.o];exact PK.o
     have HST:=kI hst;have Zy:=kI Vl;have Mp:=kI hpk;clear hst Vl hpk;go_wp2_with fail;go_roundw
     case rel=>exact ⟨fq m vs p,_,Zy.o,Jg.o.trans HST.o.1,Vg.o,OH.o,OL.o,Sn.o,Mp.o,XJ.o⟩
     case measure=>rw [Zr.o,uS Mp.o (by rw [pF];exact I2.o)];exact HST.o.2
end Go.Proofs.YtnnjbaijcaiohaaGreat
