/- Walks and lemmas. -/
import Derived.Test.YtnnjbaijcaiohaaGreatSvA21
import Derived.Test.YtnnjbaijcaiohaaGreatSvA22
import Derived.Test.YtnnjbaijcaiohaaGreatSvA23
import Derived.Test.YtnnjbaijcaiohaaGreatSvA15
import Derived.Test.YtnnjbaijcaiohaaGreatSvA17
import Derived.Test.YtnnjbaijcaiohaaGreatSvA16
set_option linter.unusedVariables false
set_option linter.unusedSimpArgs false
set_option maxRecDepth 100000
set_option maxHeartbeats 16000000
namespace Go.Proofs.YtnnjbaijcaiohaaGreat
open Go.RowKit
theorem cQ.Px {B b:Nat} {w w':World} {v:Value} {l:List Int} (h:cQ B w v l) (kp:ft b w w') (hb:b < B):cQ B w' v l:=by
 obtain ⟨hs,h1,h2,h3,h4⟩:=h;refine ⟨hs,⟨h1.1,?_⟩,h2,h3,fun i x hi=>h4 i x hi⟩;rcases h1.2 with hn|⟨g,cap,cur,rfl,hg,hblk,rest⟩
 ·exact .inl hn
 ·exact .inr ⟨g,cap,cur,rfl,hg,kp.blk hblk Z,rest⟩
theorem ft.KT {n o:Nat} {A B:World} (h:ft o A B) (hn:n≤o) (hA:n≤A.heap.size):Below n A B:=⟨h.zero.os,h.zero.tape,h.zero.output,h.zero.size,fun i hi=>h.block i Z Z⟩
theorem aD.iU {α:Type} {e:TypeId} {size:Nat} {El:World→List Value→α→Prop} {B:Nat} {w:World} {v:Value} {l:List α} (h:aD e size El B w v l) {n:Nat} (hn:l.length=n) (h0:0 < n):∃ g c,v=.slice (some ⟨g,0,none⟩) n c:=by
 obtain ⟨a,cap,hv,_,_,hr⟩:=aD.wI h;obtain ⟨x,hx⟩:∃ x,l[0]?=some x:=⟨_,List.getElem?_eq_getElem Z⟩;obtain ⟨b,h',e1,_⟩:=hr 0 x hx;exact ⟨b,cap,by rw [hv,e1,hn]⟩
theorem bV.iU {B:Nat} {w:World} {v:Value} {l:List RR} (h:bV B w v l) {n:Nat} (hn:l.length=n) (h0:0 < n):∃ g c,v=.slice (some ⟨g,0,none⟩) n c:=aD.iU h hn h0
theorem cQ.iU {B:Nat} {w:World} {v:Value} {l:List Int} (h:cQ B w v l) {n:Nat} (hn:l.length=n) (h0:0 < n):∃ g c,v=.slice (some ⟨g,0,none⟩) n c:=aD.iU h hn h0
theorem DW {x y:Rat}:eu x y < 0↔x < y:=by
 unfold eu;by_cases h:x < y
 ·rw [if_pos h];exact ⟨fun _=>h,fun _=>by decide⟩
 ·rw [if_neg h];by_cases h2:x=y
  ·rw [if_pos h2];exact ⟨fun h=>absurd h ap,fun h3=>absurd h3 h⟩
  ·rw [if_neg h2];exact ⟨fun h=>absurd h ap,fun h3=>absurd h3 h⟩
theorem cQ.atZ {B:Nat} {w:World} {g n c:Nat} {l:List Int} (h:cQ B w (.slice (some ⟨g,0,none⟩) n c) l) {i:Nat} (hi:i < l.length):B≤g∧g < w.heap.size∧w.cell? ⟨g,i,none⟩=some (.int .i64 (l.getD i 0)):=by
 obtain ⟨a,cap,hv,_,_,hr⟩:=aD.wI h;have hl:l[i]?=some (l.getD i 0):=by rw [List.getD_eq_getElem?_getD,List.getElem?_eq_getElem hi];rfl
 obtain ⟨b,h',e1,e2,e3,e4,e5,hel⟩:=hr i _ hl;obtain rfl:h'=[.int .i64 (l.getD i 0)]:=hel;injection hv with hv _ _
 subst e1;injection hv with hv
 injection hv with hv _ _
 subst hv;have x0:=e5 0 Z;exact ⟨e2,e3,by simpa using x0⟩
def zx (W:World) (b n:Nat):List Int:=(List.range n).map fun s=>match W.cell? ⟨b,s,none⟩ with|some (.int _ x)=>x|_=>0
theorem wg {W:World} {b n:Nat} {p:List Int} {t:TypeId} (h:ag W b (p.map (Value.int .i64)).toArray t) (hn:p.length=n):zx W b n=p:=by
 subst hn;refine List.ext_getElem (by simp [zx]) (fun i h1 h2=>?_);simp only [zx,List.getElem_map,List.getElem_range];rw [h.cell i];simp [h2]
theorem yg {W:World} {b k:Nat} {p:List Int} {x:Int} {t:TypeId} (h:ag W b (p.map (Value.int .i64)).toArray t):ag (W.setCell ⟨b,k,none⟩ (.int .i64 x)) b ((p.set k x).map (Value.int .i64)).toArray t:=by
 have e:((p.set k x).map (Value.int .i64)).toArray=(p.map (Value.int .i64)).toArray.setIfInBounds k (.int .i64 x):=by simp [List.map_set]
 rw [e];exact h.set k _
def DX (va:Option Addr) (vn vc vb k An:Nat) (xr yr:RR) (a1:Option Addr) (a2:Nat) (a3:Option Addr) (a4:Nat) (b1:Option Addr) (b2:Nat) (b3:Option Addr) (b4:Nat) (c:Int) (j:Nat) (v:Value) (W:World):Prop:=
 match j with
 | 0=>v=.agg #[.bool xr.neg,.slice a1 xr.num.length a2,.slice a3 xr.den.length a4]
 | 1=>v=.slice va vn vc
 | 2=>v=.int .i64 (k:Nat)
 | 3=>v=.pointer (some ⟨vb,k*3,none⟩)
 | 4=>v=.agg #[.bool yr.neg,.slice b1 yr.num.length b2,.slice b3 yr.den.length b4]
 | 5=>v=.tuple #[.int .i64 c,.int .i64 0]
 | 6=>v=.tuple #[.int .i64 c,.int .i64 0]
 | 7=>v=.int .i64 c
 | 8=>v=.int .i64 0
 | 9=>v=.int .i64 c
 | 10=>v=.int .i64 0
 | _=>True
theorem A6 {va:Option Addr} {vn vc vb k An:Nat} {xr yr:RR} {a1:Option Addr} {a2:Nat} {a3:Option Addr} {a4:Nat} {b1:Option Addr} {b2:Nat} {b3:Option Addr} {b4:Nat} {c:Int} {j:Nat} {v:Value} {W W':World} (h:DX va vn vc vb k An xr yr a1 a2 a3 a4 b1 b2 b3 b4 c j v W) (x:Ext W W'):DX va vn vc vb k An xr yr a1 a2 a3 a4 b1 b2 b3 b4 c j v W':=by
 match j,h with
 | 0,h=>exact h
 | 1,h=>exact h
 | 2,h=>exact h
 | 3,h=>exact h
 | 4,h=>exact h
 | 5,h=>exact h
 | 6,h=>exact h
 | 7,h=>exact h
 | 8,h=>exact h
 | 9,h=>exact h
 | 10,h=>exact h
 | _+11,_=>trivial
def DY (PB n k g gn gc:Nat) (xg:Int) (j:Nat) (v:Value) (W:World):Prop:=
 match j with
 | 0=>v=.slice (some ⟨PB,0,none⟩) n n
 | 1=>v=.int .i64 (k:Nat)
 | 2=>v=.slice (some ⟨g,0,none⟩) gn gc
 | 3=>v=.int .i64 (k:Nat)
 | 4=>v=.pointer (some ⟨g,k,none⟩)
 | 5=>v=.int .i64 xg
 | 6=>v=.pointer (some ⟨PB,k,none⟩)
 | _=>True
theorem A8 {PB n k g gn gc:Nat} {xg:Int} {j:Nat} {v:Value} {W W':World} (h:DY PB n k g gn gc xg j v W) (x:Ext W W'):DY PB n k g gn gc xg j v W':=by
 match j,h with
 | 0,h=>exact h
 | 1,h=>exact h
 | 2,h=>exact h
 | 3,h=>exact h
 | 4,h=>exact h
 | 5,h=>exact h
 | 6,h=>exact h
 | _+7,_=>trivial
theorem DZ (mv:Value) (m:MD) (w:World) (hm:eY w mv m) (hlm:iY m) :
  Calls Tryz.prog 33 #[mv] w fun e w'=>m7 w w' e (oy m)∧Ext w w':=by
 have qP:=kI (fun W mv (h:eY W mv m)=>iS mv m W h hlm);have RZ:=kI (fun W mv pv (p:List Int) (h:eY W mv m) (k:bj .i64 W pv p) (h1:fs m=0) (h2:nP m p=0)=>pY mv pv m p W h k hlm h1 h2);have Gf:=kI (fun W mv vv (l:List RR) (h:eY W mv m) (k:cH W vv l) (h2:dm l)=>iP mv vv m l W h k hlm h2);have HM:=kI hm;obtain ⟨m1,n1,m2,n2,m3,n3,rfl,-,-⟩:=hm;clear hlm;have bb0:=((((ag.new w #[.bool m.ah.neg,.slice m1 m.ah.num.length n1,.slice m2 m.ah.den.length n2,.slice m3 m.states.length n3] 28).alloc (.cells #[.slice none 0 0] 29)).alloc (.cells #[.slice none 0 0] 53)).alloc (.cells #[.int .i64 0] 37));have bb1:=(((ag.new (w.alloc (.cells #[.bool m.ah.neg,.slice m1 m.ah.num.length n1,.slice m2 m.ah.den.length n2,.slice m3 m.states.length n3] 28)) #[.slice none 0 0] 29).alloc (.cells #[.slice none 0 0] 53)).alloc (.cells #[.int .i64 0] 37));have bb2:=((ag.new ((w.alloc (.cells #[.bool m.ah.neg,.slice m1 m.ah.num.length n1,.slice m2 m.ah.den.length n2,.slice m3 m.states.length n3] 28)).alloc (.cells #[.slice none 0 0] 29)) #[.slice none 0 0] 53).alloc (.cells #[.int .i64 0] 37));have bb3:=(ag.new (((w.alloc (.cells #[.bool m.ah.neg,.slice m1 m.ah.num.length n1,.slice m2 m.ah.den.length n2,.slice m3 m.states.length n3] 28)).alloc (.cells #[.slice none 0 0] 29)).alloc (.cells #[.slice none 0 0] 53)) #[.int .i64 0] 37);rw [World.size_alloc] at bb1;rw [World.size_alloc,World.size_alloc] at bb2;rw [World.size_alloc,World.size_alloc,World.size_alloc] at bb3;have x0:Ext w ((((w.alloc (.cells #[.bool m.ah.neg,.slice m1 m.ah.num.length n1,.slice m2 m.ah.den.length n2,.slice m3 m.states.length n3] 28)).alloc (.cells #[.slice none 0 0] 29)).alloc (.cells #[.slice none 0 0] 53)).alloc (.cells #[.int .i64 0] 37)):=(((((Ext.refl w).alloc _).alloc _).alloc _).alloc _);have A0:=kI bb0;have A1:=kI bb1;have A2:=kI bb2;have A3:=kI bb3;have X:=kI x0;clear x0 bb0 bb1 bb2 bb3;have Ie:=HM;replace HM:=kI (HM.o.ext X.o);have hmf:∀ (fn:Fn) (first cap:Array Value) (w:World),(Instr.makeFunc fn first cap).run Tryz.prog w=.ok (.func fn first cap) w:=fun _ _ _ _=>rfl
 go_enter_defers Tryz.func33,Tryz.ntmps33
 obtain ⟨aK,fA0,aJ⟩:=A0.o.q3;obtain ⟨aY,aZ,lA1⟩:=A1.o.q3;obtain ⟨bA,bB,lA2⟩:=A2.o.q3;obtain ⟨iQ,fA3,lA3⟩:=A3.o.q3;go_wp2_with fail;clear hmf;refine (qP.o _ _ HM.o).mono ?_;rintro e w1 ⟨rfl,hx⟩;clear aK fA0 aJ aY aZ lA1 bA bB lA2 iQ fA3 lA3;replace HM:=kI (HM.o.ext hx);replace A0:=kI (A0.o.ext hx);replace A1:=kI (A1.o.ext hx);replace A2:=kI (A2.o.ext hx);replace A3:=kI (A3.o.ext hx);replace X:=kI (X.o.trans hx);clear hx qP;obtain ⟨c1,hc1⟩:=gN (gG m);rw [← hc1];by_cases h1:c1=0
 rotate_left
 ·have E:=kI (KM hc1.symm h1);have q1:(c1 != 0)=true:=by simpa using h1
  have H1:=kI h1;clear hc1 h1;obtain ⟨aY,aZ,lA1⟩:=A1.o.q3;obtain ⟨bA,bB,lA2⟩:=A2.o.q3;obtain ⟨iQ,fA3,lA3⟩:=A3.o.q3;go_wp2_with fail;clear aY aZ lA1 bA bB lA2 iQ fA3 lA3;obtain ⟨wr,hwr⟩:=gN ((((w1.setCell ⟨w.heap.size+1,0,none⟩ (.slice none 0 0)).setCell ⟨w.heap.size+1+1,0,none⟩ (.slice none 0 0)).setCell ⟨w.heap.size+1+1+1,0,none⟩ (.int .i64 c1)));have ha1:ag wr (w.heap.size+1) #[.slice none 0 0] 29:=by
   have:=((A1.o.set 0 (.slice none 0 0)).setOther (a:=⟨w.heap.size+1+1,0,none⟩) au (.slice none 0 0)).setOther (a:=⟨w.heap.size+1+1+1,0,none⟩) au (.int .i64 c1);rw [hwr];simpa using this
  have ha2:ag wr (w.heap.size+1+1) #[.slice none 0 0] 53:=by
   have:=((A2.o.setOther (a:=⟨w.heap.size+1,0,none⟩) au (.slice none 0 0)).set 0 (.slice none 0 0)).setOther (a:=⟨w.heap.size+1+1+1,0,none⟩) au (.int .i64 c1);rw [hwr];simpa using this
  have vp:ag wr (w.heap.size+1+1+1) #[.int .i64 c1] 37:=by
   have:=((A3.o.setOther (a:=⟨w.heap.size+1,0,none⟩) au (.slice none 0 0)).setOther (a:=⟨w.heap.size+1+1,0,none⟩) au (.slice none 0 0)).set 0 (.int .i64 c1);rw [hwr];simpa using this
  have hxr:Ext w wr:=by rw [hwr];exact ((X.o.set (p:=⟨w.heap.size+1,0,none⟩) au _).set (p:=⟨w.heap.size+1+1,0,none⟩) au _).set (p:=⟨w.heap.size+1+1+1,0,none⟩) au _
  rw [← hwr];clear hwr;replace A1:=kI ha1;replace A2:=kI ha2;replace A3:=kI vp;replace X:=kI hxr;clear ha1 ha2 vp hxr;refine leaves_cons (f:=93) (args:=#[.pointer (some ⟨w.heap.size+1+1+1,0,none⟩),.pointer (some ⟨w.heap.size+1,0,none⟩),.pointer (some ⟨w.heap.size+1+1,0,none⟩)]) cp ks ?_;refine (jQ (w.heap.size+1+1+1) (w.heap.size+1) (w.heap.size+1+1) c1 H1.o _ _ _ _ _ A3.o A1.o Z A2.o Z Z).mono ?_;rintro e u' w'' ⟨rfl,rfl,rfl⟩;obtain ⟨wf,hwf⟩:=gN ((((wr.setCell ⟨w.heap.size+1+1+1,0,none⟩ (.int .i64 c1)).setCell ⟨w.heap.size+1,0,none⟩ (.slice none 0 0)).setCell ⟨w.heap.size+1+1,0,none⟩ (.slice none 0 0)));have hfe:ag wf (w.heap.size+1+1+1) #[.int .i64 c1] 37:=by
   have:=(((A3.o).set 0 (.int .i64 c1)).setOther (a:=⟨w.heap.size+1,0,none⟩) au (.slice none 0 0)).setOther (a:=⟨w.heap.size+1+1,0,none⟩) au (.slice none 0 0);rw [hwf];simpa using this
  have hf0:ag wf (w.heap.size+1) #[.slice none 0 0] 29:=by
   have:=(((A1.o).setOther (a:=⟨w.heap.size+1+1+1,0,none⟩) au (.int .i64 c1)).set 0 (.slice none 0 0)).setOther (a:=⟨w.heap.size+1+1,0,none⟩) au (.slice none 0 0);rw [hwf];simpa using this
  have hf1:ag wf (w.heap.size+1+1) #[.slice none 0 0] 53:=by
   have:=(((A2.o).setOther (a:=⟨w.heap.size+1+1+1,0,none⟩) au (.int .i64 c1)).setOther (a:=⟨w.heap.size+1,0,none⟩) au (.slice none 0 0)).set 0 (.slice none 0 0);rw [hwf];simpa using this
  have cu:Ext w wf:=by rw [hwf];exact (((X.o).set (p:=⟨w.heap.size+1+1+1,0,none⟩) qz _).set (p:=⟨w.heap.size+1,0,none⟩) qz _).set (p:=⟨w.heap.size+1+1,0,none⟩) qz _
  rw [← hwf];clear hwf;have Gw:=kI hfe;have Gx:=kI hf0;have MY:=kI hf1;have ex:=kI cu;have ke:=hfe.cell 0;have k0:=hf0.cell 0;have k1:=hf1.cell 0;simp only [List.getElem?_toArray,List.getElem?_cons_zero] at ke k0 k1;clear hfe cu hf0 hf1;simp [Leaves,settle,results,Tryz.results33,go_sem,bk,ke,k0,k1];exact ⟨m7.mk (bV.nil _ _) (cQ.nil _ _) E.o,ex.o.drew⟩
 subst h1;have H1:=kI hc1.symm;clear hc1;by_cases h2:8 < m.states.length
 ·have E:=kI (KN H1.o h2);have q2:(8:Int) < (m.states.length:Int):=Z
  obtain ⟨aK,fA0,aJ⟩:=A0.o.q3;obtain ⟨aY,aZ,lA1⟩:=A1.o.q3;obtain ⟨bA,bB,lA2⟩:=A2.o.q3;obtain ⟨iQ,fA3,lA3⟩:=A3.o.q3;go_wp2_with fail;clear aK fA0 aJ aY aZ lA1 bA bB lA2 iQ fA3 lA3;obtain ⟨wr,hwr⟩:=gN ((((w1.setCell ⟨w.heap.size+1,0,none⟩ (.slice none 0 0)).setCell ⟨w.heap.size+1+1,0,none⟩ (.slice none 0 0)).setCell ⟨w.heap.size+1+1+1,0,none⟩ (.int .i64 4)));have ha1:ag wr (w.heap.size+1) #[.slice none 0 0] 29:=by
   have:=((A1.o.set 0 (.slice none 0 0)).setOther (a:=⟨w.heap.size+1+1,0,none⟩) au (.slice none 0 0)).setOther (a:=⟨w.heap.size+1+1+1,0,none⟩) au (.int .i64 4);rw [hwr];simpa using this
  have ha2:ag wr (w.heap.size+1+1) #[.slice none 0 0] 53:=by
   have:=((A2.o.setOther (a:=⟨w.heap.size+1,0,none⟩) au (.slice none 0 0)).set 0 (.slice none 0 0)).setOther (a:=⟨w.heap.size+1+1+1,0,none⟩) au (.int .i64 4);rw [hwr];simpa using this
  have vp:ag wr (w.heap.size+1+1+1) #[.int .i64 4] 37:=by
   have:=((A3.o.setOther (a:=⟨w.heap.size+1,0,none⟩) au (.slice none 0 0)).setOther (a:=⟨w.heap.size+1+1,0,none⟩) au (.slice none 0 0)).set 0 (.int .i64 4);rw [hwr];simpa using this
  have hxr:Ext w wr:=by rw [hwr];exact ((X.o.set (p:=⟨w.heap.size+1,0,none⟩) au _).set (p:=⟨w.heap.size+1+1,0,none⟩) au _).set (p:=⟨w.heap.size+1+1+1,0,none⟩) au _
  rw [← hwr];clear hwr;replace A1:=kI ha1;replace A2:=kI ha2;replace A3:=kI vp;replace X:=kI hxr;clear ha1 ha2 vp hxr;refine leaves_cons (f:=93) (args:=#[.pointer (some ⟨w.heap.size+1+1+1,0,none⟩),.pointer (some ⟨w.heap.size+1,0,none⟩),.pointer (some ⟨w.heap.size+1+1,0,none⟩)]) cp ks ?_;refine (jQ (w.heap.size+1+1+1) (w.heap.size+1) (w.heap.size+1+1) 4 ap _ _ _ _ _ A3.o A1.o Z A2.o Z Z).mono ?_;rintro e u' w'' ⟨rfl,rfl,rfl⟩;obtain ⟨wf,hwf⟩:=gN ((((wr.setCell ⟨w.heap.size+1+1+1,0,none⟩ (.int .i64 4)).setCell ⟨w.heap.size+1,0,none⟩ (.slice none 0 0)).setCell ⟨w.heap.size+1+1,0,none⟩ (.slice none 0 0)));have hfe:ag wf (w.heap.size+1+1+1) #[.int .i64 4] 37:=by
   have:=(((A3.o).set 0 (.int .i64 4)).setOther (a:=⟨w.heap.size+1,0,none⟩) au (.slice none 0 0)).setOther (a:=⟨w.heap.size+1+1,0,none⟩) au (.slice none 0 0);rw [hwf];simpa using this
  have hf0:ag wf (w.heap.size+1) #[.slice none 0 0] 29:=by
   have:=(((A1.o).setOther (a:=⟨w.heap.size+1+1+1,0,none⟩) au (.int .i64 4)).set 0 (.slice none 0 0)).setOther (a:=⟨w.heap.size+1+1,0,none⟩) au (.slice none 0 0);rw [hwf];simpa using this
  have hf1:ag wf (w.heap.size+1+1) #[.slice none 0 0] 53:=by
   have:=(((A2.o).setOther (a:=⟨w.heap.size+1+1+1,0,none⟩) au (.int .i64 4)).setOther (a:=⟨w.heap.size+1,0,none⟩) au (.slice none 0 0)).set 0 (.slice none 0 0);rw [hwf];simpa using this
  have cu:Ext w wf:=by rw [hwf];exact (((X.o).set (p:=⟨w.heap.size+1+1+1,0,none⟩) qz _).set (p:=⟨w.heap.size+1,0,none⟩) qz _).set (p:=⟨w.heap.size+1+1,0,none⟩) qz _
  rw [← hwf];clear hwf;have Gw:=kI hfe;have Gx:=kI hf0;have MY:=kI hf1;have ex:=kI cu;have ke:=hfe.cell 0;have k0:=hf0.cell 0;have k1:=hf1.cell 0;simp only [List.getElem?_toArray,List.getElem?_cons_zero] at ke k0 k1;clear hfe cu hf0 hf1;simp [Leaves,settle,results,Tryz.results33,go_sem,bk,ke,k0,k1];exact ⟨m7.mk (bV.nil _ _) (cQ.nil _ _) E.o,ex.o.drew⟩
 have q2:¬ (8:Int) < (m.states.length:Int):=Z
 have hmd:=(kW H1.o).1;have mp:=kI hmd;have fb:=kI (sw hmd (kW H1.o).2);have E3:=kI (KO H1.o h2);obtain ⟨n,hn⟩:=gN (m.states.length);have HN:=kI hn;have Mz:n≤8:=Z
 have Tn:=kI Mz;have Ve:=kI (show 0 < n from by rw [hn];exact Nat.pos_of_ne_zero (bF hmd).2.1);obtain ⟨CC,xL⟩:=gN (madeCells (Value.int .i64 0).cells (n*1));have oJ:=kI xL;have Mq:=kI (show (#[.bool m.ah.neg,.slice m1 m.ah.num.length n1,.slice m2 m.ah.den.length n2,.slice m3 m.states.length n3]:Array Value)=#[.bool m.ah.neg,.slice m1 m.ah.num.length n1,.slice m2 m.ah.den.length n2,.slice m3 n n3] from by rw [hn]);rw [← hn] at q2;rw [Mq.o] at A0;clear h2 hmd hn xL H1;obtain ⟨aK,fA0,aJ⟩:=A0.o.q3;obtain ⟨aY,aZ,lA1⟩:=A1.o.q3;obtain ⟨bA,bB,lA2⟩:=A2.o.q3;obtain ⟨iQ,fA3,lA3⟩:=A3.o.q3;go_wp2_with (at_make;(refine ij rfl _ _ rfl n rfl rfl Tryz.underlying53 Tryz.mu Z Z CC (by exact oJ.o.symm) ?_))
 clear aK fA0 aJ aY aZ lA1 bA bB lA2 iQ fA3 lA3;clear q2 Mz;obtain ⟨PB,Vf⟩:=gN (w1.heap.size);rw [← Vf];have b0:=(A0.o.setOther (a:=⟨w.heap.size+1+1,0,none⟩) au (.slice (some ⟨PB,0,none⟩) n n)).alloc (.cells CC 3);have b1:=(A1.o.setOther (a:=⟨w.heap.size+1+1,0,none⟩) au (.slice (some ⟨PB,0,none⟩) n n)).alloc (.cells CC 3);have b2:=(A2.o.set 0 (.slice (some ⟨PB,0,none⟩) n n)).alloc (.cells CC 3);have b3:=(A3.o.setOther (a:=⟨w.heap.size+1+1,0,none⟩) au (.slice (some ⟨PB,0,none⟩) n n)).alloc (.cells CC 3);have b4:=ag.new (w1.setCell ⟨w.heap.size+1+1,0,none⟩ (.slice (some ⟨PB,0,none⟩) n n)) CC 3;rw [World.size_setCell,← Vf] at b4;have hpl:w.heap.size+4≤PB:=by have:=A3.o.lt;omega
 have hx0:=(X.o.set (p:=⟨w.heap.size+1+1,0,none⟩) au (.slice (some ⟨PB,0,none⟩) n n)).alloc (.cells CC 3);obtain ⟨wb,hwb⟩:=gN ((w1.setCell ⟨w.heap.size+1+1,0,none⟩ (.slice (some ⟨PB,0,none⟩) n n)).alloc (.cells CC 3));have e0:ag wb (w.heap.size) #[.bool m.ah.neg,.slice m1 m.ah.num.length n1,.slice m2 m.ah.den.length n2,.slice m3 n n3] 28:=by rw [hwb];exact b0
 have e1:ag wb (w.heap.size+1) #[.slice none 0 0] 29:=by rw [hwb];exact b1
 have e2:ag wb (w.heap.size+1+1) #[.slice (some ⟨PB,0,none⟩) n n] 53:=by rw [hwb];simpa using b2
 have e3:ag wb (w.heap.size+1+1+1) #[.int .i64 0] 37:=by rw [hwb];exact b3
 have e4:ag wb PB (((List.replicate n (0:Int))).map (Value.int .i64)).toArray 3:=by
  rw [hwb,← C5,← oJ.o];exact b4
 have e5:Ext w wb:=by rw [hwb];exact hx0
 rw [← hwb];generalize (decide ((8:Int) < (n:Int)))=bq
 replace A0:=kI e0;replace A1:=kI e1;replace A2:=kI e2;replace A3:=kI e3;replace X:=kI e5;have PO:=kI e4;have nH:=kI hpl;clear b0 b1 b2 b3 b4 e0 e1 e2 e3 e4 e5 hx0 hwb Vf hpl HM oJ;go_loopw [] (fun wr=>∃ (p:List Int) (vv:Value),lE m p∧oy m=optG m p∧ag wr (w.heap.size) #[.bool m.ah.neg,.slice m1 m.ah.num.length n1,.slice m2 m.ah.den.length n2,.slice m3 n n3] 28∧ag wr (w.heap.size+1) #[vv] 29∧ag wr (w.heap.size+1+1) #[.slice (some ⟨PB,0,none⟩) n n] 53∧ag wr (w.heap.size+1+1+1) #[.int .i64 0] 37∧ag wr PB (p.map (Value.int .i64)).toArray 3∧Ext w wr) (fun wr=>DN m (zx wr PB n))
 case atStart=>exact ⟨List.replicate n 0,.slice none 0 0,by rw [HN.o];exact DU mp.o,by rw [HN.o];exact E3.o,A0.o,A1.o,A2.o,A3.o,PO.o,X.o⟩
 case round=>
  obtain ⟨wi,hwi⟩:=gN (wr);subst hwi;clear A0 A1 A2 A3 PO X E3;obtain ⟨p,vv,hpv,hop,ha0,ha1,ha2,vp,hpo,hx⟩:=hrel;have Km:=kI hpv;have Sb:=kI hop;have A0:=kI ha0;have A1:=kI ha1;have A2:=kI ha2;have A3:=kI vp;have PO:=kI hpo;have X:=kI hx;have hpn:p.length=n:=by rw [HN.o];exact hpv.1
  have Kl:=kI hpn;have YJ:=jN p n hpo hpn (by have:=Tn.o;omega);have Sc:=kI YJ;have HPA:=kI (wg hpo hpn);have qG:=kI (Ie.o.ext hx);rw [Mq.o] at qG;clear hpv hop ha0 ha1 ha2 vp hpo hx hpn YJ;obtain ⟨aK,fA0,aJ⟩:=A0.o.q3;obtain ⟨aY,aZ,lA1⟩:=A1.o.q3;obtain ⟨bA,bB,lA2⟩:=A2.o.q3;obtain ⟨iQ,fA3,lA3⟩:=A3.o.q3;have HBV:=kI (show PB < wi.heap.size from PO.o.lt);go_wp2_with fail;refine (RZ.o _ _ _ p qG.o Sc.o mp.o (oP Km.o)).mono ?_;rintro e nJ ⟨he,hx⟩;clear aK fA0 aJ aY aZ lA1 bA bB lA2 iQ fA3 lA3;replace A0:=kI (A0.o.ext hx);replace A1:=kI (A1.o.ext hx);replace A2:=kI (A2.o.ext hx);replace A3:=kI (A3.o.ext hx);replace PO:=kI (PO.o.ext hx);replace qG:=kI (qG.o.ext hx);replace Sc:=kI (Sc.o.ext hx);replace X:=kI (X.o.trans hx);clear hx;obtain ⟨S2,hS2⟩:=gN (aH m p);rw [← hS2] at he;have HS:=kI hS2.symm;have HSL:=kI (AT m p);obtain ⟨vs,c3⟩:=S2;dsimp only at he;clear hS2;by_cases h4:c3=0
  rotate_left
  ·obtain rfl:=he.pN h4;have E:=kI (show oy m=([],[],c3) from by rw [Sb.o];exact AV (by rw [HS.o]) h4);have H4:=kI h4;clear he h4;refine leaves_cons (f:=93) (args:=#[.pointer (some ⟨w.heap.size+1+1+1,0,none⟩),.pointer (some ⟨w.heap.size+1,0,none⟩),.pointer (some ⟨w.heap.size+1+1,0,none⟩)]) cp ks ?_;refine (kV (w.heap.size+1+1+1) (w.heap.size+1) (w.heap.size+1+1) c3 0 H4.o [] _ _ _ _ _ A3.o A1.o Z A2.o Z Z).mono ?_;rintro e u' w'' ⟨rfl,rfl,rfl⟩;obtain ⟨wf,hwf⟩:=gN ((((nJ.setCell ⟨w.heap.size+1+1+1,0,none⟩ (.int .i64 c3)).setCell ⟨w.heap.size+1,0,none⟩ (.slice none 0 0)).setCell ⟨w.heap.size+1+1,0,none⟩ (.slice none 0 0)));have hfe:ag wf (w.heap.size+1+1+1) #[.int .i64 c3] 37:=by
    have:=(((A3.o).set 0 (.int .i64 c3)).setOther (a:=⟨w.heap.size+1,0,none⟩) au (.slice none 0 0)).setOther (a:=⟨w.heap.size+1+1,0,none⟩) au (.slice none 0 0);rw [hwf];simpa using this
   have hf0:ag wf (w.heap.size+1) #[.slice none 0 0] 29:=by
    have:=(((A1.o).setOther (a:=⟨w.heap.size+1+1+1,0,none⟩) au (.int .i64 c3)).set 0 (.slice none 0 0)).setOther (a:=⟨w.heap.size+1+1,0,none⟩) au (.slice none 0 0);rw [hwf];simpa using this
   have hf1:ag wf (w.heap.size+1+1) #[.slice none 0 0] 53:=by
    have:=(((A2.o).setOther (a:=⟨w.heap.size+1+1+1,0,none⟩) au (.int .i64 c3)).setOther (a:=⟨w.heap.size+1,0,none⟩) au (.slice none 0 0)).set 0 (.slice none 0 0);rw [hwf];simpa using this
   have cu:Ext w wf:=by rw [hwf];exact (((X.o).set (p:=⟨w.heap.size+1+1+1,0,none⟩) qz _).set (p:=⟨w.heap.size+1,0,none⟩) qz _).set (p:=⟨w.heap.size+1+1,0,none⟩) qz _
   rw [← hwf];clear hwf;have Gw:=kI hfe;have Gx:=kI hf0;have MY:=kI hf1;have ex:=kI cu;have ke:=hfe.cell 0;have k0:=hf0.cell 0;have k1:=hf1.cell 0;simp only [List.getElem?_toArray,List.getElem?_cons_zero] at ke k0 k1;clear hfe cu hf0 hf1;simp [Leaves,settle,results,Tryz.results33,go_sem,bk,ke,k0,k1];exact ⟨m7.mk (bV.nil _ _) (cQ.nil _ _) E.o,ex.o.drew⟩
  subst h4;obtain ⟨rv,rfl,ho⟩:=he.pM;have hvn:vs.length=n:=by rw [HN.o];exact (oO mp.o Km.o HS.o).1
  obtain ⟨vb,vc,rfl⟩:=bV.iU ho hvn Ve.o;have OV:=kI ho;have YK:=kI hvn;rw [HS.o] at HSL;have XWI:=kI (show w.heap.size≤wi.heap.size from by have:=A3.o.lt;have:=HBV.o;have:=nH.o;omega);clear he ho hvn;obtain ⟨aK,fA0,aJ⟩:=A0.o.q3;obtain ⟨aY,aZ,lA1⟩:=A1.o.q3;obtain ⟨bA,bB,lA2⟩:=A2.o.q3;obtain ⟨iQ,fA3,lA3⟩:=A3.o.q3;go_wp2_with fail;clear aK fA0 aJ aY aZ lA1 bA bB lA2 iQ fA3 lA3;obtain ⟨wc,hwc⟩:=gN (nJ.setCell ⟨w.heap.size+1,0,none⟩ (.slice (some ⟨vb,0,none⟩) n vc));have e0:ag wc (w.heap.size) #[.bool m.ah.neg,.slice m1 m.ah.num.length n1,.slice m2 m.ah.den.length n2,.slice m3 n n3] 28:=by rw [hwc];exact A0.o.setOther (a:=⟨w.heap.size+1,0,none⟩) au _
  have e1:ag wc (w.heap.size+1) #[.slice (some ⟨vb,0,none⟩) n vc] 29:=by rw [hwc];have:=A1.o.set 0 (.slice (some ⟨vb,0,none⟩) n vc);simpa using this
  have e2:ag wc (w.heap.size+1+1) #[.slice (some ⟨PB,0,none⟩) n n] 53:=by rw [hwc];exact A2.o.setOther (a:=⟨w.heap.size+1,0,none⟩) au _
  have e3:ag wc (w.heap.size+1+1+1) #[.int .i64 0] 37:=by rw [hwc];exact A3.o.setOther (a:=⟨w.heap.size+1,0,none⟩) au _
  have e4:ag wc PB (p.map (Value.int .i64)).toArray 3:=by rw [hwc];exact PO.o.setOther (a:=⟨w.heap.size+1,0,none⟩) (by have:=nH.o;dsimp only;omega) _
  have e5:Ext w wc:=by rw [hwc];exact X.o.set (p:=⟨w.heap.size+1,0,none⟩) au _
  have e6:bV wi.heap.size wc (.slice (some ⟨vb,0,none⟩) n vc) vs:=by rw [hwc];exact OV.o.keeps (ay A1.o 0 _) ap ap
  rw [← hwc];replace A0:=kI e0;replace A1:=kI e1;replace A2:=kI e2;replace A3:=kI e3;replace PO:=kI e4;replace X:=kI e5;replace OV:=kI e6;replace qG:=kI (show eY wc (.agg #[.bool m.ah.neg,.slice m1 m.ah.num.length n1,.slice m2 m.ah.den.length n2,.slice m3 n n3]) m from by rw [← Mq.o];exact Ie.o.ext X.o);clear e0 e1 e2 e3 e4 e5 e6 hwc Sc;have WC:=kI (show PB < wc.heap.size from PO.o.lt);obtain ⟨aK,fA0,aJ⟩:=A0.o.q3;obtain ⟨aY,aZ,lA1⟩:=A1.o.q3;obtain ⟨bA,bB,lA2⟩:=A2.o.q3;obtain ⟨iQ,fA3,lA3⟩:=A3.o.q3;go_wp2_with fail;refine (Gf.o _ _ _ vs qG.o OV.o.rd HSL.o).mono ?_;rintro e w12 ⟨he,hx⟩;clear aK fA0 aJ aY aZ lA1 bA bB lA2 iQ fA3 lA3;replace A0:=kI (A0.o.ext hx);replace A1:=kI (A1.o.ext hx);replace A2:=kI (A2.o.ext hx);replace A3:=kI (A3.o.ext hx);replace PO:=kI (PO.o.ext hx);replace qG:=kI (qG.o.ext hx);replace X:=kI (X.o.trans hx);replace OV:=kI (OV.o.ext' hx);have XC:=kI hx.size;clear hx;obtain ⟨nv,gv,rfl,on,og⟩:=he;obtain ⟨nx,gr,c5,hB⟩:∃ a b c,am m vs=(a,b,c):=⟨_,_,_,rfl⟩;rw [hB] at on og ⊢;dsimp only at on og ⊢;have ug:=kI hB;clear hB;by_cases h5:c5=0
  rotate_left
  ·have H5:=kI h5;have E:=kI (show oy m=([],[],c5) from by rw [Sb.o];exact AW HS.o EX h5);clear h5 on og;obtain ⟨aK,fA0,aJ⟩:=A0.o.q3;obtain ⟨aY,aZ,lA1⟩:=A1.o.q3;obtain ⟨bA,bB,lA2⟩:=A2.o.q3;obtain ⟨iQ,fA3,lA3⟩:=A3.o.q3;go_wp2_with fail;refine (bu _ _ _ _ _ _ _ _ rfl H5.o _).mono ?_;rintro e GJ ⟨rfl,hx⟩;clear aK fA0 aJ aY aZ lA1 bA bB lA2 iQ fA3 lA3;replace A0:=kI (A0.o.ext hx);replace A1:=kI (A1.o.ext hx);replace A2:=kI (A2.o.ext hx);replace A3:=kI (A3.o.ext hx);replace PO:=kI (PO.o.ext hx);replace qG:=kI (qG.o.ext hx);replace X:=kI (X.o.trans hx);clear hx;refine leaves_cons (f:=93) (args:=#[.pointer (some ⟨w.heap.size+1+1+1,0,none⟩),.pointer (some ⟨w.heap.size+1,0,none⟩),.pointer (some ⟨w.heap.size+1+1,0,none⟩)]) cp ks ?_;refine (kV (w.heap.size+1+1+1) (w.heap.size+1) (w.heap.size+1+1) c5 0 H5.o [] _ _ _ _ _ A3.o A1.o Z A2.o Z Z).mono ?_;rintro e u' w'' ⟨rfl,rfl,rfl⟩;obtain ⟨wf,hwf⟩:=gN ((((GJ.setCell ⟨w.heap.size+1+1+1,0,none⟩ (.int .i64 c5)).setCell ⟨w.heap.size+1,0,none⟩ (.slice none 0 0)).setCell ⟨w.heap.size+1+1,0,none⟩ (.slice none 0 0)));have hfe:ag wf (w.heap.size+1+1+1) #[.int .i64 c5] 37:=by
    have:=(((A3.o).set 0 (.int .i64 c5)).setOther (a:=⟨w.heap.size+1,0,none⟩) au (.slice none 0 0)).setOther (a:=⟨w.heap.size+1+1,0,none⟩) au (.slice none 0 0);rw [hwf];simpa using this
   have hf0:ag wf (w.heap.size+1) #[.slice none 0 0] 29:=by
    have:=(((A1.o).setOther (a:=⟨w.heap.size+1+1+1,0,none⟩) au (.int .i64 c5)).set 0 (.slice none 0 0)).setOther (a:=⟨w.heap.size+1+1,0,none⟩) au (.slice none 0 0);rw [hwf];simpa using this
   have hf1:ag wf (w.heap.size+1+1) #[.slice none 0 0] 53:=by
    have:=(((A2.o).setOther (a:=⟨w.heap.size+1+1+1,0,none⟩) au (.int .i64 c5)).setOther (a:=⟨w.heap.size+1,0,none⟩) au (.slice none 0 0)).set 0 (.slice none 0 0);rw [hwf];simpa using this
   have cu:Ext w wf:=by rw [hwf];exact (((X.o).set (p:=⟨w.heap.size+1+1+1,0,none⟩) qz _).set (p:=⟨w.heap.size+1,0,none⟩) qz _).set (p:=⟨w.heap.size+1+1,0,none⟩) qz _
   rw [← hwf];clear hwf;have Gw:=kI hfe;have Gx:=kI hf0;have MY:=kI hf1;have ex:=kI cu;have ke:=hfe.cell 0;have k0:=hf0.cell 0;have k1:=hf1.cell 0;simp only [List.getElem?_toArray,List.getElem?_cons_zero] at ke k0 k1;clear hfe cu hf0 hf1;simp [Leaves,settle,results,Tryz.results33,go_sem,bk,ke,k0,k1];exact ⟨m7.mk (bV.nil _ _) (cQ.nil _ _) E.o,ex.o.drew⟩
  subst h5;have hb0:=iT (m:=m) (vs:=vs) EX;rw [ug.o] at hb0;dsimp only at hb0;rw [← HN.o] at hb0;obtain ⟨l1,l2,l3,l4⟩:=hb0;obtain ⟨nb,nc,rfl⟩:=bV.iU on l1 Ve.o;obtain ⟨gb,gc,rfl⟩:=cQ.iU og l2 Ve.o;have ON:=kI on;have OG:=kI og;have L1:=kI l1;have L2:=kI l2;have L3:=kI l3;have L4:=kI l4;clear on og l1 l2 l3 l4;obtain ⟨aK,fA0,aJ⟩:=A0.o.q3;obtain ⟨aY,aZ,lA1⟩:=A1.o.q3;obtain ⟨bA,bB,lA2⟩:=A2.o.q3;obtain ⟨iQ,fA3,lA3⟩:=A3.o.q3;go_wp2_with fail;refine (bO _ _ _ _ _ _ _ _).mono ?_;rintro e GJ ⟨rfl,hx⟩;clear aK fA0 aJ aY aZ lA1 bA bB lA2 iQ fA3 lA3;replace A0:=kI (A0.o.ext hx);replace A1:=kI (A1.o.ext hx);replace A2:=kI (A2.o.ext hx);replace A3:=kI (A3.o.ext hx);replace PO:=kI (PO.o.ext hx);replace qG:=kI (qG.o.ext hx);replace X:=kI (X.o.trans hx);replace OV:=kI (OV.o.ext' hx);replace ON:=kI (ON.o.ext' hx);replace OG:=kI (OG.o.ext' hx);clear hx;obtain ⟨wl,hwl⟩:=gN (GJ);rw [← hwl] at A0 A1 A2 A3 PO qG OV ON OG X ⊢;clear hwl;go_wp2_with fail;go_loopw [45,9] (fun i bt wr=>∃ k:Nat,k≤n∧i=.int .i64 (k:Nat)∧bt=.bool (lG m vs k)∧ag wr PB ((jT m vs p k).map (Value.int .i64)).toArray 3∧ft PB wl wr∧(lG m vs k=false→Ext wl wr)) (fun i _ _=>n - (intOf i).toNat)
  case atStart=>exact ⟨0,Nat.zero_le _,rfl,rfl,by rw [AU];exact PO.o,.ext (Ext.refl _),fun _=>Ext.refl _⟩
  case round=>
   obtain ⟨wj,Cz⟩:=gN (wr);subst Cz;obtain ⟨k,hk,rfl,rfl,hpk,hkp,hxx⟩:=hrel;have KP:=kI hkp;have PK:=kI hpk;have XX:=kI hxx;have HK:=kI hk;have h9:=nH.o;have YM:=kI (hkp.blk A0.o Z);have Sd:=kI (hkp.blk A1.o Z);have Se:=kI (hkp.blk A2.o Z);have Vg:=kI (hkp.blk A3.o Z);have PV:=kI (OV.o.keeps (hkp.ay PO.o) ap ap);have PN:=kI (ON.o.keeps (hkp.ay PO.o) ap ap);have PG:=kI (OG.o.Px hkp WC.o);have Qi:w.heap.size≤wl.heap.size:=X.o.size;have XJ:=kI (show Ext w wj from Below.trans X.o (hkp.KT Z Qi));clear hpk hkp hxx Qi h9 hk;by_cases hlt:k < n
   ·have fb:=kI hlt;have q1:(0:Int)≤(k:Int):=Z
    have q2:(k:Int) < (n:Int):=Z
    obtain ⟨xb,xo,a1,a2,a3,a4,ea,z0,z1,z2,z3,z4⟩:=(PN.o.rd).at (i:=k) (by rw [L1.o];exact hlt);injection ea with ea
    injection ea with ea eo _
    subst ea;subst eo;rw [Nat.zero_add] at z1 z2 z3;obtain ⟨xr,hxr⟩:=gN (nx.getD k zR);rw [← hxr] at z1 z2 z3 z4;have MX:=kI hxr;obtain ⟨wo,hwo⟩:=gN (wj.alloc (.cells #[.bool xr.neg,.slice a1 xr.num.length a2,.slice a3 xr.den.length a4] 25));have hx:Ext wj wo:=by rw [hwo];exact (Ext.refl _).alloc _
    have bo:ag wo wj.heap.size #[.bool xr.neg,.slice a1 xr.num.length a2,.slice a3 xr.den.length a4] 25:=by rw [hwo];exact ag.new _ _ _
    obtain ⟨Y,hY⟩:=gN (wj.heap.size);have Mr:=kI hY;have qF:=kI hwo;rw [← hY] at bo;have XRD:=kI (z4.ext hx);clear hxr hY hwo;go_wp2_with fail;rw [← qF.o,← Mr.o];clear z0 z1 z2 z3 z4 qF;have BO:=kI bo;have X0:=kI hx;have VO:=kI (PV.o.ext' hx);obtain ⟨yb,yo,b1,b2,b3,b4,eb,g0,g1,g2,g3,g4⟩:=(VO.o.rd).at (i:=k) (by rw [YK.o];exact hlt);injection eb with eb
    injection eb with eb eo _
    subst eb;subst eo;rw [Nat.zero_add] at g1 g2 g3;obtain ⟨yr,IC⟩:=gN (vs.getD k zR);rw [← IC] at g1 g2 g3 g4;have Vh:=(oO mp.o Km.o HS.o).2 k QZ;have hxc:=L4.o k hlt;have hxl:=L3.o k (by rw [L1.o];exact hlt);have hyl:=HSL.o k (by rw [YK.o];exact hlt);rw [← IC] at Vh hyl;rw [← MX.o] at hxc hxl;have hcm:cA xr yr=(eu (qv xr) (qv yr),0):=if_pos (dz hxc Vh.1);obtain ⟨c,hc⟩:=gN (eu (qv xr) (qv yr));rw [← hc] at hcm;have YS:Hid (vb < wo.heap.size∧wo.cell? ⟨vb,k*3,none⟩=some (.bool yr.neg)∧wo.cell? ⟨vb,k*3+1,none⟩=some (.slice b1 yr.num.length b2)∧wo.cell? ⟨vb,k*3+2,none⟩=some (.slice b3 yr.den.length b4)∧bh wo (.agg #[.bool yr.neg,.slice b1 yr.num.length b2,.slice b3 yr.den.length b4]) yr):=kI ⟨g0,g1,g2,g3,g4⟩;have HCM:Hid (∀ W,Ext wo W→Calls Tryz.prog 56 #[.agg #[.bool xr.neg,.slice a1 xr.num.length a2,.slice a3 xr.den.length a4],.agg #[.bool yr.neg,.slice b1 yr.num.length b2,.slice b3 yr.den.length b4]] W fun e w'=>e=.returned (.tuple #[.int .i64 c,.int .i64 0])∧Ext W w'):=kI (fun W hW=>by
     have h:=fi _ _ xr yr W (XRD.o.ext hW) (g4.ext hW) hxl hyl;rw [hcm] at h;exact h)
    have YN:=kI (Sd.o.ext hx);have Qg:=kI IC;have HC:=kI hc;clear bo hx g0 g1 g2 g3 g4 IC Vh hxc hxl hyl hcm hc;refine gy (DX (some ⟨vb,0,none⟩) n vc vb k 0 xr yr a1 a2 a3 a4 b1 b2 b3 b4 c) ax ax ax (fun _ _ _ _ h x=>A6 h x) ?_ ?_
    ·refine ⟨?_,?_,?_,?_,?_,?_,?_,?_,?_,?_,?_,trivial⟩
     ·intro a W hW hB hD K hK;have b11:=hB 11 rfl;simp only [sB] at b11;have q9:=(BO.o.ext hW).cell;have l9:=(BO.o.ext hW).lt;go_simp;exact hK _ _ (Ext.refl _) rfl
     ·intro a W hW hB hD K hK;have b2:=hB 2 rfl;simp only [sB] at b2;have q9:=(YN.o.ext hW).cell;have l9:=(YN.o.ext hW).lt;go_simp;exact hK _ _ (Ext.refl _) rfl
     ·intro a W hW hB hD K hK;have b10:=hB 10 rfl;simp only [sB] at b10;go_simp;exact hK _ _ (Ext.refl _) rfl
     ·intro a W hW hB hD K hK;obtain ⟨v52,e52,U1⟩:=aE (hD 1 _ 52 rfl rfl ax);obtain rfl:=U1;obtain ⟨v53,e53,U0⟩:=aE (hD 2 _ 53 rfl rfl ax);obtain rfl:=U0;go_simp;exact hK _ _ (Ext.refl _) rfl
     ·intro a W hW hB hD K hK;obtain ⟨v54,e54,U2⟩:=aE (hD 3 _ 54 rfl rfl ax);obtain rfl:=U2;have m0:=(hW.cell (p:=⟨vb,k*3,none⟩) YS.o.1).trans YS.o.2.1;have m1:=(hW.cell (p:=⟨vb,k*3+1,none⟩) YS.o.1).trans YS.o.2.2.1;have m2:=(hW.cell (p:=⟨vb,k*3+2,none⟩) YS.o.1).trans YS.o.2.2.2.1;have ml:=Nat.lt_of_lt_of_le YS.o.1 hW.size;go_simp;exact hK _ _ (Ext.refl _) rfl
     ·intro a W hW hB hD K hK;obtain ⟨v51,e51,UZ⟩:=aE (hD 0 _ 51 rfl rfl ax);obtain rfl:=UZ;obtain ⟨v55,e55,U3⟩:=aE (hD 4 _ 55 rfl rfl ax);obtain rfl:=U3;go_simp;refine (HCM.o W hW).mono ?_;rintro e w9 ⟨rfl,hx⟩;exact hK _ _ hx rfl
     ·intro a W hW hB hD K hK;obtain ⟨v56,e56,U7⟩:=aE (hD 5 _ 56 rfl rfl ax);obtain rfl:=U7;go_simp;exact hK _ _ (Ext.refl _) rfl
     ·intro a W hW hB hD K hK;obtain ⟨v50,e50,h50⟩:=aE (hD 6 _ 50 rfl rfl ax);obtain rfl:=h50;go_simp;exact hK _ _ (Ext.refl _) rfl
     ·intro a W hW hB hD K hK;obtain ⟨v50,e50,h50⟩:=aE (hD 6 _ 50 rfl rfl ax);obtain rfl:=h50;go_simp;exact hK _ _ (Ext.refl _) rfl
     ·intro a W hW hB hD K hK;obtain ⟨v57,e57,h57⟩:=aE (hD 7 _ 57 rfl rfl ax);obtain rfl:=h57;go_simp;exact hK _ _ (Ext.refl _) rfl
     ·intro a W hW hB hD K hK;obtain ⟨v58,e58,U5⟩:=aE (hD 8 _ 58 rfl rfl ax);obtain rfl:=U5;go_simp;exact hK _ _ (Ext.refl _) rfl
    intro w7 hx;simp only [cW];rintro u0 h0 u1 h1 u2 h2 u3 h3 u4 h4 u5 h5 u6 h6 u7 h7 u8 h8 u9 h9 u10 h10;obtain rfl:=h0;obtain rfl:=h1;obtain rfl:=h2;obtain rfl:=h3;obtain rfl:=h4;obtain rfl:=h5;obtain rfl:=h6;obtain rfl:=h7;obtain rfl:=h8;obtain rfl:=h9;obtain rfl:=h10;simp only [Act.put,List.setIfInBounds_toArray,List.set_cons_zero,List.set_cons_succ];have hif:c < 0↔qv ((am m vs).1.getD k zR) < qv (vs.getD k zR):=by
     rw [HC.o,MX.o,Qg.o,ug.o];exact DW
    have YO:=kI hif;have P7:=kI (PK.o.ext (X0.o.trans hx));have YP:=kI (Se.o.ext (X0.o.trans hx));have X7:=kI (X0.o.trans hx);have G7:=kI (PG.o.ext' (X0.o.trans hx));clear hif hx;by_cases hcl:c < 0
    ·have q3:decide (c < 0)=true:=decide_eq_true hcl;have Qj:=kI (YO.o.1 hcl);clear hcl;go_wp2_with fail;obtain ⟨e1,e2,e3⟩:=G7.o.atZ (i:=k) (by rw [L2.o];exact fb.o);obtain ⟨xg,hxg⟩:=gN (gr.getD k 0);rw [← hxg] at e3;have HXG:=kI hxg;have GC:=kI (And.intro e2 e3);clear e1 e2 e3 hxg;have X:=kI (Ext.refl w7);refine cm 7 (DY PB n k gb n gc xg) ax ax ax (fun _ _ _ _ h x=>A8 h x) ?_ ?_
     ·refine ⟨?_,?_,?_,?_,?_,?_,?_,trivial⟩
      ·intro a W hW hB hD K hK;have b3:=hB 3 rfl;simp only [sB] at b3;have q9:=(YP.o.ext hW).cell;have l9:=(YP.o.ext hW).lt;go_simp;exact hK _ _ (Ext.refl _) rfl
      ·intro a W hW hB hD K hK;have b10:=hB 10 rfl;simp only [sB] at b10;go_simp;exact hK _ _ (Ext.refl _) rfl
      ·intro a W hW hB hD K hK;have b7:=hB 7 rfl;simp only [sB] at b7;go_simp;exact hK _ _ (Ext.refl _) rfl
      ·intro a W hW hB hD K hK;have b10:=hB 10 rfl;simp only [sB] at b10;go_simp;exact hK _ _ (Ext.refl _) rfl
      ·intro a W hW hB hD K hK;obtain ⟨v63,e63,h63⟩:=aE (hD 2 _ 63 rfl rfl ax);obtain rfl:=h63;obtain ⟨v64,e64,h64⟩:=aE (hD 3 _ 64 rfl rfl ax);obtain rfl:=h64;go_simp;exact hK _ _ (Ext.refl _) rfl
      ·intro a W hW hB hD K hK;obtain ⟨v65,e65,h65⟩:=aE (hD 4 _ 65 rfl rfl ax);obtain rfl:=h65;have m0:=(hW.cell (p:=⟨gb,k,none⟩) GC.o.1).trans GC.o.2;have ml:=Nat.lt_of_lt_of_le GC.o.1 hW.size;go_simp;exact hK _ _ (Ext.refl _) rfl
      ·intro a W hW hB hD K hK;obtain ⟨v61,e61,Qd⟩:=aE (hD 0 _ 61 rfl rfl ax);obtain rfl:=Qd;obtain ⟨v62,e62,U6⟩:=aE (hD 1 _ 62 rfl rfl ax);obtain rfl:=U6;go_simp;exact hK _ _ (Ext.refl _) rfl
     intro w8 hx;simp only [cW,List.take_succ_cons,List.take_zero,List.drop_succ_cons,List.drop_zero];rintro u0 h0 u1 h1 u2 h2 u3 h3 u4 h4 u5 h5 u6 h6;obtain rfl:=h0;obtain rfl:=h1;obtain rfl:=h2;obtain rfl:=h3;obtain rfl:=h4;obtain rfl:=h5;obtain rfl:=h6;simp only [Act.put,List.setIfInBounds_toArray,List.set_cons_zero,List.set_cons_succ];have X8:=kI (X7.o.trans hx);have P8:=kI (P7.o.ext hx);clear hx;have hlen:k < (jT m vs p k).length:=by rw [dt,Kl.o];exact fb.o
     have p0:w8.cell? ⟨PB,k,none⟩=some (.int .i64 ((jT m vs p k).getD k 0)):=by
      rw [P8.o.cell,List.getElem?_toArray,List.getElem?_map,List.getElem?_eq_getElem hlen,List.getD_eq_getElem?_getD,List.getElem?_eq_getElem hlen];rfl
     obtain ⟨xo,hxo⟩:=gN ((jT m vs p k).getD k 0);rw [← hxo] at p0;clear hxo hlen;have p1:=P8.o.free k;have p2:=P8.o.lt;go_wp2_with fail;clear p0 p1 p2;obtain ⟨w9,Sf⟩:=gN (w8.setCell ⟨PB,k,none⟩ (.int .i64 xg));have f1:ag w9 PB ((jT m vs p (k+1)).map (Value.int .i64)).toArray 3:=by
      rw [Sf,DR (by rw [Kl.o];exact fb.o) Qj.o,ug.o,← HXG.o];exact yg P8.o
     have f2:ft PB wl w9:=by rw [Sf];exact (KP.o.trans (ft.ext X8.o)).set _ _
     have f3:lG m vs (k+1)=true:=by rw [su,decide_eq_true Qj.o,Bool.or_true]
     rw [← Sf];clear Sf;go_roundw
     case rel=>exact ⟨k+1,fb.o,by go_num,by rw [f3],f1,f2,fun h=>by rw [f3] at h;cases h⟩
     case measure=>first|(simp [intOf];done)|(simp [intOf];omega)
    ·have q3:decide (c < 0)=false:=decide_eq_false hcl;have Qj:=kI (fun z=>hcl (YO.o.2 z));clear hcl;go_wp2_with fail;have f1:ag w7 PB ((jT m vs p (k+1)).map (Value.int .i64)).toArray 3:=by
      rw [GH Qj.o];exact P7.o
     have f2:ft PB wl w7:=KP.o.trans (ft.ext X7.o);have f3:lG m vs (k+1)=lG m vs k:=by rw [su,decide_eq_false Qj.o,Bool.or_false]
     have f4:lG m vs (k+1)=false→Ext wl w7:=fun h=>(XX.o (by rw [← f3];exact h)).trans X7.o;go_roundw
     case rel=>exact ⟨k+1,fb.o,by go_num,by rw [f3],f1,f2,f4⟩
     case measure=>first|(simp [intOf];done)|(simp [intOf];omega)
   ·obtain rfl:n=k:=by have:=HK.o;omega
    have q1:¬ ((n:Int) < (n:Int)):=Z
    obtain ⟨bt,hbt⟩:=gN (lG m vs n);rw [← hbt];have YQ:=kI hbt;clear hbt hlt;cases bt
    ·have q3:(!false)=true:=rfl;have E:=kI (show oy m=(vs,gr,0) from by
      rw [Sb.o];have h:=AX HS.o EX (by rw [← HN.o];exact YQ.o.symm);rw [ug.o] at h;exact h)
     have hle:w.heap.size≤wc.heap.size:=by have:=WC.o;have:=nH.o;omega
     have ov:=PV.o.mono XWI.o;have og:=PG.o.mono hle;replace A1:=Sd;replace A2:=Se;replace A3:=Vg;replace X:=XJ;have Vi:=kI ov;have Vj:=kI og;clear PV PN PG YM Sd Se Vg XJ ov og hle OV ON OG;obtain ⟨aY,aZ,lA1⟩:=A1.o.q3;obtain ⟨bA,bB,lA2⟩:=A2.o.q3;obtain ⟨iQ,fA3,lA3⟩:=A3.o.q3;go_wp2_with fail;clear aY aZ lA1 bA bB lA2 iQ fA3 lA3;obtain ⟨wr,hwr⟩:=gN ((((wj.setCell ⟨w.heap.size+1,0,none⟩ (.slice (some ⟨vb,0,none⟩) n vc)).setCell ⟨w.heap.size+1+1,0,none⟩ (.slice (some ⟨gb,0,none⟩) n gc)).setCell ⟨w.heap.size+1+1+1,0,none⟩ (.int .i64 0)));have ha1:ag wr (w.heap.size+1) #[.slice (some ⟨vb,0,none⟩) n vc] 29:=by
      have:=((A1.o.set 0 (.slice (some ⟨vb,0,none⟩) n vc)).setOther (a:=⟨w.heap.size+1+1,0,none⟩) au (.slice (some ⟨gb,0,none⟩) n gc)).setOther (a:=⟨w.heap.size+1+1+1,0,none⟩) au (.int .i64 0);rw [hwr];simpa using this
     have ha2:ag wr (w.heap.size+1+1) #[.slice (some ⟨gb,0,none⟩) n gc] 53:=by
      have:=((A2.o.setOther (a:=⟨w.heap.size+1,0,none⟩) au (.slice (some ⟨vb,0,none⟩) n vc)).set 0 (.slice (some ⟨gb,0,none⟩) n gc)).setOther (a:=⟨w.heap.size+1+1+1,0,none⟩) au (.int .i64 0);rw [hwr];simpa using this
     have vp:ag wr (w.heap.size+1+1+1) #[.int .i64 0] 37:=by
      have:=((A3.o.setOther (a:=⟨w.heap.size+1,0,none⟩) au (.slice (some ⟨vb,0,none⟩) n vc)).setOther (a:=⟨w.heap.size+1+1,0,none⟩) au (.slice (some ⟨gb,0,none⟩) n gc)).set 0 (.int .i64 0);rw [hwr];simpa using this
     have hxr:Ext w wr:=by rw [hwr];exact ((X.o.set (p:=⟨w.heap.size+1,0,none⟩) au _).set (p:=⟨w.heap.size+1+1,0,none⟩) au _).set (p:=⟨w.heap.size+1+1+1,0,none⟩) au _
     have hov:bV w.heap.size wr (.slice (some ⟨vb,0,none⟩) n vc) vs:=by rw [hwr];exact (((Vi.o.keeps (ay A1.o 0 (.slice (some ⟨vb,0,none⟩) n vc)) ap ap).keeps (ay (A2.o.setOther (a:=⟨w.heap.size+1,0,none⟩) au (.slice (some ⟨vb,0,none⟩) n vc)) 0 (.slice (some ⟨gb,0,none⟩) n gc)) ap ap).keeps (ay ((A3.o.setOther (a:=⟨w.heap.size+1,0,none⟩) au (.slice (some ⟨vb,0,none⟩) n vc)).setOther (a:=⟨w.heap.size+1+1,0,none⟩) au (.slice (some ⟨gb,0,none⟩) n gc)) 0 (.int .i64 0)) ap ap)
     have hog:cQ w.heap.size wr (.slice (some ⟨gb,0,none⟩) n gc) gr:=by rw [hwr];exact (((Vj.o.keeps (ay A1.o 0 (.slice (some ⟨vb,0,none⟩) n vc)) ap).keeps (ay (A2.o.setOther (a:=⟨w.heap.size+1,0,none⟩) au (.slice (some ⟨vb,0,none⟩) n vc)) 0 (.slice (some ⟨gb,0,none⟩) n gc)) ap).keeps (ay ((A3.o.setOther (a:=⟨w.heap.size+1,0,none⟩) au (.slice (some ⟨vb,0,none⟩) n vc)).setOther (a:=⟨w.heap.size+1+1,0,none⟩) au (.slice (some ⟨gb,0,none⟩) n gc)) 0 (.int .i64 0)) ap)
     replace Vi:=kI hov;replace Vj:=kI hog;clear hov hog;rw [← hwr];clear hwr;replace A1:=kI ha1;replace A2:=kI ha2;replace A3:=kI vp;replace X:=kI hxr;clear ha1 ha2 vp hxr;refine leaves_cons (f:=93) (args:=#[.pointer (some ⟨w.heap.size+1+1+1,0,none⟩),.pointer (some ⟨w.heap.size+1,0,none⟩),.pointer (some ⟨w.heap.size+1+1,0,none⟩)]) cp ks ?_;refine (ri (w.heap.size+1+1+1) (w.heap.size+1) (w.heap.size+1+1) _ A3.o).mono ?_;rintro e u' w'' ⟨rfl,rfl,rfl⟩;obtain ⟨wf,hwf⟩:=gN ((wr.setCell ⟨w.heap.size+1+1+1,0,none⟩ (.int .i64 0)));have hfe:ag wf (w.heap.size+1+1+1) #[.int .i64 0] 37:=by
      have:=(A3.o).set 0 (.int .i64 0);rw [hwf];simpa using this
     have hf0:ag wf (w.heap.size+1) #[.slice (some ⟨vb,0,none⟩) n vc] 29:=by
      have:=(A1.o).setOther (a:=⟨w.heap.size+1+1+1,0,none⟩) au (.int .i64 0);rw [hwf];simpa using this
     have hf1:ag wf (w.heap.size+1+1) #[.slice (some ⟨gb,0,none⟩) n gc] 53:=by
      have:=(A2.o).setOther (a:=⟨w.heap.size+1+1+1,0,none⟩) au (.int .i64 0);rw [hwf];simpa using this
     have cu:Ext w wf:=by rw [hwf];exact (X.o).set (p:=⟨w.heap.size+1+1+1,0,none⟩) qz _
     have OVF:=kI (show bV w.heap.size wf (.slice (some ⟨vb,0,none⟩) n vc) vs from by rw [hwf];exact Vi.o.keeps (ay A3.o 0 (.int .i64 0)) ap ap);have OGF:=kI (show cQ w.heap.size wf (.slice (some ⟨gb,0,none⟩) n gc) gr from by rw [hwf];exact Vj.o.keeps (ay A3.o 0 (.int .i64 0)) ap);rw [← hwf];clear hwf;have Gw:=kI hfe;have Gx:=kI hf0;have MY:=kI hf1;have ex:=kI cu;have ke:=hfe.cell 0;have k0:=hf0.cell 0;have k1:=hf1.cell 0;simp only [List.getElem?_toArray,List.getElem?_cons_zero] at ke k0 k1;clear hfe cu hf0 hf1;simp [Leaves,settle,results,Tryz.results33,go_sem,bk,ke,k0,k1];exact ⟨m7.mk (OVF.o.ext' (Ext.refl _).drew) (OGF.o.ext' (Ext.refl _).drew) E.o,ex.o.drew⟩
    ·have q3:(!true)=false:=rfl;have hst:=AZ mp.o fb.o Km.o HS.o EX (by rw [← HN.o];exact YQ.o.symm);have YR:=jS (vs:=vs) Km.o EX;have hpk:ag wj PB ((fF m vs p).map (Value.int .i64)).toArray 3:=by rw [← DQ,Kl.o];exact PK.o
     have HST:=kI hst;have HIP:=kI YR;have Po:=kI hpk;clear hst YR hpk;go_wp2_with fail;go_roundw
     case rel=>exact ⟨fF m vs p,_,HIP.o,Sb.o.trans HST.o.1,YM.o,Sd.o,Se.o,Vg.o,Po.o,XJ.o⟩
     case measure=>rw [HPA.o,wg Po.o (by rw [qm];exact Kl.o)];exact HST.o.2
end Go.Proofs.YtnnjbaijcaiohaaGreat
