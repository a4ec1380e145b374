/- Lemmas and walks of this claim. Conditions: as each states. -/
import Derived.Test.YtfflknbeidihoaaStOrdX
import Derived.Test.YtfflknbeidihoaaStAppT
import Derived.Sort.LoopGhostIn
set_option linter.unusedVariables false
set_option linter.unusedSimpArgs false
namespace Go.Proofs.Ytfflknbeidihoaa
open Go.RowKit
attribute [local go_sem] Oper.semAt_some
abbrev put3b (W:World) (A:Nat) (x y z:Value):World:=((W.setCell ⟨A+1,0,none⟩ x).setCell ⟨A+1+1,0,none⟩ y).setCell ⟨A+1+1+1,0,none⟩ z
theorem put3b_blk {W:World} {A:Nat} {t1 t2 t3:TypeId} {a b c:Value} (h1:Blk W (A+1) #[a] t1) (h2:Blk W (A+1+1) #[b] t2) (h3:Blk W (A+1+1+1) #[c] t3) (x y z:Value) :
  Blk (put3b W A x y z) (A+1) #[x] t1∧Blk (put3b W A x y z) (A+1+1) #[y] t2∧Blk (put3b W A x y z) (A+1+1+1) #[z] t3:=by
 have e1:=((h1.set 0 x).setOther (a:=⟨A+1+1,0,none⟩) (by dsimp only;omega) y).setOther (a:=⟨A+1+1+1,0,none⟩) (by dsimp only;omega) z
 have e2:=((h2.setOther (a:=⟨A+1,0,none⟩) (by dsimp only;omega) x).set 0 y).setOther (a:=⟨A+1+1+1,0,none⟩) (by dsimp only;omega) z
 have e3:=((h3.setOther (a:=⟨A+1,0,none⟩) (by dsimp only;omega) x).setOther (a:=⟨A+1+1,0,none⟩) (by dsimp only;omega) y).set 0 z
 exact ⟨e1,e2,e3⟩
theorem put3b_heap {W:World} {A:Nat} {x y z:Value} {i:Nat} (h:i < A+1∨A+3 < i):(put3b W A x y z).heap[i]?=W.heap[i]?:=
 (Below.heap_setCell _ _ _ i (by dsimp only;omega)).trans ((Below.heap_setCell _ _ _ i (by dsimp only;omega)).trans (Below.heap_setCell _ _ _ i (by dsimp only;omega)))
theorem put3b_ext {w W:World} {A:Nat} {x y z:Value} (h:Ext w W) (hA:w.heap.size≤A):Ext w (put3b W A x y z):=
 ⟨h.os,h.tape,h.output,by have:=h.size;simp only [World.size_setCell];exact this,fun i hi=>(put3b_heap (.inl (by omega))).trans (h.block i hi)⟩
theorem Marks.kpB {B n:Nat} {X:Nat→Prop} {ds:List Deferred} {W W':World} (h:Marks B ds W) (k:KpB n X W W') (hn:W.heap.size≤n) (hX:∀ i,X i→i≤B∨∃ c t,Blk W i c t):Marks B ds W':=by
 obtain ⟨rs,h1,h2,h3⟩:=h
 refine ⟨rs,h1,h2,fun r hr=>⟨(h3 r hr).1,?_⟩⟩
 obtain ⟨g1,g2⟩:=h3 r hr
 have hlt:=(Array.getElem?_eq_some_iff.1 g2).1
 refine (k.block r hlt (by omega) (fun hx=>?_)).trans g2
 rcases hX r hx with h|⟨c,t,h⟩
 ·omega
 ·unfold Blk at h;rw [h] at g2;cases g2
theorem keeps_setC {w:World} {b:Nat} {c:Array Value} {t:TypeId} (hb:Blk w b c t) (o:Nat) (x:Value):Keeps 0 t w (w.setCell ⟨b,o,none⟩ x):=
 ⟨(Below.refl 0 w).setCell (Nat.zero_le _) x,fun i hi ho=>Below.heap_setCell w ⟨b,o,none⟩ x i (fun (e:i=b)=>by
  subst e
  rcases ho with h1|⟨cur,u,h1,h2⟩
  ·omega
  ·unfold Blk at hb h1
   rw [hb] at h1
   injection h1 with h1
   injection h1 with _ h3
   exact h2 h3.symm)⟩
theorem keeps_kpB {n B:Nat} {X:Nat→Prop} {t:TypeId} {A C:World} (k:Keeps B t A C) (h:n≤B):KpB n X A C:=⟨k.zero,fun i hi hn _=>k.block i hi (.inl (by omega))⟩
theorem scFin_len {m:MD} {k:Nat} {xs:List (Value × Int)} (h:ScFin m k xs) (hz:∀ y ∈ xs,y.2=0):xs.length=(m.states.getD k []).length:=by
 rcases h with h|⟨y,hy,hn⟩
 ·exact h
 ·exact absurd (hz y hy) hn
theorem c1B {W:World} {b:Nat} {v:Value} {t:TypeId} (h:Blk W b #[v] t):W.cell? ⟨b,0,none⟩=some v:=h.cell 0
theorem own_gKeeps {α:Type} {e:TypeId} {size:Nat} {El:World→List Value→α→Prop} {B:Nat} {w w':World} {v:Value} {l:List α} (h:OwRow e size El B w v l) (hg:w.grownBy w' v.ownBlock):Keeps B e w w'∧∀ i,i < w.heap.size→(∀ c,¬ Blk w i c e)→w'.heap[i]?=w.heap[i]?:=by
 obtain ⟨hs,h1,_⟩:=h
 have key:∀ i,i < w.heap.size→(some i=v.ownBlock→i < B→False)→(∀ c,Blk w i c e→some i≠v.ownBlock)→w'.heap[i]?=w.heap[i]?:=fun i hi hB hc=>hg.block i hi (fun e9=>by
  rcases h1.2 with ⟨rfl,_⟩|⟨g,cap,cur,rfl,hb,hgk,_⟩
  ·cases e9
  ·injection e9 with e9
   dsimp only at e9
   subst e9
   exact hc cur hgk rfl)
 have own:∀ q,v.ownBlock=some q→B≤q∧∃ c,Blk w q c e:=fun q hq=>by
  rcases h1.2 with ⟨rfl,_⟩|⟨g,cap,cur,rfl,hb,hgk,_⟩
  ·cases hq
  ·injection hq with hq
   dsimp only at hq
   subst hq
   exact ⟨hb,cur,hgk⟩
 refine ⟨⟨⟨hg.os,hg.tape,hg.output,hg.size,fun i hi=>by omega⟩,fun i hi ho=>hg.block i hi (fun e9=>?_)⟩,fun i hi hn=>hg.block i hi (fun e9=>?_)⟩
 ·obtain ⟨h2,c,h3⟩:=own i e9.symm
  rcases ho with ho|⟨c2,u,h5,h6⟩
  ·omega
  ·unfold Blk at h3 h5
   rw [h3] at h5
   injection h5 with h5
   injection h5 with _ h7
   exact h6 h7.symm
 ·obtain ⟨_,c,h3⟩:=own i e9.symm
  exact hn c h3
theorem Marks.keepsO {B:Nat} {ds:List Deferred} {e:TypeId} {W W':World} (h:Marks B ds W) (k:∀ i,i < W.heap.size→(∀ c,¬ Blk W i c e)→W'.heap[i]?=W.heap[i]?):Marks B ds W':=by
 obtain ⟨rs,h1,h2,h3⟩:=h
 refine ⟨rs,h1,h2,fun r hr=>⟨(h3 r hr).1,?_⟩⟩
 have g2:=(h3 r hr).2
 exact (k r (Array.getElem?_eq_some_iff.1 g2).1 (fun c hb=>by unfold Blk at hb;rw [hb] at g2;cases g2)).trans g2
theorem score_chk {m:MD} {v:List RR} {x:DAct} (h:(scoreS m v x).2=0):chkR (scoreS m v x).1=0:=by
 unfold scoreS at h ⊢
 split at h
 ·rename_i h1;exact absurd h h1
 ·rename_i h1
  rw [if_neg h1]
  split at h
  ·rename_i h2;exact absurd h h2
  ·rename_i h2
   rw [if_neg h2]
   exact addR_chk h
def BkI (w w3:World) (m:MD) (vals:List RR) (ac:List DAct) (L:Nat) (pre:List (Value × Int)) (W:World):Prop:=
 KpB w3.heap.size (fun i=>i=L) w3 W∧(∃ lv,Blk W L #[lv] 29∧OwN2 w.heap.size (w3.heap.size+2) W lv ((rowS m vals ac).take pre.length))∧(∀ y ∈ pre,y.2=0)∧pre.length≤ac.length∧∀ i,i < pre.length→(scoreS m vals (ac.getD i dA)).2=0
theorem BkI.kq {w w3:World} {m:MD} {vals:List RR} {ac:List DAct} {L:Nat} {pre:List (Value × Int)} {A B:World} (h:BkI w w3 m vals ac L pre A) (k:Kq w3.heap.size A B):BkI w w3 m vals ac L pre B:=by
 obtain ⟨h1,⟨lv,h2,h3⟩,h4⟩:=h
 exact ⟨h1.trans (.kz (Nat.le_refl _) k.kz),⟨lv,k.blk _ _ _ h2,h3.keeps (k.keeps 4) (by decide) (by decide)⟩,h4⟩
def BkX (w3:World) (m:MD) (vals:List RR) (A L:Nat) (c:Code) (W:World):Prop:=
 c=.ret∧∃ e:Int,backupS m vals=([],[],e)∧KpB w3.heap.size (fun i=>(A < i∧i≤A+3)∨i=L) w3 W∧Blk W (A+1) #[.slice none 0 0] 29∧Blk W (A+1+1) #[.slice none 0 0] 58∧Blk W (A+1+1+1) #[.int .i64 e] 34
theorem BkX.kq {w3:World} {m:MD} {vals:List RR} {A L:Nat} {c:Code} {W W':World} (h:BkX w3 m vals A L c W) (k:Kq w3.heap.size W W'):BkX w3 m vals A L c W':=by
 obtain ⟨h1,e,h2,h3,h4,h5,h6⟩:=h
 exact ⟨h1,e,h2,h3.trans (.kz (Nat.le_refl _) k.kz),k.blk _ _ _ h4,k.blk _ _ _ h5,k.blk _ _ _ h6⟩
def BkQ (w w3:World) (m:MD) (vals:List RR) (ac:List DAct) (A L:Nat) (pre:List (Value × Int)) (x:Value × Int) (a1:Act) (W:World):Prop:=
 BkI w w3 m vals ac L pre W∧pre.length < ac.length∧∃ (bx:Nat) (r:RR) (p1:Option Addr) (c1:Nat) (p2:Option Addr) (c2:Nat),scoreS m vals (ac.getD pre.length dA)=(r,x.2)∧w3.heap.size+1 < bx∧Blk W bx #[.bool r.neg,.slice p1 r.num.length c1,.slice p2 r.den.length c2] 25∧
  ElN w.heap.size W [.bool r.neg,.slice p1 r.num.length c1,.slice p2 r.den.length c2] r∧∃ t0 t1 t2 t3 t7 t8 t9 t13 t14 t15 t16 t17 t18 t19 t20 t21 t22 t23 t24 t25 t26 t27 t28 t29 t30 t31 t32 t33 t34 t35 t36 t37 t38 t39 t40 t41 t42 t43 t44 t45 t46 t47 t48 t49 t50 t51 t52 t53 t54 t55:Value,a1={ tmps:=#[t0,t1,t2,t3,.pointer (some ⟨A+1,0,none⟩),.pointer (some ⟨A+1+1,0,none⟩),.pointer (some ⟨A+1+1+1,0,none⟩),t7,t8,t9,.pointer (some ⟨L,0,none⟩),.pointer (some ⟨bx,0,none⟩),.int .i64 x.2,t13,t14,t15,t16,t17,t18,t19,t20,t21,t22,t23,t24,t25,t26,t27,t28,t29,t30,t31,t32,t33,t34,t35,t36,t37,t38,t39,t40,t41,t42,t43,t44,t45,t46,t47,t48,t49,t50,t51,t52,t53,t54,t55],defers:=[] }
theorem BkQ.kq {w w3:World} {m:MD} {vals:List RR} {ac:List DAct} {A L:Nat} {pre:List (Value × Int)} {x:Value × Int} {a1:Act} {W W':World} (h:BkQ w w3 m vals ac A L pre x a1 W) (k:Kq w3.heap.size W W'):BkQ w w3 m vals ac A L pre x a1 W':=by
 obtain ⟨h1,h0,bx,r,p1,c1,p2,c2,h2,h3,h4,h5,h6⟩:=h
 exact ⟨h1.kq k,h0,bx,r,p1,c1,p2,c2,h2,h3,k.blk _ _ _ h4,ElN.keeps (t:=4) (by decide) _ _ _ _ h5 (k.keeps _),h6⟩
set_option maxRecDepth 100000 in
set_option maxHeartbeats 8000000 in
theorem backup_any (mv vv:Value) (m:MD) (vals:List RR) (w:World) (hm:RdM w mv m) (hv:RdRs w vv vals) (hlm:LimM m) (hlv:LimL vals) :
  Calls Try.prog 51 #[mv,vv] w fun e w'=>ResB w w' e (backupS m vals)∧Ext w w':=by
 have hck:=fun W (x:Ext w W)=>mdcheck2_any mv vv m vals W (hm.ext x) (hv.ext x) hlm
 have hB1:=backup_1 (m:=m) (v:=vals)
 have hB2:=fun k j=>backup_2 (m:=m) (v:=vals) (k:=k) (j:=j)
 have hB3:=backup_3 (m:=m) (v:=vals)
 have HM:=kI hm;have HV:=kI hv
 obtain ⟨m1,n1,m2,n2,m3,n3,rfl,hmd,hst⟩:=hm
 have hsl:m.states.length≤9223372036854775807:=by obtain ⟨_,_,_,h⟩:=hst.shape;exact h
 obtain ⟨av,cv,rfl,hvc,hvm,fv,hvf⟩:=hv.get
 have hvl:vals.length≤9223372036854775807:=by omega
 have HST:=kI hst;have HCK:=kI hck;have HLM:=kI hlm;have HLV:=kI hlv
 have HB1:=kI hB1;have HB2:=kI hB2;have HB3:=kI hB3
 clear hv hmd hst hck hvc hvm fv hvf hB1 hB2 hB3 hlm hlv
 have bb0:=((((Blk.new w #[.bool m.disc.neg,.slice m1 m.disc.num.length n1,.slice m2 m.disc.den.length n2,.slice m3 m.states.length n3] 28).alloc (.cells #[.slice none 0 0] 29)).alloc (.cells #[.slice none 0 0] 58)).alloc (.cells #[.int .i64 0] 34))
 have bb1:=(((Blk.new (w.alloc (.cells #[.bool m.disc.neg,.slice m1 m.disc.num.length n1,.slice m2 m.disc.den.length n2,.slice m3 m.states.length n3] 28)) #[.slice none 0 0] 29).alloc (.cells #[.slice none 0 0] 58)).alloc (.cells #[.int .i64 0] 34))
 have bb2:=((Blk.new ((w.alloc (.cells #[.bool m.disc.neg,.slice m1 m.disc.num.length n1,.slice m2 m.disc.den.length n2,.slice m3 m.states.length n3] 28)).alloc (.cells #[.slice none 0 0] 29)) #[.slice none 0 0] 58).alloc (.cells #[.int .i64 0] 34))
 have bb3:=(Blk.new (((w.alloc (.cells #[.bool m.disc.neg,.slice m1 m.disc.num.length n1,.slice m2 m.disc.den.length n2,.slice m3 m.states.length n3] 28)).alloc (.cells #[.slice none 0 0] 29)).alloc (.cells #[.slice none 0 0] 58)) #[.int .i64 0] 34)
 rw [World.size_alloc] at bb1
 rw [World.size_alloc,World.size_alloc] at bb2
 rw [World.size_alloc,World.size_alloc,World.size_alloc] at bb3
 have x0:Ext w ((((w.alloc (.cells #[.bool m.disc.neg,.slice m1 m.disc.num.length n1,.slice m2 m.disc.den.length n2,.slice m3 m.states.length n3] 28)).alloc (.cells #[.slice none 0 0] 29)).alloc (.cells #[.slice none 0 0] 58)).alloc (.cells #[.int .i64 0] 34)):=(((((Ext.refl w).alloc _).alloc _).alloc _).alloc _)
 have A0:=kI bb0;have A1:=kI bb1;have A2:=kI bb2;have A3:=kI bb3;have X:=kI x0
 clear x0 bb0 bb1 bb2 bb3
 have WA:Hid (w.heap.size≤w.heap.size):=kI (Nat.le_refl _)
 refine (callsIn_wide (n:=8)).1 ?_
 refine callsIn_of_wp_marks Try.func51 rfl trivial ?_ rfl
 simp only [Try.ntmps51,List.size_toArray,List.length_cons,List.length_nil,Nat.reduceAdd,Nat.reduceSub,Array.replicate_succ,Array.replicate_zero,List.push_toArray,List.append_toArray,List.nil_append,List.cons_append]
 refine wpIn_wide.2 ?_
 have qA0:=A0.o.cell;have fA0:=A0.o.free;have lA0:=A0.o.lt
 go_wp2_with fail
 refine (HCK.o _ X.o).mono ?_
 rintro e w1 ⟨rfl,hx⟩
 clear qA0 fA0 lA0
 replace A0:=kI (A0.o.ext hx);replace A1:=kI (A1.o.ext hx);replace A2:=kI (A2.o.ext hx);replace A3:=kI (A3.o.ext hx);replace X:=kI (X.o.trans hx)
 clear hx HCK
 obtain ⟨An,hAn⟩:∃ n,n=w.heap.size:=⟨_,rfl⟩
 rw [← hAn] at A0 A1 A2 A3 ⊢
 replace WA:Hid (w.heap.size≤An):=kI (by rw [hAn];exact Nat.le_refl _)
 have WE:=kI hAn
 clear hAn
 by_cases h1:mvE m vals=0
 rotate_left
 ·have E:=kI (HB1.o h1)
  obtain ⟨c,hc⟩:∃ c,c=mvE m vals:=⟨_,rfl⟩
  rw [← hc] at E h1 ⊢
  have q1:(c != 0)=true:=by simpa using h1
  clear h1 hc
  have qA0:=A0.o.cell;have fA0:=A0.o.free;have lA0:=A0.o.lt;have qA1:=A1.o.cell;have fA1:=A1.o.free;have lA1:=A1.o.lt;have qA2:=A2.o.cell;have fA2:=A2.o.free;have lA2:=A2.o.lt;have qA3:=A3.o.cell;have fA3:=A3.o.free;have lA3:=A3.o.lt
  go_wp2_with fail
  clear qA0 fA0 lA0 qA1 fA1 lA1 qA2 fA2 lA2 qA3 fA3 lA3
  obtain ⟨wf,hwf⟩:∃ W,W=(((w1).setCell ⟨An+1,0,none⟩ (.slice none 0 0)).setCell ⟨An+1+1,0,none⟩ (.slice none 0 0)).setCell ⟨An+1+1+1,0,none⟩ (.int .i64 c):=⟨_,rfl⟩
  have xf:Ext w wf:=by rw [hwf];exact put3b_ext X.o WA.o
  obtain ⟨b1,b2,b3⟩:Blk wf (An+1) #[.slice none 0 0] 29∧Blk wf (An+1+1) #[.slice none 0 0] 58∧Blk wf (An+1+1+1) #[.int .i64 c] 34:=by rw [hwf];exact put3b_blk A1.o A2.o A3.o _ _ _
  have mk:Marks (An+1+1+1) _ wf:=Marks.nil _ _
  have ow:=fun W=>OwN.nil w.heap.size W
  have oz:=fun W=>OwZ.nil w.heap.size W
  rw [← hwf]
  clear hwf
  refine mk.leaves2 (fun W' hb hk=>?_)
  have c1:=(hk _ _ _ b1).cell 0;have c2:=(hk _ _ _ b2).cell 0;have c3:=(hk _ _ _ b3).cell 0
  have l3:(An+1+1+1) < W'.heap.size:=(hk _ _ _ b3).lt
  simp only [List.getElem?_toArray,List.getElem?_cons_zero] at c1 c2 c3
  have hkk:=keeps_blk 4 (hb.mono (Nat.zero_le _)) hk
  refine ⟨.tuple #[.slice none 0 0,.slice none 0 0,.int .i64 c],by simp only [results,Try.results51];go_simp,ResB.mk (OwN.keeps (ow wf) hkk (by decide) (by decide)) (OwZ.keeps (oz wf) hkk (by decide)) E.o,?_⟩
  exact Below.trans xf (hb.mono (by have:=WA.o;omega))
 rw [h1]
 have H1:=kI h1
 have HI:=kI (HB3.o h1)
 have P200:Hid (m.states.length≤200):=kI (md_valid (mv_valid h1).1).2.2.1
 have HS6:=kI (fun s (hs:s < m.states.length)=>(st_valid ((md_valid (mv_valid h1).1).2.2.2 s hs)).2.1)
 clear h1 HB1 HB3
 have qA0:=A0.o.cell;have fA0:=A0.o.free;have lA0:=A0.o.lt
 go_wp2_with fail
 clear qA0 fA0 lA0
 obtain ⟨wl,hwl⟩:∃ W,W=w1:=⟨_,rfl⟩
 rw [← hwl] at A0 A1 A2 A3 X ⊢
 clear hwl
 refine (wpIn_wide (n:=8)).1 ?_
 refine wpIn_loop_ghost (fun N a W=>∃ (k:Nat) (va aa:Value) (ds:List Deferred),N=m.states.length - k∧k≤m.states.length∧(∀ i,i < k→rowE m vals (m.states.getD i [])=0)∧Ext w W∧Blk W An #[.bool m.disc.neg,.slice m1 m.disc.num.length n1,.slice m2 m.disc.den.length n2,.slice m3 m.states.length n3] 28∧Blk W (An+1) #[va] 29∧Blk W (An+1+1) #[aa] 58∧Blk W (An+1+1+1) #[.int .i64 0] 34∧
  OwN w.heap.size W va ((bkV m vals).take k)∧OwZ w.heap.size W aa ((bkA m vals).take k)∧Marks (An+1+1+1) ds W∧∃ t3 t7 t8 t9 t10 t11 t12 t13 t14 t15 t16 t17 t18 t19 t20 t24 t25 t26 t27 t28 t29 t30 t31 t32 t33 t34 t35 t36 t37 t38 t39 t40 t41 t42 t43 t44 t45 t46 t47 t48 t49 t50 t51 t52 t53 t54 t55:Value,a={ tmps:=#[.agg #[.bool m.disc.neg,.slice m1 m.disc.num.length n1,.slice m2 m.disc.den.length n2,.slice m3 m.states.length n3],.slice av vals.length cv,.pointer (some ⟨An,0,none⟩),t3,.pointer (some ⟨An+1,0,none⟩),.pointer (some ⟨An+1+1,0,none⟩),.pointer (some ⟨An+1+1+1,0,none⟩),t7,t8,t9,t10,t11,t12,t13,t14,t15,t16,t17,t18,t19,t20,.slice m3 m.states.length n3,.int .i64 m.states.length,.int .i64 k,t24,t25,t26,t27,t28,t29,t30,t31,t32,t33,t34,t35,t36,t37,t38,t39,t40,t41,t42,t43,t44,t45,t46,t47,t48,t49,t50,t51,t52,t53,t54,t55],defers:=ds }) m.states.length ?h0 ?round
 case h0=>exact ⟨0,_,_,[],rfl,Nat.zero_le _,(fun i hi=>by omega),X.o,A0.o,A1.o,A2.o,A3.o,OwN.nil _ _,OwZ.nil _ _,Marks.nil _ _,_,_,_,_,_,_,_,_,_,_,_,_,_,_,_,_,_,_,_,_,_,_,_,_,_,_,_,_,_,_,_,_,_,_,_,_,_,_,_,_,_,_,_,_,_,_,_,rfl⟩
 case round=>
  rintro N a wk ⟨k,va,aa,ds,rfl,hk,hok,hx,ha0,ha1,ha2,ha3,hva,haa,hmk,t3,t7,t8,t9,t10,t11,t12,t13,t14,t15,t16,t17,t18,t19,t20,t24,t25,t26,t27,t28,t29,t30,t31,t32,t33,t34,t35,t36,t37,t38,t39,t40,t41,t42,t43,t44,t45,t46,t47,t48,t49,t50,t51,t52,t53,t54,t55,rfl⟩
  replace X:=kI hx;replace A0:=kI ha0;replace A1:=kI ha1;replace A2:=kI ha2;replace A3:=kI ha3
  have OV:=kI hva;have OZ:=kI haa;have MK:=kI hmk;have OK:=kI hok
  clear hx ha0 ha1 ha2 ha3 hva haa hmk hok
  refine wpIn_wide.2 ?_
  by_cases hlt:k < m.states.length
  ·obtain ⟨sb,so,ai,ci,rfl,t9a0,t9b0,t9c⟩:=HST.o.at hlt
   have t9a:=Nat.lt_of_lt_of_le t9a0 X.o.size
   have t9b:=(X.o.cell (p:=⟨sb,so+k,none⟩) t9a0).trans t9b0
   clear t9a0 t9b0
   have hv0:=bkV_take (m:=m) (v:=vals) hlt
   have hv1:=bkA_take (m:=m) (v:=vals) hlt
   have hs6:=HS6.o k hlt
   have q1:(0:Int)≤(k:Int):=by omega
   have q2:(k:Int) < (m.states.length:Int):=by omega
   obtain ⟨ac,hac⟩:∃ y,y=m.states.getD k []:=⟨_,rfl⟩
   rw [← hac] at t9b t9c hv0 hv1 hs6
   obtain ⟨Ln,hLn⟩:∃ n,n=wk.heap.size:=⟨_,rfl⟩
   obtain ⟨wb,hwb⟩:∃ W,W=wk.alloc (.cells #[.slice none 0 0] 29):=⟨_,rfl⟩
   have xb:Ext wk wb:=by rw [hwb];exact (Ext.refl _).alloc _
   have lb0:Blk wb Ln #[.slice none 0 0] 29:=by rw [hwb,hLn];exact Blk.new _ _ _
   have sb0:wb.heap.size=Ln+1:=by rw [hwb,hLn];simp
   have HAC:=kI hac;have RA:=kI t9c;have HV0:=kI hv0;have HV1:=kI hv1
   have XB:=kI xb;have LB:=kI lb0;have SB:=kI sb0;have HWB:=kI hwb;have HLN:=kI hLn
   have lA3:=A3.o.lt
   have LA:Hid (An+3 < Ln):=kI (by omega)
   clear t9c hac hv0 hv1 xb lb0 sb0 lA3
   have qA0:=A0.o.cell;have fA0:=A0.o.free;have lA0:=A0.o.lt
   have qA0b:=XB.o.cell (p:=⟨An,0,none⟩) lA0;have qA1b:=XB.o.cell (p:=⟨An,1,none⟩) lA0;have qA2b:=XB.o.cell (p:=⟨An,2,none⟩) lA0;have qA3b:=XB.o.cell (p:=⟨An,3,none⟩) lA0
   rw [hwb] at qA0b qA1b qA2b qA3b
   clear hwb hLn
   go_wp2_with fail
   clear qA0 fA0 lA0
   clear qA0b qA1b qA2b qA3b t9a t9b q1 q2
   rw [← HWB.o]
   refine (mdscores_any m m1 n1 m2 n2 _ n3 av vals.length cv ai ac.length ci wb).mono ?_
   rintro e w3 ⟨rfl,hw3⟩
   have hx3:Ext wb w3:=by rw [hw3];exact (((Ext.refl _).alloc _).alloc _).alloc _
   have hs3:w3.heap.size=Ln+4:=by rw [hw3];simp [SB.o]
   have b0:Blk w3 (Ln+1) (mdC m m1 n1 m2 n2 (some ⟨sb,so,none⟩) n3) 28:=by rw [hw3,← SB.o];exact ((Blk.new wb _ _).alloc _).alloc _
   have b1:Blk w3 (Ln+1+1) #[.slice av vals.length cv] 29:=by
    have:=(Blk.new (wb.alloc (.cells (mdC m m1 n1 m2 n2 (some ⟨sb,so,none⟩) n3) 28)) #[.slice av vals.length cv] 29).alloc (.cells #[.slice ai ac.length ci] 50)
    rw [World.size_alloc,SB.o] at this
    rw [hw3];exact this
   have b2:Blk w3 (Ln+1+2) #[.slice ai ac.length ci] 50:=by
    have:=Blk.new ((wb.alloc (.cells (mdC m m1 n1 m2 n2 (some ⟨sb,so,none⟩) n3) 28)).alloc (.cells #[.slice av vals.length cv] 29)) #[.slice ai ac.length ci] 50
    rw [World.size_alloc,World.size_alloc,SB.o] at this
    rw [hw3];exact this
   rw [SB.o]
   have XB3:=kI (XB.o.trans hx3);have LB3:=kI (LB.o.ext hx3);have S3:=kI hs3;have D0:=kI b0;have D1:=kI b1;have D2:=kI b2
   clear hw3 hx3 hs3 b0 b1 b2 XB LB HWB
   go_wp2_with fail
   rw [← HLN.o]
   have hm3:Ln < w3.heap.size:=by have:=S3.o;omega
   have wLn:w.heap.size≤Ln:=by have:=WA.o;have:=LA.o;omega
   have hseq:∀ W1,Ext w3 W1→UpSeqR Fence.wide 7 Try.prog 83 (lb3 (Ln+1)) (KpB w3.heap.size (fun i=>w.heap.size≤i∧i < Ln+1)) Ext (fun x:Value × Int=>#[x.1,.int .i64 x.2]) (ScNx w m vals k) (ScFin m k) (fun _ _=>False) (w3.heap.size+1) W1:=by
    intro W1 hx
    refine mdscores1_seq 7 (by omega) m m1 n1 m2 n2 _ n3 av cv ai ci vals k (Ln+1) w3.heap.size _ _ w W1 HM.o HV.o (by rw [← HAC.o];exact RA.o) HLM.o HLV.o H1.o hlt ((X.o.trans XB3.o).trans hx) (fun i h=>h) (by omega) (by have:=S3.o;omega) hx.size (D0.o.ext hx) (D1.o.ext hx) (by rw [← HAC.o];exact D2.o.ext hx)
   have I0:BkI w w3 m vals ac Ln [] w3:=⟨KpB.refl _ _ _,⟨_,LB3.o,OwN2.nil _ _ _⟩,(fun y h=>by cases h),Nat.zero_le _,(fun i h=>by cases h)⟩
   refine (wpIn_wide (n:=8)).1 ?_
   refine wpIn_range_upR (n:=8) rfl (by omega) (gf:=83) (lb:=lb3 (Ln+1)) rfl trivial (enters_of Try.func83 (by kernel_rfl) rfl) (KpB w3.heap.size (fun i=>w.heap.size≤i∧i < Ln+1)) Ext (fun A B x h=>⟨x.block _ (by omega),x.block _ h⟩) (fun _ _ _=>KpB.trans) (fun A B _ z=>KpB.kz (Nat.le_refl _) z.kz) hseq (fun _=>rfl)
    (BkI w w3 m vals ac Ln) (fun c _=>BkX w3 m vals An Ln c) (fun _ _ _ h k=>h.kq k) (fun _ _ _ _ h k=>h.kq k) (fun _ _ _ h x=>h.kq (.ext x)) I0 (BkQ w w3 m vals ac An Ln) (fun _ _ _ _ _ h k=>h.kq k) ?hassign ?hbody ?hdone ?hstop ?hpanic
   case hpanic=>exact fun _ _ _ h=>h.elim
   case hassign=>
    rintro ll pre ⟨xv,xe⟩ W K h1 ⟨g1,g2,g3⟩ hlt2 hK
    have hat:m.act k pre.length=ac.getD pre.length dA:=by rw [HAC.o];rfl
    rw [hat] at g2 g3
    rw [← HAC.o] at g1
    dsimp only at g2 g3
    obtain ⟨R,hR⟩:∃ R,R=scoreS m vals (ac.getD pre.length dA):=⟨_,rfl⟩
    rw [← hR] at g2 g3
    obtain ⟨r,e⟩:=R
    dsimp only at g2 g3
    subst g2
    obtain ⟨p1,c1,p2,c2,rfl⟩:=g3.shape
    have HQ:BkQ w w3 m vals ac An Ln pre (.agg #[.bool r.neg,.slice p1 r.num.length c1,.slice p2 r.den.length c2],xe)=BkQ w w3 m vals ac An Ln pre (.agg #[.bool r.neg,.slice p1 r.num.length c1,.slice p2 r.den.length c2],xe):=rfl
    have G1:=kI g1;have G3:=kI g3;have HR:=kI hR;have HI1:=kI h1
    clear g1 g3 hR h1 hat hseq I0 HQ
    simp only [List.zip_toArray,List.zip_cons_cons,List.zip_nil_left,List.zip_nil_right,List.foldl_toArray,List.foldl_toArray',List.size_toArray,List.length_cons,List.length_nil,List.foldl_cons,List.foldl_nil,List.setIfInBounds_toArray,List.set_cons_succ,List.set_cons_zero]
    gi_wp2_with fail
    exact hK _ _ ((Ext.refl W).alloc _) ⟨HI1.o.kq (.ext ((Ext.refl W).alloc _)),G1.o,W.heap.size,r,p1,c1,p2,c2,HR.o.symm,hlt2,Blk.new W _ _,ElN.ext (ElN.new G3.o (Nat.le_refl _)) ((Ext.refl W).alloc _),_,_,_,_,_,_,_,_,_,_,_,_,_,_,_,_,_,_,_,_,_,_,_,_,_,_,_,_,_,_,_,_,_,_,_,_,_,_,_,_,_,_,_,_,_,_,_,_,_,_,rfl⟩
   case hbody=>
    rintro ll pre ⟨xv,xe⟩ a1 W ⟨⟨hkp,⟨lv,hl,how⟩,hz,hle,hsz⟩,hlt3,bx,r,p1,c1,p2,c2,hsc,hbx,hb,hel,t0,t1,t2,t3,t7,t8,t9,t13,t14,t15,t16,t17,t18,t19,t20,t21,t22,t23,t24,t25,t26,t27,t28,t29,t30,t31,t32,t33,t34,t35,t36,t37,t38,t39,t40,t41,t42,t43,t44,t45,t46,t47,t48,t49,t50,t51,t52,t53,t54,t55,rfl⟩ hlt2
    dsimp only at hsc ⊢
    have hA3:An+3 < Ln:=LA.o
    have hwA:w.heap.size≤An:=WA.o
    have a1:Blk W (An+1) #[va] 29:=(A1.o.ext XB3.o).kpB hkp (by omega) (by omega)
    have a2:Blk W (An+1+1) #[aa] 58:=(A2.o.ext XB3.o).kpB hkp (by omega) (by omega)
    have a3:Blk W (An+1+1+1) #[.int .i64 0] 34:=(A3.o.ext XB3.o).kpB hkp (by omega) (by omega)
    have KP:=kI hkp;have BL:=kI hl;have OW:=kI how;have HZ:=kI hz;have HLE:=kI hle;have HSZ:=kI hsz;have HL3:=kI hlt3;have HSC:=kI hsc;have HBX:=kI hbx;have BX:=kI hb;have EL:=kI hel
    have a1h:=kI a1;have a2h:=kI a2;have a3h:=kI a3
    clear hkp hl how hz hle hsz hlt3 hsc hb hel hseq I0
    by_cases he:xe=0
    ·subst he
     have hst:=rowS_take (m:=m) (v:=vals) HL3.o
     rw [HSC.o] at hst
     have hln:((rowS m vals ac).take pre.length).length=pre.length:=by rw [List.length_take,rowS_len];have:=HLE.o;omega
     obtain ⟨ls,hls⟩:∃ ls,ls=(rowS m vals ac).take pre.length:=⟨_,rfl⟩
     rw [← hls] at OW hst hln
     obtain ⟨la,lc,rfl⟩:=OW.o.shape
     have HLN2:=kI hln;have HST2:=kI hst;have HS64:=kI (show ls.length≤6 by have:=HL3.o;omega)
     have e1:=BL.o.cell;have l1:=BL.o.lt;have f1:=BL.o.free;have e2:=BX.o.cell;have l2:=BX.o.lt
     clear a1 a2 a3 hln hst hls
     gi_wp2_with (gi_at_builtin;(refine wpListIn_append_row W rfl _ _ 29 rfl (w3.heap.size+2) 25 (.agg #[.bool false,.slice none 0 0,.slice none 0 0]) 3 56 Try.underlying29 Try.infoR rfl (by decide) (ElN.keeps (by decide)) _ _ OW.o rfl [.bool r.neg,.slice p1 r.num.length c1,.slice p2 r.den.length c2] rfl (by simp [Value.oneCell']) r EL.o rfl (by have:=HS64.o;omega) (by have:=HS64.o;omega) hlt2 ?_))
     intro g9 cap9 w4 hrow hk4
     have bl4:=BL.o.keeps hk4 (by decide)
     have KR:=kI hrow;have KK:=kI hk4;have BL4:=kI bl4
     have e4:=bl4.cell;have f4:=bl4.free;have l4:=bl4.lt
     clear hrow hk4 bl4 e1 l1 f1 e2 l2
     gi_wp2_with fail
     have hls1:ls.length=pre.length:=HLN2.o
     have hkp9:KpB w3.heap.size (fun i=>i=Ln) W (w4.setCell ⟨Ln,0,none⟩ (.slice (some ⟨g9,0,none⟩) (ls.length+1) cap9)):=KpB.set (X:=fun i=>i=Ln) (keeps_kpB (n:=w3.heap.size) KK.o (by omega)) (.inl rfl) _ _
     refine ⟨⟨?_,(Below.heap_setCell _ _ _ _ (by dsimp only;omega)).trans (KK.o.block _ (by omega) (.inl (by omega))),(Below.heap_setCell _ _ _ _ (by dsimp only;omega)).trans (KK.o.block _ (by omega) (.inl (by omega)))⟩,hkp9.mono (fun i h=>by have h':i=Ln:=h;exact ⟨by omega,by omega⟩),KP.o.trans hkp9,⟨_,BL4.o.set 0 _,?_⟩,?_,?_,?_⟩
     ·have:=KK.o.size;simpa using this
     ·rw [List.length_append,List.length_singleton,HST2.o]
      exact OwN2.keeps KR.o (keeps_setC BL4.o 0 _) (by decide) (by decide)
     ·intro y hy
      rcases List.mem_append.1 hy with hy|hy
      ·exact HZ.o y hy
      ·rw [List.mem_singleton.1 hy]
     ·rw [List.length_append,List.length_singleton];exact HL3.o
     ·intro i hi
      rw [List.length_append,List.length_singleton] at hi
      by_cases e:i=pre.length
      ·rw [e,HSC.o]
      ·exact HSZ.o i (by omega)
    ·have q1:(xe != 0)=true:=by simpa using he
     have e1:=a1.cell;have l1:=a1.lt;have f1:=a1.free;have e2:=a2.cell;have l2:=a2.lt;have f2:=a2.free;have e3:=a3.cell;have l3:=a3.lt;have f3:=a3.free
     clear a1 a2 a3
     gi_wp2_with fail
     have hbk:=HB2.o k pre.length H1.o hlt OK.o (by rw [← HAC.o];exact HL3.o) (fun i hi=>by have:=HSZ.o i hi;rw [HAC.o] at this;exact this) (c:=xe) (by have:=HSC.o;rw [HAC.o] at this;exact congrArg (·.2) this) he
     refine ⟨⟨?_,put3b_heap (.inr (by omega)),put3b_heap (.inr (by omega))⟩,(((KpB.refl _ _ _).set (.inl (by constructor <;> omega)) _ _).set (.inl (by constructor <;> omega)) _ _).set (.inl (by constructor <;> omega)) _ _,rfl,xe,hbk,((((KP.o.mono (fun _ h=>.inr h)).set (.inl (.inl (by constructor <;> omega))) _ _).set (.inl (.inl (by constructor <;> omega))) _ _).set (.inl (.inl (by constructor <;> omega))) _ _),put3b_blk a1h.out a2h.out a3h.out _ _ _⟩
     simp
   case hstop=>
    rintro c xs W ⟨rfl,e,hbk,hkp,b1,b2,b3⟩ hD
    have hx:Ext w W:=Below.trans (X.o.trans XB3.o) (hkp.below (fun i h=>by have:=WA.o;omega) (by omega) (X.o.trans XB3.o).size)
    have hm3':Marks (An+1+1+1) ds w3:=MK.o.fr (fun i h _=>XB3.o.block i h)
    have hmk:Marks (An+1+1+1) ds W:=hm3'.kpB hkp (Nat.le_refl _) (fun i h=>by
     rcases h with h|rfl
     ·exact .inl (by omega)
     ·exact .inr ⟨_,_,LB3.o⟩)
    have mk:=hmk.cons hm3' (Nat.le_refl _) (by have:=LA.o;omega) hD
    have E:=kI hbk;have B1:=kI b1;have B2:=kI b2;have B3:=kI b3;have XW:=kI hx;have MK2:=kI mk
    clear hbk hkp b1 b2 b3 hx hm3' hmk mk hseq I0
    gi_wp2_with fail
    have b1:=B1.o;have b2:=B2.o;have b3:=B3.o
    refine MK2.o.leaves2 (fun W' hb hk=>?_)
    have c1:=(hk _ _ _ b1).cell 0;have c2:=(hk _ _ _ b2).cell 0;have c3:=(hk _ _ _ b3).cell 0
    have l3:(An+1+1+1) < W'.heap.size:=(hk _ _ _ b3).lt
    simp only [List.getElem?_toArray,List.getElem?_cons_zero] at c1 c2 c3
    refine ⟨.tuple #[.slice none 0 0,.slice none 0 0,.int .i64 e],by simp only [results,Try.results51];go_simp,ResB.mk (OwN.nil _ _) (OwZ.nil _ _) E.o,?_⟩
    exact Below.trans XW.o (hb.mono (by have:=WA.o;omega))
   case hdone=>
    rintro xs W hF ⟨hkp,⟨lv,hl,how⟩,hz,hle,hsz⟩ hD
    have hA3:An+3 < Ln:=LA.o
    have hwA:w.heap.size≤An:=WA.o
    have hxl:=scFin_len hF hz
    rw [← HAC.o] at hxl
    rw [hxl] at hsz
    rw [hxl,List.take_of_length_le (by rw [rowS_len];exact Nat.le_refl _)] at how
    have hx:Ext w W:=Below.trans (X.o.trans XB3.o) (hkp.below (fun i h=>by omega) (by omega) (X.o.trans XB3.o).size)
    have a0:Blk W An _ 28:=(A0.o.ext XB3.o).kpB hkp (by omega) (by omega)
    have a1:Blk W (An+1) #[va] 29:=(A1.o.ext XB3.o).kpB hkp (by omega) (by omega)
    have a2:Blk W (An+1+1) #[aa] 58:=(A2.o.ext XB3.o).kpB hkp (by omega) (by omega)
    have a3:Blk W (An+1+1+1) #[.int .i64 0] 34:=(A3.o.ext XB3.o).kpB hkp (by omega) (by omega)
    have hkw:Keeps 0 29 w3 W:=⟨hkp.zero,fun i hi ho=>by
     rcases ho with ho|⟨cur,u,h1,h2⟩
     ·omega
     ·refine hkp.block i hi hi (fun e=>?_)
      subst e
      have h3:=LB3.o
      unfold Blk at h1 h3
      rw [h1] at h3
      injection h3 with h3
      injection h3 with _ h4
      exact h2 h4⟩
    have ov:=(OwN.ext' OV.o XB3.o).keeps hkw (by decide) (by decide)
    have oz:=(OwZ.ext' OZ.o XB3.o).keeps hkw (by decide)
    have hm3':Marks (An+1+1+1) ds w3:=MK.o.fr (fun i h _=>XB3.o.block i h)
    have hmk:Marks (An+1+1+1) ds W:=hm3'.kpB hkp (Nat.le_refl _) (fun i h=>.inr ⟨_,_,h ▸ LB3.o⟩)
    have mk:=hmk.cons hm3' (Nat.le_refl _) (by omega) hD
    have hrz:rowE m vals ac=0:=by rw [HAC.o];exact row_zero (fun i hi=>by have:=hsz i (by rw [HAC.o];exact hi);rw [HAC.o] at this;exact this)
    have hval:∀ i,i < (rowS m vals ac).length→chkR ((rowS m vals ac).getD i zR)=0:=fun i hi=>by
     rw [rowS_len] at hi
     rw [rowS_at hi]
     exact score_chk (hsz i hi)
    replace X:=kI hx;replace A0:=kI a0;replace A1:=kI a1;replace A2:=kI a2;replace A3:=kI a3;have OVk:=OV;replace OV:=kI ov;replace OZ:=kI oz
    have BL:=kI hl;have OW:=kI how;have MK2:=kI mk;have HRZ:=kI hrz;have HVAL:=kI hval
    have hlen:(rowS m vals ac).length=ac.length:=rowS_len _ _ _
    have hlim:=rowS_lim m vals ac
    have hal:ac.length≠0:=by rw [HAC.o];exact (st_valid ((md_valid (mv_valid H1.o).1).2.2.2 k hlt)).1
    have HWw:=kI hkp.zero.size
    clear hkp hl how hz hle hsz hxl hx a0 a1 a2 a3 hkw ov oz hm3' hmk mk hrz hval hF hseq I0 hD
    obtain ⟨R,hR⟩:∃ l,l=rowS m vals ac:=⟨_,rfl⟩
    rw [← hR] at OW HVAL hlen hlim HV0 HV1
    obtain ⟨la,lc,rfl⟩:=OW.o.shape
    have hR64:R.length≤6:=by omega
    have OBL:=kI (fun q (hq:wk.heap.size≤q)=>OwN.own_lt OVk.o hq)
    have HLIM:=kI hlim;have HLENR:=kI hlen
    clear hR hlim hlen
    have qBL:=BL.o.cell;have fBL:=BL.o.free;have lBL:=BL.o.lt
    go_wp2_with fail
    refine (least_any _ R W (OwN2.rd OW.o) HLIM.o HVAL.o).mono ?_
    rintro e w5 ⟨rfl,hx⟩
    clear qBL fBL lBL
    replace OW:=kI (OwN2.ext' OW.o hx);replace OV:=kI (OwN.ext' OV.o hx);replace OZ:=kI (OwZ.ext' OZ.o hx);replace MK2:=kI (MK2.o.fr (fun i h _=>hx.block i h))
    have SW5:Hid (w3.heap.size≤w5.heap.size):=kI (Nat.le_trans HWw.o hx.size)
    replace A0:=kI (A0.o.ext hx);replace A1:=kI (A1.o.ext hx);replace A2:=kI (A2.o.ext hx);replace A3:=kI (A3.o.ext hx);replace BL:=kI (BL.o.ext hx);replace X:=kI (X.o.trans hx)
    clear hx
    have hbi:bestI R < R.length:=bestK_le R R.length R.length (Nat.le_refl _) (by have:=HLENR.o;omega)
    obtain ⟨bi,hbi0⟩:∃ n,n=bestI R:=⟨_,rfl⟩
    rw [← hbi0] at hbi HV0 HV1 ⊢
    clear hbi0
    obtain ⟨gl,n9,lc9,cur,p1,c1,p2,c2,elv,hgl,hbg,x0,x1,x2,hel⟩:=OwN2.at OW.o hbi
    injection elv with f1 f2 f3
    subst f1;subst f2;subst f3
    obtain ⟨ry,hry⟩:∃ y,y=R.getD bi zR:=⟨_,rfl⟩
    rw [← hry] at HV0 x0 x1 x2 hel
    have hcc:cur[bi*3]?=some (.bool ry.neg)∧cur[bi*3+1]?=some (.slice p1 ry.num.length c1)∧cur[bi*3+2]?=some (.slice p2 ry.den.length c2):=⟨(hbg.cell _).symm.trans x0,(hbg.cell _).symm.trans x1,(hbg.cell _).symm.trans x2⟩
    obtain ⟨aa1,ac1,eva⟩:=OV.o.shape
    have hlv:((bkV m vals).take k).length=k:=by rw [List.length_take,bkV_len];omega
    have hlz:((bkA m vals).take k).length=k:=by rw [List.length_take,bkA_len];omega
    rw [hlv] at eva
    obtain ⟨ba1,bc1,eaa⟩:=OZ.o.shape
    rw [hlz] at eaa
    have hne:∀ q,va.ownBlock=some q→q≠gl:=fun q h e=>by
     subst e
     exact OBL.o q (by have:=HLN.o;omega) h
    subst eva;subst eaa
    have CC:=kI hcc;have NE:=kI hne;have BG:=kI hbg;have EA:=kI hel;have LV:=kI hlv;have LZ:=kI hlz
    have K200:Hid (k≤200):=kI (by have:=P200.o;omega)
    have q1:(0:Int)≤(bi:Int):=by omega
    have q2:(bi:Int) < (R.length:Int):=by omega
    clear hry x0 x1 x2 hel hcc hlv hlz hne hbg
    have qBL:=BL.o.cell;have fBL:=BL.o.free;have lBL:=BL.o.lt;have qA1:=A1.o.cell;have fA1:=A1.o.free;have lA1:=A1.o.lt;have qA2:=A2.o.cell;have fA2:=A2.o.free;have lA2:=A2.o.lt
    have qBG:=BG.o.cell;have lBG:=BG.o.lt;have k0:=(BG.o.cell (bi*3)).trans CC.o.1;have k1:=(BG.o.cell (bi*3+1)).trans CC.o.2.1;have k2:=(BG.o.cell (bi*3+2)).trans CC.o.2.2
    clear qBG
    go_wp2_with fail
    clear qBL fBL lBL qA1 fA1 lA1 qA2 fA2 lA2
    clear lBG k0 k1 k2
    have ht:∀ l,T2 11 12 (fun W=>W.cell? ⟨An+1,0,none⟩=some (.slice aa1 k ac1)∧W.cell? ⟨Ln,0,none⟩=some (.slice (some ⟨gl,0,none⟩) R.length lc)∧W.cell? ⟨gl,bi*3,none⟩=some (.bool ry.neg)∧W.cell? ⟨gl,bi*3+1,none⟩=some (.slice p1 ry.num.length c1)∧W.cell? ⟨gl,bi*3+2,none⟩=some (.slice p2 ry.den.length c2)) (fun W=>W.cell? ⟨An+1+1,0,none⟩=some (.slice ba1 k bc1)) l w5.drew:=fun l=>T2.both ⟨c1B A1.o.drew,c1B BL.o.drew,(BG.o.drew.cell _).trans CC.o.1,(BG.o.drew.cell _).trans CC.o.2.1,(BG.o.drew.cell _).trans CC.o.2.2⟩ (c1B A2.o.drew)
    refine wp_region_Xn (T:=T2 11 12 (fun W=>W.cell? ⟨An+1,0,none⟩=some (.slice aa1 k ac1)∧W.cell? ⟨Ln,0,none⟩=some (.slice (some ⟨gl,0,none⟩) R.length lc)∧W.cell? ⟨gl,bi*3,none⟩=some (.bool ry.neg)∧W.cell? ⟨gl,bi*3+1,none⟩=some (.slice p1 ry.num.length c1)∧W.cell? ⟨gl,bi*3+2,none⟩=some (.slice p2 ry.den.length c2)) (fun W=>W.cell? ⟨An+1+1,0,none⟩=some (.slice ba1 k bc1))) (by kernel_rfl) ?_
    refine wpAnyX_take1 (i:=0) (v:=?_) rfl rfl (by kernel_rfl) (by decide) (by decide) (by kernel_rfl) (by kernel_rfl) (by kernel_rfl) Qn.noP (Or.inl ⟨by rfl,?_⟩) (by kernel_rfl) (ht _) ?_
    rotate_left
    ·(intro w hSw;(try dsimp only at hSw);go_simp;first|done|with_reducible rfl)
    (try simp only [Act.put,List.getElem_toArray,List.getElem_cons_zero,List.getElem_cons_succ,List.setIfInBounds_toArray,List.set_cons_zero,List.set_cons_succ])
    refine wpAnyX_take1 (i:=1) (v:=?_) rfl rfl (by kernel_rfl) (by decide) (by decide) (by kernel_rfl) (by kernel_rfl) (by kernel_rfl) Qn.noP (Or.inl ⟨by rfl,?_⟩) (by kernel_rfl) (ht _) ?_
    rotate_left
    ·(intro w hSw;(try dsimp only at hSw);go_simp;first|done|with_reducible rfl)
    (try simp only [Act.put,List.getElem_toArray,List.getElem_cons_zero,List.getElem_cons_succ,List.setIfInBounds_toArray,List.set_cons_zero,List.set_cons_succ])
    refine wpAnyX_take1 (i:=2) (v:=?_) rfl rfl (by kernel_rfl) (by decide) (by decide) (by kernel_rfl) (by kernel_rfl) (by kernel_rfl) Qn.noP (Or.inl ⟨by rfl,?_⟩) (by kernel_rfl) (ht _) ?_
    rotate_left
    ·(intro w hSw;(try dsimp only at hSw);go_simp;first|done|with_reducible rfl)
    (try simp only [Act.put,List.getElem_toArray,List.getElem_cons_zero,List.getElem_cons_succ,List.setIfInBounds_toArray,List.set_cons_zero,List.set_cons_succ])
    refine wpAnyX_take1 (i:=3) (v:=?_) rfl rfl (by kernel_rfl) (by decide) (by decide) (by kernel_rfl) (by kernel_rfl) (by kernel_rfl) Qn.noP (Or.inl ⟨by rfl,?_⟩) (by kernel_rfl) (ht _) ?_
    rotate_left
    ·(intro w hSw;(try dsimp only at hSw);go_simp;first|done|with_reducible rfl)
    (try simp only [Act.put,List.getElem_toArray,List.getElem_cons_zero,List.getElem_cons_succ,List.setIfInBounds_toArray,List.set_cons_zero,List.set_cons_succ])
    refine wpAnyX_take1 (i:=4) (v:=?_) rfl rfl (by kernel_rfl) (by decide) (by decide) (by kernel_rfl) (by kernel_rfl) (by kernel_rfl) Qn.noP (Or.inl ⟨by rfl,?_⟩) (by kernel_rfl) (ht _) ?_
    rotate_left
    ·(intro w hSw;(try dsimp only at hSw);go_simp;first|done|with_reducible rfl)
    (try simp only [Act.put,List.getElem_toArray,List.getElem_cons_zero,List.getElem_cons_succ,List.setIfInBounds_toArray,List.set_cons_zero,List.set_cons_succ])
    refine wpAnyX_take2 (i:=7) (v:=?_) rfl rfl (by kernel_rfl) (by decide) (by decide) (by kernel_rfl) (by kernel_rfl) (by kernel_rfl) Qn.noP (Or.inl ⟨by rfl,?_⟩) (by kernel_rfl) (ht _) ?_
    rotate_left
    ·(intro w hSw;(try dsimp only at hSw);go_simp;first|done|with_reducible rfl)
    (try simp only [Act.put,List.getElem_toArray,List.getElem_cons_zero,List.getElem_cons_succ,List.setIfInBounds_toArray,List.set_cons_zero,List.set_cons_succ])
    refine wpAnyX_take2 (i:=8) (v:=?_) rfl rfl (by kernel_rfl) (by decide) (by decide) (by kernel_rfl) (by kernel_rfl) (by kernel_rfl) Qn.noP (Or.inl ⟨by rfl,?_⟩) (by kernel_rfl) (ht _) ?_
    rotate_left
    ·(intro w hSw;(try dsimp only at hSw);go_simp;first|done|with_reducible rfl)
    (try simp only [Act.put,List.getElem_toArray,List.getElem_cons_zero,List.getElem_cons_succ,List.setIfInBounds_toArray,List.set_cons_zero,List.set_cons_succ])
    clear ht q1 q2
    obtain ⟨vx,hvx⟩:∃ v,v=Value.slice aa1 k ac1:=⟨_,rfl⟩
    obtain ⟨vy,hvy⟩:∃ v,v=Value.slice ba1 k bc1:=⟨_,rfl⟩
    rw [← hvx] at OV A1 NE ⊢
    rw [← hvy] at OZ A2 ⊢
    clear hvx hvy
    apply viaT (F:=fun W x y=>OwN w.heap.size W x (((bkV m vals).take k) ++ [ry])∧OwZ w.heap.size W y (((bkA m vals).take k) ++ [(bi:Int)])∧Ext w W∧Marks (An+1+1+1) ({ target:=.collected w3.heap.size,args:=#[] } :: ds) W∧Blk W An #[.bool m.disc.neg,.slice m1 m.disc.num.length n1,.slice m2 m.disc.den.length n2,.slice (some ⟨sb,so,none⟩) m.states.length n3] 28∧Blk W (An+1) #[vx] 29∧Blk W (An+1+1) #[vy] 58∧Blk W (An+1+1+1) #[.int .i64 0] 34∧w3.heap.size≤W.heap.size)
    ·intro HV
     refine wpAnyX_ready (rs:=[5,9]) (by kernel_rfl) (by simp) ?_
     refine AllReadyX.cons rfl (fun K hK=>?_) (AllReadyX.cons rfl (fun K hK=>?_) AllReadyX.nil)
     ·go_simp
      have hx:Ext w5 ((w5.alloc (.cells #[.bool ry.neg,.slice p1 ry.num.length c1,.slice p2 ry.den.length c2] 25)).drew):=((Ext.refl _).alloc _).drew
      have bz:Blk ((w5.alloc (.cells #[.bool ry.neg,.slice p1 ry.num.length c1,.slice p2 ry.den.length c2] 25)).drew) w5.heap.size [.bool ry.neg,.slice p1 ry.num.length c1,.slice p2 ry.den.length c2].toArray 25:=(Blk.new w5 #[.bool ry.neg,.slice p1 ry.num.length c1,.slice p2 ry.den.length c2] 25).drew
      obtain ⟨e2,hwe2⟩:∃ W,W=(w5.alloc (.cells #[.bool ry.neg,.slice p1 ry.num.length c1,.slice p2 ry.den.length c2] 25)).drew:=⟨_,rfl⟩
      rw [← hwe2] at hx bz ⊢
      obtain ⟨N1n,hN1n⟩:∃ n,n=w5.heap.size:=⟨_,rfl⟩
      rw [← hN1n] at bz ⊢
      replace OV:=kI (OwN.ext' OV.o hx);replace OZ:=kI (OwZ.ext' OZ.o hx);replace MK2:=kI (MK2.o.fr (fun i h _=>hx.block i h));replace SW5:=kI (Nat.le_trans SW5.o hx.size)
      replace A0:=kI (A0.o.ext hx);replace A1:=kI (A1.o.ext hx);replace A2:=kI (A2.o.ext hx);replace A3:=kI (A3.o.ext hx);replace BL:=kI (BL.o.ext hx);replace BG:=kI (BG.o.ext hx);replace EA:=kI (EA.o.ext hx);replace X:=kI (X.o.trans hx)
      have N1:=kI bz;clear hx bz hwe2 hN1n
      refine hK.out _ _ (T2.both ⟨c1B A1.o,c1B BL.o,(BG.o.cell _).trans CC.o.1,(BG.o.cell _).trans CC.o.2.1,(BG.o.cell _).trans CC.o.2.2⟩ (c1B A2.o)) ?_
      clear hK K
      (try simp only [Act.put,List.getElem_toArray,List.getElem_cons_zero,List.getElem_cons_succ,List.setIfInBounds_toArray,List.set_cons_zero,List.set_cons_succ])
      refine wpAnyX_ready (rs:=[6,9]) (by kernel_rfl) (by simp) ?_
      refine AllReadyX.cons rfl (fun K hK=>?_) (AllReadyX.cons rfl (fun K hK=>?_) AllReadyX.nil)
      ·rw [if_pos (wanted_none rfl)]
       refine wp_append_rowF e2 _ _ _ rfl w.heap.size 25 (.agg #[.bool false,.slice none 0 0,.slice none 0 0]) 3 56 Try.underlying29 Try.infoR rfl (by decide) (ElN.keeps (by decide)) _ _ OV.o rfl [.bool ry.neg,.slice p1 ry.num.length c1,.slice p2 ry.den.length c2] rfl (by simp [Value.oneCell']) ry EA.o N1n N1.o rfl (by have:=LV.o;have:=K200.o;omega) (by have:=LV.o;have:=K200.o;omega) X.o.size ?_
       intro g3 cap3 e3 hrow hgr hfr
       obtain ⟨hk,hko⟩:=own_gKeeps OV.o hgr
       obtain ⟨ua,hu⟩:∃ u,u=Value.slice (some ⟨g3,0,none⟩) (((bkV m vals).take k).length+1) cap3:=⟨_,rfl⟩
       rw [← hu] at hrow ⊢
       clear hu
       replace BG:Hid (Blk e3 gl cur 25):=kI ((hgr.block gl BG.o.lt (fun e=>NE.o gl e.symm rfl)).trans BG.o)
       replace OZ:=kI (OwZ.keeps OZ.o hk (by decide));replace OV:=kI hrow
       replace A0:=kI (A0.o.keeps hk (by decide));replace A1:=kI (A1.o.keeps hk (by decide));replace A2:=kI (A2.o.keeps hk (by decide));replace A3:=kI (A3.o.keeps hk (by decide));replace BL:=kI (BL.o.keeps hk (by decide));replace MK2:=kI (MK2.o.keepsO hko);replace SW5:=kI (Nat.le_trans SW5.o hk.size)
       replace X:Hid (Ext w e3):=kI (Below.trans X.o (hk.below X.o.size))
       clear hrow hgr hfr hk hko
       refine hK.out _ _ (T2.both ⟨c1B A1.o,c1B BL.o,(BG.o.cell _).trans CC.o.1,(BG.o.cell _).trans CC.o.2.1,(BG.o.cell _).trans CC.o.2.2⟩ (c1B A2.o)) ?_
       clear hK K
       (try simp only [Act.put,List.getElem_toArray,List.getElem_cons_zero,List.getElem_cons_succ,List.setIfInBounds_toArray,List.set_cons_zero,List.set_cons_succ])
       refine wpAnyX_ready (rs:=[9]) (by kernel_rfl) (by simp) ?_
       refine AllReadyX.cons rfl (fun K hK=>?_) ?_
       rotate_left
       ·exact AllReadyX.nil
       go_simp
       have hx:Ext e3 ((e3.alloc (.cells #[.int .i64 (bi:Nat)] 3))):=(Ext.refl _).alloc _
       have bz:Blk ((e3.alloc (.cells #[.int .i64 (bi:Nat)] 3))) e3.heap.size [.int .i64 (bi:Nat)].toArray 3:=Blk.new e3 #[.int .i64 (bi:Nat)] 3
       obtain ⟨e4,hwe4⟩:∃ W,W=(e3.alloc (.cells #[.int .i64 (bi:Nat)] 3)):=⟨_,rfl⟩
       rw [← hwe4] at hx bz ⊢
       obtain ⟨N2n,hN2n⟩:∃ n,n=e3.heap.size:=⟨_,rfl⟩
       rw [← hN2n] at bz ⊢
       replace OV:=kI (OwN.ext' OV.o hx);replace OZ:=kI (OwZ.ext' OZ.o hx);replace MK2:=kI (MK2.o.fr (fun i h _=>hx.block i h));replace SW5:=kI (Nat.le_trans SW5.o hx.size)
       replace A0:=kI (A0.o.ext hx);replace A1:=kI (A1.o.ext hx);replace A2:=kI (A2.o.ext hx);replace A3:=kI (A3.o.ext hx);replace BL:=kI (BL.o.ext hx);replace BG:=kI (BG.o.ext hx);replace X:=kI (X.o.trans hx)
       have N2:=kI bz;clear hx bz hwe4 hN2n
       refine hK.out _ _ (T2.both ⟨c1B A1.o,c1B BL.o,(BG.o.cell _).trans CC.o.1,(BG.o.cell _).trans CC.o.2.1,(BG.o.cell _).trans CC.o.2.2⟩ (c1B A2.o)) ?_
       clear hK K
       (try simp only [Act.put,List.getElem_toArray,List.getElem_cons_zero,List.getElem_cons_succ,List.setIfInBounds_toArray,List.set_cons_zero,List.set_cons_succ])
       refine wpAnyX_ready (rs:=[10]) (by kernel_rfl) (by simp) ?_
       refine AllReadyX.cons rfl (fun K hK=>?_) ?_
       rotate_left
       ·exact AllReadyX.nil
       rw [if_pos (wanted_none rfl)]
       refine wp_append_rowF e4 _ _ _ rfl w.heap.size 3 (.int .i64 0) 1 8 Try.underlying58 Try.infoInt rfl (by decide) (fun _ _ _ _ h _=>h) _ _ OZ.o rfl [.int .i64 (bi:Nat)] rfl (by simp [Value.oneCell']) (bi:Int) rfl N2n N2.o rfl (by have:=LZ.o;have:=K200.o;omega) (by have:=LZ.o;have:=K200.o;omega) X.o.size ?_
       intro g5 cap5 e5 hrow hgr hfr
       obtain ⟨hk,hko⟩:=own_gKeeps OZ.o hgr
       obtain ⟨ub,hu⟩:∃ u,u=Value.slice (some ⟨g5,0,none⟩) (((bkA m vals).take k).length+1) cap5:=⟨_,rfl⟩
       rw [← hu] at hrow ⊢
       clear hu
       replace BG:=kI (BG.o.keeps hk (by decide))
       replace OV:=kI (OwN.keeps OV.o hk (by decide) (by decide));replace OZ:=kI hrow
       replace A0:=kI (A0.o.keeps hk (by decide));replace A1:=kI (A1.o.keeps hk (by decide));replace A2:=kI (A2.o.keeps hk (by decide));replace A3:=kI (A3.o.keeps hk (by decide));replace BL:=kI (BL.o.keeps hk (by decide));replace MK2:=kI (MK2.o.keepsO hko);replace SW5:=kI (Nat.le_trans SW5.o hk.size)
       replace X:Hid (Ext w e5):=kI (Below.trans X.o (hk.below X.o.size))
       clear hrow hgr hfr hk hko
       refine hK.out _ _ (T2.both ⟨c1B A1.o,c1B BL.o,(BG.o.cell _).trans CC.o.1,(BG.o.cell _).trans CC.o.2.1,(BG.o.cell _).trans CC.o.2.2⟩ (c1B A2.o)) ?_
       clear hK K
       (try simp only [Act.put,List.getElem_toArray,List.getElem_cons_zero,List.getElem_cons_succ,List.setIfInBounds_toArray,List.set_cons_zero,List.set_cons_succ])
       exact HV e5 ua ub N1n N2n ⟨OV.o,OZ.o,X.o,MK2.o,A0.o,A1.o,A2.o,A3.o,SW5.o⟩
      ·go_simp
       have hx:Ext e2 ((e2.alloc (.cells #[.int .i64 (bi:Nat)] 3))):=(Ext.refl _).alloc _
       have bz:Blk ((e2.alloc (.cells #[.int .i64 (bi:Nat)] 3))) e2.heap.size [.int .i64 (bi:Nat)].toArray 3:=Blk.new e2 #[.int .i64 (bi:Nat)] 3
       obtain ⟨e3,hwe3⟩:∃ W,W=(e2.alloc (.cells #[.int .i64 (bi:Nat)] 3)):=⟨_,rfl⟩
       rw [← hwe3] at hx bz ⊢
       obtain ⟨N2n,hN2n⟩:∃ n,n=e2.heap.size:=⟨_,rfl⟩
       rw [← hN2n] at bz ⊢
       replace OV:=kI (OwN.ext' OV.o hx);replace OZ:=kI (OwZ.ext' OZ.o hx);replace MK2:=kI (MK2.o.fr (fun i h _=>hx.block i h));replace SW5:=kI (Nat.le_trans SW5.o hx.size)
       replace A0:=kI (A0.o.ext hx);replace A1:=kI (A1.o.ext hx);replace A2:=kI (A2.o.ext hx);replace A3:=kI (A3.o.ext hx);replace BL:=kI (BL.o.ext hx);replace BG:=kI (BG.o.ext hx);replace EA:=kI (EA.o.ext hx);replace N1:=kI (N1.o.ext hx);replace X:=kI (X.o.trans hx)
       have N2:=kI bz;clear hx bz hwe3 hN2n
       refine hK.out _ _ (T2.both ⟨c1B A1.o,c1B BL.o,(BG.o.cell _).trans CC.o.1,(BG.o.cell _).trans CC.o.2.1,(BG.o.cell _).trans CC.o.2.2⟩ (c1B A2.o)) ?_
       clear hK K
       (try simp only [Act.put,List.getElem_toArray,List.getElem_cons_zero,List.getElem_cons_succ,List.setIfInBounds_toArray,List.set_cons_zero,List.set_cons_succ])
       refine wpAnyX_ready (rs:=[6]) (by kernel_rfl) (by simp) ?_
       refine AllReadyX.cons rfl (fun K hK=>?_) ?_
       rotate_left
       ·exact AllReadyX.nil
       rw [if_pos (wanted_none rfl)]
       refine wp_append_rowF e3 _ _ _ rfl w.heap.size 25 (.agg #[.bool false,.slice none 0 0,.slice none 0 0]) 3 56 Try.underlying29 Try.infoR rfl (by decide) (ElN.keeps (by decide)) _ _ OV.o rfl [.bool ry.neg,.slice p1 ry.num.length c1,.slice p2 ry.den.length c2] rfl (by simp [Value.oneCell']) ry EA.o N1n N1.o rfl (by have:=LV.o;have:=K200.o;omega) (by have:=LV.o;have:=K200.o;omega) X.o.size ?_
       intro g4 cap4 e4 hrow hgr hfr
       obtain ⟨hk,hko⟩:=own_gKeeps OV.o hgr
       obtain ⟨ua,hu⟩:∃ u,u=Value.slice (some ⟨g4,0,none⟩) (((bkV m vals).take k).length+1) cap4:=⟨_,rfl⟩
       rw [← hu] at hrow ⊢
       clear hu
       replace BG:Hid (Blk e4 gl cur 25):=kI ((hgr.block gl BG.o.lt (fun e=>NE.o gl e.symm rfl)).trans BG.o)
       replace OZ:=kI (OwZ.keeps OZ.o hk (by decide));replace OV:=kI hrow
       replace N2:=kI (N2.o.keeps hk (by decide))
       replace A0:=kI (A0.o.keeps hk (by decide));replace A1:=kI (A1.o.keeps hk (by decide));replace A2:=kI (A2.o.keeps hk (by decide));replace A3:=kI (A3.o.keeps hk (by decide));replace BL:=kI (BL.o.keeps hk (by decide));replace MK2:=kI (MK2.o.keepsO hko);replace SW5:=kI (Nat.le_trans SW5.o hk.size)
       replace X:Hid (Ext w e4):=kI (Below.trans X.o (hk.below X.o.size))
       clear hrow hgr hfr hk hko
       refine hK.out _ _ (T2.both ⟨c1B A1.o,c1B BL.o,(BG.o.cell _).trans CC.o.1,(BG.o.cell _).trans CC.o.2.1,(BG.o.cell _).trans CC.o.2.2⟩ (c1B A2.o)) ?_
       clear hK K
       (try simp only [Act.put,List.getElem_toArray,List.getElem_cons_zero,List.getElem_cons_succ,List.setIfInBounds_toArray,List.set_cons_zero,List.set_cons_succ])
       refine wpAnyX_ready (rs:=[10]) (by kernel_rfl) (by simp) ?_
       refine AllReadyX.cons rfl (fun K hK=>?_) ?_
       rotate_left
       ·exact AllReadyX.nil
       rw [if_pos (wanted_none rfl)]
       refine wp_append_rowF e4 _ _ _ rfl w.heap.size 3 (.int .i64 0) 1 8 Try.underlying58 Try.infoInt rfl (by decide) (fun _ _ _ _ h _=>h) _ _ OZ.o rfl [.int .i64 (bi:Nat)] rfl (by simp [Value.oneCell']) (bi:Int) rfl N2n N2.o rfl (by have:=LZ.o;have:=K200.o;omega) (by have:=LZ.o;have:=K200.o;omega) X.o.size ?_
       intro g5 cap5 e5 hrow hgr hfr
       obtain ⟨hk,hko⟩:=own_gKeeps OZ.o hgr
       obtain ⟨ub,hu⟩:∃ u,u=Value.slice (some ⟨g5,0,none⟩) (((bkA m vals).take k).length+1) cap5:=⟨_,rfl⟩
       rw [← hu] at hrow ⊢
       clear hu
       replace BG:=kI (BG.o.keeps hk (by decide))
       replace OV:=kI (OwN.keeps OV.o hk (by decide) (by decide));replace OZ:=kI hrow
       replace A0:=kI (A0.o.keeps hk (by decide));replace A1:=kI (A1.o.keeps hk (by decide));replace A2:=kI (A2.o.keeps hk (by decide));replace A3:=kI (A3.o.keeps hk (by decide));replace BL:=kI (BL.o.keeps hk (by decide));replace MK2:=kI (MK2.o.keepsO hko);replace SW5:=kI (Nat.le_trans SW5.o hk.size)
       replace X:Hid (Ext w e5):=kI (Below.trans X.o (hk.below X.o.size))
       clear hrow hgr hfr hk hko
       refine hK.out _ _ (T2.both ⟨c1B A1.o,c1B BL.o,(BG.o.cell _).trans CC.o.1,(BG.o.cell _).trans CC.o.2.1,(BG.o.cell _).trans CC.o.2.2⟩ (c1B A2.o)) ?_
       clear hK K
       (try simp only [Act.put,List.getElem_toArray,List.getElem_cons_zero,List.getElem_cons_succ,List.setIfInBounds_toArray,List.set_cons_zero,List.set_cons_succ])
       exact HV e5 ua ub N1n N2n ⟨OV.o,OZ.o,X.o,MK2.o,A0.o,A1.o,A2.o,A3.o,SW5.o⟩
     ·go_simp
      have hx:Ext w5 ((w5.alloc (.cells #[.int .i64 (bi:Nat)] 3)).drew):=((Ext.refl _).alloc _).drew
      have bz:Blk ((w5.alloc (.cells #[.int .i64 (bi:Nat)] 3)).drew) w5.heap.size [.int .i64 (bi:Nat)].toArray 3:=(Blk.new w5 #[.int .i64 (bi:Nat)] 3).drew
      obtain ⟨e2,hwe2⟩:∃ W,W=(w5.alloc (.cells #[.int .i64 (bi:Nat)] 3)).drew:=⟨_,rfl⟩
      rw [← hwe2] at hx bz ⊢
      obtain ⟨N2n,hN2n⟩:∃ n,n=w5.heap.size:=⟨_,rfl⟩
      rw [← hN2n] at bz ⊢
      replace OV:=kI (OwN.ext' OV.o hx);replace OZ:=kI (OwZ.ext' OZ.o hx);replace MK2:=kI (MK2.o.fr (fun i h _=>hx.block i h));replace SW5:=kI (Nat.le_trans SW5.o hx.size)
      replace A0:=kI (A0.o.ext hx);replace A1:=kI (A1.o.ext hx);replace A2:=kI (A2.o.ext hx);replace A3:=kI (A3.o.ext hx);replace BL:=kI (BL.o.ext hx);replace BG:=kI (BG.o.ext hx);replace EA:=kI (EA.o.ext hx);replace X:=kI (X.o.trans hx)
      have N2:=kI bz;clear hx bz hwe2 hN2n
      refine hK.out _ _ (T2.both ⟨c1B A1.o,c1B BL.o,(BG.o.cell _).trans CC.o.1,(BG.o.cell _).trans CC.o.2.1,(BG.o.cell _).trans CC.o.2.2⟩ (c1B A2.o)) ?_
      clear hK K
      (try simp only [Act.put,List.getElem_toArray,List.getElem_cons_zero,List.getElem_cons_succ,List.setIfInBounds_toArray,List.set_cons_zero,List.set_cons_succ])
      refine wpAnyX_ready (rs:=[5]) (by kernel_rfl) (by simp) ?_
      refine AllReadyX.cons rfl (fun K hK=>?_) ?_
      rotate_left
      ·exact AllReadyX.nil
      go_simp
      have hx:Ext e2 ((e2.alloc (.cells #[.bool ry.neg,.slice p1 ry.num.length c1,.slice p2 ry.den.length c2] 25))):=(Ext.refl _).alloc _
      have bz:Blk ((e2.alloc (.cells #[.bool ry.neg,.slice p1 ry.num.length c1,.slice p2 ry.den.length c2] 25))) e2.heap.size [.bool ry.neg,.slice p1 ry.num.length c1,.slice p2 ry.den.length c2].toArray 25:=Blk.new e2 #[.bool ry.neg,.slice p1 ry.num.length c1,.slice p2 ry.den.length c2] 25
      obtain ⟨e3,hwe3⟩:∃ W,W=(e2.alloc (.cells #[.bool ry.neg,.slice p1 ry.num.length c1,.slice p2 ry.den.length c2] 25)):=⟨_,rfl⟩
      rw [← hwe3] at hx bz ⊢
      obtain ⟨N1n,hN1n⟩:∃ n,n=e2.heap.size:=⟨_,rfl⟩
      rw [← hN1n] at bz ⊢
      replace OV:=kI (OwN.ext' OV.o hx);replace OZ:=kI (OwZ.ext' OZ.o hx);replace MK2:=kI (MK2.o.fr (fun i h _=>hx.block i h));replace SW5:=kI (Nat.le_trans SW5.o hx.size)
      replace A0:=kI (A0.o.ext hx);replace A1:=kI (A1.o.ext hx);replace A2:=kI (A2.o.ext hx);replace A3:=kI (A3.o.ext hx);replace BL:=kI (BL.o.ext hx);replace BG:=kI (BG.o.ext hx);replace EA:=kI (EA.o.ext hx);replace N2:=kI (N2.o.ext hx);replace X:=kI (X.o.trans hx)
      have N1:=kI bz;clear hx bz hwe3 hN1n
      refine hK.out _ _ (T2.both ⟨c1B A1.o,c1B BL.o,(BG.o.cell _).trans CC.o.1,(BG.o.cell _).trans CC.o.2.1,(BG.o.cell _).trans CC.o.2.2⟩ (c1B A2.o)) ?_
      clear hK K
      (try simp only [Act.put,List.getElem_toArray,List.getElem_cons_zero,List.getElem_cons_succ,List.setIfInBounds_toArray,List.set_cons_zero,List.set_cons_succ])
      refine wpAnyX_ready (rs:=[6]) (by kernel_rfl) (by simp) ?_
      refine AllReadyX.cons rfl (fun K hK=>?_) ?_
      rotate_left
      ·exact AllReadyX.nil
      rw [if_pos (wanted_none rfl)]
      refine wp_append_rowF e3 _ _ _ rfl w.heap.size 25 (.agg #[.bool false,.slice none 0 0,.slice none 0 0]) 3 56 Try.underlying29 Try.infoR rfl (by decide) (ElN.keeps (by decide)) _ _ OV.o rfl [.bool ry.neg,.slice p1 ry.num.length c1,.slice p2 ry.den.length c2] rfl (by simp [Value.oneCell']) ry EA.o N1n N1.o rfl (by have:=LV.o;have:=K200.o;omega) (by have:=LV.o;have:=K200.o;omega) X.o.size ?_
      intro g4 cap4 e4 hrow hgr hfr
      obtain ⟨hk,hko⟩:=own_gKeeps OV.o hgr
      obtain ⟨ua,hu⟩:∃ u,u=Value.slice (some ⟨g4,0,none⟩) (((bkV m vals).take k).length+1) cap4:=⟨_,rfl⟩
      rw [← hu] at hrow ⊢
      clear hu
      replace BG:Hid (Blk e4 gl cur 25):=kI ((hgr.block gl BG.o.lt (fun e=>NE.o gl e.symm rfl)).trans BG.o)
      replace OZ:=kI (OwZ.keeps OZ.o hk (by decide));replace OV:=kI hrow
      replace N2:=kI (N2.o.keeps hk (by decide))
      replace A0:=kI (A0.o.keeps hk (by decide));replace A1:=kI (A1.o.keeps hk (by decide));replace A2:=kI (A2.o.keeps hk (by decide));replace A3:=kI (A3.o.keeps hk (by decide));replace BL:=kI (BL.o.keeps hk (by decide));replace MK2:=kI (MK2.o.keepsO hko);replace SW5:=kI (Nat.le_trans SW5.o hk.size)
      replace X:Hid (Ext w e4):=kI (Below.trans X.o (hk.below X.o.size))
      clear hrow hgr hfr hk hko
      refine hK.out _ _ (T2.both ⟨c1B A1.o,c1B BL.o,(BG.o.cell _).trans CC.o.1,(BG.o.cell _).trans CC.o.2.1,(BG.o.cell _).trans CC.o.2.2⟩ (c1B A2.o)) ?_
      clear hK K
      (try simp only [Act.put,List.getElem_toArray,List.getElem_cons_zero,List.getElem_cons_succ,List.setIfInBounds_toArray,List.set_cons_zero,List.set_cons_succ])
      refine wpAnyX_ready (rs:=[10]) (by kernel_rfl) (by simp) ?_
      refine AllReadyX.cons rfl (fun K hK=>?_) ?_
      rotate_left
      ·exact AllReadyX.nil
      rw [if_pos (wanted_none rfl)]
      refine wp_append_rowF e4 _ _ _ rfl w.heap.size 3 (.int .i64 0) 1 8 Try.underlying58 Try.infoInt rfl (by decide) (fun _ _ _ _ h _=>h) _ _ OZ.o rfl [.int .i64 (bi:Nat)] rfl (by simp [Value.oneCell']) (bi:Int) rfl N2n N2.o rfl (by have:=LZ.o;have:=K200.o;omega) (by have:=LZ.o;have:=K200.o;omega) X.o.size ?_
      intro g5 cap5 e5 hrow hgr hfr
      obtain ⟨hk,hko⟩:=own_gKeeps OZ.o hgr
      obtain ⟨ub,hu⟩:∃ u,u=Value.slice (some ⟨g5,0,none⟩) (((bkA m vals).take k).length+1) cap5:=⟨_,rfl⟩
      rw [← hu] at hrow ⊢
      clear hu
      replace BG:=kI (BG.o.keeps hk (by decide))
      replace OV:=kI (OwN.keeps OV.o hk (by decide) (by decide));replace OZ:=kI hrow
      replace A0:=kI (A0.o.keeps hk (by decide));replace A1:=kI (A1.o.keeps hk (by decide));replace A2:=kI (A2.o.keeps hk (by decide));replace A3:=kI (A3.o.keeps hk (by decide));replace BL:=kI (BL.o.keeps hk (by decide));replace MK2:=kI (MK2.o.keepsO hko);replace SW5:=kI (Nat.le_trans SW5.o hk.size)
      replace X:Hid (Ext w e5):=kI (Below.trans X.o (hk.below X.o.size))
      clear hrow hgr hfr hk hko
      refine hK.out _ _ (T2.both ⟨c1B A1.o,c1B BL.o,(BG.o.cell _).trans CC.o.1,(BG.o.cell _).trans CC.o.2.1,(BG.o.cell _).trans CC.o.2.2⟩ (c1B A2.o)) ?_
      clear hK K
      (try simp only [Act.put,List.getElem_toArray,List.getElem_cons_zero,List.getElem_cons_succ,List.setIfInBounds_toArray,List.set_cons_zero,List.set_cons_succ])
      exact HV e5 ua ub N1n N2n ⟨OV.o,OZ.o,X.o,MK2.o,A0.o,A1.o,A2.o,A3.o,SW5.o⟩
    ·intro W9 xa yb nn1 nn2 ⟨hov,hoz,hx,hmk,ha0,ha1,ha2,ha3,hsz⟩
     replace OV:=kI hov;replace OZ:=kI hoz;replace X:=kI hx;replace MK2:=kI hmk;replace A0:=kI ha0;replace A1:=kI ha1;replace A2:=kI ha2;replace A3:=kI ha3;replace SW5:=kI hsz
     clear hov hoz hx hmk ha0 ha1 ha2 ha3 hsz
     obtain ⟨xa1,xc1,exa⟩:=OV.o.shape
     obtain ⟨nx,hnx⟩:∃ n,n=(((bkV m vals).take k) ++ [ry]).length:=⟨_,rfl⟩
     rw [← hnx] at exa
     obtain ⟨ya1,yc1,eya⟩:=OZ.o.shape
     obtain ⟨ny,hny⟩:∃ n,n=(((bkA m vals).take k) ++ [(bi:Int)]).length:=⟨_,rfl⟩
     rw [← hny] at eya
     subst exa;subst eya
     clear hnx hny
     have qA1:=A1.o.cell;have fA1:=A1.o.free;have lA1:=A1.o.lt;have qA2:=A2.o.cell;have fA2:=A2.o.free;have lA2:=A2.o.lt
     refine wpAnyX_ready (rs:=[11]) (by kernel_rfl) (by simp) ?_
     refine AllReadyX.cons rfl (fun K hK=>?_) ?_
     rotate_left
     ·exact AllReadyX.nil
     go_simp
     refine hK.out _ _ ⟨fun h=>absurd h (by decide),fun _=>c1B (A2.o.setOther (a:=⟨An+1,0,none⟩) (by dsimp only;omega) _)⟩ ?_
     clear hK K
     (try simp only [Act.put,List.getElem_toArray,List.getElem_cons_zero,List.getElem_cons_succ,List.setIfInBounds_toArray,List.set_cons_zero,List.set_cons_succ])
     refine wpAnyX_ready (rs:=[12]) (by kernel_rfl) (by simp) ?_
     refine AllReadyX.cons rfl (fun K hK=>?_) ?_
     rotate_left
     ·exact AllReadyX.nil
     go_simp
     refine hK.out _ _ ⟨fun h=>absurd h (by decide),fun h=>absurd h (by decide)⟩ ?_
     clear hK K
     (try simp only [Act.put,List.getElem_toArray,List.getElem_cons_zero,List.getElem_cons_succ,List.setIfInBounds_toArray,List.set_cons_zero,List.set_cons_succ])
     clear qA1 fA1 lA1 qA2 fA2 lA2
     refine wpAnyX_done (by kernel_rfl) ?_ _
     refine ⟨rfl,?_⟩
     obtain ⟨wf,hwf⟩:∃ W,W=(W9.setCell ⟨An+1,0,none⟩ (.slice xa1 nx xc1)).setCell ⟨An+1+1,0,none⟩ (.slice ya1 ny yc1):=⟨_,rfl⟩
     have hk1:=keeps_setC A1.o 0 (.slice xa1 nx xc1)
     have hk2:=keeps_setC (A2.o.setOther (a:=⟨An+1,0,none⟩) (by dsimp only;omega) (.slice xa1 nx xc1)) 0 (.slice ya1 ny yc1)
     have b0:Blk wf An #[.bool m.disc.neg,.slice m1 m.disc.num.length n1,.slice m2 m.disc.den.length n2,.slice (some ⟨sb,so,none⟩) m.states.length n3] 28:=by rw [hwf];exact (A0.o.setOther (a:=⟨An+1,0,none⟩) (by dsimp only;omega) _).setOther (a:=⟨An+1+1,0,none⟩) (by dsimp only;omega) _
     have b1:Blk wf (An+1) #[(.slice xa1 nx xc1)] 29:=by rw [hwf];exact (A1.o.set 0 (.slice xa1 nx xc1)).setOther (a:=⟨An+1+1,0,none⟩) (by dsimp only;omega) _
     have b2:Blk wf (An+1+1) #[(.slice ya1 ny yc1)] 58:=by rw [hwf];exact (A2.o.setOther (a:=⟨An+1,0,none⟩) (by dsimp only;omega) _).set 0 (.slice ya1 ny yc1)
     have b3:Blk wf (An+1+1+1) #[.int .i64 0] 34:=by rw [hwf];exact (A3.o.setOther (a:=⟨An+1,0,none⟩) (by dsimp only;omega) _).setOther (a:=⟨An+1+1,0,none⟩) (by dsimp only;omega) _
     have ov:OwN w.heap.size wf (.slice xa1 nx xc1) ((bkV m vals).take (k+1)):=by rw [hwf,HV0.o];exact (OwN.keeps OV.o hk1 (by decide) (by decide)).keeps hk2 (by decide) (by decide)
     have oz:OwZ w.heap.size wf (.slice ya1 ny yc1) ((bkA m vals).take (k+1)):=by rw [hwf,HV1.o];exact (OwZ.keeps OZ.o hk1 (by decide)).keeps hk2 (by decide)
     have mk:Marks (An+1+1+1) ({ target:=.collected w3.heap.size,args:=#[] } :: ds) wf:=by rw [hwf];exact (MK2.o.fr (fun i _ h=>Below.heap_setCell _ _ _ i (by dsimp only;omega))).fr (fun i _ h=>Below.heap_setCell _ _ _ i (by dsimp only;omega))
     have xw:Ext w wf:=by
      rw [hwf]
      refine ⟨X.o.os,X.o.tape,X.o.output,by have:=X.o.size;simp only [World.size_setCell];exact this,fun i hi=>?_⟩
      exact (Below.heap_setCell _ _ _ i (by dsimp only;omega)).trans ((Below.heap_setCell _ _ _ i (by dsimp only;omega)).trans (X.o.block i hi))
     have hok1:∀ i,i < k+1→rowE m vals (m.states.getD i [])=0:=fun i hi=>by
      by_cases e:i=k
      ·rw [e,← HAC.o];exact HRZ.o
      ·exact OK.o i (by omega)
     rw [← hwf]
     have F0:=kI b0;have F1:=kI b1;have F2:=kI b2;have F3:=kI b3;have OV2:=kI ov;have OZ2:=kI oz;have MK3:=kI mk;have XW:=kI xw;have OK2:=kI hok1
     clear hwf hk1 hk2 b0 b1 b2 b3 ov oz mk xw hok1
     go_wp2_with fail
     exact ⟨m.states.length - (k+1),by omega,k+1,_,_,({ target:=.collected w3.heap.size,args:=#[] } :: ds),rfl,by omega,OK2.o,XW.o,F0.o,F1.o,F2.o,F3.o,OV2.o,OZ2.o,MK3.o,_,_,_,_,_,_,_,_,_,_,_,_,_,_,_,_,_,_,_,_,_,_,_,_,_,_,_,_,_,_,_,_,_,_,_,_,_,_,_,_,_,_,_,_,_,_,_,rfl⟩
  ·obtain rfl:k=m.states.length:=by omega
   have q1:¬ (m.states.length:Int) < (m.states.length:Int):=by omega
   have E:=kI (HI.o OK.o)
   rw [List.take_of_length_le (by rw [bkV_len];exact Nat.le_refl _)] at OV
   rw [List.take_of_length_le (by rw [bkA_len];exact Nat.le_refl _)] at OZ
   obtain ⟨xa1,xc1,exa⟩:=OV.o.shape
   obtain ⟨nx,hnx⟩:∃ n,n=(bkV m vals).length:=⟨_,rfl⟩
   rw [← hnx] at exa
   obtain ⟨ya1,yc1,eya⟩:=OZ.o.shape
   obtain ⟨ny,hny⟩:∃ n,n=(bkA m vals).length:=⟨_,rfl⟩
   rw [← hny] at eya
   subst exa;subst eya
   clear hnx hny
   have qA1:=A1.o.cell;have fA1:=A1.o.free;have lA1:=A1.o.lt;have qA2:=A2.o.cell;have fA2:=A2.o.free;have lA2:=A2.o.lt;have qA3:=A3.o.cell;have fA3:=A3.o.free;have lA3:=A3.o.lt
   go_wp2_with fail
   clear qA1 fA1 lA1 qA2 fA2 lA2 qA3 fA3 lA3
   have ht:∀ l,T2 2 3 (fun W=>W.cell? ⟨An+1,0,none⟩=some (.slice xa1 nx xc1)) (fun W=>W.cell? ⟨An+1+1,0,none⟩=some (.slice ya1 ny yc1)) l wk.drew:=fun l=>T2.both (c1B A1.o.drew) (c1B A2.o.drew)
   refine wp_region_Xn (T:=T2 2 3 (fun W=>W.cell? ⟨An+1,0,none⟩=some (.slice xa1 nx xc1)) (fun W=>W.cell? ⟨An+1+1,0,none⟩=some (.slice ya1 ny yc1))) (by kernel_rfl) ?_
   refine wpAnyX_take1 (i:=0) (v:=?_) rfl rfl (by kernel_rfl) (by decide) (by decide) (by kernel_rfl) (by kernel_rfl) (by kernel_rfl) Qn.noP (Or.inl ⟨by rfl,?_⟩) (by kernel_rfl) (ht _) ?_
   rotate_left
   ·(intro w hSw;(try dsimp only at hSw);go_simp;first|done|with_reducible rfl)
   (try simp only [Act.put,List.getElem_toArray,List.getElem_cons_zero,List.getElem_cons_succ,List.setIfInBounds_toArray,List.set_cons_zero,List.set_cons_succ])
   refine wpAnyX_take2 (i:=1) (v:=?_) rfl rfl (by kernel_rfl) (by decide) (by decide) (by kernel_rfl) (by kernel_rfl) (by kernel_rfl) Qn.noP (Or.inl ⟨by rfl,?_⟩) (by kernel_rfl) (ht _) ?_
   rotate_left
   ·(intro w hSw;(try dsimp only at hSw);go_simp;first|done|with_reducible rfl)
   (try simp only [Act.put,List.getElem_toArray,List.getElem_cons_zero,List.getElem_cons_succ,List.setIfInBounds_toArray,List.set_cons_zero,List.set_cons_succ])
   clear ht
   have WAx:=WA.o
   have qA1:=A1.o.cell;have fA1:=A1.o.free;have lA1:=A1.o.lt;have qA2:=A2.o.cell;have fA2:=A2.o.free;have lA2:=A2.o.lt;have qA3:=A3.o.cell;have fA3:=A3.o.free;have lA3:=A3.o.lt
   refine wpAnyX_ready (rs:=[2]) (by kernel_rfl) (by simp) ?_
   refine AllReadyX.cons rfl (fun K hK=>?_) ?_
   rotate_left
   ·exact AllReadyX.nil
   go_simp
   refine hK.out _ _ ⟨fun h=>absurd h (by decide),fun _=>(by first|exact c1B A2.o|exact c1B (A2.o.setOther (a:=⟨An+1,0,none⟩) (by dsimp only;omega) _)|exact c1B (A2.o.setOther (a:=⟨An+1,0,none⟩) (by dsimp only;omega) _).drew)⟩ ?_
   clear hK K
   (try simp only [Act.put,List.getElem_toArray,List.getElem_cons_zero,List.getElem_cons_succ,List.setIfInBounds_toArray,List.set_cons_zero,List.set_cons_succ])
   clear qA1 fA1 lA1 qA2 fA2 lA2 qA3 fA3 lA3
   obtain ⟨e2,he2⟩:∃ W,W=(wk.setCell ⟨An+1,0,none⟩ (.slice xa1 nx xc1)).drew:=⟨_,rfl⟩
   have hk9:Keeps 0 29 wk e2:=by rw [he2];exact (keeps_setC A1.o 0 (.slice xa1 nx xc1)).trans (Keeps.ext ((Ext.refl _).drew))
   have hx9:Ext w e2:=by rw [he2];exact Ext.drew (Below.setCell X.o (by dsimp only;omega) _)
   have hm9:Marks (An+1+1+1) ds e2:=by rw [he2];exact MK.o.fr (fun i _ h=>Below.heap_setCell _ _ _ i (by dsimp only;omega))
   have hs9:Blk e2 (An+1) #[(.slice xa1 nx xc1)] 29:=by rw [he2];exact (A1.o.set 0 (.slice xa1 nx xc1)).drew
   rw [← he2]
   clear he2
   replace OV:=kI (OwN.keeps OV.o hk9 (by decide) (by decide));replace OZ:=kI (OwZ.keeps OZ.o hk9 (by decide));replace X:=kI hx9;replace MK:=kI hm9
   replace A1:=kI hs9
   replace A2:=kI (A2.o.keeps hk9 (by decide))
   replace A3:=kI (A3.o.keeps hk9 (by decide))
   clear hk9 hx9 hm9 hs9
   have qA1:=A1.o.cell;have fA1:=A1.o.free;have lA1:=A1.o.lt;have qA2:=A2.o.cell;have fA2:=A2.o.free;have lA2:=A2.o.lt;have qA3:=A3.o.cell;have fA3:=A3.o.free;have lA3:=A3.o.lt
   refine wpAnyX_ready (rs:=[3]) (by kernel_rfl) (by simp) ?_
   refine AllReadyX.cons rfl (fun K hK=>?_) ?_
   rotate_left
   ·exact AllReadyX.nil
   go_simp
   refine hK.out _ _ ⟨fun h=>absurd h (by decide),fun h=>absurd h (by decide)⟩ ?_
   clear hK K
   (try simp only [Act.put,List.getElem_toArray,List.getElem_cons_zero,List.getElem_cons_succ,List.setIfInBounds_toArray,List.set_cons_zero,List.set_cons_succ])
   clear qA1 fA1 lA1 qA2 fA2 lA2 qA3 fA3 lA3
   obtain ⟨e3,he3⟩:∃ W,W=(e2.setCell ⟨An+1+1,0,none⟩ (.slice ya1 ny yc1)):=⟨_,rfl⟩
   have hk9:Keeps 0 58 e2 e3:=by rw [he3];exact keeps_setC A2.o 0 (.slice ya1 ny yc1)
   have hx9:Ext w e3:=by rw [he3];exact Below.setCell X.o (by dsimp only;omega) _
   have hm9:Marks (An+1+1+1) ds e3:=by rw [he3];exact MK.o.fr (fun i _ h=>Below.heap_setCell _ _ _ i (by dsimp only;omega))
   have hs9:Blk e3 (An+1+1) #[(.slice ya1 ny yc1)] 58:=by rw [he3];exact (A2.o.set 0 (.slice ya1 ny yc1))
   rw [← he3]
   clear he3
   replace OV:=kI (OwN.keeps OV.o hk9 (by decide) (by decide));replace OZ:=kI (OwZ.keeps OZ.o hk9 (by decide));replace X:=kI hx9;replace MK:=kI hm9
   replace A1:=kI (A1.o.keeps hk9 (by decide))
   replace A2:=kI hs9
   replace A3:=kI (A3.o.keeps hk9 (by decide))
   clear hk9 hx9 hm9 hs9
   have qA1:=A1.o.cell;have fA1:=A1.o.free;have lA1:=A1.o.lt;have qA2:=A2.o.cell;have fA2:=A2.o.free;have lA2:=A2.o.lt;have qA3:=A3.o.cell;have fA3:=A3.o.free;have lA3:=A3.o.lt
   refine wpAnyX_ready (rs:=[4]) (by kernel_rfl) (by simp) ?_
   refine AllReadyX.cons rfl (fun K hK=>?_) ?_
   rotate_left
   ·exact AllReadyX.nil
   go_simp
   refine hK.out _ _ ⟨fun h=>absurd h (by decide),fun h=>absurd h (by decide)⟩ ?_
   clear hK K
   (try simp only [Act.put,List.getElem_toArray,List.getElem_cons_zero,List.getElem_cons_succ,List.setIfInBounds_toArray,List.set_cons_zero,List.set_cons_succ])
   clear qA1 fA1 lA1 qA2 fA2 lA2 qA3 fA3 lA3
   obtain ⟨e4,he4⟩:∃ W,W=(e3.setCell ⟨An+1+1+1,0,none⟩ (.int .i64 0)):=⟨_,rfl⟩
   have hk9:Keeps 0 34 e3 e4:=by rw [he4];exact keeps_setC A3.o 0 (.int .i64 0)
   have hx9:Ext w e4:=by rw [he4];exact Below.setCell X.o (by dsimp only;omega) _
   have hm9:Marks (An+1+1+1) ds e4:=by rw [he4];exact MK.o.fr (fun i _ h=>Below.heap_setCell _ _ _ i (by dsimp only;omega))
   have hs9:Blk e4 (An+1+1+1) #[(.int .i64 0)] 34:=by rw [he4];exact (A3.o.set 0 (.int .i64 0))
   rw [← he4]
   clear he4
   replace OV:=kI (OwN.keeps OV.o hk9 (by decide) (by decide));replace OZ:=kI (OwZ.keeps OZ.o hk9 (by decide));replace X:=kI hx9;replace MK:=kI hm9
   replace A1:=kI (A1.o.keeps hk9 (by decide))
   replace A2:=kI (A2.o.keeps hk9 (by decide))
   replace A3:=kI hs9
   clear hk9 hx9 hm9 hs9
   have qA1:=A1.o.cell;have fA1:=A1.o.free;have lA1:=A1.o.lt;have qA2:=A2.o.cell;have fA2:=A2.o.free;have lA2:=A2.o.lt;have qA3:=A3.o.cell;have fA3:=A3.o.free;have lA3:=A3.o.lt
   refine wpAnyX_done (by kernel_rfl) ?_ _
   refine ⟨rfl,?_⟩
   clear qA1 fA1 lA1 qA2 fA2 lA2 qA3 fA3 lA3
   go_wp2_with fail
   have b1:=A1.o;have b2:=A2.o;have b3:=A3.o
   refine MK.o.leaves2 (fun W' hb hk=>?_)
   have c1:=(hk _ _ _ b1).cell 0;have c2:=(hk _ _ _ b2).cell 0;have c3:=(hk _ _ _ b3).cell 0
   have l3:(An+1+1+1) < W'.heap.size:=(hk _ _ _ b3).lt
   simp only [List.getElem?_toArray,List.getElem?_cons_zero] at c1 c2 c3
   have hkk:=keeps_blk 4 (hb.mono (Nat.zero_le _)) hk
   refine ⟨.tuple #[(.slice xa1 nx xc1),(.slice ya1 ny yc1),.int .i64 0],by simp only [results,Try.results51];go_simp,ResB.mk (OwN.keeps OV.o hkk (by decide) (by decide)) (OwZ.keeps OZ.o hkk (by decide)) E.o,?_⟩
   exact Below.trans X.o (hb.mono (by omega))
end Go.Proofs.Ytfflknbeidihoaa
