/- Lemmas and walks of this claim. Conditions: as each states. -/
import Derived.Test.YtfflknbeidihoaaStAppJ
set_option linter.unusedVariables false
set_option linter.unusedSimpArgs false
namespace Go.Proofs.Ytfflknbeidihoaa
open Go.RowKit
attribute [local go_sem] Oper.semAt_some
def StI (w w4:World) (m:MD) (vals:List RR) (k An H:Nat) (pre:List (Value × Value)) (W:World):Prop:=
 Ext w W∧w4.heap.size≤W.heap.size∧pre.length≤k∧(∀ i,i < pre.length→(backupS m (stgV m vals i)).2.2=0)∧Blk W (An+1+1+1) #[.int .i64 0] 34∧
 ∃ va pa,Blk W (An+1) #[va] 33∧Blk W (An+1+1) #[pa] 30∧OwVR w.heap.size W va ((List.range (pre.length+1)).map (stgV m vals))∧OwPl w.heap.size W pa ((List.range pre.length).map fun j=>(backupS m (stgV m vals j)).2.1)∧Aside va H (w4.heap.size+2)∧Aside pa H (w4.heap.size+2)
theorem Kz.belowK {n m:Nat} {A B:World} (h:Kz m A B) (hn:n≤m) (hA:n≤A.heap.size):Below n A B:=⟨h.zero.os,h.zero.tape,h.zero.output,h.zero.size,fun i hi=>h.block i (by omega) (.inl (by omega))⟩
theorem KpO.belowK {n o:Nat} {A B:World} (h:KpO o A B) (hn:n≤o) (hA:n≤A.heap.size):Below n A B:=⟨h.zero.os,h.zero.tape,h.zero.output,h.zero.size,fun i hi=>h.block i (by omega) (by omega)⟩
theorem StI.kq {w w4:World} {m:MD} {vals:List RR} {k An H:Nat} {pre:List (Value × Value)} {A B:World} (h:StI w w4 m vals k An H pre A) (q:Kq w4.heap.size A B) (hw:w.heap.size≤w4.heap.size):StI w w4 m vals k An H pre B:=by
 obtain ⟨h1,h2,h3,h4,h5,va,pa,h6,h7,h8,h9,h10,h11⟩:=h
 have hk:=q.keeps 4
 exact ⟨Below.trans h1 (q.kz.belowK hw h1.size),Nat.le_trans h2 q.kz.zero.size,h3,h4,q.blk _ _ _ h5,va,pa,q.blk _ _ _ h6,q.blk _ _ _ h7,h8.keeps hk (by decide) (by decide) (by decide),h9.keeps hk (by decide) (by decide),h10,h11⟩
theorem StI.kk {w w4:World} {m:MD} {vals:List RR} {k An H:Nat} {pre:List (Value × Value)} {A B:World} (h:StI w w4 m vals k An H pre A) (q:KpK (H+1) A B) (hw:w.heap.size≤H) (hN:H+1 < w4.heap.size):StI w w4 m vals k An H pre B:=by
 obtain ⟨h1,h2,h3,h4,h5,va,pa,h6,h7,h8,h9,h10,h11⟩:=h
 refine ⟨Below.trans h1 (q.o.belowK (by omega) h1.size),Nat.le_trans h2 q.o.zero.size,h3,h4,h5.keeps q.k (by decide),va,pa,h6.keeps q.k (by decide),h7.keeps q.k (by decide),h8.keptO q (fun e=>?_),h9.keeps q.k (by decide) (by decide),h10,h11⟩
 have:=h10 _ e
 omega
def StQ (w w4:World) (m:MD) (vals:List RR) (k An H:Nat) (m1:Option Addr) (n1:Nat) (m2:Option Addr) (n2:Nat) (m3:Option Addr) (n3:Nat) (av:Option Addr) (cv:Nat) (pre:List (Value × Value)) (x:Value × Value) (a1:Act) (W:World):Prop:=
 StI w w4 m vals k An H pre W∧StNx w m vals k pre x W∧∃ t3 t4 t5 t11 t12 t13 t14 t15 t16 t17 t18 t19 t20 t21 t22 t23 t24 t25 t26 t27 t28 t29 t30 t31 t32 t33 t34 t35 t36 t37 t38 t39 t40:Value,a1={ tmps:=#[.agg (mdC m m1 n1 m2 n2 m3 n3),.slice av vals.length cv,.int .i64 k,t3,t4,t5,.pointer (some ⟨An+1,0,none⟩),.pointer (some ⟨An+1+1,0,none⟩),.pointer (some ⟨An+1+1+1,0,none⟩),x.1,x.2,t11,t12,t13,t14,t15,t16,t17,t18,t19,t20,t21,t22,t23,t24,t25,t26,t27,t28,t29,t30,t31,t32,t33,t34,t35,t36,t37,t38,t39,t40],defers:=[] }
theorem StQ.kq {w w4:World} {m:MD} {vals:List RR} {k An H:Nat} {m1:Option Addr} {n1:Nat} {m2:Option Addr} {n2:Nat} {m3:Option Addr} {n3:Nat} {av:Option Addr} {cv:Nat} {pre:List (Value × Value)} {x:Value × Value} {a1:Act} {A B:World} (h:StQ w w4 m vals k An H m1 n1 m2 n2 m3 n3 av cv pre x a1 A) (q:Kq w4.heap.size A B) (hw:w.heap.size≤w4.heap.size):StQ w w4 m vals k An H m1 n1 m2 n2 m3 n3 av cv pre x a1 B:=by
 obtain ⟨h1,⟨h2,h3,h4,h5⟩,h6⟩:=h
 have hk:=q.keeps 4
 exact ⟨h1.kq q hw,⟨h2,h3,OwN.keeps h4 hk (by decide) (by decide),OwZ.keeps h5 hk (by decide)⟩,h6⟩
theorem map_range_snoc {α:Type} (f:Nat→α) (n:Nat):(List.range n).map f ++ [f n]=(List.range (n+1)).map f:=by rw [List.range_succ,List.map_append];rfl
theorem KpB.le {n n2:Nat} {X:Nat→Prop} {A B:World} (h:KpB n2 X A B) (hn:n≤n2):KpB n X A B:=⟨h.zero,fun i hi hl hX=>h.block i hi (by omega) hX⟩
theorem StR.grown {n:Nat} {X:Nat→Prop} {W A B:World} (h:StR n X W A) {v:Value} {α:Type} {e:TypeId} {size:Nat} {El:World→List Value→α→Prop} {C:Nat} {l:List α} (ho:OwRow e size El C A v l) (hg:A.grownBy B v.ownBlock) (h1:e≠25) (h2:e≠115) (hX:∀ q,v.ownBlock=some q→X q∨n≤q):StR n X W B:=by
 refine h.trans ⟨⟨⟨hg.os,hg.tape,hg.output,hg.size,fun i hi=>by omega⟩,fun i hi hn hx=>hg.block i hi (fun e9=>?_)⟩,fun i c t ht b=>?_⟩
 ·rcases hX i e9.symm with h|h
  ·exact hx h
  ·omega
 ·have k:=ho.gKeeps hg
  refine Blk.keeps b k ?_
  rcases ht with rfl|rfl
  ·exact fun e=>h1 e.symm
  ·exact fun e=>h2 e.symm
set_option maxRecDepth 100000 in
set_option maxHeartbeats 8000000 in
theorem stagesI_any (mv vv:Value) (m:MD) (vals:List RR) (k:Int) (w:World) (hm:RdM w mv m) (hv:RdRs w vv vals) (hlm:LimM m) (hlv:LimL vals) (hln:LenL vals) :
  Calls Try.prog 7 #[mv,vv,.int .i64 k] w fun e w'=>ResG w w' e (stagesS m vals k)∧Ext w w':=by
 have hst:=fun W (h:RdM W mv m) (k:RdRs W vv vals)=>start_any mv vv m vals W h k hlm hln
 have hS1:=fun c=>stages_1 (m:=m) (v:=vals) (k:=k) (c:=c);have hS2:=stages_2 (m:=m) (v:=vals) (k:=k)
 have hS3:=fun h0 h24 j c=>stages_3 (m:=m) (v:=vals) (k:=k) (j:=j) (c:=c) h0 h24;have hS4:=fun h0 h24=>stages_4 (m:=m) (v:=vals) (k:=k) h0 h24
 have HM:=kI hm;have HV:=kI hv;have HLM:=kI hlm;have HLV:=kI hlv
 have hmv:=fun (h:mvE m vals=0)=>(mv_valid h).2
 obtain ⟨m1,n1,m2,n2,m3,n3,rfl,-,-⟩:=hm
 obtain ⟨av,cv,rfl,-,-,-⟩:=hv.get
 obtain ⟨c1,hc1⟩:∃ c,c=mvE m vals:=⟨_,rfl⟩
 rw [← hc1] at hst hS1 hS2
 have HC1:=kI hc1
 have HST:=kI hst;have HS1:=kI hS1;have HS2:=kI hS2;have HS3:=kI hS3;have HS4:=kI hS4;have HMV:=kI hmv
 clear hv hst hlm hlv hln hc1 hS1 hS2 hS3 hS4 hmv
 have bb0:=((((Blk.new w #[.bool m.disc.neg,.slice m1 m.disc.num.length n1,.slice m2 m.disc.den.length n2,.slice m3 m.states.length n3] 28).alloc (.cells #[.slice none 0 0] 33)).alloc (.cells #[.slice none 0 0] 30)).alloc (.cells #[.int .i64 0] 34))
 have bb1:=(((Blk.new (w.alloc (.cells #[.bool m.disc.neg,.slice m1 m.disc.num.length n1,.slice m2 m.disc.den.length n2,.slice m3 m.states.length n3] 28)) #[.slice none 0 0] 33).alloc (.cells #[.slice none 0 0] 30)).alloc (.cells #[.int .i64 0] 34))
 have bb2:=((Blk.new ((w.alloc (.cells #[.bool m.disc.neg,.slice m1 m.disc.num.length n1,.slice m2 m.disc.den.length n2,.slice m3 m.states.length n3] 28)).alloc (.cells #[.slice none 0 0] 33)) #[.slice none 0 0] 30).alloc (.cells #[.int .i64 0] 34))
 have bb3:=(Blk.new (((w.alloc (.cells #[.bool m.disc.neg,.slice m1 m.disc.num.length n1,.slice m2 m.disc.den.length n2,.slice m3 m.states.length n3] 28)).alloc (.cells #[.slice none 0 0] 33)).alloc (.cells #[.slice none 0 0] 30)) #[.int .i64 0] 34)
 rw [World.size_alloc] at bb1
 rw [World.size_alloc,World.size_alloc] at bb2
 rw [World.size_alloc,World.size_alloc,World.size_alloc] at bb3
 have x0:Ext w ((((w.alloc (.cells #[.bool m.disc.neg,.slice m1 m.disc.num.length n1,.slice m2 m.disc.den.length n2,.slice m3 m.states.length n3] 28)).alloc (.cells #[.slice none 0 0] 33)).alloc (.cells #[.slice none 0 0] 30)).alloc (.cells #[.int .i64 0] 34)):=(((((Ext.refl w).alloc _).alloc _).alloc _).alloc _)
 have A0:=kI bb0;have A1:=kI bb1;have A2:=kI bb2;have A3:=kI bb3;have X:=kI x0
 clear x0 bb0 bb1 bb2 bb3
 have hmf:∀ (fn:Fn) (first cap:Array Value) (w:World),(Instr.makeFunc fn first cap).run Try.prog w=.ok (.func fn first cap) w:=fun _ _ _ _=>rfl
 have WA:Hid (w.heap.size≤w.heap.size):=kI (Nat.le_refl _)
 refine (callsIn_wide (n:=8)).1 ?_
 refine callsIn_of_wp_marks Try.func7 rfl trivial ?_ rfl
 simp only [Try.ntmps7,List.size_toArray,List.length_cons,List.length_nil,Nat.reduceAdd,Nat.reduceSub,Array.replicate_succ,Array.replicate_zero,List.push_toArray,List.append_toArray,List.nil_append,List.cons_append]
 refine wpIn_wide.2 ?_
 go_wp2_with fail
 clear hmf
 obtain ⟨wl,hwl⟩:∃ W,W=((((w.alloc (.cells #[.bool m.disc.neg,.slice m1 m.disc.num.length n1,.slice m2 m.disc.den.length n2,.slice m3 m.states.length n3] 28)).alloc (.cells #[.slice none 0 0] 33)).alloc (.cells #[.slice none 0 0] 30)).alloc (.cells #[.int .i64 0] 34)):=⟨_,rfl⟩
 rw [← hwl] at A0 A1 A2 A3 X ⊢
 clear hwl
 obtain ⟨An,hAn⟩:∃ n,n=w.heap.size:=⟨_,rfl⟩
 rw [← hAn] at A0 A1 A2 A3 ⊢
 replace WA:Hid (w.heap.size≤An):=kI (by rw [hAn];exact Nat.le_refl _)
 have WE:=kI hAn
 clear hAn
 by_cases h1:c1=0
 rotate_left
 ·have E:=kI (HS1.o c1 rfl h1)
  have ht:∀ l,T2 6 6 (fun W=>W.cell? ⟨An+1,0,none⟩=some (.slice none 0 0)∧(W.cell? ⟨An,0,none⟩=some (.bool m.disc.neg)∧W.cell? ⟨An,1,none⟩=some (.slice m1 m.disc.num.length n1)∧W.cell? ⟨An,2,none⟩=some (.slice m2 m.disc.den.length n2)∧W.cell? ⟨An,3,none⟩=some (.slice m3 m.states.length n3))) (fun W=>W.cell? ⟨An+1,0,none⟩=some (.slice none 0 0)∧(W.cell? ⟨An,0,none⟩=some (.bool m.disc.neg)∧W.cell? ⟨An,1,none⟩=some (.slice m1 m.disc.num.length n1)∧W.cell? ⟨An,2,none⟩=some (.slice m2 m.disc.den.length n2)∧W.cell? ⟨An,3,none⟩=some (.slice m3 m.states.length n3))) l wl.drew:=fun l=>T2.both ⟨A1.o.drew.cell 0,A0.o.drew.cell 0,A0.o.drew.cell 1,A0.o.drew.cell 2,A0.o.drew.cell 3⟩ ⟨A1.o.drew.cell 0,A0.o.drew.cell 0,A0.o.drew.cell 1,A0.o.drew.cell 2,A0.o.drew.cell 3⟩
  refine wp_region_X (T:=T2 6 6 (fun W=>W.cell? ⟨An+1,0,none⟩=some (.slice none 0 0)∧(W.cell? ⟨An,0,none⟩=some (.bool m.disc.neg)∧W.cell? ⟨An,1,none⟩=some (.slice m1 m.disc.num.length n1)∧W.cell? ⟨An,2,none⟩=some (.slice m2 m.disc.den.length n2)∧W.cell? ⟨An,3,none⟩=some (.slice m3 m.states.length n3))) (fun W=>W.cell? ⟨An+1,0,none⟩=some (.slice none 0 0)∧(W.cell? ⟨An,0,none⟩=some (.bool m.disc.neg)∧W.cell? ⟨An,1,none⟩=some (.slice m1 m.disc.num.length n1)∧W.cell? ⟨An,2,none⟩=some (.slice m2 m.disc.den.length n2)∧W.cell? ⟨An,3,none⟩=some (.slice m3 m.states.length n3)))) (by kernel_rfl) ?_
  refine wpAnyX_take1 (i:=0) (v:=?_) rfl rfl (by kernel_rfl) (by decide) (by decide) (by kernel_rfl) (by kernel_rfl) (by kernel_rfl) (fun c a W h=>leavesM_tmps (stg_put (by decide) (by decide) (by decide)) _ _ _ h) (Or.inl ⟨by rfl,?_⟩) (by kernel_rfl) (ht _) ?_
  rotate_left
  ·(intro w hSw;(try dsimp only at hSw);go_simp;first|done|with_reducible rfl)
  (try simp only [Act.put,List.getElem_toArray,List.getElem_cons_zero,List.getElem_cons_succ,List.setIfInBounds_toArray,List.set_cons_zero,List.set_cons_succ])
  refine wpAnyX_take1 (i:=1) (v:=?_) rfl rfl (by kernel_rfl) (by decide) (by decide) (by kernel_rfl) (by kernel_rfl) (by kernel_rfl) (fun c a W h=>leavesM_tmps (stg_put (by decide) (by decide) (by decide)) _ _ _ h) (Or.inl ⟨by rfl,?_⟩) (by kernel_rfl) (ht _) ?_
  rotate_left
  ·(intro w hSw;(try dsimp only at hSw);go_simp;first|done|with_reducible rfl)
  (try simp only [Act.put,List.getElem_toArray,List.getElem_cons_zero,List.getElem_cons_succ,List.setIfInBounds_toArray,List.set_cons_zero,List.set_cons_succ])
  refine wpAnyX_take1 (i:=2) (v:=?_) rfl rfl (by kernel_rfl) (by decide) (by decide) (by kernel_rfl) (by kernel_rfl) (by kernel_rfl) (fun c a W h=>leavesM_tmps (stg_put (by decide) (by decide) (by decide)) _ _ _ h) (Or.inl ⟨by rfl,?_⟩) (by kernel_rfl) (ht _) ?_
  rotate_left
  ·(intro w hSw;(try dsimp only at hSw);go_simp;first|done|with_reducible rfl)
  (try simp only [Act.put,List.getElem_toArray,List.getElem_cons_zero,List.getElem_cons_succ,List.setIfInBounds_toArray,List.set_cons_zero,List.set_cons_succ])
  clear ht
  refine wpAnyX_ready (rs:=[3]) (by kernel_rfl) (by simp) ?_
  refine AllReadyX.cons rfl (fun K hK=>?_) ?_
  rotate_left
  ·exact AllReadyX.nil
  go_simp
  refine (HST.o wl.drew (HM.o.ext X.o.drew) (HV.o.ext X.o.drew)).mono ?_
  rintro e w1 ⟨he,hx⟩
  obtain rfl:=he.getE h1
  clear he
  have hx0:=Ext.trans ((Ext.refl wl).drew) hx
  replace A0:=kI (A0.o.ext hx0);replace A1:=kI (A1.o.ext hx0);replace A2:=kI (A2.o.ext hx0);replace A3:=kI (A3.o.ext hx0);replace X:=kI (X.o.trans hx0)
  exact stg_leave_err h1 ⟨rfl,rfl,rfl⟩ A1.o A2.o A3.o X.o WA.o E.o
 subst h1
 have H0:=HC1.o.symm
 have HMV0:=kI (HMV.o H0);have HMVE:=kI H0
 clear H0
 have ht:∀ l,T2 6 6 (fun W=>W.cell? ⟨An+1,0,none⟩=some (.slice none 0 0)∧(W.cell? ⟨An,0,none⟩=some (.bool m.disc.neg)∧W.cell? ⟨An,1,none⟩=some (.slice m1 m.disc.num.length n1)∧W.cell? ⟨An,2,none⟩=some (.slice m2 m.disc.den.length n2)∧W.cell? ⟨An,3,none⟩=some (.slice m3 m.states.length n3))) (fun W=>W.cell? ⟨An+1,0,none⟩=some (.slice none 0 0)∧(W.cell? ⟨An,0,none⟩=some (.bool m.disc.neg)∧W.cell? ⟨An,1,none⟩=some (.slice m1 m.disc.num.length n1)∧W.cell? ⟨An,2,none⟩=some (.slice m2 m.disc.den.length n2)∧W.cell? ⟨An,3,none⟩=some (.slice m3 m.states.length n3))) l wl.drew:=fun l=>T2.both ⟨A1.o.drew.cell 0,A0.o.drew.cell 0,A0.o.drew.cell 1,A0.o.drew.cell 2,A0.o.drew.cell 3⟩ ⟨A1.o.drew.cell 0,A0.o.drew.cell 0,A0.o.drew.cell 1,A0.o.drew.cell 2,A0.o.drew.cell 3⟩
 refine wp_region_Xn (T:=T2 6 6 (fun W=>W.cell? ⟨An+1,0,none⟩=some (.slice none 0 0)∧(W.cell? ⟨An,0,none⟩=some (.bool m.disc.neg)∧W.cell? ⟨An,1,none⟩=some (.slice m1 m.disc.num.length n1)∧W.cell? ⟨An,2,none⟩=some (.slice m2 m.disc.den.length n2)∧W.cell? ⟨An,3,none⟩=some (.slice m3 m.states.length n3))) (fun W=>W.cell? ⟨An+1,0,none⟩=some (.slice none 0 0)∧(W.cell? ⟨An,0,none⟩=some (.bool m.disc.neg)∧W.cell? ⟨An,1,none⟩=some (.slice m1 m.disc.num.length n1)∧W.cell? ⟨An,2,none⟩=some (.slice m2 m.disc.den.length n2)∧W.cell? ⟨An,3,none⟩=some (.slice m3 m.states.length n3)))) (by kernel_rfl) ?_
 refine wpAnyX_take1 (i:=0) (v:=?_) rfl rfl (by kernel_rfl) (by decide) (by decide) (by kernel_rfl) (by kernel_rfl) (by kernel_rfl) Qn.noP (Or.inl ⟨by rfl,?_⟩) (by kernel_rfl) (ht _) ?_
 rotate_left
 ·(intro w hSw;(try dsimp only at hSw);go_simp;first|done|with_reducible rfl)
 (try simp only [Act.put,List.getElem_toArray,List.getElem_cons_zero,List.getElem_cons_succ,List.setIfInBounds_toArray,List.set_cons_zero,List.set_cons_succ])
 refine wpAnyX_take1 (i:=1) (v:=?_) rfl rfl (by kernel_rfl) (by decide) (by decide) (by kernel_rfl) (by kernel_rfl) (by kernel_rfl) Qn.noP (Or.inl ⟨by rfl,?_⟩) (by kernel_rfl) (ht _) ?_
 rotate_left
 ·(intro w hSw;(try dsimp only at hSw);go_simp;first|done|with_reducible rfl)
 (try simp only [Act.put,List.getElem_toArray,List.getElem_cons_zero,List.getElem_cons_succ,List.setIfInBounds_toArray,List.set_cons_zero,List.set_cons_succ])
 refine wpAnyX_take1 (i:=2) (v:=?_) rfl rfl (by kernel_rfl) (by decide) (by decide) (by kernel_rfl) (by kernel_rfl) (by kernel_rfl) Qn.noP (Or.inl ⟨by rfl,?_⟩) (by kernel_rfl) (ht _) ?_
 rotate_left
 ·(intro w hSw;(try dsimp only at hSw);go_simp;first|done|with_reducible rfl)
 (try simp only [Act.put,List.getElem_toArray,List.getElem_cons_zero,List.getElem_cons_succ,List.setIfInBounds_toArray,List.set_cons_zero,List.set_cons_succ])
 clear ht
 refine wpAnyX_ready (rs:=[3]) (by kernel_rfl) (by simp) ?_
 refine AllReadyX.cons rfl (fun K hK=>?_) ?_
 rotate_left
 ·exact AllReadyX.nil
 go_simp
 refine (HST.o wl.drew (HM.o.ext X.o.drew) (HV.o.ext X.o.drew)).mono ?_
 rintro e w1 ⟨he,hx⟩
 obtain ⟨ov,rfl,ho⟩:=he.get0
 have hx0:=Ext.trans ((Ext.refl wl).drew) hx
 replace A0:=kI (A0.o.ext hx0);replace A1:=kI (A1.o.ext hx0);replace A2:=kI (A2.o.ext hx0);replace A3:=kI (A3.o.ext hx0)
 have OW:Hid (OwN w.heap.size w1 ov vals):=kI (OwN.mono ho X.o.size)
 replace X:=kI (X.o.trans hx0)
 clear he ho hx hx0
 refine hK.out _ _ (T2.both ⟨A1.o.cell 0,A0.o.cell 0,A0.o.cell 1,A0.o.cell 2,A0.o.cell 3⟩ ⟨A1.o.cell 0,A0.o.cell 0,A0.o.cell 1,A0.o.cell 2,A0.o.cell 3⟩) ?_
 clear hK K
 (try simp only [Act.put,List.getElem_toArray,List.getElem_cons_zero,List.getElem_cons_succ,List.setIfInBounds_toArray,List.set_cons_zero,List.set_cons_succ])
 refine wpAnyX_ready (rs:=[4]) (by kernel_rfl) (by simp) ?_
 refine AllReadyX.cons rfl (fun K hK=>?_) ?_
 rotate_left
 ·exact AllReadyX.nil
 obtain ⟨oa,oc,rfl⟩:=OW.o.shape
 go_simp
 have hx:Ext w1 (w1.alloc (.cells #[.slice oa vals.length oc] 29)):=(Ext.refl _).alloc _
 have bz:Blk (w1.alloc (.cells #[.slice oa vals.length oc] 29)) w1.heap.size #[.slice oa vals.length oc] 29:=Blk.new _ _ _
 obtain ⟨w2,hw2⟩:∃ W,W=w1.alloc (.cells #[.slice oa vals.length oc] 29):=⟨_,rfl⟩
 rw [← hw2] at hx bz ⊢
 obtain ⟨nn,hnn⟩:∃ n,n=w1.heap.size:=⟨_,rfl⟩
 rw [← hnn] at bz ⊢
 have N1:=kI bz
 replace A0:=kI (A0.o.ext hx);replace A1:=kI (A1.o.ext hx);replace A2:=kI (A2.o.ext hx);replace A3:=kI (A3.o.ext hx);replace OW:=kI (OwN.ext' OW.o hx)
 replace X:=kI (X.o.trans hx)
 clear hx bz hw2 hnn
 refine hK.out _ _ (T2.both ⟨A1.o.cell 0,A0.o.cell 0,A0.o.cell 1,A0.o.cell 2,A0.o.cell 3⟩ ⟨A1.o.cell 0,A0.o.cell 0,A0.o.cell 1,A0.o.cell 2,A0.o.cell 3⟩) ?_
 clear hK K
 (try simp only [Act.put,List.getElem_toArray,List.getElem_cons_zero,List.getElem_cons_succ,List.setIfInBounds_toArray,List.set_cons_zero,List.set_cons_succ])
 refine wpAnyX_ready (rs:=[5]) (by kernel_rfl) (by simp) ?_
 refine AllReadyX.cons rfl (fun K hK=>?_) ?_
 rotate_left
 ·exact AllReadyX.nil
 rw [if_pos (wanted_none rfl)]
 refine wp_append_rowF w2 _ _ _ rfl w.heap.size 29 (.slice none 0 0) 1 24 Try.underlying33 Try.infoRowV rfl (by decide) (ElV.keeps (by decide) (by decide)) _ _ (OwVR.nil w.heap.size w2) rfl [.slice oa vals.length oc] rfl (by simp [Value.oneCell']) vals ⟨oa,oc,rfl,OW.o⟩ nn N1.o rfl (by simp) (by simp) X.o.size ?_
 intro g1 cp1 w3 hrow hgr hfr
 have hk:=OwRow.gKeeps (OwVR.nil w.heap.size w2) hgr
 have hx:Ext w2 w3:=⟨hgr.os,hgr.tape,hgr.output,hgr.size,fun i hi=>hgr.block i hi (by simp [Value.ownBlock])⟩
 replace A0:=kI (A0.o.ext hx);replace A1:=kI (A1.o.ext hx);replace A2:=kI (A2.o.ext hx);replace A3:=kI (A3.o.ext hx);replace OW:=kI hrow
 replace X:=kI (X.o.trans hx)
 clear hrow hgr hk hx hfr
 refine hK.out _ _ (T2.both ⟨A1.o.cell 0,A0.o.cell 0,A0.o.cell 1,A0.o.cell 2,A0.o.cell 3⟩ ⟨A1.o.cell 0,A0.o.cell 0,A0.o.cell 1,A0.o.cell 2,A0.o.cell 3⟩) ?_
 clear hK K
 (try simp only [Act.put,List.getElem_toArray,List.getElem_cons_zero,List.getElem_cons_succ,List.setIfInBounds_toArray,List.set_cons_zero,List.set_cons_succ])
 refine wpAnyX_ready (rs:=[6]) (by kernel_rfl) (by simp) ?_
 refine AllReadyX.cons rfl (fun K hK=>?_) ?_
 rotate_left
 ·exact AllReadyX.nil
 have qA1:=A1.o.cell;have fA1:=A1.o.free;have lA1:=A1.o.lt
 go_simp
 refine hK.out _ _ ⟨fun h=>absurd h (by decide),fun h=>absurd h (by decide)⟩ ?_
 clear hK K qA1 fA1 lA1
 (try simp only [Act.put,List.getElem_toArray,List.getElem_cons_zero,List.getElem_cons_succ,List.setIfInBounds_toArray,List.set_cons_zero,List.set_cons_succ])
 refine wpAnyX_done (by kernel_rfl) ?_ _
 refine ⟨rfl,?_⟩
 obtain ⟨ws,hws⟩:∃ W,W=w3.setCell ⟨An+1,0,none⟩ (.slice (some ⟨g1,0,none⟩) (List.length ([]:List (List RR))+1) cp1):=⟨_,rfl⟩
 have hk9:Keeps 0 33 w3 ws:=by rw [hws];exact keeps_setC A1.o 0 _
 have b0:=A0.o.keeps hk9 (by decide);have b2:=A2.o.keeps hk9 (by decide);have b3:=A3.o.keeps hk9 (by decide)
 have b1:Blk ws (An+1) #[.slice (some ⟨g1,0,none⟩) 1 cp1] 33:=by rw [hws];exact A1.o.set 0 _
 have hx9:Ext w ws:=by rw [hws];exact Below.setCell X.o (by have:=WA.o;dsimp only;omega) _
 have ow9:OwVR w.heap.size ws (.slice (some ⟨g1,0,none⟩) 1 cp1) [vals]:=OwVR.keeps OW.o hk9 (by decide) (by decide) (by decide)
 simp only [List.length_nil,Nat.zero_add] at hws ⊢
 rw [← hws]
 replace A0:=kI b0;replace A1:=kI b1;replace A2:=kI b2;replace A3:=kI b3;replace X:=kI hx9;replace OW:=kI ow9
 clear hws hk9 b0 b1 b2 b3 hx9 ow9 N1
 by_cases h2:k < 0∨24 < k
 ·have E:=kI (HS2.o rfl h2)
  by_cases h3:k < 0
  ·have qA1:=A1.o.cell;have fA1:=A1.o.free;have lA1:=A1.o.lt;have qA2:=A2.o.cell;have fA2:=A2.o.free;have lA2:=A2.o.lt;have qA3:=A3.o.cell;have fA3:=A3.o.free;have lA3:=A3.o.lt
   go_wp2_with fail
   clear qA1 fA1 lA1 qA2 fA2 lA2 qA3 fA3 lA3
   refine (must_bad (c:=1) (by decide) _).mono ?_
   rintro e w9 ⟨rfl,rfl⟩
   exact stg_leave_err (by decide) ⟨rfl,rfl,rfl⟩ A1.o A2.o A3.o X.o WA.o E.o
  ·have h4:24 < k:=by omega
   have qA1:=A1.o.cell;have fA1:=A1.o.free;have lA1:=A1.o.lt;have qA2:=A2.o.cell;have fA2:=A2.o.free;have lA2:=A2.o.lt;have qA3:=A3.o.cell;have fA3:=A3.o.free;have lA3:=A3.o.lt
   go_wp2_with fail
   clear qA1 fA1 lA1 qA2 fA2 lA2 qA3 fA3 lA3
   refine (must_bad (c:=1) (by decide) _).mono ?_
   rintro e w9 ⟨rfl,rfl⟩
   exact stg_leave_err (by decide) ⟨rfl,rfl,rfl⟩ A1.o A2.o A3.o X.o WA.o E.o
 have h3:¬ k < 0:=by omega
 have h4:¬ 24 < k:=by omega
 obtain ⟨kn,rfl⟩:∃ n:Nat,k=(n:Int):=⟨k.toNat,by omega⟩
 have kn24:kn≤24:=by omega
 clear h2
 have qA0:=A0.o.cell;have fA0:=A0.o.free;have lA0:=A0.o.lt
 go_wp2_with fail
 clear qA0 fA0 lA0
 clear h3 h4
 refine (stages_any m m1 n1 m2 n2 m3 n3 av vals.length cv (kn:Int) ws).mono ?_
 rintro e w4 ⟨rfl,hw4⟩
 obtain ⟨H,hH⟩:∃ n,n=ws.heap.size:=⟨_,rfl⟩
 rw [← hH]
 have hx4:Ext ws w4:=by rw [hw4];exact (((Ext.refl _).alloc _).alloc _).alloc _
 have hs4:w4.heap.size=H+3:=by rw [hw4];simp [hH]
 have b0:Blk w4 H (mdC m m1 n1 m2 n2 m3 n3) 28:=by rw [hw4,hH];exact ((Blk.new ws _ _).alloc _).alloc _
 have b1:Blk w4 (H+1) #[.slice av vals.length cv] 29:=by
  have:=(Blk.new (ws.alloc (.cells (mdC m m1 n1 m2 n2 m3 n3) 28)) #[.slice av vals.length cv] 29).alloc (.cells #[.int .i64 kn] 3)
  rw [World.size_alloc] at this
  rw [hw4,hH];exact this
 have b2:Blk w4 (H+2) #[.int .i64 kn] 3:=by
  have:=Blk.new ((ws.alloc (.cells (mdC m m1 n1 m2 n2 m3 n3) 28)).alloc (.cells #[.slice av vals.length cv] 29)) #[.int .i64 kn] 3
  rw [World.size_alloc,World.size_alloc] at this
  rw [hw4,hH];exact this
 have hg1:g1 < H:=by rw [hH];exact (OwRow.own_at OW.o (q:=g1) rfl).2.2
 have hAH:An+1+1+1 < H:=by rw [hH];exact A3.o.lt
 have hwH:w.heap.size≤An:=WA.o
 replace A0:=kI (A0.o.ext hx4);replace A1:=kI (A1.o.ext hx4);replace A2:=kI (A2.o.ext hx4);replace A3:=kI (A3.o.ext hx4);replace X:=kI (X.o.trans hx4);replace OW:=kI (OwVR.ext' OW.o hx4)
 have S4:=kI hs4;have D0:=kI b0;have D1:=kI b1;have D2:=kI b2
 clear hw4 hx4 hs4 b0 b1 b2 hH
 go_wp2_with fail
 have hN:w4.heap.size=H+3:=S4.o
 have hseq:∀ W1,Ext w4 W1→UpSeqR Fence.wide 7 Try.prog 50 (lb3 H) (StR w4.heap.size (fun i=>w.heap.size≤i∧i < H)) (KpK (H+1)) (fun x:Value × Value=>#[x.1,x.2]) (StNx w m vals kn) (fun xs=>xs.length=kn) (StPn m vals kn) (w4.heap.size+1) W1:=by
  intro W1 hx
  exact stages1_seq 7 (by omega) m m1 n1 m2 n2 m3 n3 av cv vals kn H w4.heap.size _ _ w W1 HM.o HV.o HLM.o HLV.o kn24 (X.o.trans hx) (fun i h=>h) (by omega) (by omega) hx.size (D0.o.ext hx) (D1.o.ext hx) (D2.o.ext hx)
 have I0:StI w w4 m vals kn An H [] w4:=⟨X.o,Nat.le_refl _,Nat.zero_le _,(fun i h=>by cases h),A3.o,_,_,A1.o,A2.o,OW.o,OwPl.nil _ _,(fun q h=>by injection h with h;dsimp only at h;omega),(fun q h=>by cases h)⟩
 have hw4:w.heap.size≤w4.heap.size:=by omega
 refine (wpIn_wide (n:=8)).1 ?_
 refine wpIn_range_upR (n:=8) rfl (by omega) (gf:=50) (lb:=lb3 H) rfl trivial (enters_of Try.func50 (by kernel_rfl) rfl) (StR w4.heap.size (fun i=>w.heap.size≤i∧i < H)) (KpK (H+1)) (fun A B x h=>⟨x.o.block _ (by omega) (by omega),x.o.block _ h (by omega)⟩) (fun _ _ _=>StR.trans) (fun A B _ z=>⟨KpB.kz (Nat.le_refl _) z.kz,TyK.kq z⟩) hseq (fun _=>rfl)
  (StI w w4 m vals kn An H) (fun _ _ _=>False) (fun _ _ _ h k=>h.kq k hw4) (fun _ _ _ _ h _=>h) (fun _ _ _ h x=>h.kk x (by omega) (by omega)) I0 (StQ w w4 m vals kn An H m1 n1 m2 n2 m3 n3 av cv) (fun _ _ _ _ _ h k=>h.kq k hw4) ?hassign ?hbody ?hdone ?hstop ?hpanic
 case hstop=>exact fun _ _ _ h=>h.elim
 case hassign=>
  rintro ll pre x W K h1 h2 hlt2 hK
  have H1:=kI h1;have H2:=kI h2
  clear h1 h2 hseq I0
  simp only [List.zip_toArray,List.zip_cons_cons,List.zip_nil_left,List.zip_nil_right,List.foldl_toArray,List.foldl_toArray',List.size_toArray,List.length_cons,List.length_nil,List.foldl_cons,List.foldl_nil,List.setIfInBounds_toArray,List.set_cons_succ,List.set_cons_zero]
  gi_wp2_with fail
  exact hK _ _ (Ext.refl W) ⟨H1.o,H2.o,_,_,_,_,_,_,_,_,_,_,_,_,_,_,_,_,_,_,_,_,_,_,_,_,_,_,_,_,_,_,_,_,_,rfl⟩
 case hbody=>
  rintro ll pre ⟨x1,x2⟩ a1 W ⟨⟨hx,hsz,hpk,hok,b3,va,pa,b1,b2,ov,op,da,dp⟩,⟨hlt,hE,o1,o2⟩,t3,t4,t5,t11,t12,t13,t14,t15,t16,t17,t18,t19,t20,t21,t22,t23,t24,t25,t26,t27,t28,t29,t30,t31,t32,t33,t34,t35,t36,t37,t38,t39,t40,rfl⟩ hlt2
  dsimp only at hE o1 o2 ⊢
  obtain ⟨va1,vc1,rfl⟩:=ov.shape
  obtain ⟨pa1,pc1,rfl⟩:=op.shape
  obtain ⟨na,hna⟩:∃ n,n=(List.map (stgV m vals) (List.range (pre.length+1))).length:=⟨_,rfl⟩
  obtain ⟨np,hnp⟩:∃ n,n=(List.map (fun j=>(backupS m (stgV m vals j)).2.1) (List.range pre.length)).length:=⟨_,rfl⟩
  rw [← hna] at ov b1 da
  rw [← hnp] at op b2 dp
  have ena:na=pre.length+1:=by rw [hna];simp
  have enp:np=pre.length:=by rw [hnp];simp
  obtain ⟨y1,d1,rfl⟩:=o1.shape
  obtain ⟨y2,d2,rfl⟩:=o2.shape
  obtain ⟨xl,hxl⟩:∃ l,l=stgV m vals (pre.length+1):=⟨_,rfl⟩
  obtain ⟨xz,hxz⟩:∃ l,l=(backupS m (stgV m vals pre.length)).2.1:=⟨_,rfl⟩
  rw [← hxl] at o1 ⊢
  rw [← hxz] at o2 ⊢
  have XW:=kI hx;have OK:=kI hok;have B1:=kI b1;have B2:=kI b2;have B3:=kI b3;have OV:=kI ov;have OP:=kI op;have DA:=kI da;have DP:=kI dp;have HE:=kI hE;have O1:=kI o1;have O2:=kI o2;have HXL:=kI hxl;have HXZ:=kI hxz;have HLT:=kI hlt;have ENA:=kI ena;have ENP:=kI enp;have HNA:=kI hna;have HNP:=kI hnp
  have SR:=kI (StR.refl (w4.heap.size+2) (fun i=>w.heap.size≤i∧i < H) W)
  have SZ:Hid (w4.heap.size+2≤W.heap.size):=kI (by omega)
  have HLT2:=kI hlt2
  clear hx hsz hpk hok b1 b2 b3 ov op da dp hE o1 o2 hxl hxz hseq I0 hlt ena enp hna hnp hlt2
  refine wpIn_block ?_
  have ht:∀ l,T2 8 9 (fun W=>W.cell? ⟨An+1,0,none⟩=some (.slice va1 na vc1)) (fun W=>W.cell? ⟨An+1+1,0,none⟩=some (.slice pa1 np pc1)) l W.drew:=fun l=>T2.both (c1B B1.o.drew) (c1B B2.o.drew)
  refine wpIn_region_Xn (T:=T2 8 9 (fun W=>W.cell? ⟨An+1,0,none⟩=some (.slice va1 na vc1)) (fun W=>W.cell? ⟨An+1+1,0,none⟩=some (.slice pa1 np pc1))) (by kernel_rfl) ?_
  refine wpAnyXI_take1 (by exact Or.inr ⟨_,rfl⟩) (by kernel_rfl) (i:=0) (v:=?_) rfl rfl (by kernel_rfl) (by decide) (by decide) (by kernel_rfl) (by kernel_rfl) (by kernel_rfl) Qn.noP (Or.inl ⟨by rfl,?_⟩) (by kernel_rfl) (ht _) ?_
  rotate_left
  ·(intro w hSw;(try dsimp only at hSw);go_simp;first|done|with_reducible rfl)
  (try simp only [Act.put,List.getElem_toArray,List.getElem_cons_zero,List.getElem_cons_succ,List.setIfInBounds_toArray,List.set_cons_zero,List.set_cons_succ])
  refine wpAnyXI_take1 (by exact Or.inr ⟨_,rfl⟩) (by kernel_rfl) (i:=1) (v:=?_) rfl rfl (by kernel_rfl) (by decide) (by decide) (by kernel_rfl) (by kernel_rfl) (by kernel_rfl) Qn.noP (Or.inl ⟨by rfl,?_⟩) (by kernel_rfl) (ht _) ?_
  rotate_left
  ·(intro w hSw;(try dsimp only at hSw);go_simp;first|done|with_reducible rfl)
  (try simp only [Act.put,List.getElem_toArray,List.getElem_cons_zero,List.getElem_cons_succ,List.setIfInBounds_toArray,List.set_cons_zero,List.set_cons_succ])
  refine wpAnyXI_take2 (by exact Or.inr ⟨_,rfl⟩) (by kernel_rfl) (i:=4) (v:=?_) rfl rfl (by kernel_rfl) (by decide) (by decide) (by kernel_rfl) (by kernel_rfl) (by kernel_rfl) Qn.noP (Or.inl ⟨by rfl,?_⟩) (by kernel_rfl) (ht _) ?_
  rotate_left
  ·(intro w hSw;(try dsimp only at hSw);go_simp;first|done|with_reducible rfl)
  (try simp only [Act.put,List.getElem_toArray,List.getElem_cons_zero,List.getElem_cons_succ,List.setIfInBounds_toArray,List.set_cons_zero,List.set_cons_succ])
  refine wpAnyXI_take2 (by exact Or.inr ⟨_,rfl⟩) (by kernel_rfl) (i:=5) (v:=?_) rfl rfl (by kernel_rfl) (by decide) (by decide) (by kernel_rfl) (by kernel_rfl) (by kernel_rfl) Qn.noP (Or.inl ⟨by rfl,?_⟩) (by kernel_rfl) (ht _) ?_
  rotate_left
  ·(intro w hSw;(try dsimp only at hSw);go_simp;first|done|with_reducible rfl)
  (try simp only [Act.put,List.getElem_toArray,List.getElem_cons_zero,List.getElem_cons_succ,List.setIfInBounds_toArray,List.set_cons_zero,List.set_cons_succ])
  clear ht
  obtain ⟨va,hva⟩:∃ v,v=Value.slice va1 na vc1:=⟨_,rfl⟩
  obtain ⟨pa,hpa⟩:∃ v,v=Value.slice pa1 np pc1:=⟨_,rfl⟩
  rw [← hva] at OV B1 DA ⊢
  rw [← hpa] at OP B2 DP ⊢
  clear hva hpa
  apply viaT (F:=fun W9 x y=>OwVR w.heap.size W9 x ((List.map (stgV m vals) (List.range (pre.length+1))) ++ [xl])∧OwPl w.heap.size W9 y ((List.map (fun j=>(backupS m (stgV m vals j)).2.1) (List.range pre.length)) ++ [xz])∧Ext w W9∧StR (w4.heap.size+2) (fun i=>w.heap.size≤i∧i < H) W W9∧Blk W9 (An+1) #[va] 33∧Blk W9 (An+1+1) #[pa] 30∧Blk W9 (An+1+1+1) #[.int .i64 0] 34∧Aside x H (w4.heap.size+2)∧Aside y H (w4.heap.size+2)∧w4.heap.size+2≤W9.heap.size)
  ·intro HV9
   refine wpAnyXI_ready (rs:=[2,6]) (by kernel_rfl) (by simp) ?_
   refine AllReadyXI.cons rfl (fun K hK=>?_) (AllReadyXI.cons rfl (fun K hK=>?_) AllReadyXI.nil)
   ·go_simp
    have hx:Ext W ((W.alloc (.cells #[.slice y1 xl.length d1] 29)).drew):=((Ext.refl _).alloc _).drew
    have bz:Blk ((W.alloc (.cells #[.slice y1 xl.length d1] 29)).drew) W.heap.size [.slice y1 xl.length d1].toArray 29:=(Blk.new W #[.slice y1 xl.length d1] 29).drew
    obtain ⟨e1,hwe1⟩:∃ W9,W9=(W.alloc (.cells #[.slice y1 xl.length d1] 29)).drew:=⟨_,rfl⟩
    rw [← hwe1] at hx bz ⊢
    obtain ⟨N1n,hN1n⟩:∃ n,n=W.heap.size:=⟨_,rfl⟩
    rw [← hN1n] at bz ⊢
    replace OV:=kI (OwVR.ext' OV.o hx);replace OP:=kI (OwPl.ext' OP.o hx);replace O1:=kI (OwN.ext' O1.o hx);replace O2:=kI (OwZ.ext' O2.o hx);replace XW:=kI (XW.o.trans hx);replace SR:=kI (SR.o.trans (.ext hx));replace SZ:=kI (Nat.le_trans SZ.o hx.size)
    replace B1:=kI (B1.o.ext hx)
    replace B2:=kI (B2.o.ext hx)
    replace B3:=kI (B3.o.ext hx)
    have N1:=kI bz;clear hx bz hwe1 hN1n
    refine hK.out _ _ (T2.both (c1B B1.o) (c1B B2.o)) ?_
    clear hK K
    (try simp only [Act.put,List.getElem_toArray,List.getElem_cons_zero,List.getElem_cons_succ,List.setIfInBounds_toArray,List.set_cons_zero,List.set_cons_succ])
    refine wpAnyXI_ready (rs:=[3,6]) (by kernel_rfl) (by simp) ?_
    refine AllReadyXI.cons rfl (fun K hK=>?_) (AllReadyXI.cons rfl (fun K hK=>?_) AllReadyXI.nil)
    ·rw [if_pos (wanted_none rfl)]
     refine wpIn_append_rowF e1 _ _ _ rfl w.heap.size 29 (.slice none 0 0) 1 24 Try.underlying33 Try.infoRowV rfl (by decide) (ElV.keeps (by decide) (by decide)) _ _ OV.o rfl [.slice y1 xl.length d1] rfl (by simp [Value.oneCell']) xl (ElV.of O1.o) N1n N1.o rfl (by have:=ENA.o;have:=HNA.o;have:=HLT.o;omega) (by have:=ENA.o;have:=HNA.o;have:=HLT.o;omega) XW.o.size ?_
     intro g2 cap2 e2 hrow hgr hfr
     have hk:=OwRow.gKeeps OV.o hgr
     have hsr:=SR.o.grown OV.o hgr (by decide) (by decide) (fun q hq=>by have h1:=(OwRow.own_at OV.o hq).2.1;rcases DA.o q hq with h|h;exact .inl ⟨h1,h⟩;exact .inr h)
     have hds:Aside (Value.slice (some ⟨g2,0,none⟩) ((List.map (stgV m vals) (List.range (pre.length+1))).length+1) cap2) H (w4.heap.size+2):=fun q hq=>by
      injection hq with hq
      dsimp only at hq
      subst hq
      rcases hfr with h|h
      ·exact DA.o _ h
      ·exact .inr (Nat.le_trans SZ.o h)
     obtain ⟨ua,hu⟩:∃ u,u=Value.slice (some ⟨g2,0,none⟩) ((List.map (stgV m vals) (List.range (pre.length+1))).length+1) cap2:=⟨_,rfl⟩
     rw [← hu] at hrow hds ⊢
     clear hu
     replace OP:=kI (OwPl.keeps OP.o hk (by decide) (by decide));replace OV:=kI hrow;replace O2:=kI (OwZ.keeps O2.o hk (by decide));replace DA:=kI hds
     replace B1:=kI (B1.o.keeps hk (by decide));replace B2:=kI (B2.o.keeps hk (by decide));replace B3:=kI (B3.o.keeps hk (by decide));replace SR:=kI hsr;replace SZ:=kI (Nat.le_trans SZ.o hk.size)
     replace XW:Hid (Ext w e2):=kI (Below.trans XW.o (hk.below XW.o.size))
     clear hrow hgr hfr hk hsr hds O1
     refine hK.out _ _ (T2.both (c1B B1.o) (c1B B2.o)) ?_
     clear hK K
     (try simp only [Act.put,List.getElem_toArray,List.getElem_cons_zero,List.getElem_cons_succ,List.setIfInBounds_toArray,List.set_cons_zero,List.set_cons_succ])
     refine wpAnyXI_ready (rs:=[6]) (by kernel_rfl) (by simp) ?_
     refine AllReadyXI.cons rfl (fun K hK=>?_) ?_
     rotate_left
     ·exact AllReadyXI.nil
     go_simp
     have hx:Ext e2 ((e2.alloc (.cells #[.slice y2 xz.length d2] 58))):=(Ext.refl _).alloc _
     have bz:Blk ((e2.alloc (.cells #[.slice y2 xz.length d2] 58))) e2.heap.size [.slice y2 xz.length d2].toArray 58:=Blk.new e2 #[.slice y2 xz.length d2] 58
     obtain ⟨e3,hwe3⟩:∃ W9,W9=(e2.alloc (.cells #[.slice y2 xz.length d2] 58)):=⟨_,rfl⟩
     rw [← hwe3] at hx bz ⊢
     obtain ⟨N2n,hN2n⟩:∃ n,n=e2.heap.size:=⟨_,rfl⟩
     rw [← hN2n] at bz ⊢
     replace OV:=kI (OwVR.ext' OV.o hx);replace OP:=kI (OwPl.ext' OP.o hx);replace O2:=kI (OwZ.ext' O2.o hx);replace XW:=kI (XW.o.trans hx);replace SR:=kI (SR.o.trans (.ext hx));replace SZ:=kI (Nat.le_trans SZ.o hx.size)
     replace B1:=kI (B1.o.ext hx)
     replace B2:=kI (B2.o.ext hx)
     replace B3:=kI (B3.o.ext hx)
     have N2:=kI bz;clear hx bz hwe3 hN2n
     refine hK.out _ _ (T2.both (c1B B1.o) (c1B B2.o)) ?_
     clear hK K
     (try simp only [Act.put,List.getElem_toArray,List.getElem_cons_zero,List.getElem_cons_succ,List.setIfInBounds_toArray,List.set_cons_zero,List.set_cons_succ])
     refine wpAnyXI_ready (rs:=[7]) (by kernel_rfl) (by simp) ?_
     refine AllReadyXI.cons rfl (fun K hK=>?_) ?_
     rotate_left
     ·exact AllReadyXI.nil
     rw [if_pos (wanted_none rfl)]
     refine wpIn_append_rowF e3 _ _ _ rfl w.heap.size 58 (.slice none 0 0) 1 24 Try.underlying30 Try.infoRowP rfl (by decide) (ElPl.keeps (by decide)) _ _ OP.o rfl [.slice y2 xz.length d2] rfl (by simp [Value.oneCell']) xz (ElPl.of O2.o) N2n N2.o rfl (by have:=ENP.o;have:=HNP.o;have:=HLT.o;omega) (by have:=ENP.o;have:=HNP.o;have:=HLT.o;omega) XW.o.size ?_
     intro g4 cap4 e4 hrow hgr hfr
     have hk:=OwRow.gKeeps OP.o hgr
     have hsr:=SR.o.grown OP.o hgr (by decide) (by decide) (fun q hq=>by have h1:=(OwRow.own_at OP.o hq).2.1;rcases DP.o q hq with h|h;exact .inl ⟨h1,h⟩;exact .inr h)
     have hds:Aside (Value.slice (some ⟨g4,0,none⟩) ((List.map (fun j=>(backupS m (stgV m vals j)).2.1) (List.range pre.length)).length+1) cap4) H (w4.heap.size+2):=fun q hq=>by
      injection hq with hq
      dsimp only at hq
      subst hq
      rcases hfr with h|h
      ·exact DP.o _ h
      ·exact .inr (Nat.le_trans SZ.o h)
     obtain ⟨ub,hu⟩:∃ u,u=Value.slice (some ⟨g4,0,none⟩) ((List.map (fun j=>(backupS m (stgV m vals j)).2.1) (List.range pre.length)).length+1) cap4:=⟨_,rfl⟩
     rw [← hu] at hrow hds ⊢
     clear hu
     replace OV:=kI (OwVR.keeps OV.o hk (by decide) (by decide) (by decide));replace OP:=kI hrow;replace DP:=kI hds
     replace B1:=kI (B1.o.keeps hk (by decide));replace B2:=kI (B2.o.keeps hk (by decide));replace B3:=kI (B3.o.keeps hk (by decide));replace SR:=kI hsr;replace SZ:=kI (Nat.le_trans SZ.o hk.size)
     replace XW:Hid (Ext w e4):=kI (Below.trans XW.o (hk.below XW.o.size))
     clear hrow hgr hfr hk hsr hds O2
     refine hK.out _ _ (T2.both (c1B B1.o) (c1B B2.o)) ?_
     clear hK K
     (try simp only [Act.put,List.getElem_toArray,List.getElem_cons_zero,List.getElem_cons_succ,List.setIfInBounds_toArray,List.set_cons_zero,List.set_cons_succ])
     exact HV9 e4 ua ub N1n N2n ⟨OV.o,OP.o,XW.o,SR.o,B1.o,B2.o,B3.o,DA.o,DP.o,SZ.o⟩
    ·go_simp
     have hx:Ext e1 ((e1.alloc (.cells #[.slice y2 xz.length d2] 58))):=(Ext.refl _).alloc _
     have bz:Blk ((e1.alloc (.cells #[.slice y2 xz.length d2] 58))) e1.heap.size [.slice y2 xz.length d2].toArray 58:=Blk.new e1 #[.slice y2 xz.length d2] 58
     obtain ⟨e2,hwe2⟩:∃ W9,W9=(e1.alloc (.cells #[.slice y2 xz.length d2] 58)):=⟨_,rfl⟩
     rw [← hwe2] at hx bz ⊢
     obtain ⟨N2n,hN2n⟩:∃ n,n=e1.heap.size:=⟨_,rfl⟩
     rw [← hN2n] at bz ⊢
     replace OV:=kI (OwVR.ext' OV.o hx);replace OP:=kI (OwPl.ext' OP.o hx);replace O1:=kI (OwN.ext' O1.o hx);replace O2:=kI (OwZ.ext' O2.o hx);replace XW:=kI (XW.o.trans hx);replace SR:=kI (SR.o.trans (.ext hx));replace SZ:=kI (Nat.le_trans SZ.o hx.size)
     replace B1:=kI (B1.o.ext hx)
     replace B2:=kI (B2.o.ext hx)
     replace B3:=kI (B3.o.ext hx)
     replace N1:=kI (N1.o.ext hx)
     have N2:=kI bz;clear hx bz hwe2 hN2n
     refine hK.out _ _ (T2.both (c1B B1.o) (c1B B2.o)) ?_
     clear hK K
     (try simp only [Act.put,List.getElem_toArray,List.getElem_cons_zero,List.getElem_cons_succ,List.setIfInBounds_toArray,List.set_cons_zero,List.set_cons_succ])
     refine wpAnyXI_ready (rs:=[3]) (by kernel_rfl) (by simp) ?_
     refine AllReadyXI.cons rfl (fun K hK=>?_) ?_
     rotate_left
     ·exact AllReadyXI.nil
     rw [if_pos (wanted_none rfl)]
     refine wpIn_append_rowF e2 _ _ _ rfl w.heap.size 29 (.slice none 0 0) 1 24 Try.underlying33 Try.infoRowV rfl (by decide) (ElV.keeps (by decide) (by decide)) _ _ OV.o rfl [.slice y1 xl.length d1] rfl (by simp [Value.oneCell']) xl (ElV.of O1.o) N1n N1.o rfl (by have:=ENA.o;have:=HNA.o;have:=HLT.o;omega) (by have:=ENA.o;have:=HNA.o;have:=HLT.o;omega) XW.o.size ?_
     intro g3 cap3 e3 hrow hgr hfr
     have hk:=OwRow.gKeeps OV.o hgr
     have hsr:=SR.o.grown OV.o hgr (by decide) (by decide) (fun q hq=>by have h1:=(OwRow.own_at OV.o hq).2.1;rcases DA.o q hq with h|h;exact .inl ⟨h1,h⟩;exact .inr h)
     have hds:Aside (Value.slice (some ⟨g3,0,none⟩) ((List.map (stgV m vals) (List.range (pre.length+1))).length+1) cap3) H (w4.heap.size+2):=fun q hq=>by
      injection hq with hq
      dsimp only at hq
      subst hq
      rcases hfr with h|h
      ·exact DA.o _ h
      ·exact .inr (Nat.le_trans SZ.o h)
     obtain ⟨ua,hu⟩:∃ u,u=Value.slice (some ⟨g3,0,none⟩) ((List.map (stgV m vals) (List.range (pre.length+1))).length+1) cap3:=⟨_,rfl⟩
     rw [← hu] at hrow hds ⊢
     clear hu
     replace OP:=kI (OwPl.keeps OP.o hk (by decide) (by decide));replace OV:=kI hrow;replace O2:=kI (OwZ.keeps O2.o hk (by decide));replace DA:=kI hds
     replace N2:=kI (N2.o.keeps hk (by decide))
     replace B1:=kI (B1.o.keeps hk (by decide));replace B2:=kI (B2.o.keeps hk (by decide));replace B3:=kI (B3.o.keeps hk (by decide));replace SR:=kI hsr;replace SZ:=kI (Nat.le_trans SZ.o hk.size)
     replace XW:Hid (Ext w e3):=kI (Below.trans XW.o (hk.below XW.o.size))
     clear hrow hgr hfr hk hsr hds O1
     refine hK.out _ _ (T2.both (c1B B1.o) (c1B B2.o)) ?_
     clear hK K
     (try simp only [Act.put,List.getElem_toArray,List.getElem_cons_zero,List.getElem_cons_succ,List.setIfInBounds_toArray,List.set_cons_zero,List.set_cons_succ])
     refine wpAnyXI_ready (rs:=[7]) (by kernel_rfl) (by simp) ?_
     refine AllReadyXI.cons rfl (fun K hK=>?_) ?_
     rotate_left
     ·exact AllReadyXI.nil
     rw [if_pos (wanted_none rfl)]
     refine wpIn_append_rowF e3 _ _ _ rfl w.heap.size 58 (.slice none 0 0) 1 24 Try.underlying30 Try.infoRowP rfl (by decide) (ElPl.keeps (by decide)) _ _ OP.o rfl [.slice y2 xz.length d2] rfl (by simp [Value.oneCell']) xz (ElPl.of O2.o) N2n N2.o rfl (by have:=ENP.o;have:=HNP.o;have:=HLT.o;omega) (by have:=ENP.o;have:=HNP.o;have:=HLT.o;omega) XW.o.size ?_
     intro g4 cap4 e4 hrow hgr hfr
     have hk:=OwRow.gKeeps OP.o hgr
     have hsr:=SR.o.grown OP.o hgr (by decide) (by decide) (fun q hq=>by have h1:=(OwRow.own_at OP.o hq).2.1;rcases DP.o q hq with h|h;exact .inl ⟨h1,h⟩;exact .inr h)
     have hds:Aside (Value.slice (some ⟨g4,0,none⟩) ((List.map (fun j=>(backupS m (stgV m vals j)).2.1) (List.range pre.length)).length+1) cap4) H (w4.heap.size+2):=fun q hq=>by
      injection hq with hq
      dsimp only at hq
      subst hq
      rcases hfr with h|h
      ·exact DP.o _ h
      ·exact .inr (Nat.le_trans SZ.o h)
     obtain ⟨ub,hu⟩:∃ u,u=Value.slice (some ⟨g4,0,none⟩) ((List.map (fun j=>(backupS m (stgV m vals j)).2.1) (List.range pre.length)).length+1) cap4:=⟨_,rfl⟩
     rw [← hu] at hrow hds ⊢
     clear hu
     replace OV:=kI (OwVR.keeps OV.o hk (by decide) (by decide) (by decide));replace OP:=kI hrow;replace DP:=kI hds
     replace B1:=kI (B1.o.keeps hk (by decide));replace B2:=kI (B2.o.keeps hk (by decide));replace B3:=kI (B3.o.keeps hk (by decide));replace SR:=kI hsr;replace SZ:=kI (Nat.le_trans SZ.o hk.size)
     replace XW:Hid (Ext w e4):=kI (Below.trans XW.o (hk.below XW.o.size))
     clear hrow hgr hfr hk hsr hds O2
     refine hK.out _ _ (T2.both (c1B B1.o) (c1B B2.o)) ?_
     clear hK K
     (try simp only [Act.put,List.getElem_toArray,List.getElem_cons_zero,List.getElem_cons_succ,List.setIfInBounds_toArray,List.set_cons_zero,List.set_cons_succ])
     exact HV9 e4 ua ub N1n N2n ⟨OV.o,OP.o,XW.o,SR.o,B1.o,B2.o,B3.o,DA.o,DP.o,SZ.o⟩
   ·go_simp
    have hx:Ext W ((W.alloc (.cells #[.slice y2 xz.length d2] 58)).drew):=((Ext.refl _).alloc _).drew
    have bz:Blk ((W.alloc (.cells #[.slice y2 xz.length d2] 58)).drew) W.heap.size [.slice y2 xz.length d2].toArray 58:=(Blk.new W #[.slice y2 xz.length d2] 58).drew
    obtain ⟨e1,hwe1⟩:∃ W9,W9=(W.alloc (.cells #[.slice y2 xz.length d2] 58)).drew:=⟨_,rfl⟩
    rw [← hwe1] at hx bz ⊢
    obtain ⟨N2n,hN2n⟩:∃ n,n=W.heap.size:=⟨_,rfl⟩
    rw [← hN2n] at bz ⊢
    replace OV:=kI (OwVR.ext' OV.o hx);replace OP:=kI (OwPl.ext' OP.o hx);replace O1:=kI (OwN.ext' O1.o hx);replace O2:=kI (OwZ.ext' O2.o hx);replace XW:=kI (XW.o.trans hx);replace SR:=kI (SR.o.trans (.ext hx));replace SZ:=kI (Nat.le_trans SZ.o hx.size)
    replace B1:=kI (B1.o.ext hx)
    replace B2:=kI (B2.o.ext hx)
    replace B3:=kI (B3.o.ext hx)
    have N2:=kI bz;clear hx bz hwe1 hN2n
    refine hK.out _ _ (T2.both (c1B B1.o) (c1B B2.o)) ?_
    clear hK K
    (try simp only [Act.put,List.getElem_toArray,List.getElem_cons_zero,List.getElem_cons_succ,List.setIfInBounds_toArray,List.set_cons_zero,List.set_cons_succ])
    refine wpAnyXI_ready (rs:=[2]) (by kernel_rfl) (by simp) ?_
    refine AllReadyXI.cons rfl (fun K hK=>?_) ?_
    rotate_left
    ·exact AllReadyXI.nil
    go_simp
    have hx:Ext e1 ((e1.alloc (.cells #[.slice y1 xl.length d1] 29))):=(Ext.refl _).alloc _
    have bz:Blk ((e1.alloc (.cells #[.slice y1 xl.length d1] 29))) e1.heap.size [.slice y1 xl.length d1].toArray 29:=Blk.new e1 #[.slice y1 xl.length d1] 29
    obtain ⟨e2,hwe2⟩:∃ W9,W9=(e1.alloc (.cells #[.slice y1 xl.length d1] 29)):=⟨_,rfl⟩
    rw [← hwe2] at hx bz ⊢
    obtain ⟨N1n,hN1n⟩:∃ n,n=e1.heap.size:=⟨_,rfl⟩
    rw [← hN1n] at bz ⊢
    replace OV:=kI (OwVR.ext' OV.o hx);replace OP:=kI (OwPl.ext' OP.o hx);replace O1:=kI (OwN.ext' O1.o hx);replace O2:=kI (OwZ.ext' O2.o hx);replace XW:=kI (XW.o.trans hx);replace SR:=kI (SR.o.trans (.ext hx));replace SZ:=kI (Nat.le_trans SZ.o hx.size)
    replace B1:=kI (B1.o.ext hx)
    replace B2:=kI (B2.o.ext hx)
    replace B3:=kI (B3.o.ext hx)
    replace N2:=kI (N2.o.ext hx)
    have N1:=kI bz;clear hx bz hwe2 hN1n
    refine hK.out _ _ (T2.both (c1B B1.o) (c1B B2.o)) ?_
    clear hK K
    (try simp only [Act.put,List.getElem_toArray,List.getElem_cons_zero,List.getElem_cons_succ,List.setIfInBounds_toArray,List.set_cons_zero,List.set_cons_succ])
    refine wpAnyXI_ready (rs:=[3]) (by kernel_rfl) (by simp) ?_
    refine AllReadyXI.cons rfl (fun K hK=>?_) ?_
    rotate_left
    ·exact AllReadyXI.nil
    rw [if_pos (wanted_none rfl)]
    refine wpIn_append_rowF e2 _ _ _ rfl w.heap.size 29 (.slice none 0 0) 1 24 Try.underlying33 Try.infoRowV rfl (by decide) (ElV.keeps (by decide) (by decide)) _ _ OV.o rfl [.slice y1 xl.length d1] rfl (by simp [Value.oneCell']) xl (ElV.of O1.o) N1n N1.o rfl (by have:=ENA.o;have:=HNA.o;have:=HLT.o;omega) (by have:=ENA.o;have:=HNA.o;have:=HLT.o;omega) XW.o.size ?_
    intro g3 cap3 e3 hrow hgr hfr
    have hk:=OwRow.gKeeps OV.o hgr
    have hsr:=SR.o.grown OV.o hgr (by decide) (by decide) (fun q hq=>by have h1:=(OwRow.own_at OV.o hq).2.1;rcases DA.o q hq with h|h;exact .inl ⟨h1,h⟩;exact .inr h)
    have hds:Aside (Value.slice (some ⟨g3,0,none⟩) ((List.map (stgV m vals) (List.range (pre.length+1))).length+1) cap3) H (w4.heap.size+2):=fun q hq=>by
     injection hq with hq
     dsimp only at hq
     subst hq
     rcases hfr with h|h
     ·exact DA.o _ h
     ·exact .inr (Nat.le_trans SZ.o h)
    obtain ⟨ua,hu⟩:∃ u,u=Value.slice (some ⟨g3,0,none⟩) ((List.map (stgV m vals) (List.range (pre.length+1))).length+1) cap3:=⟨_,rfl⟩
    rw [← hu] at hrow hds ⊢
    clear hu
    replace OP:=kI (OwPl.keeps OP.o hk (by decide) (by decide));replace OV:=kI hrow;replace O2:=kI (OwZ.keeps O2.o hk (by decide));replace DA:=kI hds
    replace N2:=kI (N2.o.keeps hk (by decide))
    replace B1:=kI (B1.o.keeps hk (by decide));replace B2:=kI (B2.o.keeps hk (by decide));replace B3:=kI (B3.o.keeps hk (by decide));replace SR:=kI hsr;replace SZ:=kI (Nat.le_trans SZ.o hk.size)
    replace XW:Hid (Ext w e3):=kI (Below.trans XW.o (hk.below XW.o.size))
    clear hrow hgr hfr hk hsr hds O1
    refine hK.out _ _ (T2.both (c1B B1.o) (c1B B2.o)) ?_
    clear hK K
    (try simp only [Act.put,List.getElem_toArray,List.getElem_cons_zero,List.getElem_cons_succ,List.setIfInBounds_toArray,List.set_cons_zero,List.set_cons_succ])
    refine wpAnyXI_ready (rs:=[7]) (by kernel_rfl) (by simp) ?_
    refine AllReadyXI.cons rfl (fun K hK=>?_) ?_
    rotate_left
    ·exact AllReadyXI.nil
    rw [if_pos (wanted_none rfl)]
    refine wpIn_append_rowF e3 _ _ _ rfl w.heap.size 58 (.slice none 0 0) 1 24 Try.underlying30 Try.infoRowP rfl (by decide) (ElPl.keeps (by decide)) _ _ OP.o rfl [.slice y2 xz.length d2] rfl (by simp [Value.oneCell']) xz (ElPl.of O2.o) N2n N2.o rfl (by have:=ENP.o;have:=HNP.o;have:=HLT.o;omega) (by have:=ENP.o;have:=HNP.o;have:=HLT.o;omega) XW.o.size ?_
    intro g4 cap4 e4 hrow hgr hfr
    have hk:=OwRow.gKeeps OP.o hgr
    have hsr:=SR.o.grown OP.o hgr (by decide) (by decide) (fun q hq=>by have h1:=(OwRow.own_at OP.o hq).2.1;rcases DP.o q hq with h|h;exact .inl ⟨h1,h⟩;exact .inr h)
    have hds:Aside (Value.slice (some ⟨g4,0,none⟩) ((List.map (fun j=>(backupS m (stgV m vals j)).2.1) (List.range pre.length)).length+1) cap4) H (w4.heap.size+2):=fun q hq=>by
     injection hq with hq
     dsimp only at hq
     subst hq
     rcases hfr with h|h
     ·exact DP.o _ h
     ·exact .inr (Nat.le_trans SZ.o h)
    obtain ⟨ub,hu⟩:∃ u,u=Value.slice (some ⟨g4,0,none⟩) ((List.map (fun j=>(backupS m (stgV m vals j)).2.1) (List.range pre.length)).length+1) cap4:=⟨_,rfl⟩
    rw [← hu] at hrow hds ⊢
    clear hu
    replace OV:=kI (OwVR.keeps OV.o hk (by decide) (by decide) (by decide));replace OP:=kI hrow;replace DP:=kI hds
    replace B1:=kI (B1.o.keeps hk (by decide));replace B2:=kI (B2.o.keeps hk (by decide));replace B3:=kI (B3.o.keeps hk (by decide));replace SR:=kI hsr;replace SZ:=kI (Nat.le_trans SZ.o hk.size)
    replace XW:Hid (Ext w e4):=kI (Below.trans XW.o (hk.below XW.o.size))
    clear hrow hgr hfr hk hsr hds O2
    refine hK.out _ _ (T2.both (c1B B1.o) (c1B B2.o)) ?_
    clear hK K
    (try simp only [Act.put,List.getElem_toArray,List.getElem_cons_zero,List.getElem_cons_succ,List.setIfInBounds_toArray,List.set_cons_zero,List.set_cons_succ])
    exact HV9 e4 ua ub N1n N2n ⟨OV.o,OP.o,XW.o,SR.o,B1.o,B2.o,B3.o,DA.o,DP.o,SZ.o⟩
  ·intro W9 xa yb nn1 nn2 ⟨hov,hop,hx,hsr,hb1,hb2,hb3,hda,hdp,hsz⟩
   replace OV:=kI hov;replace OP:=kI hop;replace XW:=kI hx;replace SR:=kI hsr;replace B1:=kI hb1;replace B2:=kI hb2;replace B3:=kI hb3;replace DA:=kI hda;replace DP:=kI hdp;replace SZ:=kI hsz
   clear hov hop hx hsr hb1 hb2 hb3 hda hdp hsz
   obtain ⟨xa1,xc1,exa⟩:=OV.o.shape
   obtain ⟨nx,hnx⟩:∃ n,n=((List.map (stgV m vals) (List.range (pre.length+1))) ++ [xl]).length:=⟨_,rfl⟩
   rw [← hnx] at exa
   obtain ⟨ya1,yc1,eya⟩:=OP.o.shape
   obtain ⟨ny,hny⟩:∃ n,n=((List.map (fun j=>(backupS m (stgV m vals j)).2.1) (List.range pre.length)) ++ [xz]).length:=⟨_,rfl⟩
   rw [← hny] at eya
   subst exa;subst eya
   clear hnx hny
   have qB1:=B1.o.cell;have fB1:=B1.o.free;have lB1:=B1.o.lt;have qB2:=B2.o.cell;have fB2:=B2.o.free;have lB2:=B2.o.lt
   refine wpAnyXI_ready (rs:=[8]) (by kernel_rfl) (by simp) ?_
   refine AllReadyXI.cons rfl (fun K hK=>?_) ?_
   rotate_left
   ·exact AllReadyXI.nil
   go_simp
   refine hK.out _ _ ⟨fun h=>absurd h (by decide),fun _=>c1B (B2.o.setOther (a:=⟨An+1,0,none⟩) (by dsimp only;omega) _)⟩ ?_
   clear hK K
   (try simp only [Act.put,List.getElem_toArray,List.getElem_cons_zero,List.getElem_cons_succ,List.setIfInBounds_toArray,List.set_cons_zero,List.set_cons_succ])
   refine wpAnyXI_ready (rs:=[9]) (by kernel_rfl) (by simp) ?_
   refine AllReadyXI.cons rfl (fun K hK=>?_) ?_
   rotate_left
   ·exact AllReadyXI.nil
   go_simp
   refine hK.out _ _ ⟨fun h=>absurd h (by decide),fun h=>absurd h (by decide)⟩ ?_
   clear hK K
   (try simp only [Act.put,List.getElem_toArray,List.getElem_cons_zero,List.getElem_cons_succ,List.setIfInBounds_toArray,List.set_cons_zero,List.set_cons_succ])
   clear qB1 fB1 lB1 qB2 fB2 lB2
   refine wpAnyXI_done (by kernel_rfl) ?_ _
   refine ⟨rfl,?_⟩
   obtain ⟨wf,hwf⟩:∃ W9',W9'=(W9.setCell ⟨An+1,0,none⟩ (.slice xa1 nx xc1)).setCell ⟨An+1+1,0,none⟩ (.slice ya1 ny yc1):=⟨_,rfl⟩
   have hk1:=keeps_setC B1.o 0 (.slice xa1 nx xc1)
   have hk2:=keeps_setC (B2.o.setOther (a:=⟨An+1,0,none⟩) (by dsimp only;omega) (.slice xa1 nx xc1)) 0 (.slice ya1 ny yc1)
   have b1:Blk wf (An+1) #[(.slice xa1 nx xc1)] 33:=by rw [hwf];exact (B1.o.set 0 (.slice xa1 nx xc1)).setOther (a:=⟨An+1+1,0,none⟩) (by dsimp only;omega) _
   have b2:Blk wf (An+1+1) #[(.slice ya1 ny yc1)] 30:=by rw [hwf];exact (B2.o.setOther (a:=⟨An+1,0,none⟩) (by dsimp only;omega) _).set 0 (.slice ya1 ny yc1)
   have b3:Blk wf (An+1+1+1) #[.int .i64 0] 34:=by rw [hwf];exact (B3.o.setOther (a:=⟨An+1,0,none⟩) (by dsimp only;omega) _).setOther (a:=⟨An+1+1,0,none⟩) (by dsimp only;omega) _
   have ov:OwVR w.heap.size wf (.slice xa1 nx xc1) ((List.map (stgV m vals) (List.range (pre.length+1))) ++ [xl]):=by rw [hwf];exact (OwVR.keeps OV.o hk1 (by decide) (by decide) (by decide)).keeps hk2 (by decide) (by decide) (by decide)
   have oz:OwPl w.heap.size wf (.slice ya1 ny yc1) ((List.map (fun j=>(backupS m (stgV m vals j)).2.1) (List.range pre.length)) ++ [xz]):=by rw [hwf];exact (OwPl.keeps OP.o hk1 (by decide) (by decide)).keeps hk2 (by decide) (by decide)
   have xw:Ext w wf:=by
    rw [hwf]
    exact Below.setCell (Below.setCell XW.o (by dsimp only;omega) _) (by dsimp only;omega) _
   have sr:StR (w4.heap.size+2) (fun i=>w.heap.size≤i∧i < H) W wf:=by
    refine SR.o.trans ⟨?_,?_⟩
    ·rw [hwf];exact ((KpB.refl _ _ _).set (.inl ⟨by omega,by omega⟩) _ _).set (.inl ⟨by omega,by omega⟩) _ _
    ·rw [hwf];exact (TyK.keeps hk1 (by decide) (by decide)).trans (TyK.keeps hk2 (by decide) (by decide))
   have sz:w4.heap.size+2≤wf.heap.size:=by rw [hwf];simp only [World.size_setCell];exact SZ.o
   rw [← hwf]
   have F1:=kI b1;have F2:=kI b2;have F3:=kI b3;have OV2:=kI ov;have OP2:=kI oz;have XW2:=kI xw;have SR2:=kI sr;have SZ2:=kI sz
   clear hwf hk1 hk2 b1 b2 b3 ov oz xw sr sz
   (try simp only [Exit.then,Exit.inBlock])
   have hW2:w4.heap.size+1 < W.heap.size:=HLT2.o
   have eqv:(List.map (stgV m vals) (List.range (pre.length+1))) ++ [xl]=List.map (stgV m vals) (List.range ((pre ++ [((.slice y1 xl.length d1:Value),(.slice y2 xz.length d2:Value))]).length+1)):=by
    rw [List.length_append,List.length_singleton,HXL.o];exact map_range_snoc _ _
   have eqp:(List.map (fun j=>(backupS m (stgV m vals j)).2.1) (List.range pre.length)) ++ [xz]=List.map (fun j=>(backupS m (stgV m vals j)).2.1) (List.range (pre ++ [((.slice y1 xl.length d1:Value),(.slice y2 xz.length d2:Value))]).length):=by
    rw [List.length_append,List.length_singleton,HXZ.o];exact map_range_snoc (fun j=>(backupS m (stgV m vals j)).2.1) _
   refine ⟨⟨SR2.o.kp.zero.size,SR2.o.kp.block _ (by omega) (by omega) (by omega),SR2.o.kp.block _ (by omega) (by omega) (by omega)⟩,⟨SR2.o.kp.le (by omega),SR2.o.ty⟩,XW2.o,by have:=SZ2.o;omega,by rw [List.length_append,List.length_singleton];exact HLT.o,fun i hi=>?_,F3.o,_,_,F1.o,F2.o,by rw [← eqv];exact OV2.o,by rw [← eqp];exact OP2.o,DA.o,DP.o⟩
   rw [List.length_append,List.length_singleton] at hi
   by_cases e:i=pre.length
   ·rw [e];exact HE.o
   ·exact OK.o i (by omega)
 case hpanic=>
  rintro ch xs W ⟨hlt,hne,rfl⟩ ⟨hx,hsz,hpk,hok,b3,va,pa,b1,b2,ov,op,da,dp⟩ hD
  have E:=HS3.o (by omega) (by omega) xs.length _ HMVE.o (by simpa using hlt) hok rfl hne
  have hp:=putObj_blk (o2:=.deferred none) hD (fun _ _ h=>by cases h)
  simp (config:={ zetaDelta:=true }) only [Exit.then,Exit.inBlock]
  exact leavesM_mark (by simp) hD (stg_leave_err hne ⟨rfl,rfl,rfl⟩ (hp _ _ _ b1) (hp _ _ _ b2) (hp _ _ _ b3) (putObj_ext hx hw4) WA.o E)
 case hdone=>
  rintro xs W hF ⟨hx,hsz,hpk,hok,b3,va,pa,b1,b2,ov,op,da,dp⟩ hD
  have hF':xs.length=kn:=hF
  rw [hF'] at hok ov op
  have E:=kI (HS4.o (by omega) (by omega) HMVE.o (fun i hi=>hok i (by simpa using hi)))
  obtain ⟨xa1,xc1,exa⟩:=ov.shape
  obtain ⟨nx,hnx⟩:∃ n,n=(List.map (stgV m vals) (List.range (kn+1))).length:=⟨_,rfl⟩
  rw [← hnx] at exa
  obtain ⟨ya1,yc1,eya⟩:=op.shape
  obtain ⟨ny,hny⟩:∃ n,n=(List.map (fun j=>(backupS m (stgV m vals j)).2.1) (List.range kn)).length:=⟨_,rfl⟩
  rw [← hny] at eya
  subst exa;subst eya
  have XW:=kI hx;have B1:=kI b1;have B2:=kI b2;have B3:=kI b3;have OV:=kI ov;have OP:=kI op;have HD:=kI hD
  clear hx hsz hpk hok b1 b2 b3 ov op da dp hD hnx hny hseq I0 hF hF'
  have qB1:=B1.o.cell;have fB1:=B1.o.free;have lB1:=B1.o.lt;have qB2:=B2.o.cell;have fB2:=B2.o.free;have lB2:=B2.o.lt;have qB3:=B3.o.cell;have fB3:=B3.o.free;have lB3:=B3.o.lt
  go_wp2_with fail
  clear qB1 fB1 lB1 qB2 fB2 lB2 qB3 fB3 lB3
  have ht:∀ l,T2 2 3 (fun W=>W.cell? ⟨An+1,0,none⟩=some (.slice xa1 nx xc1)) (fun W=>W.cell? ⟨An+1+1,0,none⟩=some (.slice ya1 ny yc1)) l W.drew:=fun l=>T2.both (c1B B1.o.drew) (c1B B2.o.drew)
  refine wp_region_Xn (T:=T2 2 3 (fun W=>W.cell? ⟨An+1,0,none⟩=some (.slice xa1 nx xc1)) (fun W=>W.cell? ⟨An+1+1,0,none⟩=some (.slice ya1 ny yc1))) (by kernel_rfl) ?_
  refine wpAnyX_take1 (i:=0) (v:=?_) rfl rfl (by kernel_rfl) (by decide) (by decide) (by kernel_rfl) (by kernel_rfl) (by kernel_rfl) Qn.noP (Or.inl ⟨by rfl,?_⟩) (by kernel_rfl) (ht _) ?_
  rotate_left
  ·(intro w hSw;(try dsimp only at hSw);go_simp;first|done|with_reducible rfl)
  (try simp only [Act.put,List.getElem_toArray,List.getElem_cons_zero,List.getElem_cons_succ,List.setIfInBounds_toArray,List.set_cons_zero,List.set_cons_succ])
  refine wpAnyX_take2 (i:=1) (v:=?_) rfl rfl (by kernel_rfl) (by decide) (by decide) (by kernel_rfl) (by kernel_rfl) (by kernel_rfl) Qn.noP (Or.inl ⟨by rfl,?_⟩) (by kernel_rfl) (ht _) ?_
  rotate_left
  ·(intro w hSw;(try dsimp only at hSw);go_simp;first|done|with_reducible rfl)
  (try simp only [Act.put,List.getElem_toArray,List.getElem_cons_zero,List.getElem_cons_succ,List.setIfInBounds_toArray,List.set_cons_zero,List.set_cons_succ])
  clear ht
  have qB1:=B1.o.cell;have fB1:=B1.o.free;have lB1:=B1.o.lt;have qB2:=B2.o.cell;have fB2:=B2.o.free;have lB2:=B2.o.lt;have qB3:=B3.o.cell;have fB3:=B3.o.free;have lB3:=B3.o.lt
  refine wpAnyX_ready (rs:=[2]) (by kernel_rfl) (by simp) ?_
  refine AllReadyX.cons rfl (fun K hK=>?_) ?_
  rotate_left
  ·exact AllReadyX.nil
  go_simp
  refine hK.out _ _ ⟨fun h=>absurd h (by decide),fun _=>(by first|exact c1B (B2.o.setOther (a:=⟨An+1,0,none⟩) (by dsimp only;omega) _).drew|exact c1B (B2.o.drew.setOther (a:=⟨An+1,0,none⟩) (by dsimp only;omega) _))⟩ ?_
  clear hK K
  (try simp only [Act.put,List.getElem_toArray,List.getElem_cons_zero,List.getElem_cons_succ,List.setIfInBounds_toArray,List.set_cons_zero,List.set_cons_succ])
  refine wpAnyX_ready (rs:=[3]) (by kernel_rfl) (by simp) ?_
  refine AllReadyX.cons rfl (fun K hK=>?_) ?_
  rotate_left
  ·exact AllReadyX.nil
  go_simp
  refine hK.out _ _ ⟨fun h=>absurd h (by decide),fun h=>absurd h (by decide)⟩ ?_
  clear hK K
  (try simp only [Act.put,List.getElem_toArray,List.getElem_cons_zero,List.getElem_cons_succ,List.setIfInBounds_toArray,List.set_cons_zero,List.set_cons_succ])
  refine wpAnyX_ready (rs:=[4]) (by kernel_rfl) (by simp) ?_
  refine AllReadyX.cons rfl (fun K hK=>?_) ?_
  rotate_left
  ·exact AllReadyX.nil
  go_simp
  refine hK.out _ _ ⟨fun h=>absurd h (by decide),fun h=>absurd h (by decide)⟩ ?_
  clear hK K
  (try simp only [Act.put,List.getElem_toArray,List.getElem_cons_zero,List.getElem_cons_succ,List.setIfInBounds_toArray,List.set_cons_zero,List.set_cons_succ])
  clear qB1 fB1 lB1 qB2 fB2 lB2 qB3 fB3 lB3
  refine wpAnyX_done (by kernel_rfl) ?_ _
  refine ⟨rfl,?_⟩
  obtain ⟨wf,hwf⟩:∃ W9',W9'=((W.setCell ⟨An+1,0,none⟩ (.slice xa1 nx xc1)).setCell ⟨An+1+1,0,none⟩ (.slice ya1 ny yc1)).setCell ⟨An+1+1+1,0,none⟩ (.int .i64 0):=⟨_,rfl⟩
  have hk1:=keeps_setC B1.o 0 (.slice xa1 nx xc1)
  have hk2:=keeps_setC (B2.o.setOther (a:=⟨An+1,0,none⟩) (by dsimp only;omega) (.slice xa1 nx xc1)) 0 (.slice ya1 ny yc1)
  have hk3:=keeps_setC ((B3.o.setOther (a:=⟨An+1,0,none⟩) (by dsimp only;omega) (.slice xa1 nx xc1)).setOther (a:=⟨An+1+1,0,none⟩) (by dsimp only;omega) (.slice ya1 ny yc1)) 0 (.int .i64 0)
  have b1:Blk wf (An+1) #[(.slice xa1 nx xc1)] 33:=by rw [hwf];exact ((B1.o.set 0 (.slice xa1 nx xc1)).keeps hk2 (by decide)).keeps hk3 (by decide)
  have b2:Blk wf (An+1+1) #[(.slice ya1 ny yc1)] 30:=by rw [hwf];exact ((B2.o.keeps hk1 (by decide)).set 0 (.slice ya1 ny yc1)).keeps hk3 (by decide)
  have b3:Blk wf (An+1+1+1) #[.int .i64 0] 34:=by rw [hwf];exact ((B3.o.keeps hk1 (by decide)).keeps hk2 (by decide)).set 0 (.int .i64 0)
  have ov:OwVR w.heap.size wf (.slice xa1 nx xc1) (List.map (stgV m vals) (List.range (kn+1))):=by rw [hwf];exact ((OwVR.keeps OV.o hk1 (by decide) (by decide) (by decide)).keeps hk2 (by decide) (by decide) (by decide)).keeps hk3 (by decide) (by decide) (by decide)
  have oz:OwPl w.heap.size wf (.slice ya1 ny yc1) (List.map (fun j=>(backupS m (stgV m vals j)).2.1) (List.range kn)):=by rw [hwf];exact ((OwPl.keeps OP.o hk1 (by decide) (by decide)).keeps hk2 (by decide) (by decide)).keeps hk3 (by decide) (by decide)
  have xw:Ext w wf:=by
   rw [hwf]
   exact Below.setCell (Below.setCell (Below.setCell XW.o (by dsimp only;omega) _) (by dsimp only;omega) _) (by dsimp only;omega) _
  have hd:wf.drew.heap[H+3]?=some (.deferred (some [])):=by
   have h:=HD.o
   rw [hN] at h
   rw [hwf]
   exact (Below.heap_setCell _ _ _ _ (by dsimp only;omega)).trans ((Below.heap_setCell _ _ _ _ (by dsimp only;omega)).trans ((Below.heap_setCell _ _ _ _ (by dsimp only;omega)).trans h))
  rw [← hwf]
  have F1:=kI b1.drew;have F2:=kI b2.drew;have F3:=kI b3.drew;have OV2:=kI (OwVR.ext' ov (Ext.refl wf).drew);have OP2:=kI (OwPl.ext' oz (Ext.refl wf).drew);have XW2:=kI xw.drew;have HD2:=kI hd
  clear hwf hk1 hk2 hk3 b1 b2 b3 ov oz xw hd
  generalize wf.drew=wz at F1 F2 F3 OV2 OP2 XW2 HD2 ⊢
  go_wp2_with fail
  have hp:=putObj_blk (o2:=.deferred none) HD2.o (fun _ _ h=>by cases h)
  have hkp:=keeps_blk (A:=wz) (B:=wz.putObj (H+3) (.deferred none)) 4 ⟨rfl,rfl,rfl,by simp,fun i hi=>by omega⟩ hp
  exact leavesM_mark (by simp) HD2.o (stg_leave_ret ⟨rfl,rfl,rfl⟩ (hp _ _ _ F1.o) (hp _ _ _ F2.o) (hp _ _ _ F3.o) (putObj_ext XW2.o (by omega)) WA.o (OwVR.keeps OV2.o hkp (by decide) (by decide) (by decide)) (OwPl.keeps OP2.o hkp (by decide) (by decide)) (by have h:=E.o;simpa using h))
end Go.Proofs.Ytfflknbeidihoaa
