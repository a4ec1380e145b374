/- Lemmas and walks. Conditions: as stated. -/
import Derived.Test.YtfflknbeidihoaaGreatSxItU
import Derived.Test.YtfflknbeidihoaaGreatSxOrdX
set_option linter.unusedVariables false
set_option linter.unusedSimpArgs false
set_option maxRecDepth 100000
set_option maxHeartbeats 16000000
namespace Go.Proofs.YtfflknbeidihoaaGreat
open Go.RowKit
theorem scoresI_any (mv vv:Value) (m:MD) (vals:List RR) (w:World) (hm:RdM w mv m) (hv:RdRs w vv vals) (hlm:LimM m) (hlv:LimL vals) (hln:LenL vals) :
  Calls Tryz.prog 17 #[mv,vv] w fun e w'=>ResV w w' e (scoresS m vals)∧Ext w w':=by
 have hst:=fun W (h:RdM W mv m) (k:RdRs W vv vals)=>start_any mv vv m vals W h k hlm hln;have hun:=fun W pv p (h:RdM W mv m) (hp:RdI .i64 W pv p) (k:RdRs W vv vals)=>under_any mv pv vv m p vals W h hp k hlm hlv;have hfi:=fun W (h:RdM W mv m) (k:RdRs W vv vals) (e:mvE m vals=0)=>first_any mv vv m vals W h k hlm hlv e;have hS1:=fun c=>scores_1 (m:=m) (v:=vals) (c:=c);have HM:=kI hm;have HV:=kI hv;obtain ⟨m1,n1,m2,n2,m3,n3,rfl,hmd,hss⟩:=hm;obtain ⟨av,cv,rfl,-,-,-⟩:=hv.get;obtain ⟨c1,hc1⟩:=gN (mvE m vals);rw [← hc1] at hst hS1;have HC1:=kI hc1;have HSS:=kI hss;have HST:=kI hst;have HUN:=kI hun;have HFI:=kI hfi;have HS1:=kI hS1;clear hv hst hun hfi hlm hlv hln hc1 hS1 hmd hss;have bb0:=(((Blk.new w #[.bool m.disc.neg,.slice m1 m.disc.num.length n1,.slice m2 m.disc.den.length n2,.slice m3 m.states.length n3] 28).alloc (.cells #[.slice none 0 0] 36)).alloc (.cells #[.int .i64 0] 37));have bb1:=((Blk.new (w.alloc (.cells #[.bool m.disc.neg,.slice m1 m.disc.num.length n1,.slice m2 m.disc.den.length n2,.slice m3 m.states.length n3] 28)) #[.slice none 0 0] 36).alloc (.cells #[.int .i64 0] 37));have bb2:=(Blk.new ((w.alloc (.cells #[.bool m.disc.neg,.slice m1 m.disc.num.length n1,.slice m2 m.disc.den.length n2,.slice m3 m.states.length n3] 28)).alloc (.cells #[.slice none 0 0] 36)) #[.int .i64 0] 37);rw [World.size_alloc] at bb1;rw [World.size_alloc,World.size_alloc] at bb2;have x0:Ext w (((w.alloc (.cells #[.bool m.disc.neg,.slice m1 m.disc.num.length n1,.slice m2 m.disc.den.length n2,.slice m3 m.states.length n3] 28)).alloc (.cells #[.slice none 0 0] 36)).alloc (.cells #[.int .i64 0] 37)):=((((Ext.refl w).alloc _).alloc _).alloc _);have A0:=kI bb0;have A1:=kI bb1;have A2:=kI bb2;have X:=kI x0;clear x0 bb0 bb1 bb2;have hmf:∀ (fn:Fn) (first cap:Array Value) (w:World),(Instr.makeFunc fn first cap).run Tryz.prog w=.ok (.func fn first cap) w:=fun _ _ _ _=>rfl;have WA:Hid (w.heap.size≤w.heap.size):=kI (Nat.le_refl _);go_enter_defers Tryz.func17,Tryz.ntmps17
 obtain ⟨qA0,fA0,lA0⟩:=A0.o.q3;go_wp2_with fail;clear qA0 fA0 lA0;clear hmf;obtain ⟨wl,hwl⟩:=gN ((((w.alloc (.cells #[.bool m.disc.neg,.slice m1 m.disc.num.length n1,.slice m2 m.disc.den.length n2,.slice m3 m.states.length n3] 28)).alloc (.cells #[.slice none 0 0] 36)).alloc (.cells #[.int .i64 0] 37)));rw [← hwl] at A0 A1 A2 X ⊢;clear hwl;obtain ⟨An,hAn⟩:=gN (w.heap.size);rw [← hAn] at A0 A1 A2 ⊢;replace WA:Hid (w.heap.size≤An):=kI (by rw [hAn];exact Nat.le_refl _);have WE:=kI hAn;clear hAn;refine (HST.o wl (HM.o.ext X.o) (HV.o.ext X.o)).mono ?_;rintro e w1 ⟨he,hx⟩;replace A0:=kI (A0.o.ext hx);replace A1:=kI (A1.o.ext hx);replace A2:=kI (A2.o.ext hx);replace X:=kI (X.o.trans hx);clear hx;by_cases h1:c1=0
 rotate_left
 ·have E:=HS1.o c1 rfl h1;obtain rfl:=he.getE h1;exact scr_leave_err h1 ⟨rfl,rfl⟩ A1.o A2.o X.o WA.o E
 subst h1;have H0:=HC1.o.symm;obtain ⟨ov,rfl,-⟩:=he.get0;clear he;have hml:=md_valid (mv_valid H0).1;have N200:m.states.length≤200:=hml.2.2.1;have HSV:=kI (fun s (hs:s < m.states.length)=>let q:=st_valid (hml.2.2.2 s hs);(show 0 < (m.states.getD s []).length∧(m.states.getD s []).length≤6 from ⟨Nat.pos_of_ne_zero q.1,q.2.1⟩));have HVL:=(mv_valid H0).2;have HME:=kI H0;have HVL':=kI HVL;clear H0 hml HVL;have S6:m.states.length≤9223372036854775807:=by omega
 obtain ⟨qA0,fA0,lA0⟩:=A0.o.q3;obtain ⟨qA1,fA1,lA1⟩:=A1.o.q3;go_wp2_with (first|(at_make;(refine wpList_make_t rfl _ _ rfl m.states.length rfl rfl Tryz.underlying36 Tryz.infoRowV (by omega) (by omega) (List.replicate m.states.length (Value.slice none 0 0)).toArray (madeNil _) ?_))|(at_make;(refine wpList_make_t rfl _ _ rfl m.states.length rfl rfl Tryz.underlying64 Tryz.infoInt (by omega) (by omega) ((List.replicate m.states.length (0:Int)).map (Value.int .i64)).toArray (madeZero _) ?_)))
 clear qA0 fA0 lA0 qA1 fA1 lA1;obtain ⟨L,hL⟩:=gN (w1.heap.size);rw [← hL];obtain ⟨w5,hw5⟩:=gN (((w1.setCell ⟨An+1,0,none⟩ (.slice (some ⟨L,0,none⟩) m.states.length m.states.length)).alloc (.cells (Array.replicate m.states.length (Value.slice none 0 0)) 29)).alloc (.cells (Array.replicate m.states.length (Value.int .i64 0)) 3));have hLA:An+1+1 < L:=by rw [hL];exact A2.o.lt
 have hwA:w.heap.size≤An:=WA.o;have hk0:=keeps_setC A1.o 0 (.slice (some ⟨L,0,none⟩) m.states.length m.states.length);have hxx:Ext (w1.setCell ⟨An+1,0,none⟩ (.slice (some ⟨L,0,none⟩) m.states.length m.states.length)) w5:=by rw [hw5];exact ((Ext.refl _).alloc _).alloc _
 have b0:=(A0.o.keeps hk0 (by decide)).ext hxx;have b1:Blk w5 (An+1) #[(.slice (some ⟨L,0,none⟩) m.states.length m.states.length)] 36:=(A1.o.set 0 (.slice (some ⟨L,0,none⟩) m.states.length m.states.length)).ext hxx;have b2:=(A2.o.keeps hk0 (by decide)).ext hxx;have hx9:Ext w w5:=Ext.trans (Below.setCell X.o (by dsimp only;omega) _) hxx;have bl:Blk w5 L (List.replicate m.states.length (Value.slice none 0 0)).toArray 29:=by
  have h:=(Blk.new (w1.setCell ⟨An+1,0,none⟩ (.slice (some ⟨L,0,none⟩) m.states.length m.states.length)) (Array.replicate m.states.length (Value.slice none 0 0)) 29).alloc (.cells (Array.replicate m.states.length (Value.int .i64 0)) 3);rw [World.size_setCell,← hL,← hw5] at h;simpa using h
 have bp:Blk w5 (L+1) ((List.replicate m.states.length (0:Int)).map (Value.int .i64)).toArray 3:=by
  have h:=Blk.new ((w1.setCell ⟨An+1,0,none⟩ (.slice (some ⟨L,0,none⟩) m.states.length m.states.length)).alloc (.cells (Array.replicate m.states.length (Value.slice none 0 0)) 29)) (Array.replicate m.states.length (Value.int .i64 0)) 3;rw [World.size_alloc,World.size_setCell,← hL,← hw5] at h;simpa using h
 have hr0:RowsAt w.heap.size w5 L (List.replicate m.states.length (Value.slice none 0 0)) (fun t=>(rowS m vals (m.states.getD t [])).take 0):=(RowsAt.new bl (by omega)).congr (fun t ht=>by rw [List.take_zero]);rw [← hw5];replace A0:=kI b0;replace A1:=kI b1;replace A2:=kI b2;replace X:=kI hx9;have HR0:=kI hr0;have HP0:=kI bp;clear hw5 hk0 hxx b0 b1 b2 hx9 bl bp hr0 hL;go_loopw [26] (fun i wr=>∃ (a:Nat) (vs:List Value) (ps:List Int),a≤6∧i=.int .i64 a∧Ext w wr∧Blk wr An #[.bool m.disc.neg,.slice m1 m.disc.num.length n1,.slice m2 m.disc.den.length n2,.slice m3 m.states.length n3] 28∧Blk wr (An+1) #[(.slice (some ⟨L,0,none⟩) m.states.length m.states.length)] 36∧Blk wr (An+1+1) #[.int .i64 0] 37∧vs.length=m.states.length∧RowsAt w.heap.size wr L vs (fun t=>(rowS m vals (m.states.getD t [])).take a)∧ps.length=m.states.length∧Blk wr (L+1) (ps.map (Value.int .i64)).toArray 3∧(∀ s,s < m.states.length→∀ j,j < a→j < (m.states.getD s []).length→(scoreS m vals (m.act s j)).2=0)) (fun i _=>6 - (intOf i).toNat)
 case atStart=>exact ⟨0,_,_,by omega,rfl,X.o,A0.o,A1.o,A2.o,List.length_replicate ..,HR0.o,List.length_replicate ..,HP0.o,(fun s hs j hj=>by omega)⟩
 case round=>
  obtain ⟨wk,hwk⟩:=gN (wr);subst hwk;obtain ⟨a,vs,ps,ha,rfl,hx,b0,b1,b2,hvs,hra,hps,hpb,hok⟩:=hrel;replace X:=kI hx;replace A0:=kI b0;replace A1:=kI b1;replace A2:=kI b2;have RA:=kI hra;have PB:=kI hpb;have OK:=kI hok;have VSL:=kI hvs;have PSL:=kI hps;clear hx b0 b1 b2 hra hpb hok HR0 HP0 hvs hps;have END:Hid (∀ (tmps:Array Value) (W:World),ScrT tmps An→Ext w W→Blk W (An+1) #[(.slice (some ⟨L,0,none⟩) m.states.length m.states.length)] 36→Blk W (An+1+1) #[.int .i64 0] 37→RowsAt w.heap.size W L vs (fun t=>(rowS m vals (m.states.getD t [])).take a)→(∀ s,s < m.states.length→(m.states.getD s []).length≤a)→Leaves Tryz.prog Tryz.f17 tmps (fun e w'=>ResV w w' e (scoresS m vals)∧Ext w w') [scrClo An] .returning W):=kI (by
   intro tmps W ht hx b1 b2 hr hle;have hf:=(hr.congr (g:=fun t=>rowS m vals (m.states.getD t [])) (fun t h=>row_take_ge (hle t (by rw [← VSL.o];exact h)))).fin (by have:=VSL.o;omega);rw [VSL.o] at hf;exact scr_leave_ret ht b1 b2 hx WA.o hf (scores_3 HME.o (fun s hs j hj=>OK.o s hs j (Nat.lt_of_lt_of_le hj (hle s hs)) hj)))
  by_cases hlt:a < 6
  ·have S6a:(a:Int) < 6:=by omega
   obtain ⟨qA0,fA0,lA0⟩:=A0.o.q3;go_wp2_with fail;clear qA0 fA0 lA0;go_loopw [32,8] (fun i b wr=>∃ (s:Nat) (bb:Bool) (qs:List Int),s≤m.states.length∧i=.int .i64 s∧b=.bool bb∧(bb=true↔∃ t,t < s∧a < (m.states.getD t []).length)∧qs.length=m.states.length∧(∀ t,t < s→qs.getD t 0=((min a ((m.states.getD t []).length - 1):Nat):Int))∧Blk wr (L+1) (qs.map (Value.int .i64)).toArray 3∧Ext w wr∧Keeps 0 3 wk wr) (fun i _ _=>m.states.length - (intOf i).toNat)
   case atStart=>exact ⟨0,false,_,by omega,rfl,rfl,(by constructor;(intro h;cases h);(rintro ⟨t,h,_⟩;omega)),PSL.o,(fun t h=>by omega),PB.o,X.o,Keeps.ext (Ext.refl _)⟩
   case round=>
    obtain ⟨wq,hwq⟩:=gN (wr);subst hwq;obtain ⟨s,bb,qs,hs,rfl,rfl,hbb,hqs,hqv,hqb,hxq,hkq⟩:=hrel;have QS:=kI hqs;have QV:=kI hqv;have QB:=kI hqb;have XQ:=kI hxq;have KQ:=kI hkq;have BB:=kI hbb;have A0q:=kI (A0.o.keeps hkq (by decide));have A1q:=kI (A1.o.keeps hkq (by decide));have A2q:=kI (A2.o.keeps hkq (by decide));have RAq:=kI (RA.o.keeps hkq (by decide) (by decide) (by decide));clear hbb hqs hqv hqb hxq hkq;by_cases hsl:s < m.states.length
    ·obtain ⟨sb,so,ai,ci,rfl,t0,t1,-⟩:=(HSS.o.ext XQ.o).at hsl;have hl6:=HSV.o s hsl;obtain ⟨al,hal⟩:=gN ((m.states.getD s []).length);have HAL:=kI hal;rw [← hal] at t1 hl6;have hl9:(al:Int)≤6:=by omega
     have hl1:(1:Int)≤(al:Int):=by omega
     have q1:(0:Int)≤(s:Int):=by omega
     have q2:(s:Int) < (m.states.length:Int):=by omega
     clear hal;have pl:=QB.o.lt;have pc:∃ u,wq.cell? ⟨L+1,s,none⟩=some (.int .i64 u):=⟨qs.getD s 0,by rw [QB.o.cell];simp [List.getD_eq_getElem?_getD];rw [List.getElem?_eq_getElem (by rw [QS.o];exact hsl)];simp⟩;obtain ⟨pu,hpu⟩:=pc;have pf:=QB.o.free s;have NEXT:Hid (∀ (x:Bool),(x=true↔(bb=true∨a < al))→(x=true↔∃ t,t < s+1∧a < (m.states.getD t []).length)):=kI (fun x hx=>by
      rw [hx,BB.o];constructor
      ·rintro (⟨t,h1,h2⟩|h)
       ·exact ⟨t,by omega,h2⟩
       ·exact ⟨s,by omega,by rw [← HAL.o];exact h⟩
      ·rintro ⟨t,h1,h2⟩;by_cases e:t=s
       ·subst e;right;rw [HAL.o];exact h2
       ·exact .inl ⟨t,by omega,h2⟩)
     have REL:Hid (∀ (mn:Int),mn=((min a (al - 1):Nat):Int)→∃ qs':List Int,qs'.length=m.states.length∧(∀ t,t < s+1→qs'.getD t 0=((min a ((m.states.getD t []).length - 1):Nat):Int))∧Blk (wq.setCell ⟨L+1,s,none⟩ (.int .i64 mn)) (L+1) (qs'.map (Value.int .i64)).toArray 3∧Ext w (wq.setCell ⟨L+1,s,none⟩ (.int .i64 mn))∧Keeps 0 3 wk (wq.setCell ⟨L+1,s,none⟩ (.int .i64 mn))):=kI (fun mn hmn=>by
      refine ⟨qs.set s mn,by rw [List.length_set];exact QS.o,fun t ht=>?_,?_,Below.setCell XQ.o (by dsimp only;omega) _,KQ.o.trans (keeps_setC QB.o s _)⟩
      ·by_cases e:t=s
       ·subst e;rw [List.getD_eq_getElem?_getD,List.getElem?_set_self (by rw [QS.o];exact hsl),hmn,HAL.o];rfl
       ·rw [List.getD_eq_getElem?_getD,List.getElem?_set_ne (Ne.symm e),← List.getD_eq_getElem?_getD];exact QV.o t (by omega)
      ·have:=QB.o.set s (.int .i64 mn);rw [List.map_set];simpa using this)
     by_cases hmin:a < al
     ·have qm:(a:Int) < (al:Int):=by omega
      have qn:(a:Int)≤(al:Int) - 1:=by omega
      have qk:min a (al - 1)=a:=by omega
      cases bb
      ·obtain ⟨qA0q,fA0q,lA0q⟩:=A0q.o.q3;go_wp2_with fail;go_roundw
       case rel=>
        obtain ⟨qs',e1,e2,e3,e4,e5⟩:=REL.o (min (a:Int) ((al:Int) - 1)) (by omega);exact ⟨s+1,_,qs',by omega,by go_num,rfl,NEXT.o _ (by simp <;> omega),e1,e2,e3,e4,e5⟩
       case measure=>simp [intOf];omega
      ·obtain ⟨qA0q,fA0q,lA0q⟩:=A0q.o.q3;go_wp2_with fail;go_roundw
       case rel=>
        obtain ⟨qs',e1,e2,e3,e4,e5⟩:=REL.o (min (a:Int) ((al:Int) - 1)) (by omega);exact ⟨s+1,_,qs',by omega,by go_num,rfl,NEXT.o _ (by simp <;> omega),e1,e2,e3,e4,e5⟩
       case measure=>simp [intOf];omega
     ·have qm:¬ (a:Int) < (al:Int):=by omega
      have qn:¬ (a:Int)≤(al:Int) - 1:=by omega
      have qk:min a (al - 1)=al - 1:=by omega
      cases bb
      ·obtain ⟨qA0q,fA0q,lA0q⟩:=A0q.o.q3;go_wp2_with fail;go_roundw
       case rel=>
        obtain ⟨qs',e1,e2,e3,e4,e5⟩:=REL.o (min (a:Int) ((al:Int) - 1)) (by omega);exact ⟨s+1,_,qs',by omega,by go_num,rfl,NEXT.o _ (by simp <;> omega),e1,e2,e3,e4,e5⟩
       case measure=>simp [intOf];omega
      ·obtain ⟨qA0q,fA0q,lA0q⟩:=A0q.o.q3;go_wp2_with fail;go_roundw
       case rel=>
        obtain ⟨qs',e1,e2,e3,e4,e5⟩:=REL.o (min (a:Int) ((al:Int) - 1)) (by omega);exact ⟨s+1,_,qs',by omega,by go_num,rfl,NEXT.o _ (by simp <;> omega),e1,e2,e3,e4,e5⟩
       case measure=>simp [intOf];omega
    ·obtain rfl:s=m.states.length:=by omega
     have q6:¬ (m.states.length:Int) < (m.states.length:Int):=by omega
     have hpol:qs=polA m a:=by
      refine List.ext_getElem (by rw [polA_len];exact QS.o) (fun i h1 h2=>?_);have e1:=QV.o i (by rw [← QS.o];exact h1);rw [← polA_at (by rw [← QS.o];exact h1),List.getD_eq_getElem?_getD,List.getElem?_eq_getElem h1,List.getD_eq_getElem?_getD,List.getElem?_eq_getElem h2] at e1;exact e1
     subst hpol;cases bb
     ·obtain ⟨qA0q,fA0q,lA0q⟩:=A0q.o.q3;obtain ⟨qA1q,fA1q,lA1q⟩:=A1q.o.q3;obtain ⟨qA2q,fA2q,lA2q⟩:=A2q.o.q3;go_wp2_with fail;clear qA0q fA0q lA0q qA1q fA1q lA1q qA2q fA2q lA2q;obtain ⟨wf,hwf⟩:=gN ((wq.setCell ⟨An+1,0,none⟩ (.slice (some ⟨L,0,none⟩) m.states.length m.states.length)).setCell ⟨An+1+1,0,none⟩ (.int .i64 0));have hk1:=keeps_setC A1q.o 0 (.slice (some ⟨L,0,none⟩) m.states.length m.states.length);have hk2:=keeps_setC (A2q.o.setOther (a:=⟨An+1,0,none⟩) (by dsimp only;omega) (.slice (some ⟨L,0,none⟩) m.states.length m.states.length)) 0 (.int .i64 0);have b1:Blk wf (An+1) #[(.slice (some ⟨L,0,none⟩) m.states.length m.states.length)] 36:=by rw [hwf];exact (A1q.o.set 0 (.slice (some ⟨L,0,none⟩) m.states.length m.states.length)).keeps hk2 (by decide)
      have b2:Blk wf (An+1+1) #[.int .i64 0] 37:=by rw [hwf];exact (A2q.o.keeps hk1 (by decide)).set 0 (.int .i64 0)
      have br:RowsAt w.heap.size wf L vs (fun t=>(rowS m vals (m.states.getD t [])).take a):=by rw [hwf];exact (RAq.o.keeps hk1 (by decide) (by decide) (by decide)).keeps hk2 (by decide) (by decide) (by decide)
      have bx:Ext w wf:=by rw [hwf];exact Below.setCell (Below.setCell XQ.o (by dsimp only;omega) _) (by dsimp only;omega) _
      rw [← hwf];clear hwf;exact END.o _ wf ⟨rfl,rfl⟩ bx b1 b2 br (fun t ht=>Nat.not_lt.1 (fun h=>by have:=BB.o.2 ⟨t,ht,h⟩;cases this))
     ·obtain ⟨qA0q,fA0q,lA0q⟩:=A0q.o.q3;go_wp2_with fail;clear qA0q fA0q lA0q;have hrd:RdI .i64 wq (.slice (some ⟨L+1,0,none⟩) m.states.length m.states.length) (polA m a):=rdI_blkS (polA m a) _ QB.o (polA_len m a) (by rw [polA_len];omega);refine (HUN.o wq _ _ (HM.o.ext XQ.o) hrd (HV.o.ext XQ.o)).mono ?_;clear hrd;rintro e w6 ⟨⟨v9,rfl,ow9⟩,hx⟩;have A0r:=kI (A0q.o.ext hx);have A1r:=kI (A1q.o.ext hx);have A2r:=kI (A2q.o.ext hx);have XR:Hid (Ext w w6):=kI (XQ.o.trans hx);have RAr:=kI (RAq.o.ext hx);have PBr:=kI (QB.o.ext hx);have FR:Hid (∀ t,t < vs.length→∀ q,(vs.getD t undef).ownBlock=some q→v9.ownBlock≠some q):=kI (fun t ht q h1 h2=>by
       have g1:=(OwRow.own_at (RAq.o.row t ht) h1).2.2;have g2:=(OwRow.own_at ow9 h2).2.1;omega)
      have OW9:Hid (OwN w.heap.size w6 v9 (underS m (polA m a) vals).1):=kI (OwN.mono ow9 XQ.o.size);obtain ⟨R,hR⟩:=gN (underS m (polA m a) vals);rw [← hR] at OW9 ⊢;have HRR:=kI hR;clear hx ow9 hR;obtain ⟨xl,e9⟩:=R;dsimp only at OW9 ⊢;obtain ⟨s1,s2,rfl⟩:=OW9.o.shape;by_cases h9:e9=0
      rotate_left
      ·have q9:(e9 != 0)=true:=by simpa using h9
       have hbk:bkE m vals≠0:=scores_bad HME.o (a:=a) (by rw [← HRR.o];exact h9);obtain ⟨qA0r,fA0r,lA0r⟩:=A0r.o.q3;go_wp2_with fail;clear qA0r fA0r lA0r;refine (HFI.o w6 (HM.o.ext XR.o) (HV.o.ext XR.o) HME.o).mono ?_;rintro e w7 ⟨he,hx⟩;have he':e=.panicked [errP (bkE m vals)]:=by unfold EndU at he;rwa [if_neg hbk] at he
       subst he';(try simp (config:={ zetaDelta:=true }) only [Exit.then,Exit.inBlock]);exact scr_leave_err hbk ⟨rfl,rfl⟩ (A1r.o.ext hx) (A2r.o.ext hx) (XR.o.trans hx) WA.o (scores_2 HME.o rfl hbk)
      subst h9;have hu0:(underS m (polA m a) vals).2=0:=by rw [← HRR.o]
      have hgd:=scores_good HME.o hu0;obtain ⟨hvl,hva⟩:=scores_val HME.o hu0;rw [← HRR.o] at hvl hva;dsimp only at hvl hva;have GD:=kI hgd;have VA9:=kI hva;have XLL:=kI hvl;rw [hvl];clear hgd hva hu0 HRR hvl;go_wp2_with fail;rw [XLL.o] at OW9 FR;go_loopw [69] (fun i wr=>∃ (s:Nat) (vt:List Value),s≤m.states.length∧i=.int .i64 s∧Ext w wr∧Blk wr An #[.bool m.disc.neg,.slice m1 m.disc.num.length n1,.slice m2 m.disc.den.length n2,.slice m3 m.states.length n3] 28∧Blk wr (An+1) #[(.slice (some ⟨L,0,none⟩) m.states.length m.states.length)] 36∧Blk wr (An+1+1) #[.int .i64 0] 37∧vt.length=m.states.length∧RowsAt w.heap.size wr L vt (fun t=>(rowS m vals (m.states.getD t [])).take (if t < s then a+1 else a))∧Blk wr (L+1) ((polA m a).map (Value.int .i64)).toArray 3∧OwN w.heap.size wr (.slice s1 m.states.length s2) xl∧(∀ t,t < vt.length→∀ q,(vt.getD t undef).ownBlock=some q→((.slice s1 m.states.length s2):Value).ownBlock≠some q)) (fun i _=>m.states.length - (intOf i).toNat)
      case atStart=>exact ⟨0,vs,by omega,rfl,XR.o,A0r.o,A1r.o,A2r.o,VSL.o,RAr.o.congr (fun t ht=>by rw [if_neg (Nat.not_lt_zero t)]),PBr.o,OW9.o,FR.o⟩
      case round=>
       obtain ⟨wj,hwj⟩:=gN (wr);subst hwj;obtain ⟨s,vt,hs,rfl,hx,b0,b1,b2,hvt,hrt,hpt,how,hfr⟩:=hrel;have XJ:=kI hx;have A0j:=kI b0;have A1j:=kI b1;have A2j:=kI b2;have VT:=kI hvt;have RT:=kI hrt;have PT:=kI hpt;have OWj:=kI how;have FRj:=kI hfr;clear hx b0 b1 b2 hvt hrt hpt how hfr;by_cases hsl:s < m.states.length
       ·obtain ⟨sb,so,ai,ci,rfl,t0,t1,-⟩:=(HSS.o.ext XJ.o).at hsl;obtain ⟨al,hal⟩:=gN ((m.states.getD s []).length);have HAL:=kI hal;rw [← hal] at t1;have hl9:(al:Int)≤6:=by have:=(HSV.o s hsl).2;omega
        obtain ⟨gx,nx,cx,p1,d1,p2,d2,ex,hgx,y0,y1,y2,hel⟩:=OWj.o.atS (i:=s) (by rw [XLL.o];exact hsl);injection ex with f1 f2 f3
        subst f1;clear f2 f3;obtain ⟨rx,hrx⟩:=gN (xl.getD s zR);rw [← hrx] at y0 y1 y2 hel;have EL:=kI hel;have HRX:=kI hrx;have q1:(0:Int)≤(s:Int):=by omega
        have q2:(s:Int) < (m.states.length:Int):=by omega
        clear hal hel hrx;obtain ⟨qA0j,fA0j,lA0j⟩:=A0j.o.q3;by_cases hmin:a < al
        ·have qm:(a:Int) < (al:Int):=by omega
         go_wp2_with fail;clear qA0j fA0j lA0j;clear y0 y1 y2 t0 t1;have hsv:s < vt.length:=by rw [VT.o];exact hsl
         obtain ⟨ra,rc,ers⟩:=(RT.o.row s hsv).shape;rw [if_neg (Nat.lt_irrefl s)] at ers;obtain ⟨rn,hrn⟩:=gN (((rowS m vals (m.states.getD s [])).take a).length);rw [← hrn] at ers;have ern:rn=a:=by rw [hrn,List.length_take,rowS_len,← HAL.o];omega
         have cl:=RT.o.cell hsv;rw [ers] at cl;obtain ⟨wb,hwb⟩:=gN (wj.alloc (.cells #[.bool rx.neg,.slice p1 rx.num.length d1,.slice p2 rx.den.length d2] 25));have hxb:Ext wj wb:=by rw [hwb];exact (Ext.refl wj).alloc _
         have hbb:Blk wb wj.heap.size #[.bool rx.neg,.slice p1 rx.num.length d1,.slice p2 rx.den.length d2] 25:=by rw [hwb];exact Blk.new _ _ _
         rw [← hwb];obtain ⟨bx,hbx⟩:=gN (wj.heap.size);rw [← hbx] at hbb ⊢;have clb:=(hxb.cell (p:=⟨L,s,none⟩) RT.o.blk.lt).trans cl;have XB:=kI (XJ.o.trans hxb);have A0b:=kI (A0j.o.ext hxb);have A1b:=kI (A1j.o.ext hxb);have A2b:=kI (A2j.o.ext hxb);have RB:=kI (RT.o.ext hxb);have PB2:=kI (PT.o.ext hxb);have OWb:=kI (OwN.ext' OWj.o hxb);have ELb:=kI (EL.o.ext hxb);have BX:=kI hbb;have CL:=kI clb;have ERS:=kI ers;have ERN:=kI ern;have HRN:=kI hrn;have BXN:=kI (fun q (hq:(vt.getD s undef).ownBlock=some q)=>(show q≠bx by have:=(OwRow.own_at (RT.o.row s hsv) hq).2.2;omega));clear hwb hxb hbb hbx cl clb ers hrn ern;have ht:∀ l,T2 10 10 (fun W=>W.cell? ⟨An+1,0,none⟩=some (.slice (some ⟨L,0,none⟩) m.states.length m.states.length)∧W.cell? ⟨L,s,none⟩=some (.slice ra rn rc)∧W.cell? ⟨bx,0,none⟩=some (.bool rx.neg)∧W.cell? ⟨bx,1,none⟩=some (.slice p1 rx.num.length d1)∧W.cell? ⟨bx,2,none⟩=some (.slice p2 rx.den.length d2)) (fun W=>W.cell? ⟨An+1,0,none⟩=some (.slice (some ⟨L,0,none⟩) m.states.length m.states.length)∧W.cell? ⟨L,s,none⟩=some (.slice ra rn rc)∧W.cell? ⟨bx,0,none⟩=some (.bool rx.neg)∧W.cell? ⟨bx,1,none⟩=some (.slice p1 rx.num.length d1)∧W.cell? ⟨bx,2,none⟩=some (.slice p2 rx.den.length d2)) l wb.drew:=fun l=>T2.both ⟨A1b.o.drew.cell 0,CL.o,BX.o.drew.cell 0,BX.o.drew.cell 1,BX.o.drew.cell 2⟩ ⟨A1b.o.drew.cell 0,CL.o,BX.o.drew.cell 0,BX.o.drew.cell 1,BX.o.drew.cell 2⟩;refine wp_region_Xn (T:=T2 10 10 (fun W=>W.cell? ⟨An+1,0,none⟩=some (.slice (some ⟨L,0,none⟩) m.states.length m.states.length)∧W.cell? ⟨L,s,none⟩=some (.slice ra rn rc)∧W.cell? ⟨bx,0,none⟩=some (.bool rx.neg)∧W.cell? ⟨bx,1,none⟩=some (.slice p1 rx.num.length d1)∧W.cell? ⟨bx,2,none⟩=some (.slice p2 rx.den.length d2)) (fun W=>W.cell? ⟨An+1,0,none⟩=some (.slice (some ⟨L,0,none⟩) m.states.length m.states.length)∧W.cell? ⟨L,s,none⟩=some (.slice ra rn rc)∧W.cell? ⟨bx,0,none⟩=some (.bool rx.neg)∧W.cell? ⟨bx,1,none⟩=some (.slice p1 rx.num.length d1)∧W.cell? ⟨bx,2,none⟩=some (.slice p2 rx.den.length d2))) (by kernel_rfl) ?_
         refine wpAnyX_take1 (i:=0) (v:=?_) rfl rfl (by kernel_rfl) (by decide) (by decide) (by kernel_rfl) (by kernel_rfl) (by kernel_rfl) Qn.noP (Or.inl ⟨by rfl,?_⟩) (by kernel_rfl) (ht _) ?_;rotate_left
         ·(intro w hSw;(try dsimp only at hSw);go_simp;first|done|with_reducible rfl)
         (try simp only [sP]);refine wpAnyX_take1 (i:=1) (v:=?_) rfl rfl (by kernel_rfl) (by decide) (by decide) (by kernel_rfl) (by kernel_rfl) (by kernel_rfl) Qn.noP (Or.inl ⟨by rfl,?_⟩) (by kernel_rfl) (ht _) ?_;rotate_left
         ·(intro w hSw;(try dsimp only at hSw);go_simp;first|done|with_reducible rfl)
         (try simp only [sP]);refine wpAnyX_take1 (i:=2) (v:=?_) rfl rfl (by kernel_rfl) (by decide) (by decide) (by kernel_rfl) (by kernel_rfl) (by kernel_rfl) Qn.noP (Or.inl ⟨by rfl,?_⟩) (by kernel_rfl) (ht _) ?_;rotate_left
         ·(intro w hSw;(try dsimp only at hSw);go_simp;first|done|with_reducible rfl)
         (try simp only [sP]);refine wpAnyX_take1 (i:=3) (v:=?_) rfl rfl (by kernel_rfl) (by decide) (by decide) (by kernel_rfl) (by kernel_rfl) (by kernel_rfl) Qn.noP (Or.inl ⟨by rfl,?_⟩) (by kernel_rfl) (ht _) ?_;rotate_left
         ·(intro w hSw;(try dsimp only at hSw);go_simp;first|done|with_reducible rfl)
         (try simp only [sP]);refine wpAnyX_take1 (i:=4) (v:=?_) rfl rfl (by kernel_rfl) (by decide) (by decide) (by kernel_rfl) (by kernel_rfl) (by kernel_rfl) Qn.noP (Or.inl ⟨by rfl,?_⟩) (by kernel_rfl) (ht _) ?_;rotate_left
         ·(intro w hSw;(try dsimp only at hSw);go_simp;first|done|with_reducible rfl)
         (try simp only [sP]);refine wpAnyX_take1 (i:=5) (v:=?_) rfl rfl (by kernel_rfl) (by decide) (by decide) (by kernel_rfl) (by kernel_rfl) (by kernel_rfl) Qn.noP (Or.inl ⟨by rfl,?_⟩) (by kernel_rfl) (ht _) ?_;rotate_left
         ·(intro w hSw;(try dsimp only at hSw);go_simp;first|done|with_reducible rfl)
         (try simp only [sP]);refine wpAnyX_take1 (i:=6) (v:=?_) rfl rfl (by kernel_rfl) (by decide) (by decide) (by kernel_rfl) (by kernel_rfl) (by kernel_rfl) Qn.noP (Or.inl ⟨by rfl,?_⟩) (by kernel_rfl) (ht _) ?_;rotate_left
         ·(intro w hSw;(try dsimp only at hSw);go_simp;first|done|with_reducible rfl)
         (try simp only [sP]);clear ht;refine wpAnyX_ready (rs:=[7]) (by kernel_rfl) (by simp) ?_;refine AllReadyX.cons rfl (fun K hK=>?_) ?_;rotate_left
         ·exact AllReadyX.nil
         go_simp;have hx:Ext wb (wb.alloc (.cells #[.bool rx.neg,.slice p1 rx.num.length d1,.slice p2 rx.den.length d2] 25)).drew:=((Ext.refl _).alloc _).drew;have bz:Blk (wb.alloc (.cells #[.bool rx.neg,.slice p1 rx.num.length d1,.slice p2 rx.den.length d2] 25)).drew wb.heap.size #[.bool rx.neg,.slice p1 rx.num.length d1,.slice p2 rx.den.length d2] 25:=(Blk.new _ _ _).drew;obtain ⟨wc,hwc⟩:=gN ((wb.alloc (.cells #[.bool rx.neg,.slice p1 rx.num.length d1,.slice p2 rx.den.length d2] 25)).drew);rw [← hwc] at hx bz ⊢;obtain ⟨nn,hnn⟩:=gN (wb.heap.size);rw [← hnn] at bz ⊢;have clc:=(hx.cell (p:=⟨L,s,none⟩) RB.o.blk.lt).trans CL.o;have N1:=kI bz;replace XB:=kI (XB.o.trans hx);replace A0b:=kI (A0b.o.ext hx);replace A1b:=kI (A1b.o.ext hx);replace A2b:=kI (A2b.o.ext hx);replace RB:=kI (RB.o.ext hx);replace PB2:=kI (PB2.o.ext hx);replace OWb:=kI (OwN.ext' OWb.o hx);replace ELb:=kI (ELb.o.ext hx);replace BX:=kI (BX.o.ext hx);replace CL:=kI clc;clear hx bz hwc hnn clc;refine hK.out _ _ (T2.both ⟨A1b.o.cell 0,CL.o,BX.o.cell 0,BX.o.cell 1,BX.o.cell 2⟩ ⟨A1b.o.cell 0,CL.o,BX.o.cell 0,BX.o.cell 1,BX.o.cell 2⟩) ?_;clear hK K;(try simp only [sP]);refine wpAnyX_ready (rs:=[8]) (by kernel_rfl) (by simp) ?_;refine AllReadyX.cons rfl (fun K hK=>?_) ?_;rotate_left
         ·exact AllReadyX.nil
         have hrow:=RB.o.row s (by rw [VT.o];exact hsl);rw [if_neg (Nat.lt_irrefl s),ERS.o] at hrow;have ROW:=kI hrow;clear hrow;rw [if_pos (wanted_none rfl)];refine wp_append_rowF wc _ _ _ rfl w.heap.size 25 (.agg #[.bool false,.slice none 0 0,.slice none 0 0]) 3 56 Tryz.underlying29 Tryz.infoR rfl (by decide) (ElN.keeps (by decide)) _ _ ROW.o rfl [.bool rx.neg,.slice p1 rx.num.length d1,.slice p2 rx.den.length d2] rfl (by simp [Value.oneCell']) rx ELb.o nn N1.o rfl (by have:=ERN.o;have:=HRN.o;omega) (by have:=ERN.o;have:=HRN.o;omega) XB.o.size ?_;intro g9 cap9 wd hrow hgr hfr;have hkr:=ROW.o.gKeeps hgr;obtain ⟨ua,hua⟩:=gN (Value.slice (some ⟨g9,0,none⟩) (((rowS m vals (m.states.getD s [])).take a).length+1) cap9);have hub:ua.ownBlock=some g9:=by rw [hua];rfl
         have hu1:∃ a n c,ua=.slice a n c:=⟨_,_,_,hua⟩;rw [← hua] at hrow ⊢;clear hua;have hgr2:wc.grownBy wd (vt.getD s undef).ownBlock:=by rw [ERS.o];exact hgr
         have hgrow:=RB.o.grow (by rw [VT.o];exact hsl) hgr2 hrow hub (by rw [ERS.o];exact hfr);have hown9:OwN w.heap.size wd (.slice (some ⟨gx,0,none⟩) m.states.length s2) xl:=OwN.keptT OWb.o hgr2 (by
          cases e9:((.slice (some ⟨gx,0,none⟩) m.states.length s2):Value).ownBlock with
          | none=>exact .inl rfl
          | some q=>exact .inr (fun e8=>FRj.o s (by rw [VT.o];exact hsl) q e8.symm e9)) (fun q hq=>by
           rw [ERS.o] at hq;obtain ⟨⟨cur,h1⟩,h2,_⟩:=OwRow.own_at ROW.o hq;exact ⟨cur,h1,h2⟩)
         have hfr9:∀ q,ua.ownBlock=some q→((.slice (some ⟨gx,0,none⟩) m.states.length s2):Value).ownBlock≠some q:=fun q hq e9=>by
          rw [hub] at hq;injection hq with hq
          subst hq;rcases hfr with h|h
          ·exact FRj.o s (by rw [VT.o];exact hsl) g9 (by rw [ERS.o];exact h) e9
          ·have:=(OwRow.own_at OWb.o e9).2.2;omega
         have hxd:Ext w wd:=Below.trans XB.o (hkr.below XB.o.size);have hcl:wd.cell? ⟨L,s,none⟩=some (.slice ra rn rc):=((RB.o.blk.keeps hkr (by decide)).cell s).trans ((RB.o.blk.cell s).symm.trans CL.o);replace XB:=kI hxd;replace A0b:=kI (A0b.o.keeps hkr (by decide));replace A1b:=kI (A1b.o.keeps hkr (by decide));replace A2b:=kI (A2b.o.keeps hkr (by decide));replace PB2:=kI (PB2.o.keeps hkr (by decide));replace OWb:=kI hown9;have GW:=kI hgrow;have FR9:=kI hfr9;have BLL:=kI (RB.o.blk.keeps hkr (by decide));have UB:=kI hub;replace BX:Hid (Blk wd bx #[.bool rx.neg,.slice p1 rx.num.length d1,.slice p2 rx.den.length d2] 25):=kI ((hgr2.block bx BX.o.lt (fun e=>BXN.o _ e.symm rfl)).trans BX.o);replace CL:=kI hcl;clear hrow hgr hgr2 hgrow hown9 hfr9 hxd hfr N1 ELb ROW hub hcl hkr;refine hK.out _ _ (T2.both ⟨A1b.o.cell 0,CL.o,BX.o.cell 0,BX.o.cell 1,BX.o.cell 2⟩ ⟨A1b.o.cell 0,CL.o,BX.o.cell 0,BX.o.cell 1,BX.o.cell 2⟩) ?_;clear hK K;(try simp only [sP]);refine wpAnyX_ready (rs:=[9]) (by kernel_rfl) (by simp) ?_;refine AllReadyX.cons rfl (fun K hK=>?_) ?_;rotate_left
         ·exact AllReadyX.nil
         go_simp;refine hK.out _ _ (T2.both ⟨A1b.o.cell 0,CL.o,BX.o.cell 0,BX.o.cell 1,BX.o.cell 2⟩ ⟨A1b.o.cell 0,CL.o,BX.o.cell 0,BX.o.cell 1,BX.o.cell 2⟩) ?_;clear hK K;(try simp only [sP]);refine wpAnyX_ready (rs:=[10]) (by kernel_rfl) (by simp) ?_;refine AllReadyX.cons rfl (fun K hK=>?_) ?_;rotate_left
         ·exact AllReadyX.nil
         obtain ⟨ua1,ua2,ua3,rfl⟩:=hu1;have cl9:=CL.o;have fl9:=BLL.o.free s;have ll9:=BLL.o.lt;go_simp;refine hK.out _ _ ⟨fun h=>absurd h (by decide),fun h=>absurd h (by decide)⟩ ?_;clear hK K cl9 fl9 ll9;(try simp only [sP]);refine wpAnyX_done (by kernel_rfl) ?_ _;refine ⟨rfl,?_⟩;have hk9:Keeps 0 29 wd (wd.setCell ⟨L,s,none⟩ (.slice ua1 ua2 ua3)):=keeps_setC BLL.o s _;have hx9:Ext w (wd.setCell ⟨L,s,none⟩ (.slice ua1 ua2 ua3)):=Below.setCell XB.o (by dsimp only;omega) _;replace XB:=kI hx9;replace A0b:=kI (A0b.o.keeps hk9 (by decide));replace A1b:=kI (A1b.o.keeps hk9 (by decide));replace A2b:=kI (A2b.o.keeps hk9 (by decide));replace PB2:=kI (PB2.o.keeps hk9 (by decide));replace OWb:=kI (OwN.keeps OWb.o hk9 (by decide) (by decide));clear hk9 hx9;go_wp2_with fail;go_roundw
         case rel=>
          refine ⟨s+1,vt.set s (.slice ua1 ua2 ua3),by omega,by go_num,XB.o,A0b.o,A1b.o,A2b.o,by rw [List.length_set];exact VT.o,GW.o.congr (fun t ht=>?_),PB2.o,OWb.o,fun t ht q hq=>?_⟩
          ·by_cases e:t=s
           ·subst e;rw [if_pos rfl,if_pos (Nat.lt_succ_self _),rowS_take (by rw [← HAL.o];exact hmin),HRX.o,VA9.o t hsl (by rw [← HAL.o];exact hmin)];rfl
           ·rw [if_neg e];by_cases e2:t < s
            ·rw [if_pos e2,if_pos (by omega)]
            ·rw [if_neg e2,if_neg (by omega)]
          ·rw [List.length_set] at ht;by_cases e:t=s
           ·subst e;rw [List.getD_eq_getElem?_getD,List.getElem?_set_self ht] at hq;exact FR9.o q hq
           ·rw [List.getD_eq_getElem?_getD,List.getElem?_set_ne (Ne.symm e),← List.getD_eq_getElem?_getD] at hq;exact FRj.o t ht q hq
         case measure=>simp [intOf];omega
        ·have qm:¬ (a:Int) < (al:Int):=by omega
         go_wp2_with fail;go_roundw
         case rel=>
          have hxa:=(Ext.refl wj).alloc (.cells #[.bool rx.neg,.slice p1 rx.num.length d1,.slice p2 rx.den.length d2] 25);exact ⟨s+1,vt,by omega,by go_num,XJ.o.trans hxa,A0j.o.ext hxa,A1j.o.ext hxa,A2j.o.ext hxa,VT.o,(RT.o.ext hxa).congr (fun t ht=>by
           by_cases e:t=s
           ·subst e;rw [if_neg (Nat.lt_irrefl _),if_pos (Nat.lt_succ_self _),row_take_ge (a:=a) (by rw [← HAL.o];omega),row_take_ge (a:=a+1) (by rw [← HAL.o];omega)]
           ·by_cases e2:t < s
            ·rw [if_pos e2,if_pos (by omega)]
            ·rw [if_neg e2,if_neg (by omega)]),PT.o.ext hxa,OwN.ext' OWj.o hxa,FRj.o⟩
         case measure=>simp [intOf];omega
       ·obtain rfl:s=m.states.length:=by omega
        have q6:¬ (m.states.length:Int) < (m.states.length:Int):=by omega
        go_wp2_with fail;go_roundw
        case rel=>
         refine ⟨a+1,vt,_,by omega,by go_num,XJ.o,A0j.o,A1j.o,A2j.o,VT.o,RT.o.congr (fun t ht=>by rw [if_pos (by rw [← VT.o];exact ht)]),polA_len m a,PT.o,fun s hs j hj hjl=>?_⟩;by_cases e:j=a
         ·subst e;exact GD.o s hs hjl
         ·exact OK.o s hs j (by omega) hjl
        case measure=>simp [intOf];omega
  ·obtain rfl:a=6:=by omega
   obtain ⟨qA0,fA0,lA0⟩:=A0.o.q3;obtain ⟨qA1,fA1,lA1⟩:=A1.o.q3;obtain ⟨qA2,fA2,lA2⟩:=A2.o.q3;go_wp2_with fail;clear qA0 fA0 lA0 qA1 fA1 lA1 qA2 fA2 lA2;obtain ⟨wf,hwf⟩:=gN ((wk.setCell ⟨An+1,0,none⟩ (.slice (some ⟨L,0,none⟩) m.states.length m.states.length)).setCell ⟨An+1+1,0,none⟩ (.int .i64 0));have hk1:=keeps_setC A1.o 0 (.slice (some ⟨L,0,none⟩) m.states.length m.states.length);have hk2:=keeps_setC (A2.o.setOther (a:=⟨An+1,0,none⟩) (by dsimp only;omega) (.slice (some ⟨L,0,none⟩) m.states.length m.states.length)) 0 (.int .i64 0);have b1:Blk wf (An+1) #[(.slice (some ⟨L,0,none⟩) m.states.length m.states.length)] 36:=by rw [hwf];exact (A1.o.set 0 (.slice (some ⟨L,0,none⟩) m.states.length m.states.length)).keeps hk2 (by decide)
   have b2:Blk wf (An+1+1) #[.int .i64 0] 37:=by rw [hwf];exact (A2.o.keeps hk1 (by decide)).set 0 (.int .i64 0)
   have br:RowsAt w.heap.size wf L vs (fun t=>(rowS m vals (m.states.getD t [])).take 6):=by rw [hwf];exact (RA.o.keeps hk1 (by decide) (by decide) (by decide)).keeps hk2 (by decide) (by decide) (by decide)
   have bx:Ext w wf:=by rw [hwf];exact Below.setCell (Below.setCell X.o (by dsimp only;omega) _) (by dsimp only;omega) _
   rw [← hwf];clear hwf;exact END.o _ wf ⟨rfl,rfl⟩ bx b1 b2 br (fun t ht=>(HSV.o t ht).2)
end Go.Proofs.YtfflknbeidihoaaGreat
