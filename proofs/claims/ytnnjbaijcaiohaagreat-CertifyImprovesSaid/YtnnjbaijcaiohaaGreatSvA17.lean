/- Walks and lemmas. -/
import Derived.Test.YtnnjbaijcaiohaaGreatSvA16
import Derived.Test.YtnnjbaijcaiohaaGreatSvA11
import Derived.Test.YtnnjbaijcaiohaaGreatSvA13
import Derived.Test.YtnnjbaijcaiohaaGreatSvA10
import Derived.Test.YtnnjbaijcaiohaaGreatSvA9
import Derived.Test.YtnnjbaijcaiohaaGreatSvA7
import Derived.RangeFuncLeaves
import Derived.RangeFuncIn
import Derived.Test.YtnnjbaijcaiohaaGreatSvA14
import Derived.Sort.LoopGhostIn
import Derived.Test.YtnnjbaijcaiohaaGreatSvA3
import Derived.Laws.MakeOwn
import Derived.OwnWalkIn
set_option linter.unusedVariables false
set_option linter.unusedSimpArgs false
set_option maxRecDepth 100000
set_option maxHeartbeats 16000000
namespace Go.Proofs.YtnnjbaijcaiohaaGreat
open Go.RowKit
section
theorem bO (b:Bool) (a1 a2:Option Addr) (x1 c1 x2 c2:Nat) (w:World):Calls Tryz.prog 95 #[.agg #[.bool b,.slice a1 x1 c1,.slice a2 x2 c2],.int .i64 0] w fun e w'=>e=.returned (.agg #[.bool b,.slice a1 x1 c1,.slice a2 x2 c2])∧Ext w w':=by
 have bb0:=((ag.new w #[.bool b,.slice a1 x1 c1,.slice a2 x2 c2] 25).alloc (.cells #[.bool false,.slice none 0 0,.slice none 0 0] 25));have bb1:=(ag.new (w.alloc (.cells #[.bool b,.slice a1 x1 c1,.slice a2 x2 c2] 25)) #[.bool false,.slice none 0 0,.slice none 0 0] 25);rw [World.size_alloc] at bb1;have x0:Ext w ((w.alloc (.cells #[.bool b,.slice a1 x1 c1,.slice a2 x2 c2] 25)).alloc (.cells #[.bool false,.slice none 0 0,.slice none 0 0] 25)):=(((Ext.refl w).alloc _).alloc _);have A0:=kI bb0;have A1:=kI bb1;have X:=kI x0;clear x0 bb0 bb1;go_enter Tryz.func95,Tryz.ntmps95
 obtain ⟨aK,fA0,aJ⟩:=A0.o.q3;obtain ⟨aY,aZ,lA1⟩:=A1.o.q3;go_wp2_with fail;refine bodyPost_ret (v:=.agg #[.bool b,.slice a1 x1 c1,.slice a2 x2 c2]) (by simp only [results,Tryz.results95];go_simp) rfl ?_;refine ⟨rfl,?_⟩;exact ((Ext.refl _).alloc _).alloc _
theorem bu (v:Value) (b:Bool) (a1 a2:Option Addr) (x1 c1 x2 c2:Nat) (hv:v=.agg #[.bool b,.slice a1 x1 c1,.slice a2 x2 c2]) {c:Int} (hc:c≠0) (w:World):Calls Tryz.prog 95 #[v,.int .i64 c] w fun e w'=>e=.panicked [bk c]∧Ext w w':=by
 subst hv;have q1:(c != 0)=true:=by simpa using hc
 have bb0:=((ag.new w #[.bool b,.slice a1 x1 c1,.slice a2 x2 c2] 25).alloc (.cells #[.bool false,.slice none 0 0,.slice none 0 0] 25));have bb1:=(ag.new (w.alloc (.cells #[.bool b,.slice a1 x1 c1,.slice a2 x2 c2] 25)) #[.bool false,.slice none 0 0,.slice none 0 0] 25);rw [World.size_alloc] at bb1;have x0:Ext w ((w.alloc (.cells #[.bool b,.slice a1 x1 c1,.slice a2 x2 c2] 25)).alloc (.cells #[.bool false,.slice none 0 0,.slice none 0 0] 25)):=(((Ext.refl w).alloc _).alloc _);have A0:=kI bb0;have A1:=kI bb1;have X:=kI x0;clear x0 bb0 bb1;go_enter Tryz.func95,Tryz.ntmps95
 obtain ⟨aK,fA0,aJ⟩:=A0.o.q3;obtain ⟨aY,aZ,lA1⟩:=A1.o.q3;go_wp2_with fail;exact aF rfl ⟨rfl,X.o⟩
theorem dg (e:Int) (w:World):Calls Tryz.prog 89 #[.nilIface,.int .i64 e] w fun en w'=>en=.returned (.int .i64 e)∧w'=w:=by
 go_enter Tryz.func89,Tryz.ntmps89
 go_wp2
 go_ret;exact ⟨rfl,rfl⟩
theorem gT (c e:Int) (w:World):Calls Tryz.prog 89 #[.iface 37 (.int .i64 c),.int .i64 e] w fun en w'=>en=.returned (.int .i64 c)∧w'=w:=by
 have hta:∀ w,(Instr.typeAssert (.iface 37 (.int .i64 c)) 20 37 true).run Tryz.prog w=.ok (.tuple #[.int .i64 c,.bool true]) w:=fun _=>by first|rfl|kernel_rfl
 go_enter Tryz.func89,Tryz.ntmps89
 go_wp2
 go_ret;exact ⟨rfl,rfl⟩
def Ui (d:RR) (An:Nat) (r:Int × Int) (j:Nat) (v:Value) (W:World):Prop:=
 match j with
 | 0=>v=.pointer (some ⟨An,0,none⟩)
 | 1=>∃ s1 s2 s3 s4,v=.agg #[.bool d.neg,.slice s1 d.num.length s2,.slice s3 d.den.length s4]∧bh W (.agg #[.bool d.neg,.slice s1 d.num.length s2,.slice s3 d.den.length s4]) d
 | 2=>∃ v',v=v'∧bh W v' (rep ((1:Int):Rat))
 | 3=>v=.tuple #[.int .i64 r.1,.int .i64 r.2]
 | 4=>v=.tuple #[.int .i64 r.1,.int .i64 r.2]
 | 5=>v=.int .i64 r.1
 | 6=>v=.int .i64 r.2
 | _=>True
theorem Gg {d:RR} {An:Nat} {r:Int × Int} {j:Nat} {v:Value} {W W':World} (h:Ui d An r j v W) (x:Ext W W'):Ui d An r j v W':=by
 match j,h with
 | 0,h=>exact h
 | 1,⟨s1,s2,s3,s4,h1,h2⟩=>exact ⟨s1,s2,s3,s4,h1,h2.ext x⟩
 | 2,⟨v9,h1,h2⟩=>exact ⟨v9,h1,h2.ext x⟩
 | 3,h=>exact h
 | 4,h=>exact h
 | 5,h=>exact h
 | 6,h=>exact h
 | _+7,_=>trivial
theorem C4 (d:RR) (h:aA d=0):cA d (rep ((1:Int):Rat))=(eu (qv d) 1,0):=by
 unfold cA cP;rw [h,show aA (rep ((1:Int):Rat))=0 by decide,jk];rfl
theorem iS (mv:Value) (m:MD) (w:World) (hm:eY w mv m) (hl:iY m) :
  Calls Tryz.prog 90 #[mv] w fun e w'=>e=.returned (.int .i64 (gG m))∧Ext w w':=by
 have hck:=fun W mv (h:eY W mv m)=>jD mv m W h hl;have HM:=kI hm;have HC:=kI hck;have HL:=kI hl;obtain ⟨m1,n1,m2,n2,m3,n3,rfl,hr,-⟩:=hm;have HD:=kI hr;clear hl hck hr;have bb0:=(ag.new w #[.bool m.ah.neg,.slice m1 m.ah.num.length n1,.slice m2 m.ah.den.length n2,.slice m3 m.states.length n3] 28);have x0:Ext w (w.alloc (.cells #[.bool m.ah.neg,.slice m1 m.ah.num.length n1,.slice m2 m.ah.den.length n2,.slice m3 m.states.length n3] 28)):=((Ext.refl w).alloc _);have A0:=kI bb0;have X:=kI x0;clear x0 bb0;replace HM:=kI (HM.o.ext X.o);replace HD:=kI (HD.o.ext X.o);go_enter Tryz.func90,Tryz.ntmps90
 obtain ⟨aK,fA0,aJ⟩:=A0.o.q3;go_wp2_with fail;refine (HC.o _ _ HM.o).mono ?_;rintro e w1 ⟨rfl,hx⟩;clear aK fA0 aJ;replace HM:=kI (HM.o.ext hx);replace HD:=kI (HD.o.ext hx);replace A0:=kI (A0.o.ext hx);replace X:=kI (X.o.trans hx);clear hx HC;by_cases h1:fs m=0
 rotate_left
 ·have E:gG m=fs m:=by unfold gG;rw [if_pos h1]
  obtain ⟨c,hc⟩:=gN (fs m);rw [← hc] at h1 E ⊢;have q1:(c != 0)=true:=by simpa using h1
  have E9:=kI E;clear h1 hc E;go_wp2_with fail;go_ret;exact ⟨by rw [E9.o] <;> rfl,X.o⟩
 have hdv:=(bF h1).1;have E:gG m=if qv m.ah=1 then 1 else 0:=by unfold gG;rw [if_neg (fun h=>h h1)]
 rw [h1];have E9:=kI E;clear E h1;have HCM:=kI (fun W va vb (h:bh W va m.ah) (k:bh W vb (rep ((1:Int):Rat)))=>fi va vb m.ah (rep ((1:Int):Rat)) W h k HL.o.1 (cU _));have HV:=kI hdv;clear hdv;go_wp2_with fail;have RE:=X;obtain ⟨wB,hwB⟩:=gN (w1);subst hwB;replace X:=kI (Ext.refl wB);refine dG 7 6 (Ui m.ah w.heap.size (cA m.ah (rep ((1:Int):Rat)))) rfl ax ax ax (fun _ _ _ _ h x=>Gg h x) (fun _ _ d _ _ h=>by cases d <;> exact h) ?_ ?_ ?_
 ·refine ⟨?_,?_,?_,?_,?_,?_,?_,trivial⟩
  ·intro a W hW hB hD K hK;have b1:=hB 1 rfl;simp only [sB] at b1;go_simp;exact hK _ _ (Ext.refl _) rfl
  ·intro a W hW hB hD K hK;obtain ⟨v12,e12,h12⟩:=aE (hD 0 _ 12 rfl rfl ax);obtain rfl:=h12;have q9:=(A0.o.ext hW).cell;have l9:=(A0.o.ext hW).lt;go_simp;exact hK _ _ (Ext.refl _) ⟨_,_,_,_,rfl,HD.o.ext hW⟩
  ·intro a W hW hB hD K hK;go_simp;refine (eV 1 W ap ap).mono ?_;rintro e w9 ⟨⟨v,rfl,nn⟩,hx⟩;exact hK _ _ hx ⟨_,rfl,nn.rd⟩
  ·intro a W hW hB hD K hK;obtain ⟨v13,e13,h13⟩:=aE (hD 1 _ 13 rfl rfl ax);obtain ⟨x91,fp,x93,fq,rfl,qT⟩:=h13;obtain ⟨v14,e14,EP⟩:=aE (hD 2 _ 14 rfl rfl ax);obtain ⟨y9,rfl,qU⟩:=EP;go_simp;refine (HCM.o W _ _ qT qU).mono ?_;rintro e w9 ⟨rfl,hx⟩;exact hK _ _ hx rfl
  ·intro a W hW hB hD K hK;obtain ⟨v15,e15,h15⟩:=aE (hD 3 _ 15 rfl rfl ax);obtain rfl:=h15;go_simp;exact hK _ _ (Ext.refl _) rfl
  ·intro a W hW hB hD K hK;obtain ⟨v11,e11,h11⟩:=aE (hD 4 _ 11 rfl rfl ax);obtain rfl:=h11;go_simp;exact hK _ _ (Ext.refl _) rfl
  ·intro a W hW hB hD K hK;obtain ⟨v11,e11,h11⟩:=aE (hD 4 _ 11 rfl rfl ax);obtain rfl:=h11;go_simp;exact hK _ _ (Ext.refl _) rfl
 ·intro a W hW hB hD;have h11:=hD 4 _ 11 rfl rfl ax;obtain ⟨v11,e11⟩:∃ x,a.tmps.getD 11 undef=x:=⟨_,rfl⟩;rw [e11] at h11;obtain rfl:=h11;exact ⟨.int .i64 (cA m.ah (rep ((1:Int):Rat))).2,fun w9=>iM e11 rfl rfl w9,rfl⟩
 intro w5 hx;simp only [cW,List.take_succ_cons,List.take_zero,List.drop_succ_cons,List.drop_zero];rintro u0 - u1 - u2 - u3 - u4 - u5 h5 u6 h6;obtain rfl:=h5;obtain rfl:=h6;simp only [Act.put,List.setIfInBounds_toArray,List.set_cons_zero,List.set_cons_succ];have X5:=kI (RE.o.trans hx);rw [C4 _ HV.o];dsimp only;by_cases h2:qv m.ah=1
 ·have E:=kI (E9.o.trans (if_pos h2));rw [h2,show eu 1 1=0 by decide];clear E9;go_wp2_with fail;go_ret;exact ⟨by rw [E.o] <;> rfl,X5.o⟩
 have E:=kI (E9.o.trans (if_neg h2));have h3:eu (qv m.ah) 1≠0:=by
  unfold eu;split <;> first|decide|(rw [if_neg h2];decide)
 obtain ⟨c,hc⟩:=gN (eu (qv m.ah) 1);rw [← hc] at h3 ⊢;have q3:(c == 0)=false:=by simpa using h3
 clear h2 hc;go_wp2_with fail;go_ret;exact ⟨by rw [E.o] <;> rfl,X5.o⟩
theorem nQ (mv pv:Value) (m:MD) (p:List Int) (w:World) (hm:eY w mv m) (hp:bj .i64 w pv p) :
  Calls Tryz.prog 91 #[mv,pv] w fun e w'=>e=.returned (.int .i64 (nP m p))∧Ext w w':=by
 have HM:=kI hm;have HP:=kI hp;obtain ⟨m1,n1,m2,n2,m3,n3,rfl,-,hs⟩:=hm;have HS:=kI hs;obtain ⟨pa,pc,rfl,hpc,hpm,-⟩:=hp.get;have hpl:p.length≤9223372036854775807:=Z
 clear hs hp hpc hpm;have bb0:=(ag.new w #[.bool m.ah.neg,.slice m1 m.ah.num.length n1,.slice m2 m.ah.den.length n2,.slice m3 m.states.length n3] 28);have x0:Ext w (w.alloc (.cells #[.bool m.ah.neg,.slice m1 m.ah.num.length n1,.slice m2 m.ah.den.length n2,.slice m3 m.states.length n3] 28)):=((Ext.refl w).alloc _);have A0:=kI bb0;have X:=kI x0;clear x0 bb0;replace HS:=kI (HS.o.ext X.o);replace HP:=kI (HP.o.ext X.o);go_enter Tryz.func91,Tryz.ntmps91
 by_cases h1:p.length=m.states.length
 rotate_left
 ·have E:nP m p=16:=by unfold nP;rw [if_pos h1]
  have E9:=kI E;have q1:((p.length:Int) != (m.states.length:Int))=true:=bne_iff_ne.2 Z;clear h1 E;obtain ⟨aK,fA0,aJ⟩:=A0.o.q3;go_wp2_with fail;go_ret;exact ⟨by rw [E9.o] <;> rfl,X.o⟩
 have H1:=kI h1;have E:nP m p=bG (jC m p) p.length:=by unfold nP;rw [if_neg (fun h=>h h1)]
 have E9:=kI E;have q1:((p.length:Int) != (m.states.length:Int))=false:=by simp [h1]
 clear h1 E;obtain ⟨aK,fA0,aJ⟩:=A0.o.q3;go_wp2_with fail;clear aK fA0 aJ;clear q1;obtain ⟨w1,hw1⟩:=gN ((w.alloc (.cells #[.bool m.ah.neg,.slice m1 m.ah.num.length n1,.slice m2 m.ah.den.length n2,.slice m3 m.states.length n3] 28)));rw [← hw1] at HS HP A0 X ⊢;clear hw1;go_loopw [15] (fun i wr=>∃ u:Nat,u≤p.length∧i=.int .i64 u∧(∀ t,t < u→jC m p t=0)∧Ext w1 wr) (fun i _=>p.length - (intOf i).toNat)
 case atStart=>exact ⟨0,Nat.zero_le _,rfl,fun t h=>by omega,Ext.refl _⟩
 case round=>
  obtain ⟨wk,hwk⟩:=gN (wr);subst hwk;obtain ⟨u,hu,rfl,hpo,hxk⟩:=hrel;have PO:=kI hpo;have XK:=kI hxk;have AK:=kI (A0.o.ext hxk);clear hpo hxk;by_cases Uj:u < p.length
  ·obtain ⟨xb,xo,rfl,t0,t1⟩:=yY (HP.o.ext XK.o) Uj;obtain ⟨pk,hpk⟩:=gN (p.getD u 0);rw [← hpk] at t1;have Po:=kI hpk;clear hpk;have hun:u < m.states.length:=by rw [← H1.o];exact Uj
   obtain ⟨sb,so,ai,ci,rfl,s0,s1,-⟩:=(HS.o.ext XK.o).at hun;obtain ⟨al,hal⟩:=gN ((m.states.getD u []).length);have Gh:=kI hal;rw [← hal] at s1;clear hal;have FAIL:Hid ((pk < 0∨(al:Int)≤pk)→bG (jC m p) p.length=8):=kI (fun h=>by
    have e:jC m p u=8:=by unfold jC;rw [← Po.o,← Gh.o,if_pos h]
    exact (dF (f:=jC m p) PO.o Mp Uj).trans e)
   have q3:(0:Int)≤(u:Int):=Z
   have q4:(u:Int) < (p.length:Int):=Z
   have q5:(u:Int) < (m.states.length:Int):=Z
   by_cases d1:pk < 0
   ·have E:=kI (E9.o.trans (FAIL.o (.inl d1)));obtain ⟨XG,XH,XM⟩:=AK.o.q3;go_wp2_with fail;go_ret;exact ⟨by rw [E.o] <;> rfl,X.o.trans XK.o⟩
   by_cases d2:(al:Int)≤pk
   ·have E:=kI (E9.o.trans (FAIL.o (.inr d2)));obtain ⟨XG,XH,XM⟩:=AK.o.q3;go_wp2_with fail;go_ret;exact ⟨by rw [E.o] <;> rfl,X.o.trans XK.o⟩
   obtain ⟨XG,XH,XM⟩:=AK.o.q3;go_wp2_with fail;go_roundw
   case rel=>
    refine ⟨u+1,by omega,by go_num,fun t ht=>?_,XK.o⟩;by_cases e:t=u
    ·subst e;unfold jC;rw [← Po.o,← Gh.o,if_neg Z]
    ·exact PO.o t Z
   case measure=>first|(simp [intOf];done)|(simp [intOf];omega)
  ·obtain rfl:u=p.length:=Z
   have q6:¬ (p.length:Int) < (p.length:Int):=Z
   have E:=kI (E9.o.trans (bH PO.o));go_wp2_with fail;go_ret;exact ⟨by rw [E.o] <;> rfl,X.o.trans XK.o⟩
section
variable {P:Program} {l:List Oper} {n:Nat} {Q:Exit→Act→World→Prop} {J:Nat→Value→World→Prop}
def sc (P:Program) (l:List Oper) (n:Nat) (Q:Exit→Act→World→Prop) (J:Nat→Value→World→Prop) (a0:Act) (w:World) (j:Nat) (o:Oper):Prop:=
 ∀ (a:Act) (W:World),Ext w W→a.defers=a0.defers→(∀ i,(fills (l.take n)).contains i=false→a.tmps.getD i undef=a0.tmps.getD i undef)→
  (∀ (e:Nat) (oe:Oper) (d:Tmp),l[e]?=some oe→oe.dst=some d→((waits o).contains e && decide (e < n))=true→J e (a.tmps.getD d undef) W)→
  ∀ K:Act→World→Prop,(∀ v W',Ext W W'→J j v W'→K (a.put o.dst v) W')→if Region.wanted o (yielded l.toArray a.tmps)=true then Oper.wp P o a W K Q else K (a.put o.dst undef) W
def dJ (P:Program) (l:List Oper) (n:Nat) (Q:Exit→Act→World→Prop) (J:Nat→Value→World→Prop) (a0:Act) (w:World):Nat→List Oper→Prop
 | _,[]=>True
 | k,o :: r=>sc P l n Q J a0 w k o∧dJ P l n Q J a0 w (k+1) r
theorem dJ.get {a0:Act} {w:World}:∀ (r:List Oper) (k:Nat),dJ P l n Q J a0 w k r→∀ (j:Nat) (o:Oper),r[j]?=some o→sc P l n Q J a0 w (k+j) o
 | [],_,_,_,_,h=>by simp at h
 | o :: r,k,h,0,o',hj=>by
  simp only [List.getElem?_cons_zero,Option.some.injEq] at hj;subst hj;exact h.1
 | o :: r,k,h,j+1,o',hj=>by
  have:=dJ.get r (k+1) h.2 j o' Bu;rwa [show k+(j+1)=k+1+j by omega]
theorem nR {a0:Act} {w:World} {g:Nat} (hn:n≤l.length) (hB:fI 0 (l.take n) []=true) (hR:∀ d ∈ fills (l.take n),d < a0.tmps.size) (hJ:∀ j v W W',J j v W→Ext W W'→J j v W') (hS:dJ P l n Q J a0 w 0 (l.take n))
  (pA:∀ listed,HeadInv .any l.toArray n listed→∀ i,i < n→listed.getD i true=false→∀ j ∈ Region.ready .any l.toArray listed,j < n)
  (hfin:∀ listed a W,bW l n J a0 w listed a W→(∀ j,j < n→listed.getD j false=true)→wpAny P .any l.toArray Q g listed a W):∀ (k:Nat) (listed:Array Bool) (a:Act) (W:World),(still n listed).length=k→bW l n J a0 w listed a W→wpAny P .any l.toArray Q (k+g) listed a W:=by
 intro k;induction k with
 | zero=>
  intro listed a W hf inv;rw [Nat.zero_add];refine hfin listed a W inv (dD hn hB Bm fun j hj hm=>?_);have h1:=(mem_ready.1 hm).1;have h3:j ∈ still n listed:=List.mem_filter.2 ⟨List.mem_range.2 hj,by rw [h1];rfl⟩;rw [List.length_eq_zero_iff.1 hf] at h3;cases h3
 | succ k ih=>
  intro listed a W hf inv;rw [show k+1+g=(k+g)+1 by omega];obtain ⟨i,hi,hiu⟩:∃ i,i < n∧listed.getD i true=false:=by
   have hne:still n listed≠[]:=fun e=>by rw [e] at hf;cases hf
   obtain ⟨i,hi⟩:=List.exists_mem_of_ne_nil _ hne;obtain ⟨h1,h2⟩:=List.mem_filter.1 hi;exact ⟨i,List.mem_range.1 h1,by simpa using h2⟩
  refine ⟨fun hr=>?_,fun j hj=>?_⟩
  ·exfalso
   have:=dD hn hB Bm (fun j _ hm=>by rw [hr] at hm;cases hm) i hi;rw [getD_both hiu] at this;cases this
  ·have hjn:=pA listed inv.head i hi hiu j hj;obtain ⟨h1,o,h2,h3⟩:=mem_ready.1 hj;have h2':l[j]?=some o:=by simpa using h2
   have hst:=dJ.get (l.take n) 0 hS j o Nd;rw [Nat.zero_add] at hst;refine wpOp_step h2 fun K' hK=>hst a W inv.ext inv.defers inv.base (fun e oe d he hd hwt=>?_) K' fun v W' hx hv=>hK _ _ (ih _ _ _ ?_ (inv.step hB hR hJ hjn h2' hj hx hv))
   ·simp only [Bool.and_eq_true,decide_eq_true_eq] at hwt;obtain ⟨eg,k1,k2,k3⟩:=jr Ng;exact inv.done e oe d Nc hd QY
   ·have:=iq hjn Mg h1;omega
theorem fD {id:Nat} {a0:Act} {w:World} (J:Nat→Value→World→Prop) (hm:P.follows .mixedOrders=true) (hB:fI 0 l []=true) (hR0:(fills l).all (fun d=>decide (d < a0.tmps.size))=true) (hJ:∀ j v W W',J j v W→Ext W W'→J j v W')
  (hS:dJ P l l.length Q J a0 w 0 l) (hend:∀ W,Ext w W→cW J W (fun a=>Q .normal a W) 0 l a0):(Code.region id l.toArray true).wp P Q a0 w:=by
 have hR:∀ d ∈ fills l,d < a0.tmps.size:=fun d hd=>by simpa using List.all_eq_true.1 hR0 d hd
 have ht:l.take l.length=l:=List.take_length;have h:=nR (P:=P) (l:=l) (n:=l.length) (Q:=Q) (J:=J) (a0:=a0) (w:=w) (g:=0) (Nat.le_refl _) (by rw [ht];exact hB) (by rw [ht];exact hR) hJ (by rw [ht];exact hS)
  (fun listed _ _ _ _ j hj=>by obtain ⟨_,o,h2,_⟩:=mem_ready.1 hj;simpa using (Array.getElem?_eq_some_iff.1 h2).1)
  (fun listed a W inv hall=>⟨List.eq_nil_iff_forall_not_mem.2 (fun j hj=>by
   obtain ⟨h1,o,h2,_⟩:=mem_ready.1 hj;have hlt:j < l.length:=by simpa using (Array.getElem?_eq_some_iff.1 h2).1
   have h3:=hall j hlt;rw [getD_both h1] at h3;cases h3),inv.fin (G:=fun a=>Q .normal a W) (Nat.le_refl _) hall (by rw [ht];exact hend W inv.ext)⟩) l.length _ _ _ (er (Nat.le_refl _)) (bW.start a0 w)
 rw [Nat.add_zero] at h;exact wp_region_any hm kN
theorem aI {id:Nat} {a0:Act} {w:World} (n:Nat) (J:Nat→Value→World→Prop) (hm:P.follows .mixedOrders=true) (hT:fU l n=true) (hR0:(fills (l.take n)).all (fun d=>decide (d < a0.tmps.size))=true) (hJ:∀ j v W W',J j v W→Ext W W'→J j v W')
  (hS:dJ P l n Q J a0 w 0 (l.take n)) (hend:∀ W,Ext w W→cW J W (fun a=>wpList P l.toArray Q (l.drop n) a W) 0 (l.take n) a0):(Code.region id l.toArray true).wp P Q a0 w:=by
 have hR:∀ d ∈ fills (l.take n),d < a0.tmps.size:=fun d hd=>by simpa using List.all_eq_true.1 hR0 d hd
 simp only [fU,Bool.and_eq_true,decide_eq_true_eq] at hT;obtain ⟨⟨⟨⟨hn,hs⟩,hc⟩,hq⟩,hB⟩:=hT;have h:=nR (P:=P) (l:=l) (n:=n) (Q:=Q) (J:=J) (a0:=a0) (w:=w) (g:=l.length - n) Z hB hR hJ hS
  (fun listed hi i hin hun j hj=>Nat.lt_of_not_le fun hge=>tail_waits hs hc (by simpa using hn) hi _ i rfl hin hun j hge hj)
  (fun listed a W inv hall=>by
   have he:=gP (l:=l) Z Bm hall (fun t h1 h2=>inv.head.tail t h1 yB);subst he;have:=wpAny_of_seq (md:=.any) (Q':=Q) (l.drop n) n (dE n l.length) a W (fun j=>by simp [List.getElem?_drop]) QX (inv.fin (G:=fun a=>wpList P l.toArray Q (l.drop n) a W) Z hall (hend W inv.ext));rwa [List.length_drop] at this) n _ _ _ (er Z) (bW.start a0 w)
 rw [show n+(l.length - n)=l.toArray.size by simp;omega] at h;exact wp_region_any hm h
end
end
section
def Pq (m:MD) (p:List Int):Int:=if p.length≠m.states.length then 16 else bG (jC m p) p.length
theorem Gi {m:MD} {p:List Int} (h:Pq m p=0):p.length=m.states.length∧∀ u,u < m.states.length→0≤p.getD u 0∧p.getD u 0 < ((m.states.getD u []).length:Int):=by
 unfold Pq at h;by_cases h1:p.length=m.states.length
 ·rw [if_neg Ib] at h;refine ⟨h1,fun u hu=>?_⟩;have:=bK h u Z;unfold jC at this;by_cases h2:p.getD u 0 < 0∨((m.states.getD u []).length:Int)≤p.getD u 0
  ·rw [if_pos h2] at this;cases this
  ·omega
 ·rw [if_pos h1] at h;cases h
section
variable {F:Fence} {n:Nat} {P:Program} {ops:Array Oper} {Q:Exit→Act→World→Prop} {md:Region.Mode} {T:Array Bool→World→Prop}
theorem YieldsIf.zo {S:World→Prop} (hF:iG F) {i:Nat} {o:Oper} {v:Value} {a:Act} (hd:∀ c,o.op≠.defer c) (hi:ops[i]?=some o) (hy:YieldsIf P ops S o v a)
  {K:Act→World→Prop} {w:World} (hS:S w) (h:K (a.put o.dst v) w):wpOpIn F n P ops Q i K a w:=by
 unfold Go.wpOpIn;simp only [hi];rcases hy with ⟨hw,hv⟩|⟨hw,rfl⟩
 ·simp only [hw,if_true,Oper.wpIn,gm _ _ _ hd,hv w hS,Oper.uponIn];exact ⟨fun f _=>hF.fn f,h⟩
 ·simp only [hw,Bool.false_eq_true,if_false];exact ⟨fun f _=>hF.fn f,h⟩
theorem vC {F:Fence} {S:World→Prop} (hF:iG F) {ops:Array Oper} {Q:Exit→Act→World→Prop} {j:Nat} {oi oj:Oper} {v:Value} (hdj:∀ c,oj.op≠.defer c) (hj:ops[j]?=some oj) (hap:oi.apart ops oj=true)
  (hsi:∀ cs b,oi.op≠.select cs b) (hsj:∀ cs b,oj.op≠.select cs b)
  (hQ:∀ c a w,Q (.panic c) (a.put oi.dst v) w→Q (.panic c) a w) {K:Act→World→Prop} {a:Act} {w:World}
  (hy:YieldsIf P ops S oi v a) (h:wpOpIn F n P ops Q j K (a.put oi.dst v) w) :
  wpOpIn F n P ops Q j (fun a' w'=>YieldsIf P ops S oi v a'∧K (a'.put oi.dst v) w') a w:=by
 obtain ⟨h1,h2,h3⟩:=Oper.apart_spec hap;have keep:∀ (a:Act),YieldsIf P ops S oi v a→∀ u,YieldsIf P ops S oi v (a.put oj.dst u):=fun a hy u=>
  hy.of_same (execOp_put oi hsi a oj.dst u h3) (wanted_put oi a oj.dst u h3)
 have keepD:∀ d,YieldsIf P ops S oi v { a with defers:=d :: a.defers }:=fun d=>hy.of_same rfl rfl;unfold wpOpIn at *;simp only [hj] at *;rw [wanted_put oj a oi.dst v h1] at h;split
 ·rename_i hw;simp only [hw,if_true] at h;refine ⟨fun f _=>hF.fn f,?_⟩;have h:=h.2;rw [gm _ _ _ hdj,execOp_put oj hsj a oi.dst v h1] at h;rw [gm _ _ _ hdj];generalize (execOp a.eval oj).run P w=r at *
  cases r with
  | ok x w'=>
   cases x <;> simp only [Oper.uponIn] at h ⊢
   case value u=>exact ⟨keep a hy u,by rw [← Act.put_comm a v u h2];exact h⟩
   case skip=>exact ⟨keep a hy _,by rw [← Act.put_comm a v undef h2];exact h⟩
   case defer d=>
    refine ⟨keep _ (keepD d) _,?_⟩;rw [← Act.put_comm _ v undef h2,← Act.put_defers];exact h
   case enter f args=>
    refine ⟨h.1,CallsIn.mono h.2 fun e w'' he=>?_⟩;cases e with
    | returned u=>exact ⟨keep a hy u,by rw [← Act.put_comm a v u h2];exact he⟩
    | panicked c=>exact hQ _ _ _ he
    | outgrown=>exact he
   case row row args=>exact ⟨h.1,RowsIn.mono h.2 fun u w'' he=>⟨keep a hy u,by rw [← Act.put_comm a v u h2];exact he⟩⟩
   case round l f tmps assign body=>
    refine ⟨h.1,RoundIn.mono h.2 fun e w'' he=>?_⟩;cases e with
    | returned u=>exact ⟨keep a hy u,by rw [← Act.put_comm a v u h2];exact he⟩
    | panicked c=>exact hQ _ _ _ he
    | outgrown=>exact he
  | halt x w'=>
   cases x <;> simp only [Oper.uponIn] at h ⊢
   case panic u=>exact hQ _ _ _ h
 ·rename_i hw;simp only [hw] at h;exact ⟨fun f _=>hF.fn f,keep a hy _,by rw [← Act.put_comm a v undef h2];exact h.2⟩
def cg (F:Fence) (n:Nat) (P:Program) (md:Region.Mode) (ops:Array Oper) (Q:Exit→Act→World→Prop) (T:Array Bool→World→Prop):Nat→Array Bool→Act→World→Prop
 | 0,listed,a,w=>Region.ready md ops listed=[]∧Q .normal a w
 | fuel+1,listed,a,w=>
  (Region.ready md ops listed=[]→Q .normal a w)∧
  ∀ i ∈ Region.ready md ops listed,wpOpIn F n P ops Q i (fun a' w'=>T (listed.setIfInBounds i true) w'∧cg F n P md ops Q T fuel (listed.setIfInBounds i true) a' w') a w
theorem nS:∀ (fuel:Nat) (listed:Array Bool) (a:Act) (w:World),cg F n P md ops Q T fuel listed a w→wpAnyIn F n P md ops Q fuel listed a w
 | 0,_,_,_,h=>h
 | fuel+1,_,_,_,h=>⟨h.1,fun i hi=>wpOpIn_mono (fun a' w' h'=>nS fuel _ a' w' h'.2) (h.2 i hi)⟩
theorem kU (hF:iG F) (hd:∀ (j:Nat) (o:Oper),ops[j]?=some o→∀ c,o.op≠.defer c) {S:World→Prop} {C:Array Bool→Prop} {i:Nat} {oi:Oper} {v:Value} (hi:ops[i]?=some oi) (hsel:∀ (j:Nat) (o:Oper) cs b,ops[j]?=some o→o.op≠.select cs b)
  (hQ:∀ c a w,Q (.panic c) (a.put oi.dst v) w→Q (.panic c) a w)
  (hC:∀ l j oj,ops[j]?=some oj→(∀ e ∈ oj.after,Region.binds md e=true→e.on≠i)→C l→C (l.setIfInBounds j true)) (hS:∀ l w,C l→T l w→S w) (hT:∀ l w,T (l.setIfInBounds i true) w↔T l w) :
  ∀ (fuel:Nat) (listed:Array Bool) (a:Act) (w:World),
   (∀ j oj,ops[j]?=some oj→j≠i→listed.getD j true=false→(∀ e ∈ oj.after,Region.binds md e=true→e.on≠i)→oi.apart ops oj=true)→
   i ∈ Region.ready md ops listed→YieldsIf P ops S oi v a→C listed→T listed w→
   cg F n P md ops Q T fuel (listed.setIfInBounds i true) (a.put oi.dst v) w→cg F n P md ops Q T (fuel+1) listed a w:=by
 intro fuel;induction fuel with
 | zero=>
  intro listed a w _ hr hy hc ht H;refine ⟨fun h=>Ml,fun j hj=>?_⟩;by_cases hji:j=i
  ·subst hji;exact YieldsIf.zo hF (hd _ _ hi) hi hy (hS _ _ hc ht) ⟨(hT _ _).2 ht,H⟩
  ·have:=ready_mono hj hji;rw [H.1] at this;cases this
 | succ fuel ih=>
  intro listed a w hfree hr hy hc ht H;refine ⟨fun h=>Ml,fun j hj=>?_⟩;by_cases hji:j=i
  ·subst hji;exact YieldsIf.zo hF (hd _ _ hi) hi hy (hS _ _ hc ht) ⟨(hT _ _).2 ht,H⟩
  ·have h1:=H.2 j (ready_mono hj hji);obtain ⟨hjun,oj,hoj,hall⟩:=mem_ready.1 hj;have hnot:∀ e ∈ oj.after,Region.binds md e=true→e.on≠i:=fun e he hb heq=>by
    have h1:=hall e he hb;have h0:=(mem_ready.1 hr).1;rw [heq] at h1;rcases Nat.lt_or_ge i listed.size with h'|h'
    ·simp [h'] at h0 h1;rw [h0] at h1;cases h1
    ·simp [Array.getElem?_eq_none h'] at h1
   have h2:=vC hF (hd j oj hoj) hoj (hfree j oj hoj hji hjun hnot) (fun cs b=>hsel i oi cs b hi) (fun cs b=>hsel j oj cs b hoj) hQ hy h1;have hfree':∀ k ok,ops[k]?=some ok→k≠i→(listed.setIfInBounds j true).getD k true=false→
     (∀ e ∈ ok.after,Region.binds md e=true→e.on≠i)→oi.apart ops ok=true:=fun k ok hk hki hun hno=>by
    refine hfree k ok hk hki ?_ hno;by_cases hjk:j=k
    ·subst hjk;exact hjun
    ·rw [getD_set_ne true hjk] at hun;exact hun
   refine wpOpIn_mono (fun a' w' h3=>?_) h2;have h4:T (listed.setIfInBounds j true) w':=by
    have:=h3.2.1;rw [Array.setIfInBounds_comm _ _ (Ne.symm hji)] at this;exact (hT _ _).1 this
   refine ⟨h4,ih (listed.setIfInBounds j true) a' w' hfree' (ready_mono hr (Ne.symm hji)) h3.1 (hC _ j oj hoj hnot hc) h4 ?_⟩;rw [Array.setIfInBounds_comm _ _ hji];exact h3.2.2
theorem qV (hF:iG F) (hdf:zS ops.toList=true) {S1 S2:World→Prop} {m1 m2:Nat} {i:Nat} {oi om:Oper} {v:Value} {fuel:Nat} {listed:Array Bool} {a:Act} {w:World} (hi:ops[i]?=some oi) (hm:ops[m1]?=some om) (hw:om.after.any (fun e=>Region.binds md e && e.on == i)=true)
  (h1:i≠m1) (h2:i≠m2) (hs:Region.noSelect ops=true) (hf:Region.free md ops listed i=true) (hr:(Region.ready md ops listed).contains i=true)
  (hQ:∀ c a w,Q (.panic c) (a.put oi.dst v) w→Q (.panic c) a w) (hy:YieldsIf P ops S1 oi v a) (hc:listed.getD m1 false=false) (ht:T2 m1 m2 S1 S2 listed w)
  (h:cg F n P md ops Q (T2 m1 m2 S1 S2) fuel (listed.setIfInBounds i true) (a.put oi.dst v) w):cg F n P md ops Q (T2 m1 m2 S1 S2) (fuel+1) listed a w:=
 kU hF (fun j o ho=>mT hdf j o (by simpa using ho)) (S:=S1) (C:=fun l=>l.getD m1 false=false) hi (Region.noSelect_spec hs) hQ (fun l j oj hj hn hc=>(fX (tp hm hw hj hn)).trans hc) (fun l w hc ht=>ht.1 hc) (T2.set h1 h2) fuel listed a w (Region.free_spec hi hf) Q6 hy hc ht h
theorem qW (hF:iG F) (hdf:zS ops.toList=true) {S1 S2:World→Prop} {m1 m2:Nat} {i:Nat} {oi om:Oper} {v:Value} {fuel:Nat} {listed:Array Bool} {a:Act} {w:World} (hi:ops[i]?=some oi) (hm:ops[m2]?=some om) (hw:om.after.any (fun e=>Region.binds md e && e.on == i)=true)
  (h1:i≠m1) (h2:i≠m2) (hs:Region.noSelect ops=true) (hf:Region.free md ops listed i=true) (hr:(Region.ready md ops listed).contains i=true)
  (hQ:∀ c a w,Q (.panic c) (a.put oi.dst v) w→Q (.panic c) a w) (hy:YieldsIf P ops S2 oi v a) (hc:listed.getD m2 false=false) (ht:T2 m1 m2 S1 S2 listed w)
  (h:cg F n P md ops Q (T2 m1 m2 S1 S2) fuel (listed.setIfInBounds i true) (a.put oi.dst v) w):cg F n P md ops Q (T2 m1 m2 S1 S2) (fuel+1) listed a w:=
 kU hF (fun j o ho=>mT hdf j o (by simpa using ho)) (S:=S2) (C:=fun l=>l.getD m2 false=false) hi (Region.noSelect_spec hs) hQ (fun l j oj hj hn hc=>(fX (tp hm hw hj hn)).trans hc) (fun l w hc ht=>ht.2 hc) (T2.set h1 h2) fuel listed a w (Region.free_spec hi hf) Q6 hy hc ht h
theorem XN (i:Nat) {P:Program} {md:Region.Mode} {ops:Array Oper} {Q:Exit→Act→World→Prop} {oi:Oper} {v:Value} {fuel:Nat} {l:Array Bool} {a:Act} {w:World} {R:Prop} {F:Fence} {n:Nat} {m1 m2:Nat} {S1 S2:World→Prop} {om:Oper} (r:R) (hF:iG F:=by exact Or.inr ⟨_,rfl⟩) (hdf:zS ops.toList=true:=by kernel_rfl) (hi:ops[i]?=some oi:=by rfl) (hm:ops[m2]?=some om:=by rfl) (hw:om.after.any (fun e=>Region.binds md e && e.on == i)=true:=by kernel_rfl) (h1:i≠m1:=by decide) (h2:i≠m2:=by decide) (hs:Region.noSelect ops=true:=by kernel_rfl) (hf:Region.free md ops l i=true:=by kernel_rfl) (hr:(Region.ready md ops l).contains i=true:=by kernel_rfl) (hy:YieldsIf P ops S2 oi v a:=by refine Or.inl ⟨by rfl,?_⟩;intro w hSw;(try dsimp only at hSw);go_simp;first|done|with_reducible rfl) (hc:l.getD m2 false=false:=by kernel_rfl) (hT:T2 m1 m2 S1 S2 l w:=by exact ht _) (k:R→cg F n P md ops (Qn Q) (T2 m1 m2 S1 S2) fuel (l.setIfInBounds i true) (a.put oi.dst v) w:=by intro k;(try simp only [sP]);exact k):cg F n P md ops (Qn Q) (T2 m1 m2 S1 S2) (fuel+1) l a w:=qW hF hdf hi hm hw h1 h2 hs hf hr Qn.Rw hy hc hT (k r)
theorem XP (i:Nat) {P:Program} {md:Region.Mode} {ops:Array Oper} {Q:Exit→Act→World→Prop} {oi:Oper} {v:Value} {fuel:Nat} {l:Array Bool} {a:Act} {w:World} {R:Prop} {F:Fence} {n:Nat} {m1 m2:Nat} {S1 S2:World→Prop} {om:Oper} (r:R) (hF:iG F:=by exact Or.inr ⟨_,rfl⟩) (hdf:zS ops.toList=true:=by kernel_rfl) (hi:ops[i]?=some oi:=by rfl) (hm:ops[m1]?=some om:=by rfl) (hw:om.after.any (fun e=>Region.binds md e && e.on == i)=true:=by kernel_rfl) (h1:i≠m1:=by decide) (h2:i≠m2:=by decide) (hs:Region.noSelect ops=true:=by kernel_rfl) (hf:Region.free md ops l i=true:=by kernel_rfl) (hr:(Region.ready md ops l).contains i=true:=by kernel_rfl) (hy:YieldsIf P ops S1 oi v a:=by refine Or.inl ⟨by rfl,?_⟩;intro w hSw;(try dsimp only at hSw);go_simp;first|done|with_reducible rfl) (hc:l.getD m1 false=false:=by kernel_rfl) (hT:T2 m1 m2 S1 S2 l w:=by exact ht _) (k:R→cg F n P md ops (Qn Q) (T2 m1 m2 S1 S2) fuel (l.setIfInBounds i true) (a.put oi.dst v) w:=by intro k;(try simp only [sP]);exact k):cg F n P md ops (Qn Q) (T2 m1 m2 S1 S2) (fuel+1) l a w:=qV hF hdf hi hm hw h1 h2 hs hf hr Qn.Rw hy hc hT (k r)
def bC (F:Fence) (n:Nat) (P:Program) (md:Region.Mode) (ops:Array Oper) (Q:Exit→Act→World→Prop) (T:Array Bool→World→Prop) (fuel:Nat) (listed:Array Bool) (a:Act) (w:World) (rs:List Nat):Prop:=
 ∀ i ∈ rs,wpOpIn F n P ops Q i (fun a' w'=>T (listed.setIfInBounds i true) w'∧cg F n P md ops Q T fuel (listed.setIfInBounds i true) a' w') a w
theorem bC.nil {fuel:Nat} {listed:Array Bool} {a:Act} {w:World}:bC F n P md ops Q T fuel listed a w []:=fun _ h=>by cases h
theorem bC.cons {fuel:Nat} {listed:Array Bool} {a:Act} {w:World} {i:Nat} {o:Oper} {rs:List Nat} (ho:ops[i]?=some o)
  (h:∀ K':Act→World→Prop,Shut (∀ a w,T (listed.setIfInBounds i true) w→cg F n P md ops Q T fuel (listed.setIfInBounds i true) a w→K' a w)→if Region.wanted o (yielded ops a.tmps)=true then Oper.wpIn F n P o a w K' Q else (∀ f,o.about P w a.eval=some f→F.fn f)∧K' (a.put o.dst undef) w)
  (hs:bC F n P md ops Q T fuel listed a w rs):bC F n P md ops Q T fuel listed a w (i :: rs):=fun j hj=>by
 rcases List.mem_cons.1 hj with rfl|hj
 ·exact wpOpIn_step ho (fun K' hK=>h K' (fun a w hS hW=>hK a w ⟨hS,hW⟩))
 ·exact hs j hj
theorem yc {F:Fence} {n:Nat} {P:Program} {md:Region.Mode} {ops:Array Oper} {Q:Exit→Act→World→Prop} {T:Array Bool→World→Prop} {fuel:Nat} {l:Array Bool} {a:Act} {w:World} {i:Nat} {o:Oper} (h:∀ K:Act→World→Prop,Shut (∀ a w,T (l.setIfInBounds i true) w→cg F n P md ops Q T fuel (l.setIfInBounds i true) a w→K a w)→if Region.wanted o (yielded ops a.tmps)=true then Oper.wpIn F n P o a w K Q else (∀ f,o.about P w a.eval=some f→F.fn f)∧K (a.put o.dst undef) w) (ho:ops[i]?=some o:=by rfl):bC F n P md ops Q T fuel l a w [i]:=bC.cons ho h bC.nil
theorem qX {rs:List Nat} {fuel:Nat} {listed:Array Bool} {a:Act} {w:World} (hr:Region.ready md ops listed=rs) (hne:rs≠[])
  (h:bC F n P md ops Q T fuel listed a w rs):cg F n P md ops Q T (fuel+1) listed a w:=⟨fun h0=>absurd (hr ▸ h0) hne,hr ▸ h⟩
theorem yr (rs:List Nat) {P:Program} {md:Region.Mode} {ops:Array Oper} {Q:Exit→Act→World→Prop} {T:Array Bool→World→Prop} {fuel:Nat} {l:Array Bool} {a:Act} {w:World} {F:Fence} {n:Nat} (h:bC F n P md ops Q T fuel l a w rs) (hr:Region.ready md ops l=rs:=by kernel_rfl) (hn:rs≠[]:=by simp):cg F n P md ops Q T (fuel+1) l a w:=qX hr hn h
theorem tF {listed:Array Bool} {a:Act} {w:World} (hr:Region.ready md ops listed=[]) (h:Q .normal a w) :
  ∀ fuel,cg F n P md ops Q T fuel listed a w
 | 0=>⟨hr,h⟩
 | _+1=>⟨fun _=>h,by rw [hr];simp⟩
theorem qZ {id:Nat} {a:Act} {w:World} (hm:P.follows .mixedOrders=true) (h:cg F n P .any ops Q T ops.size (Array.replicate ops.size false) a w.drew):(Code.region id ops true).wpIn F n P Q a w:=
 wpIn_region_any hm (nS _ _ _ _ h)
theorem pW {id:Nat} {a:Act} {w:World} (hm:P.follows .mixedOrders=true) (h:cg F n P .any ops (Qn Q) T ops.size (Array.replicate ops.size false) a w.drew):(Code.region id ops true).wpIn F n P Q a w:=
 wpIn_mono (qZ hm h) (fun e a w h=>by obtain ⟨rfl,h⟩:=h;exact h)
end
end
theorem jN {w:World} {b:Nat} {t:TypeId} (l:List Int) (n:Nat) (h:ag w b (l.map (Value.int .i64)).toArray t) (hn:l.length=n) (hs:l.length≤1000):bj .i64 w (.slice (some ⟨b,0,none⟩) n n) l:=by
 subst hn;refine ⟨some ⟨b,0,none⟩,l.length,by simp,by simp,by omega,fun i hi=>?_⟩;simp only [List.length_map] at hi;exact ⟨b,0,rfl,h.lt,by rw [h.cell];simp [hi]⟩
theorem bV.atS {B:Nat} {w:World} {v:Value} {l:List RR} (h:bV B w v l) {i:Nat} (hi:i < l.length):∃ g n cap a1 c1 a2 c2,v=.slice (some ⟨g,0,none⟩) n cap∧g < w.heap.size∧w.cell? ⟨g,i*3,none⟩=some (.bool (l.getD i zR).neg)∧w.cell? ⟨g,i*3+1,none⟩=some (.slice a1 (l.getD i zR).num.length c1)∧w.cell? ⟨g,i*3+2,none⟩=some (.slice a2 (l.getD i zR).den.length c2)∧
  bI B w [.bool (l.getD i zR).neg,.slice a1 (l.getD i zR).num.length c1,.slice a2 (l.getD i zR).den.length c2] (l.getD i zR):=by
 obtain ⟨a,cap,hv,_,_,hr⟩:=aD.wI h;have hl:l[i]?=some (l.getD i zR):=by rw [List.getD_eq_getElem?_getD,List.getElem?_eq_getElem hi];rfl
 obtain ⟨b,h',e1,hb,e2,e3,e4,hel⟩:=hr i _ hl;have JQ:=hel;obtain ⟨a1,c1,a2,c2,rfl,s1,s2⟩:=JQ;subst hv;subst e1;have x0:=e4 0 Z;have x1:=e4 1 Z;have x2:=e4 2 Z;exact ⟨b,_,_,a1,c1,a2,c2,rfl,e2,x0,x1,x2,hel⟩
theorem C5 (n:Nat):madeCells (Value.int .i64 0).cells (n*1)=((List.replicate n (0:Int)).map (Value.int .i64)).toArray:=by
 rw [Nat.mul_one];apply Array.ext
 ·simp [madeCells]
 ·intro i h1 h2;simp [madeCells,Value.cells,Nat.mod_one]
abbrev C6 (An:Nat):Deferred:={ target:=.fn (.func 70) #[.pointer (some ⟨An+1+1+1,0,none⟩),.pointer (some ⟨An+1,0,none⟩),.pointer (some ⟨An+1+1,0,none⟩)],args:=#[] }
def JZ (tmps:Array Value) (An:Nat):Prop:=tmps.getD 6 undef=.pointer (some ⟨An+1,0,none⟩)∧tmps.getD 7 undef=.pointer (some ⟨An+1+1,0,none⟩)∧tmps.getD 8 undef=.pointer (some ⟨An+1+1+1,0,none⟩)
theorem nT {tmps:Array Value} {An:Nat} (h:JZ tmps An) {W:World} {xa ya:Option Addr} {xn xc yn yc:Nat} {c:Int} {t1 t2 t3:TypeId} (b1:ag W (An+1) #[.slice xa xn xc] t1) (b2:ag W (An+1+1) #[.slice ya yn yc] t2) (b3:ag W (An+1+1+1) #[.int .i64 c] t3) :
  (results Tryz.f18 tmps).run Tryz.prog W=.ok (.tuple #[.slice xa xn xc,.slice ya yn yc,.int .i64 c]) W:=by
 obtain ⟨h6,h7,h8⟩:=h;have k1:=b1.cell 0;have k2:=b2.cell 0;have k3:=b3.cell 0;simp only [List.getElem?_toArray,List.getElem?_cons_zero] at k1 k2 k3;have l1:=b1.lt;have l2:=b2.lt;have l3:=b3.lt;simp only [Array.getD_eq_getD_getElem?] at h6 h7 h8;simp only [results,Tryz.results18];simp [h6,h7,h8,go_sem,k1,k2,k3]
theorem tG {a:Act} {d:Nat} {v:Value} (h6:d≠6) (h7:d≠7) (h8:d≠8):results Tryz.f18 (a.put (some d) v).tmps=results Tryz.f18 a.tmps:=by
 have e:∀ i,i≠d→(a.put (some d) v).tmps.getD i undef=a.tmps.getD i undef:=fun i hi=>by
  simp only [Act.put,Array.getD_eq_getD_getElem?,Array.getElem?_setIfInBounds_ne (Ne.symm hi)]
 simp only [Array.getD_eq_getD_getElem?] at e;simp [results,Tryz.results18,e 6 (Ne.symm h6),e 7 (Ne.symm h7),e 8 (Ne.symm h8)]
theorem ff {mm:MD} {vals:List RR} {k:Int} {w W:World} {An:Nat} {c e0:Int} (hc:c≠0) {tmps:Array Value} (ht:JZ tmps An) {x1 x2:Value} {t1 t2:TypeId} (b1:ag W (An+1) #[x1] t1) (b2:ag W (An+1+1) #[x2] t2) (b3:ag W (An+1+1+1) #[.int .i64 e0] 37) (hx:Ext w W) (hA:w.heap.size≤An) (he:bE mm vals k=([],[],c)) :
  LeavesInM Fence.wide 8 Tryz.prog Tryz.f18 tmps (fun e w'=>xV w w' e (bE mm vals k)∧Ext w w') [C6 An] (.panicking [bk c]) W:=by
 refine pG (f:=70) (args:=#[.pointer (some ⟨An+1+1+1,0,none⟩),.pointer (some ⟨An+1,0,none⟩),.pointer (some ⟨An+1+1,0,none⟩)]) cp ks ?_;refine (pL (An+1+1+1) (An+1) (An+1+1) c e0 hc [] W _ _ _ _ b3 b1 Z b2 Z Z).mono ?_;rintro e u' w'' ⟨rfl,rfl,rfl⟩;obtain ⟨wf,hwf⟩:=gN (((W.setCell ⟨An+1+1+1,0,none⟩ (.int .i64 c)).setCell ⟨An+1,0,none⟩ (.slice none 0 0)).setCell ⟨An+1+1,0,none⟩ (.slice none 0 0));have f1:ag wf (An+1) #[.slice none 0 0] t1:=by
  rw [hwf];exact ((b1.setOther (a:=⟨An+1+1+1,0,none⟩) au _).set 0 _).setOther (a:=⟨An+1+1,0,none⟩) au _
 have f2:ag wf (An+1+1) #[.slice none 0 0] t2:=by
  rw [hwf];exact ((b2.setOther (a:=⟨An+1+1+1,0,none⟩) au _).setOther (a:=⟨An+1,0,none⟩) au _).set 0 _
 have f3:ag wf (An+1+1+1) #[.int .i64 c] 37:=by
  rw [hwf];exact ((b3.set 0 (.int .i64 c)).setOther (a:=⟨An+1,0,none⟩) au _).setOther (a:=⟨An+1+1,0,none⟩) au _
 have cu:Ext w wf:=by
  rw [hwf];exact Below.setCell (Below.setCell (Below.setCell hx au _) au _) au _
 rw [← hwf];clear hwf;have hr:=nT ht f1.drew f2.drew f3.drew;simp only [LeavesInM,LeavesIn,settle,bk];exact ⟨_,hr,xV.mk (ck.nil _ _) (dc.nil _ _) he,cu.drew⟩
theorem rf {mm:MD} {vals:List RR} {k:Int} {w W:World} {An:Nat} {tmps:Array Value} (ht:JZ tmps An) {xa ya:Option Addr} {xn xc yn yc:Nat} {g:List (List RR)} {p:List (List Int)} (b1:ag W (An+1) #[.slice xa xn xc] 36) (b2:ag W (An+1+1) #[.slice ya yn yc] 30) (b3:ag W (An+1+1+1) #[.int .i64 0] 37) (hx:Ext w W) (hA:w.heap.size≤An)
  (ov:ck w.heap.size W (.slice xa xn xc) g) (op:dc w.heap.size W (.slice ya yn yc) p) (he:bE mm vals k=(g,p,0)) :
  LeavesInM Fence.wide 8 Tryz.prog Tryz.f18 tmps (fun e w'=>xV w w' e (bE mm vals k)∧Ext w w') [C6 An] .returning W:=by
 refine pG (f:=70) (args:=#[.pointer (some ⟨An+1+1+1,0,none⟩),.pointer (some ⟨An+1,0,none⟩),.pointer (some ⟨An+1+1,0,none⟩)]) cp ks ?_;refine (pK (An+1+1+1) (An+1) (An+1+1) W b3).mono ?_;rintro e u' w'' ⟨rfl,rfl,rfl⟩;obtain ⟨wf,hwf⟩:=gN (W.setCell ⟨An+1+1+1,0,none⟩ (.int .i64 0));have hk:Keeps 0 37 W wf:=by rw [hwf];exact bf b3 0 _
 have f1:=b1.keeps hk ap;have f2:=b2.keeps hk ap;have f3:ag wf (An+1+1+1) #[.int .i64 0] 37:=by rw [hwf];exact b3.set 0 (.int .i64 0)
 have cu:Ext w wf:=by rw [hwf];exact Below.setCell hx au _
 have ov2:=ck.ext' (ov.keeps hk ap ap ap) (Ext.refl wf).drew;have op2:=dc.ext' (op.keeps hk ap ap) (Ext.refl wf).drew;rw [← hwf];clear hwf;have hr:=nT ht f1.drew f2.drew f3.drew;simp only [LeavesInM,LeavesIn,settle];exact ⟨_,hr,xV.mk ov2 op2 he,cu.drew⟩
theorem C7 {m:MD} {v:List RR} {k:Int} {c:Int} (h:c=gJ m v) (hc:c≠0):bE m v k=([],[],c):=by unfold bE;rw [← h,if_pos hc]
theorem C8 {m:MD} {v:List RR} {k:Int} (h:gJ m v=0) (h2:k < 0∨24 < k):bE m v k=([],[],1):=by unfold bE;rw [if_neg kN,if_pos h2]
theorem C9 {m:MD} {v:List RR} {k:Int} {j:Nat} {c:Int} (h0:0≤k) (rO:k≤24) (h:gJ m v=0) (hj:j < k.toNat) (hz:∀ i,i < j→(am m (aP m v i)).2.2=0) (hc:(am m (aP m v j)).2.2=c) (hn:c≠0):bE m v k=([],[],c):=by
 have e:kv m v k.toNat=c:=(dF (f:=fun j=>(am m (aP m v j)).2.2) hz (by rw [hc];exact hn) hj).trans hc;unfold bE;rw [if_neg kN,if_neg Z,e,if_pos hn]
theorem Da {m:MD} {v:List RR} {k:Int} (h0:0≤k) (rO:k≤24) (h:gJ m v=0) (hz:∀ i,i < k.toNat→(am m (aP m v i)).2.2=0) :
  bE m v k=((List.range (k.toNat+1)).map (aP m v),(List.range k.toNat).map (fun j=>(am m (aP m v j)).2.1),0):=by
 have e:kv m v k.toNat=0:=bH hz;unfold bE;rw [if_neg kN,if_neg Z,if_neg (by simpa using e)]
theorem cC {F:Fence} {nf:Nat} {P:Program} (W:World) {o:Oper} {a:Act} {K:Act→World→Prop} {Q:Exit→Act→World→Prop} (s x:Operand) (t:TypeId)
  (ho:o.op=.call { callee:=.builtin .append,args:=#[s,x],argTypes:=#[t,t] })
  (B:Nat) (e:TypeId) (z:Value) (size bytes:Nat) (ht:P.underlying t=some (.slice e)) (hinfo:(P.info? e).map (fun i=>(i.zero,i.size,i.bytes))=some (some z,size,bytes))
  (hzs:z.cells.size=size) (hsz:0 < size) {α:Type} {El:World→List Value→α→Prop} (hEl:∀ w w' h y,El w h y→Keeps B e w w'→El w' h y) (v:Value) (l:List α) (hown:aD e size El B W v l) (hs:a.eval s=v)
  (cs:List Value) (hcs:cs.length=size) (h1c:∀ u ∈ cs,u.oneCell'=true) (y:α) (hy:El W cs y) (bn:Nat) (hbn:ag W bn cs.toArray e) (hx:a.eval x=.slice (some ⟨bn,0,none⟩) 1 1)
  (h63:l.length+1≤9223372036854775807) (hbytes:(l.length+1)*bytes≤140737488355328) (hB:B≤W.heap.size)
  (h:∀ g cap w',aD e size El B w' (.slice (some ⟨g,0,none⟩) (l.length+1) cap) (l ++ [y])→W.grownBy w' v.ownBlock→(v.ownBlock=some g∨W.heap.size≤g)→K (a.put o.dst (.slice (some ⟨g,0,none⟩) (l.length+1) cap)) w') :
  o.wpIn F nf P a W K Q:=by
 obtain ⟨i0,hi,hz0,hz1,hz2⟩:=info_parts hinfo;obtain ⟨hs0,h1,h2,h3,h4⟩:=hown;have hnews:∀ j u,cs[j]?=some u→W.cell? ((⟨bn,0,none⟩:Addr).add j)=some u:=by
  intro j u hj;have hlt:j < cs.length:=(List.getElem?_eq_some_iff.1 hj).1;have hadd:(⟨bn,0,none⟩:Addr).add j=⟨bn,j,none⟩:=by unfold Addr.add;split <;> simp_all
  rw [hadd,hbn.cell];simpa using hj
 obtain ⟨v',w',hr,hown',hgrow,hfr⟩:=iw (P:=P) W B t o.type e i0 z size bytes ht hi hz0 hz1 hz2 hzs hsz v l.length hs0.flatten h1 ⟨bn,0,none⟩ 1 cs Ni hnews h1c Nf hbytes hB;unfold Oper.wpIn;refine ⟨by simp [Oper.about,ho,resolve,Target.leads,Sem.run_pure],?_⟩;rw [Oper.semAt_plain F _ _ (by rw [ho];intro c hc';cases hc')];simp only [execOp,ho,resolve,invoke,builtin,Sem.run_bind,Sem.run_pure,Result.andThen_ok,List.map_toArray,List.map_cons,List.map_nil,hs,hx,hr];have hk:Keeps B e W w':=by
  refine ⟨⟨hgrow.os,hgrow.tape,hgrow.output,hgrow.size,fun i hi=>by omega⟩,fun i hi ho=>hgrow.block i hi ?_⟩;intro heq;rcases h1.2 with ⟨rfl,_⟩|⟨g,cap,cur,rfl,hb,hg,_⟩
  ·simp [Value.ownBlock] at heq
  ·simp [Value.ownBlock] at heq;subst heq;have hg2:ag W i cur e:=hg;rcases ho with ho|⟨c2,u,h5,h6⟩
   ·omega
   ·unfold ag at hg2 h5;rw [hg2] at h5;injection h5 with h5
    injection h5 with _ h7
    exact h6 h7.symm
 have hrow:aD e size El B w' v' (l ++ [y]):=by
  refine ⟨hs0 ++ [cs],?_,by simp [h2],?_,?_⟩
  ·rw [List.flatten_append,List.length_append];simpa using hown'
  ·intro q hq;rcases List.mem_append.1 hq with hq|hq
   ·exact h3 q hq
   ·rw [List.mem_singleton.1 hq];exact hcs
  ·intro i x0 hi0;by_cases hlt:i < l.length
   ·rw [List.getElem?_append_left hlt] at hi0;obtain ⟨q,e1,e2⟩:=h4 i x0 hi0;exact ⟨q,by rw [List.getElem?_append_left Z];exact e1,hEl _ _ _ _ e2 hk⟩
   ·have hil:i=l.length:=by
     have:=(List.getElem?_eq_some_iff.1 hi0).1;simp at this;omega
    subst hil;rw [List.getElem?_append_right (Nat.le_refl _)] at hi0;simp at hi0;subst hi0;exact ⟨cs,by rw [List.getElem?_append_right Z,h2];simp,hEl _ _ _ _ hy hk⟩
 have h5:=hown'.2;rcases h5 with ⟨_,h0⟩|⟨g,cap,cur,rfl,_⟩
 ·omega
 ·exact h g cap w' hrow hgrow (hfr g rfl)
end Go.Proofs.YtnnjbaijcaiohaaGreat
