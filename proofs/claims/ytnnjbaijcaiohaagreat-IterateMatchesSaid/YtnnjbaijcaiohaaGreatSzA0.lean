/- Walks and lemmas. -/
import Derived.Test.YtnnjbaijcaiohaaGreatProg
import Derived.WalkKit
import Derived.WalkSpells
import Derived.WalkLawsBesides
import Derived.Deep.QuietTactic
import Derived.BigQuiet
import Derived.Lib.Hide
import Derived.Deep.RegionHeld3
import Derived.Deep.RegionWith
import Derived.Deep.DeepFit
import Derived.Deep.DeepCutAuto
import Derived.StillTailTactics
import Derived.StillTail
import Derived.Deep.RegionHeld
import Derived.OrdersHeld
set_option linter.unusedVariables false
set_option linter.unusedSimpArgs false
set_option maxRecDepth 100000
set_option maxHeartbeats 16000000
namespace Go.Proofs.YtnnjbaijcaiohaaGreat
open Go.RowKit
variable {a a0:Act} {listed:Array Bool} {T:Array Bool→World→Prop} {ops:Array Oper} {ps:Array Tmp} {args tmps:Array Value} {assign body:Code} {Q:Exit→Act→World→Prop} {F:Fence} {u:FrameMode} {f:FuncId} {c s:Int} {plan:List (List Int)} {ds:List Deferred} {l l1 l2 la lb lq:List Int} {rest:List Oper} {cs h vs xs:List Value} {An B C H L N b b0 bx c1 c2 cap d1 d2 fuel g i id j jn k m1 m2 n n1 n2 nf nn off xn y:Nat} {X:Nat→Prop} {oi om:Oper} {a1 a2 a3 xa:Option Addr} {P:Program} {R p p0 p1 p10 p11 p12 p13 p2 p3 p4 p5 p6 p7 p8 p9:Prop} {md:Region.Mode} {α:Type} {e t t1 t2 t3:TypeId} {lv v vb vr z:Value} {A W W' W0 w w' w0 w2 w3 w4 wB:World} {S S1 S2:World→Prop}
section
theorem sP:(∀ (a:Act) (d:Tmp) (v:Value),a.put (some d) v={ a with tmps:=a.tmps.setIfInBounds d v })∧(∀ (a:Act) (v:Value),a.put none v=a)∧(∀ {α:Type} {l:List α} {i:Nat} (h:i < l.toArray.size),l.toArray[i]=l[i]'(by simpa using h))∧(∀ {α:Type} {x:α} {l:List α} (h:0 < (x :: l).length),(x :: l)[0]=x)∧(∀ {α:Type} {x:α} {l:List α} {i:Nat} (h:i+1 < (x :: l).length),(x :: l)[i+1]=l[i]'(Nat.lt_of_succ_lt_succ h))∧(∀ {α:Type} {l:List α} {i:Nat} {x:α},l.toArray.setIfInBounds i x=(l.set i x).toArray)∧(∀ {α:Type} {x y:α} {l:List α},(x :: l).set 0 y=y :: l)∧(∀ {α:Type} {x y:α} {l:List α} {i:Nat},(x :: l).set (i+1) y=x :: l.set i y):=
  ⟨fun _ _ _=>rfl,fun _ _=>rfl,fun _=>rfl,fun _=>rfl,fun _=>rfl,by intro α l i x;exact List.setIfInBounds_toArray ..,rfl,rfl⟩
theorem sB:(∀ {α:Type} {xs:Array α} {i:Nat} {d:α},xs.getD i d=xs[i]?.getD d)∧(∀ {α:Type} {l:List α} {i:Nat},l.toArray[i]?=l[i]?)∧(∀ {α:Type} {x:α} {l:List α} {i:Nat},(x :: l)[i+1]?=l[i]?)∧(∀ {α:Type} {x:α} {l:List α},(x :: l)[0]?=some x)∧(∀ {α:Type} {x d:α},(some x).getD d=x):=
  ⟨by intro α xs i d;exact Array.getD_eq_getD_getElem? ..,by intro α l i;exact List.getElem?_toArray ..,rfl,rfl,rfl⟩
theorem aQ {J:Nat→Value→World→Prop} {t:Nat} (h:J j (a.tmps.getD t undef) W):∃ x,a.tmps[t]?.getD undef=x∧J j x W:=⟨_,rfl,by rw [Array.getD_eq_getD_getElem?] at h;exact h⟩
theorem _root_.Go.RowKit.Hid.o (h:Go.RowKit.Hid p):p:=h.out
theorem kI (h:p):Go.RowKit.Hid p:=h
theorem tk (i:Nat) {l:Array Bool} (r:R) (hi:ops[i]?=some oi:=by rfl) (h1:Region.noSelect ops=true:=by kernel_rfl) (h2:Region.free md ops l i=true:=by kernel_rfl) (h3:(Region.ready md ops l).contains i=true:=by kernel_rfl) (hQ:∀ c a w,Q (.panic c) (a.put oi.dst v) w→Q (.panic c) a w:=by exact fun _ _ _ h=>h) (hy:YieldsIf P ops S oi v a:=by refine Or.inl ⟨by rfl,?_⟩;intro w hSw;(try dsimp only at hSw);go_simp;first|done|with_reducible rfl) (hS:S w:=by assumption) (k:R→wpAnyH P md ops Q S fuel (l.setIfInBounds i true) (a.put oi.dst v) w:=by intro k;(try simp only [sP]);exact k):wpAnyH P md ops Q S (fuel+1) l a w:=wpAnyH_take hi h1 h2 h3 hQ hy hS (k r)
theorem tu (i:Nat) {l:Array Bool} (r:R) (hi:ops[i]?=some oi:=by rfl) (h1:Region.noSelect ops=true:=by kernel_rfl) (h2:Region.free md ops l i=true:=by kernel_rfl) (h3:(Region.ready md ops l).contains i=true:=by kernel_rfl) (hQ:∀ c a w,Q (.panic c) (a.put oi.dst undef) w→Q (.panic c) a w:=by exact fun _ _ _ h=>h) (hy:YieldsIf P ops S oi undef a:=by exact Or.inr ⟨by rfl,rfl⟩) (hS:S w:=by assumption) (k:R→wpAnyH P md ops Q S fuel (l.setIfInBounds i true) (a.put oi.dst undef) w:=by intro k;(try simp only [sP]);exact k):wpAnyH P md ops Q S (fuel+1) l a w:=wpAnyH_take hi h1 h2 h3 hQ hy hS (k r)
theorem dt (rs:List Nat) {l:Array Bool} (h:AllReadyH P md ops Q S fuel l a w rs) (hr:Region.ready md ops l=rs:=by kernel_rfl) (hn:rs≠[]:=by simp):wpAnyH P md ops Q S (fuel+1) l a w:=wpAnyH_ready hr hn h
theorem rc {l:Array Bool} {o:Oper} (h:∀ K:Act→World→Prop,Shut (∀ a w,S w→(S w→wpAnyH P md ops Q S fuel (l.setIfInBounds i true) a w)→K a w)→if Region.wanted o (yielded ops a.tmps)=true then Oper.wp P o a w K Q else K (a.put o.dst undef) w) (ho:ops[i]?=some o:=by rfl):AllReadyH P md ops Q S fuel l a w [i]:=AllReadyH.cons ho h AllReadyH.nil
class Lx (e p:Prop) (q:outParam Prop):Prop where l:e→p→q
theorem _root_.Go.RowKit.Hid.x {e q:Prop} [i:Lx e p q] (a:Go.RowKit.Hid p) (h:e):Go.RowKit.Hid q:=kI (i.l h a.out)
class Lf (e P:Prop) (Q:outParam Prop):Prop where f:e→Q→P
instance (priority:=low) {e G:Prop}:Lf e G G:=⟨fun _ h=>h⟩
instance {e q P Q:Prop} [i:Lx e p q] [j:Lf e P Q]:Lf e (Go.RowKit.Hid p→P) (Go.RowKit.Hid q→Q):=⟨fun h k a=>j.f h (k (a.x h))⟩
theorem lf {e P Q:Prop} (h:e) [i:Lf e P Q] (k:Q):P:=i.f h k
instance {a b c:α}:Lx (b=c) (a=b) (a=c):=⟨fun k h=>h.trans k⟩
instance {a c:Nat}:Lx (b≤c) (a≤b) (a≤c):=⟨fun k h=>Nat.le_trans h k⟩
theorem uq2 (a0:p0) (a1:p1):Go.RowKit.Hid p0∧Go.RowKit.Hid p1:=⟨kI a0,kI a1⟩
theorem cC (a0:p0) (a1:p1) (a2:p2):Go.RowKit.Hid p0∧Go.RowKit.Hid p1∧Go.RowKit.Hid p2:=⟨kI a0,kI a1,kI a2⟩
theorem dW (a0:p0) (a1:p1) (a2:p2) (a3:p3):Go.RowKit.Hid p0∧Go.RowKit.Hid p1∧Go.RowKit.Hid p2∧Go.RowKit.Hid p3:=⟨kI a0,kI a1,kI a2,kI a3⟩
theorem iR (a0:p0) (a1:p1) (a2:p2) (a3:p3) (a4:p4):Go.RowKit.Hid p0∧Go.RowKit.Hid p1∧Go.RowKit.Hid p2∧Go.RowKit.Hid p3∧Go.RowKit.Hid p4:=⟨kI a0,kI a1,kI a2,kI a3,kI a4⟩
theorem od (a0:p0) (a1:p1) (a2:p2) (a3:p3) (a4:p4) (a5:p5):Go.RowKit.Hid p0∧Go.RowKit.Hid p1∧Go.RowKit.Hid p2∧Go.RowKit.Hid p3∧Go.RowKit.Hid p4∧Go.RowKit.Hid p5:=⟨kI a0,kI a1,kI a2,kI a3,kI a4,kI a5⟩
theorem Ba (a0:p0) (a1:p1) (a2:p2) (a3:p3) (a4:p4) (a5:p5) (a6:p6):Go.RowKit.Hid p0∧Go.RowKit.Hid p1∧Go.RowKit.Hid p2∧Go.RowKit.Hid p3∧Go.RowKit.Hid p4∧Go.RowKit.Hid p5∧Go.RowKit.Hid p6:=⟨kI a0,kI a1,kI a2,kI a3,kI a4,kI a5,kI a6⟩
theorem TD (a0:p0) (a1:p1) (a2:p2) (a3:p3) (a4:p4) (a5:p5) (a6:p6) (a7:p7):Go.RowKit.Hid p0∧Go.RowKit.Hid p1∧Go.RowKit.Hid p2∧Go.RowKit.Hid p3∧Go.RowKit.Hid p4∧Go.RowKit.Hid p5∧Go.RowKit.Hid p6∧Go.RowKit.Hid p7:=⟨kI a0,kI a1,kI a2,kI a3,kI a4,kI a5,kI a6,kI a7⟩
theorem JF (a0:p0) (a1:p1) (a2:p2) (a3:p3) (a4:p4) (a5:p5) (a6:p6) (a7:p7) (a8:p8):Go.RowKit.Hid p0∧Go.RowKit.Hid p1∧Go.RowKit.Hid p2∧Go.RowKit.Hid p3∧Go.RowKit.Hid p4∧Go.RowKit.Hid p5∧Go.RowKit.Hid p6∧Go.RowKit.Hid p7∧Go.RowKit.Hid p8:=⟨kI a0,kI a1,kI a2,kI a3,kI a4,kI a5,kI a6,kI a7,kI a8⟩
theorem Gv (a0:p0) (a1:p1) (a2:p2) (a3:p3) (a4:p4) (a5:p5) (a6:p6) (a7:p7) (a8:p8) (a9:p9):Go.RowKit.Hid p0∧Go.RowKit.Hid p1∧Go.RowKit.Hid p2∧Go.RowKit.Hid p3∧Go.RowKit.Hid p4∧Go.RowKit.Hid p5∧Go.RowKit.Hid p6∧Go.RowKit.Hid p7∧Go.RowKit.Hid p8∧Go.RowKit.Hid p9:=⟨kI a0,kI a1,kI a2,kI a3,kI a4,kI a5,kI a6,kI a7,kI a8,kI a9⟩
theorem C5 (a0:p0) (a1:p1) (a2:p2) (a3:p3) (a4:p4) (a5:p5) (a6:p6) (a7:p7) (a8:p8) (a9:p9) (a10:p10):Go.RowKit.Hid p0∧Go.RowKit.Hid p1∧Go.RowKit.Hid p2∧Go.RowKit.Hid p3∧Go.RowKit.Hid p4∧Go.RowKit.Hid p5∧Go.RowKit.Hid p6∧Go.RowKit.Hid p7∧Go.RowKit.Hid p8∧Go.RowKit.Hid p9∧Go.RowKit.Hid p10:=⟨kI a0,kI a1,kI a2,kI a3,kI a4,kI a5,kI a6,kI a7,kI a8,kI a9,kI a10⟩
theorem VF (a0:p0) (a1:p1) (a2:p2) (a3:p3) (a4:p4) (a5:p5) (a6:p6) (a7:p7) (a8:p8) (a9:p9) (a10:p10) (a11:p11) (a12:p12):Go.RowKit.Hid p0∧Go.RowKit.Hid p1∧Go.RowKit.Hid p2∧Go.RowKit.Hid p3∧Go.RowKit.Hid p4∧Go.RowKit.Hid p5∧Go.RowKit.Hid p6∧Go.RowKit.Hid p7∧Go.RowKit.Hid p8∧Go.RowKit.Hid p9∧Go.RowKit.Hid p10∧Go.RowKit.Hid p11∧Go.RowKit.Hid p12:=⟨kI a0,kI a1,kI a2,kI a3,kI a4,kI a5,kI a6,kI a7,kI a8,kI a9,kI a10,kI a11,kI a12⟩
theorem VG (a0:p0) (a1:p1) (a2:p2) (a3:p3) (a4:p4) (a5:p5) (a6:p6) (a7:p7) (a8:p8) (a9:p9) (a10:p10) (a11:p11) (a12:p12) (Ks:p13):Go.RowKit.Hid p0∧Go.RowKit.Hid p1∧Go.RowKit.Hid p2∧Go.RowKit.Hid p3∧Go.RowKit.Hid p4∧Go.RowKit.Hid p5∧Go.RowKit.Hid p6∧Go.RowKit.Hid p7∧Go.RowKit.Hid p8∧Go.RowKit.Hid p9∧Go.RowKit.Hid p10∧Go.RowKit.Hid p11∧Go.RowKit.Hid p12∧Go.RowKit.Hid p13:=⟨kI a0,kI a1,kI a2,kI a3,kI a4,kI a5,kI a6,kI a7,kI a8,kI a9,kI a10,kI a11,kI a12,kI Ks⟩
theorem VH {gZ:Prop} (a0:p0) (a1:p1) (a2:p2) (a3:p3) (a4:p4) (a5:p5) (a6:p6) (a7:p7) (a8:p8) (a9:p9) (a10:p10) (a11:p11) (a12:p12) (Ks:p13) (OG:gZ):Go.RowKit.Hid p0∧Go.RowKit.Hid p1∧Go.RowKit.Hid p2∧Go.RowKit.Hid p3∧Go.RowKit.Hid p4∧Go.RowKit.Hid p5∧Go.RowKit.Hid p6∧Go.RowKit.Hid p7∧Go.RowKit.Hid p8∧Go.RowKit.Hid p9∧Go.RowKit.Hid p10∧Go.RowKit.Hid p11∧Go.RowKit.Hid p12∧Go.RowKit.Hid p13∧Go.RowKit.Hid gZ:=⟨kI a0,kI a1,kI a2,kI a3,kI a4,kI a5,kI a6,kI a7,kI a8,kI a9,kI a10,kI a11,kI a12,kI Ks,kI OG⟩
theorem VI {gZ OH p16 OI:Prop} (a0:p0) (a1:p1) (a2:p2) (a3:p3) (a4:p4) (a5:p5) (a6:p6) (a7:p7) (a8:p8) (a9:p9) (a10:p10) (a11:p11) (a12:p12) (Ks:p13) (OG:gZ) (VK:OH) (a16:p16) (a17:OI):Go.RowKit.Hid p0∧Go.RowKit.Hid p1∧Go.RowKit.Hid p2∧Go.RowKit.Hid p3∧Go.RowKit.Hid p4∧Go.RowKit.Hid p5∧Go.RowKit.Hid p6∧Go.RowKit.Hid p7∧Go.RowKit.Hid p8∧Go.RowKit.Hid p9∧Go.RowKit.Hid p10∧Go.RowKit.Hid p11∧Go.RowKit.Hid p12∧Go.RowKit.Hid p13∧Go.RowKit.Hid gZ∧Go.RowKit.Hid OH∧Go.RowKit.Hid p16∧Go.RowKit.Hid OI:=⟨kI a0,kI a1,kI a2,kI a3,kI a4,kI a5,kI a6,kI a7,kI a8,kI a9,kI a10,kI a11,kI a12,kI Ks,kI OG,kI VK,kI a16,kI a17⟩
theorem VL {gZ OH p16 OI p18:Prop} (a0:p0) (a1:p1) (a2:p2) (a3:p3) (a4:p4) (a5:p5) (a6:p6) (a7:p7) (a8:p8) (a9:p9) (a10:p10) (a11:p11) (a12:p12) (Ks:p13) (OG:gZ) (VK:OH) (a16:p16) (a17:OI) (a18:p18):Go.RowKit.Hid p0∧Go.RowKit.Hid p1∧Go.RowKit.Hid p2∧Go.RowKit.Hid p3∧Go.RowKit.Hid p4∧Go.RowKit.Hid p5∧Go.RowKit.Hid p6∧Go.RowKit.Hid p7∧Go.RowKit.Hid p8∧Go.RowKit.Hid p9∧Go.RowKit.Hid p10∧Go.RowKit.Hid p11∧Go.RowKit.Hid p12∧Go.RowKit.Hid p13∧Go.RowKit.Hid gZ∧Go.RowKit.Hid OH∧Go.RowKit.Hid p16∧Go.RowKit.Hid OI∧Go.RowKit.Hid p18:=⟨kI a0,kI a1,kI a2,kI a3,kI a4,kI a5,kI a6,kI a7,kI a8,kI a9,kI a10,kI a11,kI a12,kI Ks,kI OG,kI VK,kI a16,kI a17,kI a18⟩
theorem zMz (h:p:=by 
 obtain ⟨yh,yj,yk⟩:=AP.o.q3;refine dt [13] ?_;refine rc (fun K hK=>?_);go_simp;(try go_wp2_with fail);refine hK.out _ _ ?_ (fun hHeld=>?_)
 ·((try dsimp only);exact ⟨EA.o.c3 JG,EB.o.c3 JG⟩)
 clear hK K;(try simp only [sP]);refine tk 14 ?_;refine wpAnyH_done ak ?_ _;clear yh yj yk;have hne:w.heap.size≠dw:=Nat.ne_of_lt oL.o;have hne1:w.heap.size+1≠dw:=Nat.ne_of_lt zL.o;have hap:=AP.o.ep (.bool (mulR x y).1.neg) (.slice m1 (mulR x y).1.num.length m2) (.slice m3 (mulR x y).1.den.length m4);have hq0:=Om.o.cW AP.o ah (.bool (mulR x y).1.neg) (.slice m1 (mulR x y).1.num.length m2) (.slice m3 (mulR x y).1.den.length m4);have hq1:=NR.o.cW AP.o ah (.bool (mulR x y).1.neg) (.slice m1 (mulR x y).1.num.length m2) (.slice m3 (mulR x y).1.den.length m4);have hq2:=((A0.o.setOther (a:=⟨dw,0,none⟩) hne (.bool (mulR x y).1.neg)).setOther (a:=⟨dw,1,none⟩) hne (.slice m1 (mulR x y).1.num.length m2)).setOther (a:=⟨dw,2,none⟩) hne (.slice m3 (mulR x y).1.den.length m4);have hq3:=((A1.o.setOther (a:=⟨dw,0,none⟩) hne1 (.bool (mulR x y).1.neg)).setOther (a:=⟨dw,1,none⟩) hne1 (.slice m1 (mulR x y).1.num.length m2)).setOther (a:=⟨dw,2,none⟩) hne1 (.slice m3 (mulR x y).1.den.length m4);have hx6:Ext w (((w2.setCell ⟨dw,0,none⟩ (.bool (mulR x y).1.neg)).setCell ⟨dw,1,none⟩ (.slice m1 (mulR x y).1.num.length m2)).setCell ⟨dw,2,none⟩ (.slice m3 (mulR x y).1.den.length m4)):=(((X.o.set (p:=⟨dw,0,none⟩) xW.o _).set (p:=⟨dw,1,none⟩) xW.o _).set (p:=⟨dw,2,none⟩) xW.o _);obtain ⟨wz,hwz⟩:=gN ((((w2.setCell ⟨dw,0,none⟩ (.bool (mulR x y).1.neg)).setCell ⟨dw,1,none⟩ (.slice m1 (mulR x y).1.num.length m2)).setCell ⟨dw,2,none⟩ (.slice m3 (mulR x y).1.den.length m4)));rw [← hwz] at hap hq0 hq1 hq2 hq3 hx6 ⊢;clear hwz;obtain ⟨AP,Om,NR,A0,A1,X⟩:=od hap hq0 hq1 hq2 hq3 hx6;clear hap hq0 hq1 hq2 hq3 hx6;clear hne hne1;have PL:=kI (fg x y);obtain ⟨p,e,hp⟩:∃ p e,mulR x y=(p,e):=⟨_,_,rfl⟩;rw [hp] at HST AP Om PL ⊢;dsimp only at HST AP Om PL ⊢;clear hp;by_cases he:e=0
 ·subst he;obtain ⟨cT,cU,lA1⟩:=A1.o.q3;obtain ⟨yh,yj,yk⟩:=AP.o.q3;go_wp2_with fail;have XW:=X;refine (eu _ _ r p _ NR.o.rd Om.o.rd RL.o PL.o).mono ?_;rintro e w3 ⟨⟨vs,rfl,nn⟩,hx⟩;clear cT cU lA1 yh yj yk;revert AP Om NR A0 A1 X;refine lf hx ?_;intro AP Om NR A0 A1 X;obtain ⟨s1,s2,s3,s4,rfl⟩:=nn.shape;have NS:=kI (aO.from nn XW.o);have SL:=kI (dX r p);have SC:=kI (fun h=>hZ (a:=r) (b:=p) h);clear nn hx;have hst:=HST.o;rw [if_pos trivial,oM RL.o RC.o] at hst;obtain ⟨t,e,ht⟩:∃ t e,bL r p=(t,e):=⟨_,_,rfl⟩;rw [ht] at NS SL SC hst ⊢;dsimp only at hst NS SL SC ⊢;have HST:=kI hst;clear ht hst;by_cases he:e=0
  ·have TC:=kI (SC.o he);subst he;obtain ⟨cT,cU,lA1⟩:=A1.o.q3;go_wp2_with fail;clear cT cU lA1;have hne:w.heap.size≠w.heap.size+1:=by omega
   have hap:=A1.o.ep (.bool t.neg) (.slice s1 t.num.length s2) (.slice s3 t.den.length s4);have hq0:=NS.o.ib A1.o ah (.bool t.neg) (.slice s1 t.num.length s2) (.slice s3 t.den.length s4);have hq1:=((A0.o.setOther (a:=⟨w.heap.size+1,0,none⟩) hne (.bool t.neg)).setOther (a:=⟨w.heap.size+1,1,none⟩) hne (.slice s1 t.num.length s2)).setOther (a:=⟨w.heap.size+1,2,none⟩) hne (.slice s3 t.den.length s4);have hx6:Ext w (((w3.setCell ⟨w.heap.size+1,0,none⟩ (.bool t.neg)).setCell ⟨w.heap.size+1,1,none⟩ (.slice s1 t.num.length s2)).setCell ⟨w.heap.size+1,2,none⟩ (.slice s3 t.den.length s4)):=(((X.o.set (p:=⟨w.heap.size+1,0,none⟩) (Nat.le_succ _) _).set (p:=⟨w.heap.size+1,1,none⟩) (Nat.le_succ _) _).set (p:=⟨w.heap.size+1,2,none⟩) (Nat.le_succ _) _);obtain ⟨wy,hwz⟩:=gN ((((w3.setCell ⟨w.heap.size+1,0,none⟩ (.bool t.neg)).setCell ⟨w.heap.size+1,1,none⟩ (.slice s1 t.num.length s2)).setCell ⟨w.heap.size+1,2,none⟩ (.slice s3 t.den.length s4)));rw [← hwz] at hap hq0 hq1 hx6 ⊢;clear hwz;obtain ⟨A1,NS,A0,X⟩:=dW hap hq0 hq1 hx6;clear hap hq0 hq1 hx6;go_roundw
   case rel=>exact ⟨k+1,t,s1,s2,s3,s4,by omega,by go_num,SL.o,TC.o,by have:=HST.o;simpa using this,X.o,A0.o,A1.o,NS.o⟩
   case measure=>simp [intOf];omega
  ·have he2:(e != 0)=true:=by simpa using he
   have HE:=kI he;clear he;obtain ⟨aK,fA0,aJ⟩:=A0.o.q3;obtain ⟨cT,cU,lA1⟩:=A1.o.q3;go_wp2_with fail;clear aK fA0 aJ cT cU lA1;have hne:w.heap.size≠w.heap.size+1:=by omega
   have hx5:Ext w (((w3.setCell ⟨w.heap.size+1,0,none⟩ (.bool t.neg)).setCell ⟨w.heap.size+1,1,none⟩ (.slice s1 t.num.length s2)).setCell ⟨w.heap.size+1,2,none⟩ (.slice s3 t.den.length s4)):=(((X.o.set (p:=⟨w.heap.size+1,0,none⟩) (Nat.le_succ _) _).set (p:=⟨w.heap.size+1,1,none⟩) (Nat.le_succ _) _).set (p:=⟨w.heap.size+1,2,none⟩) (Nat.le_succ _) _);have C6:=((A0.o.setOther (a:=⟨w.heap.size+1,0,none⟩) hne (.bool t.neg)).setOther (a:=⟨w.heap.size+1,1,none⟩) hne (.slice s1 t.num.length s2)).setOther (a:=⟨w.heap.size+1,2,none⟩) hne (.slice s3 t.den.length s4);obtain ⟨W5,JH⟩:=gN ((((w3.setCell ⟨w.heap.size+1,0,none⟩ (.bool t.neg)).setCell ⟨w.heap.size+1,1,none⟩ (.slice s1 t.num.length s2)).setCell ⟨w.heap.size+1,2,none⟩ (.slice s3 t.den.length s4)));rw [← JH] at hx5 C6 ⊢;clear JH;have X:=kI hx5;have A0:=kI C6;clear hx5 C6 hne;have hb6:=A0.o.ep (.bool false) (.slice none 0 0) (.slice none 0 0);have hx6:Ext w (((W5.setCell ⟨w.heap.size,0,none⟩ (.bool false)).setCell ⟨w.heap.size,1,none⟩ (.slice none 0 0)).setCell ⟨w.heap.size,2,none⟩ (.slice none 0 0)):=(((X.o.set (p:=⟨w.heap.size,0,none⟩) (Nat.le_refl _) _).set (p:=⟨w.heap.size,1,none⟩) (Nat.le_refl _) _).set (p:=⟨w.heap.size,2,none⟩) (Nat.le_refl _) _);obtain ⟨W6,iS⟩:=gN ((((W5.setCell ⟨w.heap.size,0,none⟩ (.bool false)).setCell ⟨w.heap.size,1,none⟩ (.slice none 0 0)).setCell ⟨w.heap.size,2,none⟩ (.slice none 0 0)));rw [← iS] at hb6 hx6 ⊢;clear iS;have nD:=kI hx6;clear hx6;refine bodyPost_ret (v:=.tuple #[.agg #[.bool false,.slice none 0 0,.slice none 0 0],.int .i64 e]) Nv rfl ⟨bG.mk (l:=zR) (aO.zero _ _) ?_,nD.o⟩;rw [HR0.o];have h9:=HST.o;rw [if_neg HE.o] at h9;exact h9
 ·have he2:(e != 0)=true:=by simpa using he
  have HE:=kI he;clear he;obtain ⟨aK,fA0,aJ⟩:=A0.o.q3;go_wp2_with fail;clear aK fA0 aJ;have hb6:=A0.o.ep (.bool false) (.slice none 0 0) (.slice none 0 0);have hx6:Ext w (((wz.setCell ⟨w.heap.size,0,none⟩ (.bool false)).setCell ⟨w.heap.size,1,none⟩ (.slice none 0 0)).setCell ⟨w.heap.size,2,none⟩ (.slice none 0 0)):=(((X.o.set (p:=⟨w.heap.size,0,none⟩) (Nat.le_refl _) _).set (p:=⟨w.heap.size,1,none⟩) (Nat.le_refl _) _).set (p:=⟨w.heap.size,2,none⟩) (Nat.le_refl _) _);obtain ⟨W6,iS⟩:=gN ((((wz.setCell ⟨w.heap.size,0,none⟩ (.bool false)).setCell ⟨w.heap.size,1,none⟩ (.slice none 0 0)).setCell ⟨w.heap.size,2,none⟩ (.slice none 0 0)));rw [← iS] at hb6 hx6 ⊢;clear iS;have nD:=kI hx6;clear hx6;refine bodyPost_ret (v:=.tuple #[.agg #[.bool false,.slice none 0 0,.slice none 0 0],.int .i64 e]) Nv rfl ⟨bG.mk (l:=zR) (aO.zero _ _) ?_,nD.o⟩;rw [HR0.o];have h9:=HST.o;rw [if_neg HE.o] at h9;exact h9):p:=h
theorem kK5 (h:p:=by 
 have q3:(k:Int) < 12:=by omega
 obtain ⟨sb,so,ai,ci,rfl,t0,t1,t2⟩:=(Kt.o.ext XK.o).at (i:=k) (by rw [← HSL.o];exact hks);obtain ⟨ac,hac⟩:=gN (m.states.getD k []);rw [← hac] at t1 t2;obtain ⟨_,_,_,hal⟩:=t2.shape;have T2:=kI t2;clear t2 hac;by_cases h8:8 < ac.length
 ·have q4:(8:Int) < (ac.length:Int):=by omega
  obtain ⟨VM,VN,VP⟩:=BK.o.q3;go_wp2_with fail;go_ret;exact ⟨nE.mk _,XK.o⟩
 ·have q4:¬ (8:Int) < (ac.length:Int):=by omega
  obtain ⟨VM,VN,VP⟩:=BK.o.q3;go_wp2_with fail;clear VM VN VP;go_loopw [4] (fun i wr=>∃ j:Nat,i=.int .i64 j∧j≤ac.length∧Ext wk wr) (fun i _=>ac.length - (intOf i).toNat)
  case atStart=>exact ⟨0,rfl,Nat.zero_le _,Ext.refl _⟩
  case round=>
   obtain ⟨wj,qZ⟩:=gN (wr);subst qZ;obtain ⟨j,rfl,hj,hxj⟩:=hrel;have XJ:=kI hxj;have VQ:Hid (Ext w wj):=kI (XK.o.trans hxj);have BJ:=BK.x hxj;have t1j:=(hxj.cell (p:=⟨sb,so+k,none⟩) t0).trans t1;have t0j:=Nat.lt_of_lt_of_le t0 hxj.size;clear hxj;by_cases hjl:j < ac.length
   ·obtain ⟨ab,ao,p1,e1,p2,e2,p3,e3,rfl,na,u3,u4⟩:=(T2.o.ext XJ.o).at hjl;obtain ⟨v0,v1,v2,v3,v4⟩:=na;obtain ⟨xx,hxx⟩:=gN (ac.getD j dA);rw [← hxx] at v1 v2 v3 v4 u3 u4;obtain ⟨_,_,_,hol⟩:=u4.shape;have V4:=kI v4;have U4:=kI u4;have q5:(0:Int)≤(j:Int):=by omega
    have q6:(j:Int) < (ac.length:Int):=by omega
    clear v4 u4 hxx;obtain ⟨qBJ,fBJ,lBJ⟩:=BJ.o.q3;go_wp2_with fail;clear qBJ fBJ lBJ;clear v1 v2 v3 u3;obtain ⟨bx,hbx⟩:=gN (wj.heap.size);obtain ⟨wb,hwb⟩:=gN (wj.alloc (.cells #[.bool xx.cost.neg,.slice p1 xx.cost.num.length e1,.slice p2 xx.cost.den.length e2,.slice p3 xx.next.length e3] 83));have hxb:Ext wj wb:=by rw [hwb];exact (Ext.refl _).alloc _
    have hbb:af wb bx #[.bool xx.cost.neg,.slice p1 xx.cost.num.length e1,.slice p2 xx.cost.den.length e2,.slice p3 xx.next.length e3] 83:=by rw [hwb,hbx];exact af.new _ _ _
    have hsz:wb.heap.size=wj.heap.size+1:=by rw [hwb];simp
    rw [← hwb,← hsz,← hbx];have XBJ:=kI hxb;have BX:=kI hbb;have V4b:=V4.x hxb;clear hbb hxb hwb hsz hbx;refine (eU _ [xx.cost] (wb.alloc (.cells #[.bool xx.cost.neg,.slice p1 xx.cost.num.length e1,.slice p2 xx.cost.den.length e2] 25)) (jc (af.new wb #[.bool xx.cost.neg,.slice p1 xx.cost.num.length e1,.slice p2 xx.cost.den.length e2] 25) (V4b.o.ext ((Ext.refl _).alloc _))) dc).mono ?_;rintro e v2 ⟨⟨r2,rfl,-⟩,hx2⟩;have TE:Hid (Ext wb v2):=kI (((Ext.refl wb).alloc _).trans hx2);clear hx2;cases r2
    ·have XV:Hid (Ext wj v2):=kI (XBJ.o.trans TE.o);have Nw:Hid (Ext w v2):=kI (VQ.o.trans XV.o);have JI:=kI (BX.o.ext TE.o);have u6:¬ (xx.next.length:Int) < 0:=by omega
     by_cases h16:16 < xx.next.length
     ·have c1:(16:Int) < (xx.next.length:Int):=by omega
      by_cases h64:xx.next.length≤64
      ·have c2:(xx.next.length:Int)≤64:=by omega
       obtain ⟨Bb,Bd,Be⟩:=JI.o.q3;go_wp2_with fail;go_ret;exact ⟨nE.mk _,Nw.o⟩
      ·have c2:¬ (xx.next.length:Int)≤64:=by omega
       by_cases h70:70 < xx.next.length
       ·have c3:(70:Int) < (xx.next.length:Int):=by omega
        obtain ⟨Bb,Bd,Be⟩:=JI.o.q3;go_wp2_with fail;go_ret;exact ⟨nE.mk _,Nw.o⟩
       ·have c3:¬ (70:Int) < (xx.next.length:Int):=by omega
        obtain ⟨Bb,Bd,Be⟩:=JI.o.q3;go_wp2_with fail;clear Bb Bd Be;go_loopw [6] (fun i wr=>∃ q:Nat,i=.int .i64 q∧q≤xx.next.length∧Ext v2 wr) (fun i _=>xx.next.length - (intOf i).toNat)
        case atStart=>exact ⟨0,rfl,Nat.zero_le _,Ext.refl _⟩
        case round=>
         obtain ⟨wi,hwi⟩:=gN (wr);subst hwi;obtain ⟨q,rfl,hq,hxi⟩:=hrel;have XI:=kI hxi;have VU:Hid (Ext w wi):=kI (Nw.o.trans hxi);have BI:=JI.x hxi;clear hxi;by_cases OL:q < xx.next.length
         ·obtain ⟨ob,oo,o1,o2,o3,o4,rfl,g0,g1,g2,g3,g4,g5⟩:=(U4.o.ext (XV.o.trans XI.o)).at OL;obtain ⟨O,hO⟩:=gN (xx.next.getD q dO);rw [← hO] at g1 g2 g3 g4 g5;obtain ⟨ot,op⟩:=O;dsimp only at g1 g2 g3 g4 g5;have G5:=kI g5;have q7:(0:Int)≤(q:Int):=by omega
          have q8:(q:Int) < (xx.next.length:Int):=by omega
          clear g5 hO;obtain ⟨lu,lw,lG⟩:=BI.o.q3;go_wp2_with fail;clear lu lw lG;refine (eU _ [op] (wi.alloc (.cells #[.bool op.neg,.slice o1 op.num.length o2,.slice o3 op.den.length o4] 25)) (jc (af.new wi #[.bool op.neg,.slice o1 op.num.length o2,.slice o3 op.den.length o4] 25) (G5.o.ext ((Ext.refl _).alloc _))) dc).mono ?_;rintro e v3 ⟨⟨r3,rfl,-⟩,hx3⟩;have OM:Hid (Ext wi v3):=kI (((Ext.refl wi).alloc _).trans hx3);clear hx3;cases r3
          ·go_wp2_with fail;go_roundw
           case rel=>exact ⟨q+1,by go_num,by omega,XI.o.trans OM.o⟩
           case measure=>simp [intOf];omega
          ·have XE:Hid (Ext w v3):=kI (VU.o.trans OM.o);go_wp2_with fail;go_ret;exact ⟨nE.mk _,XE.o⟩
         ·have q8:¬ (q:Int) < (xx.next.length:Int):=by omega
          obtain ⟨lu,lw,lG⟩:=BI.o.q3;go_wp2_with fail;go_roundw
          case rel=>exact ⟨j+1,by go_num,by omega,XJ.o.trans (XV.o.trans XI.o)⟩
          case measure=>simp [intOf];omega
     ·have c1:¬ (16:Int) < (xx.next.length:Int):=by omega
      have c3:¬ (70:Int) < (xx.next.length:Int):=by omega
      obtain ⟨Bb,Bd,Be⟩:=JI.o.q3;go_wp2_with fail;clear Bb Bd Be;go_loopw [6] (fun i wr=>∃ q:Nat,i=.int .i64 q∧q≤xx.next.length∧Ext v2 wr) (fun i _=>xx.next.length - (intOf i).toNat)
      case atStart=>exact ⟨0,rfl,Nat.zero_le _,Ext.refl _⟩
      case round=>
       obtain ⟨wi,hwi⟩:=gN (wr);subst hwi;obtain ⟨q,rfl,hq,hxi⟩:=hrel;have XI:=kI hxi;have VU:Hid (Ext w wi):=kI (Nw.o.trans hxi);have BI:=JI.x hxi;clear hxi;by_cases OL:q < xx.next.length
       ·obtain ⟨ob,oo,o1,o2,o3,o4,rfl,g0,g1,g2,g3,g4,g5⟩:=(U4.o.ext (XV.o.trans XI.o)).at OL;obtain ⟨O,hO⟩:=gN (xx.next.getD q dO);rw [← hO] at g1 g2 g3 g4 g5;obtain ⟨ot,op⟩:=O;dsimp only at g1 g2 g3 g4 g5;have G5:=kI g5;have q7:(0:Int)≤(q:Int):=by omega
        have q8:(q:Int) < (xx.next.length:Int):=by omega
        clear g5 hO;obtain ⟨lu,lw,lG⟩:=BI.o.q3;go_wp2_with fail;clear lu lw lG;refine (eU _ [op] (wi.alloc (.cells #[.bool op.neg,.slice o1 op.num.length o2,.slice o3 op.den.length o4] 25)) (jc (af.new wi #[.bool op.neg,.slice o1 op.num.length o2,.slice o3 op.den.length o4] 25) (G5.o.ext ((Ext.refl _).alloc _))) dc).mono ?_;rintro e v3 ⟨⟨r3,rfl,-⟩,hx3⟩;have OM:Hid (Ext wi v3):=kI (((Ext.refl wi).alloc _).trans hx3);clear hx3;cases r3
        ·go_wp2_with fail;go_roundw
         case rel=>exact ⟨q+1,by go_num,by omega,XI.o.trans OM.o⟩
         case measure=>simp [intOf];omega
        ·have XE:Hid (Ext w v3):=kI (VU.o.trans OM.o);go_wp2_with fail;go_ret;exact ⟨nE.mk _,XE.o⟩
       ·have q8:¬ (q:Int) < (xx.next.length:Int):=by omega
        obtain ⟨lu,lw,lG⟩:=BI.o.q3;go_wp2_with fail;go_roundw
        case rel=>exact ⟨j+1,by go_num,by omega,XJ.o.trans (XV.o.trans XI.o)⟩
        case measure=>simp [intOf];omega
    ·have Nw:Hid (Ext w v2):=kI (VQ.o.trans (XBJ.o.trans TE.o));have JI:=kI (BX.o.ext TE.o);obtain ⟨Bb,Bd,Be⟩:=JI.o.q3;go_wp2_with fail;go_ret;exact ⟨nE.mk _,Nw.o⟩
   ·have q6:¬ (j:Int) < (ac.length:Int):=by omega
    obtain ⟨qBJ,fBJ,lBJ⟩:=BJ.o.q3;go_wp2_with fail;go_roundw
    case rel=>exact ⟨k+1,by go_num,by omega,VQ.o,BJ.o⟩
    case measure=>simp [intOf];omega):p:=h
theorem qF6 (h:p:=by 
 obtain ⟨yh,yj,yk⟩:=AP.o.q3;refine dt [13] ?_;refine rc (fun K hK=>?_);go_simp;(try go_wp2_with fail);refine hK.out _ _ ?_ (fun hHeld=>?_)
 ·((try dsimp only);exact ⟨EA.o.c3 JG,EB.o.c3 JG⟩)
 clear hK K;(try simp only [sP]);refine tk 14 ?_;refine wpAnyH_done ak ?_ _;clear yh yj yk;have hap:=AP.o.ep (.bool (mulR x y).1.neg) (.slice m1 (mulR x y).1.num.length m2) (.slice m3 (mulR x y).1.den.length m4);have hnm:=Om.o.cW AP.o ah (.bool (mulR x y).1.neg) (.slice m1 (mulR x y).1.num.length m2) (.slice m3 (mulR x y).1.den.length m4);have hnr:=NR.o.cW AP.o ah (.bool (mulR x y).1.neg) (.slice m1 (mulR x y).1.num.length m2) (.slice m3 (mulR x y).1.den.length m4);have hne:w.heap.size≠dw:=Nat.ne_of_lt oL.o;have ha0:=((A0.o.setOther (a:=⟨dw,0,none⟩) hne (.bool (mulR x y).1.neg)).setOther (a:=⟨dw,1,none⟩) hne (.slice m1 (mulR x y).1.num.length m2)).setOther (a:=⟨dw,2,none⟩) hne (.slice m3 (mulR x y).1.den.length m4);have hx6:Ext w (((w2.setCell ⟨dw,0,none⟩ (.bool (mulR x y).1.neg)).setCell ⟨dw,1,none⟩ (.slice m1 (mulR x y).1.num.length m2)).setCell ⟨dw,2,none⟩ (.slice m3 (mulR x y).1.den.length m4)):=(((X.o.set (p:=⟨dw,0,none⟩) xW.o _).set (p:=⟨dw,1,none⟩) xW.o _).set (p:=⟨dw,2,none⟩) xW.o _);obtain ⟨wz,hwz⟩:=gN ((((w2.setCell ⟨dw,0,none⟩ (.bool (mulR x y).1.neg)).setCell ⟨dw,1,none⟩ (.slice m1 (mulR x y).1.num.length m2)).setCell ⟨dw,2,none⟩ (.slice m3 (mulR x y).1.den.length m4)));rw [← hwz] at hap hnm hnr ha0 hx6 ⊢;clear hwz;obtain ⟨AP,Om,NR,A0,X,NE2⟩:=od hap hnm hnr ha0 hx6 hne;clear hap hnm hnr ha0 hx6 hne;have PL:=kI (fg x y);obtain ⟨p,e,hp⟩:∃ p e,mulR x y=(p,e):=⟨_,_,rfl⟩;rw [hp] at HST AP Om PL ⊢;dsimp only at HST AP Om PL ⊢;clear hp;by_cases he:e=0
 ·subst he;obtain ⟨aK,fA0,aJ⟩:=A0.o.q3;obtain ⟨yh,yj,yk⟩:=AP.o.q3;go_wp2_with fail;have XW:=X;refine (C7 _ [r,p] _ (C8 (af.new wz _ _) (bH.ext NR.o.rd ((Ext.refl _).alloc _)) (bH.ext Om.o.rd ((Ext.refl _).alloc _))) (C9 RL.o PL.o)).mono ?_;rintro e w3 ⟨⟨vs,rfl,nn⟩,hx⟩;have hx:=Ext.trans (show Ext wz _ from eX) hx;clear aK fA0 aJ yh yj yk;revert X;revert A0;revert NR;revert Om;revert AP;refine lf hx ?_;intro AP Om NR A0 X;obtain ⟨s1,s2,s3,s4,rfl⟩:=nn.shape;have NS:=kI (aO.from nn (Ext.alloc XW.o _));have SL:=kI (oN [r,p] zR bO);clear nn hx;have hst:=HST.o;rw [if_pos trivial] at hst;obtain ⟨t,e,ht⟩:∃ t e,du zR [r,p]=(t,e):=⟨_,_,rfl⟩;rw [ht] at NS SL hst ⊢;dsimp only at hst NS SL ⊢;have HST:=kI hst;clear ht hst;by_cases he:e=0
  ·subst he;obtain ⟨aK,fA0,aJ⟩:=A0.o.q3;go_wp2_with fail;clear aK fA0 aJ;have hb2:=A0.o.ep (.bool t.neg) (.slice s1 t.num.length s2) (.slice s3 t.den.length s4);have hn2:=NS.o.ib A0.o ah (.bool t.neg) (.slice s1 t.num.length s2) (.slice s3 t.den.length s4);have hx2:Ext w _:=((X.o.set (p:=⟨w.heap.size,0,none⟩) (Nat.le_refl _) (.bool t.neg)).set (p:=⟨w.heap.size,1,none⟩) (Nat.le_refl _) (.slice s1 t.num.length s2)).set (p:=⟨w.heap.size,2,none⟩) (Nat.le_refl _) (.slice s3 t.den.length s4);obtain ⟨HB2,CN,xX⟩:=cC hb2 hn2 hx2;clear hb2 hn2 hx2;go_roundw
   case rel=>exact ⟨k+1,t,s1,s2,s3,s4,by omega,by go_num,SL.o,by have:=HST.o;simpa using this,xX.o,HB2.o,CN.o⟩
   case measure=>simp [intOf];omega
  ·have he2:(e != 0)=true:=by simpa using he
   have HE:=kI he;clear he;obtain ⟨aK,fA0,aJ⟩:=A0.o.q3;go_wp2_with fail;clear aK fA0 aJ;have hb6:=(A0.o.ep (.bool t.neg) (.slice s1 t.num.length s2) (.slice s3 t.den.length s4)).ep (.bool false) (.slice none 0 0) (.slice none 0 0);have hx6:Ext w ((((((w3.setCell ⟨w.heap.size,0,none⟩ (.bool t.neg)).setCell ⟨w.heap.size,1,none⟩ (.slice s1 t.num.length s2)).setCell ⟨w.heap.size,2,none⟩ (.slice s3 t.den.length s4)).setCell ⟨w.heap.size,0,none⟩ (.bool false)).setCell ⟨w.heap.size,1,none⟩ (.slice none 0 0)).setCell ⟨w.heap.size,2,none⟩ (.slice none 0 0)):=((((((X.o.set (p:=⟨w.heap.size,0,none⟩) (Nat.le_refl _) _).set (p:=⟨w.heap.size,1,none⟩) (Nat.le_refl _) _).set (p:=⟨w.heap.size,2,none⟩) (Nat.le_refl _) _).set (p:=⟨w.heap.size,0,none⟩) (Nat.le_refl _) _).set (p:=⟨w.heap.size,1,none⟩) (Nat.le_refl _) _).set (p:=⟨w.heap.size,2,none⟩) (Nat.le_refl _) _);obtain ⟨W6,iS⟩:=gN (((((((w3.setCell ⟨w.heap.size,0,none⟩ (.bool t.neg)).setCell ⟨w.heap.size,1,none⟩ (.slice s1 t.num.length s2)).setCell ⟨w.heap.size,2,none⟩ (.slice s3 t.den.length s4)).setCell ⟨w.heap.size,0,none⟩ (.bool false)).setCell ⟨w.heap.size,1,none⟩ (.slice none 0 0)).setCell ⟨w.heap.size,2,none⟩ (.slice none 0 0)));rw [← iS] at hb6 hx6 ⊢;clear iS;have nD:=kI hx6;clear hx6;refine bodyPost_ret (v:=.tuple #[.agg #[.bool false,.slice none 0 0,.slice none 0 0],.int .i64 e]) kHk rfl ⟨bG.mk (l:=zR) (aO.zero _ _) ?_,?_⟩
   ·rw [HR0.o];have h9:=HST.o;rw [if_neg HE.o] at h9;exact h9
   ·exact nD.o
 ·have he2:(e != 0)=true:=by simpa using he
  have HE:=kI he;clear he;obtain ⟨aK,fA0,aJ⟩:=A0.o.q3;go_wp2_with fail;clear aK fA0 aJ;have hb6:=A0.o.ep (.bool false) (.slice none 0 0) (.slice none 0 0);have hx6:Ext w (((wz.setCell ⟨w.heap.size,0,none⟩ (.bool false)).setCell ⟨w.heap.size,1,none⟩ (.slice none 0 0)).setCell ⟨w.heap.size,2,none⟩ (.slice none 0 0)):=(((X.o.set (p:=⟨w.heap.size,0,none⟩) (Nat.le_refl _) _).set (p:=⟨w.heap.size,1,none⟩) (Nat.le_refl _) _).set (p:=⟨w.heap.size,2,none⟩) (Nat.le_refl _) _);obtain ⟨W6,iS⟩:=gN ((((wz.setCell ⟨w.heap.size,0,none⟩ (.bool false)).setCell ⟨w.heap.size,1,none⟩ (.slice none 0 0)).setCell ⟨w.heap.size,2,none⟩ (.slice none 0 0)));rw [← iS] at hb6 hx6 ⊢;clear iS;have nD:=kI hx6;clear hx6;refine bodyPost_ret (v:=.tuple #[.agg #[.bool false,.slice none 0 0,.slice none 0 0],.int .i64 e]) kHk rfl ⟨bG.mk (l:=zR) (aO.zero _ _) ?_,?_⟩
  ·rw [HR0.o];have h9:=HST.o;rw [if_neg HE.o] at h9;exact h9
  ·exact nD.o):p:=h
theorem kWh (h:p:=by 
 clear hx7 yl eF kf y6 y7 y8 y9 g6 g7 g8 g9 g10 h6 h7 h8 h9 h10 r6 r7 r8 r9 r10 Da;have b11:=B11.o.cell;have ag2:=B11.o.free;have ag3:=B11.o.lt;have r11:=R11.o.cell;have ag4:=R11.o.free;have ag5:=R11.o.lt;by_cases h1:128 < RS.num.length
 ·have q1:(128:Int) < (RS.num.length:Int):=by omega
  have E:=kI (si (q:=vq T) (fun h=>by have:=h.1;rw [← Ku.o] at this;omega));clear h1;go_wp2_with fail;refine bodyPost_ret (v:=.tuple #[.agg #[.bool false,.slice none 0 0,.slice none 0 0],.int .i64 4]) TF rfl ⟨bG.mk (aO.zero _ _) E.o,?_⟩;have:=CP.o;exact eX
 ·have q1:¬ (128:Int) < (RS.num.length:Int):=by omega
  by_cases h2:128 < RS.den.length
  ·have q2:(128:Int) < (RS.den.length:Int):=by omega
   have E:=kI (si (q:=vq T) (fun h=>by have:=h.2;rw [← Ku.o] at this;omega));clear h1 h2;go_wp2_with fail;refine bodyPost_ret (v:=.tuple #[.agg #[.bool false,.slice none 0 0,.slice none 0 0],.int .i64 4]) TF rfl ⟨bG.mk (aO.zero _ _) E.o,?_⟩;have:=CP.o;exact eX
  ·have q2:¬ (128:Int) < (RS.den.length:Int):=by omega
   have E:=kI (zM (q:=vq T) (by unfold small;rw [← Ku.o];omega));clear h1 h2;go_wp2_with fail;refine bodyPost_ret (v:=.tuple #[.agg #[.bool RS.neg,.slice p13 RS.num.length q13,.slice gZ RS.den.length kl],.int .i64 0]) TF rfl ⟨bG.mk (aO.cW Gj.o R11.o ah _ _ _) (E.o.trans (by rw [← Ku.o])),?_⟩;have:=CP.o;exact eX):p:=h
theorem kNf (h:p:=by 
 refine lf hx ?_;intro HR HO A0 NR BY X XB;clear hx;by_cases e1:aE r=0
 rotate_left
 ·have hE:cL n l k=aE r:=by
   unfold cL;rw [← HY.o];dsimp only;rw [if_neg Db,if_neg D3.o,if_pos e1]
  have E:=kI (HE.o k hlt OK.o _ hE e1);clear hE;obtain ⟨c,hc⟩:=gN (aE r);rw [← hc] at E e1 ⊢;have q4:(c != 0)=true:=by simpa using e1
  clear e1 hc;go_wp2_with fail;go_ret;exact ⟨aV E.o.symm,X.o⟩
 rw [e1];by_cases e2:r.neg=true∨r.num=[]
 ·have hE:cL n l k=1:=by
   unfold cL;rw [← HY.o];dsimp only;rw [if_neg Db,if_neg D3.o,if_neg (by simpa using e1),if_pos e2]
  have E:=kI (HE.o k hlt OK.o _ hE ah);clear hE e1;by_cases e3:r.neg=true
  ·clear e2;obtain ⟨oh,ol,ou⟩:=BY.o.q3;go_wp2_with fail;go_ret;exact ⟨aV E.o.symm,X.o⟩
  ·have e4:r.neg=false:=by simpa using e3
   have q5:((r.num.length:Int) == 0)=true:=by
    rcases e2 with e2|e2
    ·exact absurd e2 e3
    ·simp [e2]
   clear e2 e3;obtain ⟨oh,ol,ou⟩:=BY.o.q3;go_wp2_with fail;go_ret;exact ⟨aV E.o.symm,X.o⟩
 have hE:cL n l k=0:=by
  unfold cL;rw [← HY.o];dsimp only;rw [if_neg Db,if_neg D3.o,if_neg (by simpa using e1),if_neg e2]
 have e4:r.neg=false:=by
  cases hh:r.neg
  ·rfl
  ·exact absurd (.inl hh) e2
 have q5:((r.num.length:Int) == 0)=false:=beq_eq_false_iff_ne.2 (fun h=>e2 (.inr (List.length_eq_zero_iff.1 Z)));have oO:∀ j,j < k+1→cL n l j=0:=fun j hj=>by
  by_cases e:j=k
  ·rw [e];exact hE
  ·exact OK.o j Z
 have oP:=kI oO;clear hE e1 e2 oO;obtain ⟨oh,ol,ou⟩:=BY.o.q3;go_wp2_with fail;go_roundw
 case rel=>exact ⟨k+1,by omega,by go_num,oP.o,XB.o⟩
 case measure=>simp [intOf];omega):p:=h
theorem jOo (h:p:=by 
 (try go_wp2_with fail);refine hK.out _ _ ?_ (fun hHeld=>?_)
 ·exact ⟨af.s3 A0.o,af.s3 A1.o⟩
 clear hK K;(try simp only [sP]);have lm:=A1.o.lt;obtain ⟨qz,fz,lz⟩:=AZ.o.q3;refine dt [5] ?_;refine rc (fun K hK=>?_);go_simp;(try go_wp2_with fail);refine hK.out _ _ ?_ (fun hHeld=>?_)
 ·exact ⟨af.s3 (((A0.o.setOther Gw _).setOther Gw _).setOther Gw _),af.s3 (((A1.o.setOther Gw _).setOther Gw _).setOther Gw _)⟩
 clear hK K;(try simp only [sP]);refine wpAnyH_done ak ?_ _;have bz:af (((w3.setCell ⟨rf,0,none⟩ (.bool R.neg)).setCell ⟨rf,1,none⟩ (.slice r1 R.num.length r2)).setCell ⟨rf,2,none⟩ (.slice r3 R.den.length r4)) rf #[.bool R.neg,.slice r1 R.num.length r2,.slice r3 R.den.length r4] 25:=by have:=((AZ.o.set 0 (.bool R.neg)).set 1 (.slice r1 R.num.length r2)).set 2 (.slice r3 R.den.length r4);simpa using this
 have hx:Ext w (((w3.setCell ⟨rf,0,none⟩ (.bool R.neg)).setCell ⟨rf,1,none⟩ (.slice r1 R.num.length r2)).setCell ⟨rf,2,none⟩ (.slice r3 R.den.length r4)):=((X.o.set Gw _).set Gw _).set Gw _;obtain ⟨wz,hwz⟩:=gN (((w3.setCell ⟨rf,0,none⟩ (.bool R.neg)).setCell ⟨rf,1,none⟩ (.slice r1 R.num.length r2)).setCell ⟨rf,2,none⟩ (.slice r3 R.den.length r4));rw [← hwz] at bz hx ⊢;have XZ:=kI hx;have BZ:=kI bz;clear hx bz hwz qz fz lz hHeld;have qz:=BZ.o.cell;have lz:=BZ.o.lt;cases hneg:R.neg
 ·by_cases hl:R.num.length=0
  ·have e:=G3.o hneg hl;have E:=kI e;have t1:¬ (0:Int) < (R.num.length:Int):=by omega
   rw [hneg] at qz;clear e hl hneg;go_wp2_with fail;go_ret;exact ⟨aV (by rw [E.o]),XZ.o⟩
  ·have e:=G2.o hneg Z;have E:=kI e;have t1:(0:Int) < (R.num.length:Int):=by omega
   rw [hneg] at qz;clear e hl hneg;go_wp2_with fail;go_ret;exact ⟨aV (by rw [E.o]),XZ.o⟩
 ·have e:=G1.o hneg;have E:=kI e;rw [hneg] at qz;clear e hneg;go_wp2_with fail;go_ret;exact ⟨aV (by rw [E.o]),XZ.o⟩):p:=h
theorem fu (h:p:=by go_simp;exact hK _ _ (Ext.refl _) rfl):p:=h
theorem kSa (h:p:=by 
 go_wp2_with fail;have P30:=kI p30;clear p30;go_loopw [9] (fun i wr=>∃ j:Nat,i=.int .i64 j∧j≤plan.length∧Ext w wr∧∀ t,t < j→(plan.getD t []).length≤20) (fun i _=>plan.length - (intOf i).toNat)
 case atStart=>exact ⟨0,rfl,Nat.zero_le _,X.o,fun t h=>by omega⟩
 case round=>
  obtain ⟨wk,hwk⟩:=gN (wr);subst hwk;obtain ⟨j,rfl,hj,hxk,hok⟩:=hrel;have XK:=kI hxk;have OK:=kI hok;clear hxk hok;by_cases hjl:j < plan.length
  ·obtain ⟨b,off,ai,ci,rfl,t0,t1,t2⟩:=(HP.o.ext XK.o).at hjl;obtain ⟨n9,uJ⟩:=gN ((plan.getD j []).length);have JJ:=kI uJ;rw [← uJ] at t1;clear t2 uJ;have q1:(0:Int)≤(j:Int):=by omega
   have q2:(j:Int) < (plan.length:Int):=by omega
   by_cases h20:20 < n9
   ·have q3:(20:Int) < (n9:Int):=by omega
    go_wp2_with fail;go_ret;exact ⟨JK.tt _ _,XK.o⟩
   ·have q3:¬ (20:Int) < (n9:Int):=by omega
    go_wp2_with fail;go_roundw
    case rel=>
     refine ⟨j+1,by go_num,by omega,XK.o,fun t ht=>?_⟩;by_cases e:t=j
     ·subst e;rw [← JJ.o];omega
     ·exact OK.o t Z
    case measure=>simp [intOf];omega
  ·obtain rfl:j=plan.length:=by omega
   have q2:¬ (plan.length:Int) < (plan.length:Int):=by omega
   go_wp2_with fail;go_ret;exact ⟨JK.ff G1.o G2.o P30.o OK.o,XK.o⟩):p:=h
theorem qHa (h:p:=by 
 clear hbx;have b9:=B9.o.cell;have fb9:=B9.o.free;have lb9:=B9.o.lt;have r9:=R9.o.cell;have fr9:=R9.o.free;have lr9:=R9.o.lt;have k9:=K9.o.cell;have lk9:=K9.o.lt;have j9:=J9.o.cell;have lj9:=J9.o.lt;have hs9:s1=s2∨¬ s1=s2:=Classical.em _;rcases hs9 with hs|hs
 ·have hsb:(s1 == s2)=true:=by simpa using hs
  have HS:=kI hs;clear hs;go_wp2_with fail;refine (mD.o w9 _ _ VW.o.rd VY.o.rd).mono ?_;rintro e w10 ⟨⟨v10,rfl,n10⟩,kf⟩;obtain ⟨p10,q10,rfl⟩:=n10.shape;have Da:=kI (n10.from X9.o);have B10:=B9.x kf;have R10:=R9.x kf;have TG:=D9.x kf;have TH:=X9.x kf;clear kf n10 b9 fb9 r9 fr9 k9 j9;have b10:=B10.o.cell;have VZ:=B10.o.free;have V8:=B10.o.lt;have r10:=R10.o.cell;have V9:=R10.o.free;have Wa:=R10.o.lt;go_wp2_with fail;refine bodyPost_ret (v:=.agg #[.slice p10 (lim (P+Q)).length q10,.slice p8 (lim D).length q8,.bool s1]) Wb rfl ⟨⟨_,rfl,.slice p10 (lim (P+Q)).length q10,.slice p8 (lim D).length q8,?_,?_,?_⟩,?_⟩
  ·rw [HT.o,if_pos HS.o]
  ·rw [HT.o,if_pos HS.o];exact (cF.cW (cF.eV Da.o B10.o ah 0 _) (R10.o.setOther aD _) ah _ _ _).rd
  ·rw [HT.o,if_pos HS.o];exact (cF.cW (cF.eV TG.o B10.o ah 0 _) (R10.o.setOther aD _) ah _ _ _).rd
  ·have:=TH.o;exact eX
 ·have hsb:(s1 == s2)=false:=by simpa using hs
  have HS:=kI hs;clear hs;go_wp2_with fail;refine (OO.o w9 _ _ VW.o.rd VY.o.rd).mono ?_;rintro e w10 ⟨⟨v10,rfl,n10⟩,kf⟩;obtain ⟨U,hU⟩:=gN (if P < Q then Q - P else P - Q);rw [← hU] at n10;obtain ⟨p10,q10,rfl⟩:=n10.shape;have HUU:=kI hU;clear hU;have Da:=kI (n10.from X9.o);have B10:=B9.x kf;have R10:=R9.x kf;have TG:=D9.x kf;have TH:=X9.x kf;have J10:=J9.x kf;clear kf n10 b9 fb9 r9 fr9 k9 j9;have b10:=B10.o.cell;have VZ:=B10.o.free;have V8:=B10.o.lt;have r10:=R10.o.cell;have V9:=R10.o.free;have Wa:=R10.o.lt;have j10:=J10.o.cell;have ag6:=J10.o.lt;by_cases hlt:P < Q
  ·rw [decide_eq_true hlt];have ox:=kI hlt;clear hlt;go_wp2_with fail;refine bodyPost_ret (v:=.agg #[.slice p10 (lim U).length q10,.slice p8 (lim D).length q8,.bool s2]) Wb rfl ⟨⟨_,rfl,.slice p10 (lim U).length q10,.slice p8 (lim D).length q8,?_,?_,?_⟩,?_⟩
   ·rw [HT.o,if_neg HS.o,if_pos ox.o]
   ·rw [HT.o,if_neg HS.o,if_pos ox.o,show Q - P=U by rw [HUU.o,if_pos ox.o]];exact (cF.cW (cF.eV (cF.eV Da.o B10.o ah 0 _) (B10.o.set 0 _) ah 2 _) ((R10.o.setOther aD _).setOther aD _) ah _ _ _).rd
   ·rw [HT.o,if_neg HS.o,if_pos ox.o];exact (cF.cW (cF.eV (cF.eV TG.o B10.o ah 0 _) (B10.o.set 0 _) ah 2 _) ((R10.o.setOther aD _).setOther aD _) ah _ _ _).rd
   ·have:=TH.o;exact eX
  ·rw [decide_eq_false hlt];have ox:=kI hlt;clear hlt;go_wp2_with fail;refine bodyPost_ret (v:=.agg #[.slice p10 (lim U).length q10,.slice p8 (lim D).length q8,.bool s1]) Wb rfl ⟨⟨_,rfl,.slice p10 (lim U).length q10,.slice p8 (lim D).length q8,?_,?_,?_⟩,?_⟩
   ·rw [HT.o,if_neg HS.o,if_neg ox.o]
   ·rw [HT.o,if_neg HS.o,if_neg ox.o,show P - Q=U by rw [HUU.o,if_neg ox.o]];exact (cF.cW (cF.eV Da.o B10.o ah 0 _) (R10.o.setOther aD _) ah _ _ _).rd
   ·rw [HT.o,if_neg HS.o,if_neg ox.o];exact (cF.cW (cF.eV TG.o B10.o ah 0 _) (R10.o.setOther aD _) ah _ _ _).rd
   ·have:=TH.o;exact eX):p:=h
theorem zG2 (h:p:=by 
 refine hK.out _ _ (T2.both (fw B1.o) (fw B2.o)) ?_;clear hK K;(try simp only [sP]);refine yr [7] ?_;refine yc (fun K hK=>?_);rw [if_pos (aX rfl)];refine eW e3 _ _ _ rfl w.heap.size 53 (.slice none 0 0) 1 24 Tryz.underlying30 Tryz.oQ rfl ah (ix.keeps ah) _ _ OP.o rfl [.slice y2 xz.length d2] rfl iW xz (ix.of O2.o) kG N2.o rfl (by have:=ENP.o;have:=TI.o;have:=ox.o;omega) (by have:=ENP.o;have:=TI.o;have:=ox.o;omega) XW.o.size ?_;intro g4 cap4 e4 hrow hgr hfr;have hk:=au.kJ OP.o hgr;have hsr:=SR.o.grown OP.o hgr ah ah (fun q hq=>by have h1:=(au.fx OP.o hq).2.1;rcases DP.o q hq with h|h;exact .inl ⟨h1,h⟩;exact .inr h);have hds:Aside (Value.slice (some ⟨g4,0,none⟩) ((List.map (fun j=>(az m (bu m vals j)).2.1) (List.range pre.length)).length+1) cap4) H (w4.heap.size+2):=fun q hq=>by
  injection hq with hq
  dsimp only at hq;subst hq;rcases hfr with h|h
  ·exact DP.o _ h
  ·exact .inr (Nat.le_trans SZ.o h)
 obtain ⟨ub,hu⟩:=gN (Value.slice (some ⟨g4,0,none⟩) ((List.map (fun j=>(az m (bu m vals j)).2.1) (List.range pre.length)).length+1) cap4);rw [← hu] at hrow hds ⊢;clear hu;replace OV:=kI (bA.keeps OV.o hk ah ah ah);replace OP:=kI hrow;replace DP:=kI hds;replace B1:=kI (B1.o.keeps hk ah);replace B2:=kI (B2.o.keeps hk ah);replace B3:=kI (B3.o.keeps hk ah);replace SR:=kI hsr;replace SZ:=kI (Nat.le_trans SZ.o hk.size);replace XW:Hid (Ext w e4):=kI (Below.trans XW.o (hk.below XW.o.size));clear hrow hgr hfr hk hsr hds O2;refine hK.out _ _ (T2.both (fw B1.o) (fw B2.o)) ?_;clear hK K;(try simp only [sP]);exact HV9 e4 ua ub nF kG ⟨OV.o,OP.o,XW.o,SR.o,B1.o,B2.o,B3.o,DA.o,DP.o,SZ.o⟩):p:=h
theorem zJ6 (h:p:=by 
 (try go_wp2_with fail);refine hK.out _ _ ?_ (fun hHeld=>?_)
 ·exact ⟨(AK.o.keeps KW.o ah).cell 3,Kv.o _ XW.o,VC.o.c3 XW.o⟩
 clear hK K;(try simp only [sP]);refine dt [8] ?_;refine rc (fun K hK=>?_);rw [if_pos (aX rfl)];refine aZ e2 _ _ _ rfl wl.heap.size 25 (.agg #[.bool false,.slice none 0 0,.slice none 0 0]) 3 56 Tryz.underlying29 Tryz.dH rfl ah (lg.keeps ah) _ _ OA.o rfl [.bool ry.neg,.slice p1 ry.num.length d1,.slice p2 ry.den.length d2] rfl iW ry EA.o nF N1.o rfl JL JL XW.o.size ?_;intro g3 cap3 e3 hrow hgr hfr;have hk:=bI.gA OA.o hgr;have hown:(Value.slice (some ⟨g3,0,none⟩) (((dY l).take k).length+1) cap3).ownBlock=some g3:=rfl;obtain ⟨ua,hu⟩:=gN (Value.slice (some ⟨g3,0,none⟩) (((dY l).take k).length+1) cap3);rw [← hu] at hrow hown ⊢;clear hu;have hd:=fh DJ.o OQ.o hown (hfr.imp id (Nat.le_trans XB.o));have OB:=kI (bI.jd OB.o hgr (je DJ.o) (fun n hn=>by obtain ⟨h1,h2,_⟩:=bI.cN OA.o hn;exact ⟨h1.choose,h1.choose_spec,h2⟩));have EB:=kI (lg.keeps ah _ _ _ _ EB.o hk);have N2:Hid (af e3 kG [.bool rz.neg,.slice s1 rz.num.length s2,.slice s3 rz.den.length s4].toArray 25):=kI ((hgr.block _ N2.o.lt (fun e=>by have:=ym.o _ e.symm;have:=Kw.o;omega)).trans N2.o);have DJ:=kI hd;have OA:=kI hrow;have ym:Hid (∀ n,ua.ownBlock=some n→n < e3.heap.size):=kI (fun n (h:ua.ownBlock=some n)=>(bI.cN hrow h).2.2);have KW:=KW.x hk;have XW:Hid (Ext wl e3):=kI (Below.trans XW.o (hk.below XW.o.size));have XB:Hid (wb.heap.size≤e3.heap.size):=kI (Nat.le_trans XB.o hgr.size);clear hrow hgr hfr hk hown hd;(try go_wp2_with fail);refine hK.out _ _ ?_ (fun hHeld=>?_)
 ·exact ⟨(AK.o.keeps KW.o ah).cell 3,Kv.o _ XW.o,VC.o.c3 XW.o⟩
 clear hK K;(try simp only [sP]);refine dt [20] ?_;refine rc (fun K hK=>?_);rw [if_pos (aX rfl)];refine aZ e3 _ _ _ rfl wl.heap.size 25 (.agg #[.bool false,.slice none 0 0,.slice none 0 0]) 3 56 Tryz.underlying29 Tryz.dH rfl ah (lg.keeps ah) _ _ OB.o rfl [.bool rz.neg,.slice s1 rz.num.length s2,.slice s3 rz.den.length s4] rfl iW rz EB.o kG N2.o rfl JM JM XW.o.size ?_;intro g4 cap4 e4 hrow hgr hfr;have hk:=bI.gA OB.o hgr;have hown:(Value.slice (some ⟨g4,0,none⟩) (((ic vals l).take k).length+1) cap4).ownBlock=some g4:=rfl;obtain ⟨ub,hu⟩:=gN (Value.slice (some ⟨g4,0,none⟩) (((ic vals l).take k).length+1) cap4);rw [← hu] at hrow hown ⊢;clear hu;have hd:=dx (fh (dx DJ.o) ym.o hown hfr);have OA:=kI (bI.jd OA.o hgr (je (dx DJ.o)) (fun n hn=>by obtain ⟨h1,h2,_⟩:=bI.cN OB.o hn;exact ⟨h1.choose,h1.choose_spec,h2⟩));have DJ:=kI hd;have OB:=kI hrow;have KW:=KW.x hk;have XW:Hid (Ext wl e4):=kI (Below.trans XW.o (hk.below XW.o.size));have XB:Hid (wb.heap.size≤e4.heap.size):=kI (Nat.le_trans XB.o hgr.size);clear hrow hgr hfr hk hown hd;(try go_wp2_with fail);refine hK.out _ _ ?_ (fun hHeld=>?_)
 ·exact ⟨(AK.o.keeps KW.o ah).cell 3,Kv.o _ XW.o,VC.o.c3 XW.o⟩
 clear hK K;(try simp only [sP]);exact HV e4 ua ub nF kG ⟨OA.o,OB.o,DJ.o,XW.o,⟨(AK.o.keeps KW.o ah).cell 3,Kv.o _ XW.o,VC.o.c3 XW.o⟩⟩):p:=h
theorem jK5 (h:p:=by 
 (try go_wp2_with fail);refine hK.out _ _ ?_ (fun hHeld=>?_)
 ·exact ⟨Kx (BY.o.keeps KW.o ah),VC.o.c3 XW.o⟩
 clear hK K;(try simp only [sP]);refine dt [4] ?_;refine rc (fun K hK=>?_);rw [if_pos (aX rfl)];refine aZ e2 _ _ _ rfl wl.heap.size 25 (.agg #[.bool false,.slice none 0 0,.slice none 0 0]) 3 56 Tryz.underlying29 Tryz.dH rfl ah (lg.keeps ah) _ _ OA.o rfl [.bool ry.neg,.slice p1 ry.num.length d1,.slice p2 ry.den.length d2] rfl iW ry EA.o nF N1.o rfl JL JL XW.o.size ?_;intro g3 cap3 e3 hrow hgr hfr;have hk:=bI.gA OA.o hgr;have hown:(Value.slice (some ⟨g3,0,none⟩) (((dY l).take k).length+1) cap3).ownBlock=some g3:=rfl;obtain ⟨ua,hu⟩:=gN (Value.slice (some ⟨g3,0,none⟩) (((dY l).take k).length+1) cap3);rw [← hu] at hrow hown ⊢;clear hu;have hd:=fh DJ.o OQ.o hown (hfr.imp id (Nat.le_trans XB.o));have OB:=kI (bI.jd OB.o hgr (je DJ.o) (fun n hn=>by obtain ⟨h1,h2,_⟩:=bI.cN OA.o hn;exact ⟨h1.choose,h1.choose_spec,h2⟩));have EB:=kI (lg.keeps ah _ _ _ _ EB.o hk);have N2:Hid (af e3 kG [.bool rz.neg,.slice s1 rz.num.length s2,.slice s3 rz.den.length s4].toArray 25):=kI ((hgr.block _ N2.o.lt (fun e=>by have:=ym.o _ e.symm;have:=Kw.o;omega)).trans N2.o);have DJ:=kI hd;have OA:=kI hrow;have ym:Hid (∀ n,ua.ownBlock=some n→n < e3.heap.size):=kI (fun n (h:ua.ownBlock=some n)=>(bI.cN hrow h).2.2);have KW:=KW.x hk;have XW:Hid (Ext wl e3):=kI (Below.trans XW.o (hk.below XW.o.size));have XB:Hid (wb.heap.size≤e3.heap.size):=kI (Nat.le_trans XB.o hgr.size);clear hrow hgr hfr hk hown hd;(try go_wp2_with fail);refine hK.out _ _ ?_ (fun hHeld=>?_)
 ·exact ⟨Kx (BY.o.keeps KW.o ah),VC.o.c3 XW.o⟩
 clear hK K;(try simp only [sP]);refine dt [12] ?_;refine rc (fun K hK=>?_);rw [if_pos (aX rfl)];refine aZ e3 _ _ _ rfl wl.heap.size 25 (.agg #[.bool false,.slice none 0 0,.slice none 0 0]) 3 56 Tryz.underlying29 Tryz.dH rfl ah (lg.keeps ah) _ _ OB.o rfl [.bool rz.neg,.slice s1 rz.num.length s2,.slice s3 rz.den.length s4] rfl iW rz EB.o kG N2.o rfl JM JM XW.o.size ?_;intro g4 cap4 e4 hrow hgr hfr;have hk:=bI.gA OB.o hgr;have hown:(Value.slice (some ⟨g4,0,none⟩) (((ic vals l).take k).length+1) cap4).ownBlock=some g4:=rfl;obtain ⟨ub,hu⟩:=gN (Value.slice (some ⟨g4,0,none⟩) (((ic vals l).take k).length+1) cap4);rw [← hu] at hrow hown ⊢;clear hu;have hd:=dx (fh (dx DJ.o) ym.o hown hfr);have OA:=kI (bI.jd OA.o hgr (je (dx DJ.o)) (fun n hn=>by obtain ⟨h1,h2,_⟩:=bI.cN OB.o hn;exact ⟨h1.choose,h1.choose_spec,h2⟩));have DJ:=kI hd;have OB:=kI hrow;have KW:=KW.x hk;have XW:Hid (Ext wl e4):=kI (Below.trans XW.o (hk.below XW.o.size));have XB:Hid (wb.heap.size≤e4.heap.size):=kI (Nat.le_trans XB.o hgr.size);clear hrow hgr hfr hk hown hd;(try go_wp2_with fail);refine hK.out _ _ ?_ (fun hHeld=>?_)
 ·exact ⟨Kx (BY.o.keeps KW.o ah),VC.o.c3 XW.o⟩
 clear hK K;(try simp only [sP]);exact HV e4 ua ub nF kG ⟨OA.o,OB.o,DJ.o,XW.o,⟨Kx (BY.o.keeps KW.o ah),VC.o.c3 XW.o⟩⟩):p:=h
theorem qFg (h:p:=by refine hK.out _ _ (T2.both ⟨fw A1.o,fw BL.o,(BG.o.cell _).trans CC.o.1,(BG.o.cell _).trans CC.o.2.1,(BG.o.cell _).trans CC.o.2.2⟩ (fw A2.o)) ?_;clear hK K;(try simp only [sP]);refine xr [10] ?_;refine xc (fun K hK=>?_);rw [if_pos (aX rfl)];refine aZ e4 _ _ _ rfl w.heap.size 3 (.int .i64 0) 1 8 Tryz.underlying53 Tryz.oy rfl ah (fun _ _ _ _ h _=>h) _ _ OZ.o rfl [.int .i64 (bi:Nat)] rfl iW (bi:Int) rfl kG N2.o rfl (by have:=LZ.o;have:=Ky.o;omega) (by have:=LZ.o;have:=Ky.o;omega) X.o.size ?_;intro g5 cap5 e5 hrow hgr hfr;obtain ⟨hk,hko⟩:=kK OZ.o hgr;obtain ⟨ub,hu⟩:=gN (Value.slice (some ⟨g5,0,none⟩) (((qT m vals).take k).length+1) cap5);rw [← hu] at hrow ⊢;clear hu;replace BG:=kI (BG.o.keeps hk ah);replace OV:=kI (bm.keeps OV.o hk ah ah);replace OZ:=kI hrow;replace A0:=kI (A0.o.keeps hk ah);replace A1:=kI (A1.o.keeps hk ah);replace A2:=kI (A2.o.keeps hk ah);replace A3:=kI (A3.o.keeps hk ah);replace BL:=kI (BL.o.keeps hk ah);replace oR:=kI (oR.o.yo hko);replace uK:=kI (Nat.le_trans uK.o hk.size);replace X:Hid (Ext w e5):=kI (Below.trans X.o (hk.below X.o.size));clear hrow hgr hfr hk hko;refine hK.out _ _ (T2.both ⟨fw A1.o,fw BL.o,(BG.o.cell _).trans CC.o.1,(BG.o.cell _).trans CC.o.2.1,(BG.o.cell _).trans CC.o.2.2⟩ (fw A2.o)) ?_;clear hK K;(try simp only [sP]);exact HV e5 ua ub nF kG ⟨OV.o,OZ.o,X.o,oR.o,A0.o,A1.o,A2.o,A3.o,uK.o⟩):p:=h
theorem jWw (h:p:=by 
 have Bf:(lim V).length≤10001:=Nat.le_trans (zN iX.o tj.o.1) Z;have hord:=lH (.slice a6 (lim V).length c6) (.slice ab lb.length cb) (lim V) lb w6 N6.o.rd (HB.o.ext X6.o) (aH _) iX.o Z Z;rw [aA] at hord;by_cases hge:nv lb≤V
 ·have hcd:decide (0≤eH V (nv lb))=true:=by rw [oA];exact decide_eq_true hge
  obtain ⟨cm,hcm⟩:=gN (eH V (nv lb));rw [← hcm] at hord hcd;have oS:=kI hord;clear hord hcm;go_wp2_with fail;refine oS.o.mono ?_;rintro e w7 ⟨rfl,hx7⟩;have X7:=X6.x hx7;have N7:=N6.x hx7;have R7:=R6.x hx7;clear hx7;have hdiff:=fV (.slice a6 (lim V).length c6) (.slice ab lb.length cb) (lim V) lb w7 N7.o.rd (HB.o.ext X7.o) (aH _) iX.o Gk.o Z (by rw [aA];exact hge);rw [aA] at hdiff;have OS:=kI hdiff;clear hdiff;go_wp2_with fail;refine OS.o.mono ?_;rintro e w8 ⟨⟨v8,rfl,n8⟩,yl⟩;obtain ⟨a8,c8,rfl⟩:=n8.shape;have hz8:=X7.o.size;have N8:Hid (cF w8 (w.heap.size+1) (.slice a8 (lim (V - nv lb)).length c8) (lim (V - nv lb))):=kI (cF.mono n8 (by have:=R7.o.lt;omega));have X8:=X7.x yl;have R8:=R7.x yl;clear n8 yl;have hzl:=aI G2.o (j / 32);obtain ⟨z,hzz⟩:=gN (lq.getD (j / 32) 0);have k7:=R8.o.getD (i:=j / 32) Dc hzz;have k8:=R8.o.free (j / 32);have k9:=R8.o.lt;have hlow:=uP G2.o (k:=j) Dc (by rw [G3.o];exact Nat.mul_mod_left _ _);rw [← hzz] at hzl hlow;have hor:=or_bit z (j % 32) hzl (Nat.mod_lt _ Z) hlow;have hsb:=sj (l:=lq) (k:=j) G2.o Dc;rw [← hzz] at hsb;have q4:(j:Int) / 32 < (n:Int):=by omega
  obtain ⟨t,ht⟩:∃ t:Int,t=((z.toNat+2 ^ (j % 32):Nat):Int):=⟨_,rfl⟩;have ht0:0≤t∧t < 4294967296:=by have:=hor.2;omega
  rw [← ht] at hsb;have OT:=hor.1.trans ht.symm;have Dd:=kI OT;have Wc:=kI hsb;clear ht hzz hor hsb hlow OT;obtain ⟨z0,z1⟩:=hzl;go_wp2_with fail;rw [Dd.o];go_roundw
  case rel=>
   obtain ⟨hv1,hv2,hv3⟩:=tj.o;rw [if_pos hge] at hv2 hv3;refine ⟨j,lq.set (j / 32) t,by omega,rfl,(List.length_set).trans G1.o,jS G2.o _ ht0.1 ht0.2,?_,R8.o.set (j / 32) t Dc,?_,X8.o.set (Nat.le_refl _) _⟩
   ·rw [Wc.o,G3.o,hv2,Nat.pow_succ,Gx,Nat.add_mul,Nat.one_mul]
   ·rw [hv3];exact N8.o.aP aD _
  case measure=>simp [intOf]
 ·have hcd:decide (0≤eH V (nv lb))=false:=by rw [oA];exact decide_eq_false hge
  obtain ⟨cm,hcm⟩:=gN (eH V (nv lb));rw [← hcm] at hord hcd;have oS:=kI hord;clear hord hcm;go_wp2_with fail;refine oS.o.mono ?_;rintro e w7 ⟨rfl,hx7⟩;have X7:=X6.x hx7;have N7:=N6.x hx7;have R7:=R6.x hx7;clear hx7;go_wp2_with fail;go_roundw
  case rel=>
   obtain ⟨hv1,hv2,hv3⟩:=tj.o;rw [if_neg hge] at hv2 hv3;refine ⟨j,lq,by omega,rfl,G1.o,G2.o,?_,R7.o,?_,X7.o⟩
   ·rw [G3.o,hv2,Nat.pow_succ,Gx,Nat.add_zero]
   ·rw [hv3];exact N7.o
  case measure=>simp [intOf]):p:=h
theorem Bg (h:p:=by go_wp2_with fail;go_ret;exact ⟨aV E.o.symm,X.o⟩):p:=h
theorem qFl (h:p:=by 
 have b5:=B5.o.cell;have Wd:=B5.o.free;have lb5:=B5.o.lt;have r5:=R5.o.cell;have We:=R5.o.free;have lr5:=R5.o.lt;have k5:=K5.o.cell;have lk5:=K5.o.lt;go_wp2_with fail;refine (ie _ ld w5 (OU.o.ext Y5.o)).mono ?_;clear b5 Wd r5 We k5;by_cases hu:ld=[1]
 ·rw [decide_eq_true hu];have HU:=kI hu;clear hu;rintro e w6 ⟨rfl,hx6⟩;have B6:=B5.o.ext hx6;have R6:=R5.o.ext hx6;have X6:=X5.x hx6;have V6:=V5.x hx6;have b6:=B6.cell;have fb6:=B6.free;have Wf:=B6.lt;have r6:=R6.cell;have fr6:=R6.free;have Wg:=R6.lt;clear hx6 B6 R6;go_wp2_with fail;exact bodyPost_ret (v:=.agg #[.bool b,.slice a4 ln.length c4,.slice none 0 0]) OX rfl ⟨⟨_,rfl,by rw [De.o,if_pos HU.o];exact ⟨_,_,rfl,cF.mono (((V6.o.aP aD _).aP aD _).aP aD _) Z,bv.nil _ _⟩⟩,by have:=X6.o;exact eX⟩
 ·rw [decide_eq_false hu];have HU:=kI hu;rintro e w6 ⟨rfl,hx6⟩;have B6:=B5.x hx6;have K6:=(K5.o.ext hx6);have R6:=R5.x hx6;have X6:=X5.x hx6;have Y6:=Y5.x hx6;have V6:=V5.x hx6;have k6:=K6.cell;have Wh:=K6.free;have lk6:=K6.lt;have Wf:=B6.o.lt;have Wg:=R6.o.lt;clear hx6 K6 hu;go_wp2_with fail;refine (clone_any _ ld w6 (OU.o.ext Y6.o) Z).mono ?_;rintro e w7 ⟨⟨v7,rfl,n7⟩,hx7⟩;obtain ⟨a7,c7,rfl⟩:=n7.shape;have N7:Hid (cF w7 w6.heap.size (.slice a7 ld.length c7) ld):=kI n7;have B7:=B6.o.ext hx7;have Wi:=kI B7;have R7:=R6.o.ext hx7;have X7:=X6.x hx7;have V7:=V6.x hx7;have b7:=B7.cell;have fb7:=B7.free;have lb7:=B7.lt;have r7:=R7.cell;have fr7:=R7.free;have lr7:=R7.lt;clear hx7 B7 R7 k6 Wh n7;go_wp2_with fail;refine bodyPost_ret (v:=.agg #[.bool b,.slice a4 ln.length c4,.slice a7 ld.length c7]) OX rfl ⟨⟨_,rfl,?_⟩,?_⟩
  ·rw [De.o,if_neg HU.o];exact ⟨_,_,rfl,cF.mono ((((V7.o.eV Wi.o ah _ _).aP aD _).aP aD _).aP aD _) Z,
    cF.mono ((((N7.o.aP aD _).aP aD _).aP aD _).aP aD _) Z⟩
  ·have:=X7.o;exact eX):p:=h
theorem qO5 (h:p:=by 
 have b5:=B5.o.cell;have Wd:=B5.o.free;have lb5:=B5.o.lt;have r5:=R5.o.cell;have We:=R5.o.free;have lr5:=R5.o.lt;have k5:=K5.o.cell;have lk5:=K5.o.lt;go_wp2_with fail;refine (ie _ l2 w5 (OU.o.ext Y5.o)).mono ?_;clear b5 Wd r5 We k5;by_cases hu:l2=[1]
 ·rw [decide_eq_true hu];have HU:=kI hu;clear hu;rintro e w6 ⟨rfl,hx6⟩;have B6:=B5.o.ext hx6;have R6:=R5.o.ext hx6;have X6:=X5.x hx6;have V6:=V5.x hx6;have b6:=B6.cell;have fb6:=B6.free;have Wf:=B6.lt;have r6:=R6.cell;have fr6:=R6.free;have Wg:=R6.lt;clear hx6 B6 R6;go_wp2_with fail;exact bodyPost_ret (v:=.agg #[.bool b,.slice a4 l1.length c4,.slice none 0 0]) OX rfl ⟨⟨_,rfl,by rw [De.o,if_pos HU.o];exact ⟨_,_,rfl,cF.mono (((V6.o.aP aD _).aP aD _).aP aD _) Z,bv.nil _ _⟩⟩,by have:=X6.o;exact eX⟩
 ·rw [decide_eq_false hu];have HU:=kI hu;rintro e w6 ⟨rfl,hx6⟩;have B6:=B5.x hx6;have K6:=(K5.o.ext hx6);have R6:=R5.x hx6;have X6:=X5.x hx6;have Y6:=Y5.x hx6;have V6:=V5.x hx6;have k6:=K6.cell;have Wh:=K6.free;have lk6:=K6.lt;have Wf:=B6.o.lt;have Wg:=R6.o.lt;clear hx6 K6 hu;go_wp2_with fail;refine (clone_any _ l2 w6 (OU.o.ext Y6.o) Z).mono ?_;rintro e w7 ⟨⟨v7,rfl,n7⟩,hx7⟩;obtain ⟨a7,c7,rfl⟩:=n7.shape;have N7:Hid (cF w7 w6.heap.size (.slice a7 l2.length c7) l2):=kI n7;have B7:=B6.o.ext hx7;have Wi:=kI B7;have R7:=R6.o.ext hx7;have X7:=X6.x hx7;have V7:=V6.x hx7;have b7:=B7.cell;have fb7:=B7.free;have lb7:=B7.lt;have r7:=R7.cell;have fr7:=R7.free;have lr7:=R7.lt;clear hx7 B7 R7 k6 Wh n7;go_wp2_with fail;refine bodyPost_ret (v:=.agg #[.bool b,.slice a4 l1.length c4,.slice a7 l2.length c7]) OX rfl ⟨⟨_,rfl,?_⟩,?_⟩
  ·rw [De.o,if_neg HU.o];exact ⟨_,_,rfl,cF.mono ((((V7.o.eV Wi.o ah _ _).aP aD _).aP aD _).aP aD _) Z,
    cF.mono ((((N7.o.aP aD _).aP aD _).aP aD _).aP aD _) Z⟩
  ·have:=X7.o;exact eX):p:=h
theorem jCy (h:p:=by 
 refine ⟨hs0 ++ [cs],?_,by simp [h2],?_,?_⟩
 ·rw [List.flatten_append,List.length_append];simpa using hown'
 ·intro q hq;rcases List.mem_append.1 hq with hq|hq
  ·exact h3 q hq
  ·rw [List.mem_singleton.1 hq];exact hcs
 ·intro i x0 hi0;by_cases hlt:i < l.length
  ·rw [List.getElem?_append_left hlt] at hi0;obtain ⟨q,e1,e2⟩:=h4 i x0 hi0;exact ⟨q,by rw [List.getElem?_append_left Z];exact e1,hEl _ _ _ _ e2 hk⟩
  ·have hil:i=l.length:=by
    have:=(List.getElem?_eq_some_iff.1 hi0).1;simp at this;omega
   subst hil;rw [List.getElem?_append_right (Nat.le_refl _)] at hi0;simp at hi0;subst hi0;exact ⟨cs,by rw [List.getElem?_append_right Z,h2];simp,hEl _ _ _ _ hy hk⟩):p:=h
theorem qKj (h:p:=by 
 revert A0 A1 A2 X Np Nq Nd Nm;refine lf hx ?_;intro A0 A1 A2 X Np Nq Nd Nm;obtain ⟨r1,r2,r3,r4,rfl⟩:=nn.shape;have Nr:=kI nn.rd;have Or:=kI (nn.from (x6));clear nn hx;(try go_wp2_with fail);refine hK.out _ _ ?_ (fun hHeld=>?_)
 ·exact ⟨af.s3 A0.o,af.s3 A1.o⟩
 clear hK K;(try simp only [sP]);have q2:=A2.o.cell;have f2:=A2.o.free;have Ny:=A2.o.lt;refine dt [7] ?_;refine rc (fun K hK=>?_);go_simp;(try go_wp2_with fail);refine hK.out _ _ ?_ (fun hHeld=>?_)
 ·((try dsimp only);(refine ⟨af.s3 ?_,af.s3 ?_⟩ <;> (repeat (first|exact A0.o|exact A1.o|refine af.setOther ?_ aD _|refine af.alloc ?_ _|refine af.drew ?_))))
 clear hK K;(try simp only [sP]);refine wpAnyH_done ak ?_ _;go_wp2_with fail;refine bodyPost_ret (v:=.agg #[.bool R.neg,.slice r1 R.num.length r2,.slice r3 R.den.length r4]) (by simp only [results,Tryz.results132];go_simp) rfl ⟨⟨_,rfl,aO.cW Or.o A2.o ah _ _ _⟩,?_⟩;have:=X.o;exact eX):p:=h
theorem jNx (h:p:=by 
 have hxk:Ext wl (((w9.setCell ⟨bn,0,none⟩ (.bool r.neg)).setCell ⟨bn,1,none⟩ (.slice x1 r.num.length x2)).setCell ⟨bn,2,none⟩ (.slice x3 r.den.length x4)):=cw (o:=0) XK.o (Nat.le_trans XL.o zO.o);have how:=uQ (o:=0) (x:=.bool r.neg) (y:=.slice x1 r.num.length x2) (z:=.slice x3 r.den.length x4) OW.o BZ.o (Nz.o bn zO.o);have oO:∀ j,j < k+1→xY m p vals j=0:=fun j hj=>by
  by_cases e:j=k
  ·rw [e];exact zP.o
  ·exact OK.o j Z
 obtain ⟨oP,B2,N2,Gy,OY⟩:=iR oO hb1 hn1 hxk how;clear hp hb1 hn1 hxk how oO;have hlk:((sk m p vals).take k).length=k:=by rw [List.length_take,JN.o];omega
 have CQ:=kI hlk;have HP2:=kI (show p.length≤200 from Df.o);clear hlk;have HE2:=kI (fW.new N2.o XL.o);go_wp2_with (at_builtin;(refine aN (((w9.setCell ⟨bn,0,none⟩ (.bool r.neg)).setCell ⟨bn,1,none⟩ (.slice x1 r.num.length x2)).setCell ⟨bn,2,none⟩ (.slice x3 r.den.length x4)) rfl _ _ 29 rfl wl.heap.size 25 (.agg #[.bool false,.slice none 0 0,.slice none 0 0]) 3 56 Tryz.underlying29 Tryz.dH rfl ah (fW.keeps ah) _ _ OY.o rfl [.bool r.neg,.slice x1 r.num.length x2,.slice x3 r.den.length x4] rfl iW r HE2.o (by rw [World.size_setCell,World.size_setCell,World.size_setCell];rfl) (by have:=CQ.o;have:=HP2.o;omega) (by have:=CQ.o;have:=HP2.o;omega) Gy.o.size ?_))
 intro g9 Bh w10 hown hkp;have O3:=kI hown;have X3:=kI (Below.trans Gy.o (hkp.below Gy.o.size));clear hown hkp;clear Wj Wk Wl;go_wp2_with fail;go_roundw
 case rel=>exact ⟨k+1,by omega,by go_num,oP.o,by rw [KD.o];exact O3.o,X3.o⟩
 case measure=>simp [intOf];omega):p:=h
theorem jQa (h:p:=by 
 unfold wpOpIn at *;simp only [hj] at *;rw [wanted_put oj a oi.dst v h1] at h;split
 ·rename_i hw;simp only [hw,if_true] at h;refine ⟨fun f _=>hF.fn f,?_⟩;have h:=h.2;rw [jf _ _ _ hdj,execOp_put oj hsj a oi.dst v h1] at h;rw [jf _ _ _ hdj];generalize (execOp a.eval oj).run P w=r at *
  cases r with
  | ok x w'=>
   cases x <;> simp only [Oper.uponIn] at h ⊢
   case value u=>exact ⟨keep a hy u,by rw [← Act.put_comm a v u h2];exact h⟩
   case skip=>exact ⟨keep a hy _,by rw [← Act.put_comm a v undef h2];exact h⟩
   case defer d=>
    refine ⟨keep _ (keepD d) _,?_⟩;rw [← Act.put_comm _ v undef h2,← Act.put_defers];exact h
   case enter f args=>
    refine ⟨h.1,CallsIn.mono h.2 fun e w'' he=>?_⟩;cases e with
    | returned u=>exact ⟨keep a hy u,by rw [← Act.put_comm a v u h2];exact he⟩
    | panicked c=>exact hQ _ _ _ he
    | outgrown=>exact he
   case row row args=>exact ⟨h.1,RowsIn.mono h.2 fun u w'' he=>⟨keep a hy u,by rw [← Act.put_comm a v u h2];exact he⟩⟩
   case round l f tmps assign body=>
    refine ⟨h.1,RoundIn.mono h.2 fun e w'' he=>?_⟩;cases e with
    | returned u=>exact ⟨keep a hy u,by rw [← Act.put_comm a v u h2];exact he⟩
    | panicked c=>exact hQ _ _ _ he
    | outgrown=>exact he
  | halt x w'=>
   cases x <;> simp only [Oper.uponIn] at h ⊢
   case panic u=>exact hQ _ _ _ h
 ·rename_i hw;simp only [hw] at h;exact ⟨fun f _=>hF.fn f,keep a hy _,by rw [← Act.put_comm a v undef h2];exact h.2⟩):p:=h
theorem kKs (h:p:=by 
 obtain ⟨a1,c1,rfl,hc1,hm1,hr1⟩:=fC h1;clear h1;have H1:=kI hr1;clear hr1;go_enter Tryz.func170,Tryz.ntmps170
 go_wp2
 go_loopw [3,4] (fun v i wr=>∃ k:Nat,k≤l1.length∧i=.int .i64 k∧Gz wr w.heap.size v (l1.take k)∧Ext w wr)
  (fun _ i _=>l1.length - (intOf i).toNat)
 case atStart=>exact ⟨0,Nat.zero_le _,rfl,World.ownsRow_nil _ _ _ _,Ext.refl w⟩
 case round=>
  obtain ⟨k,hk,rfl,hown,hext⟩:=hrel;by_cases hlt:k < l1.length
  ·obtain ⟨b1,o1,rfl,hb1,hx1⟩:=H1.o k hlt;have hx2:=(hext.cell (p:=⟨b1,o1+k,none⟩) hb1).trans hx1;clear hx1;have hz:=hext.size;have hl:=List.length_take_of_le (Nat.le_of_lt hlt);rw [Gz,hl] at hown;have HO:=kI hown;clear hown;have HE:=kI hext;clear hext;have HL:=kI hl;clear hl;go_wp2_with (at_builtin;(refine bY wr rfl _ _ 22 rfl w.heap.size 157 (.int .u32 0) 1 4 Tryz.underlying22 Tryz.ko rfl ah _ _ _ HO.o rfl [_] rfl iW rfl Z Z hz ?_))
   intro g cap w1 hown1 hb1;have KF:=kI hown1;clear hown1;have HB1:=kI hb1;clear hb1;go_wp2
   go_roundw
   case rel=>
    refine ⟨k+1,by omega,by go_num,?_,Below.trans HE.o HB1.o⟩;have:=KF.o;rw [Gz,oT _ _ _ hlt,List.length_take_of_le Z];simpa [hlt] using this
   case measure=>simp [intOf];omega
  ·rw [List.take_of_length_le Z] at hown;have HO:=kI (bv.yp hown);have HE:=kI hext;clear hown hext;go_wp2
   go_ret;exact ⟨⟨_,rfl,HO.o⟩,HE.o⟩):p:=h
theorem zJd (h:p:=by 
 obtain ⟨h1,o,h2,h3⟩:=mem_ready.1 hj;have h2':l[j]?=some o:=by simpa using h2
 have hst:=cE.get (l.take n) 0 hS j o (by rw [ig hjn];exact h2');rw [Nat.zero_add] at hst;refine wpOp_step h2 fun K' hK=>hst a W inv.ext inv.base (fun e oe d he hd hwt=>?_) K' fun v W' hx hv=>hK _ _ (ih _ _ _ ?_ (inv.step hB hR hJ hjn h2' hj hx hv))
 ·simp only [Bool.and_eq_true,decide_eq_true_eq] at hwt;obtain ⟨eg,k1,k2,k3⟩:=oU (by simpa using hwt.1);exact inv.done e oe d Wm hd (by rw [← k3];exact h3 eg k1 k2)
 ·have:=sm hjn TJ h1;omega):p:=h
theorem jD8 (h:p:=by 
 rintro e w2 ⟨⟨v,rfl,nn⟩,hx⟩;have hx:=Ext.trans (show Ext w1 _ from by first|exact Ext.refl _|exact (Ext.refl _).drew) hx;revert A0 A1 X HN HD On;refine lf hx ?_;intro A0 A1 X HN HD On;obtain ⟨d1,d2,rfl⟩:=nn.shape;have Od:=kI (nn.from (Ext.trans x1 eX));clear nn hx x1;(try go_wp2_with fail);refine hK.out _ _ ?_ (fun hHeld=>?_)
 ·exact af.s3 A0.o
 clear hK K;(try simp only [sP]);refine tk 8 ?_;have q2:=A1.o.cell;have f2:=A1.o.free;have Ny:=A1.o.lt;refine dt [9] ?_;refine rc (fun K hK=>?_);go_simp;(try go_wp2_with fail);refine hK.out _ _ ?_ (fun hHeld=>?_)
 ·((try dsimp only);(refine af.s3 ?_ <;> (repeat (first|exact A0.o|refine af.setOther ?_ aD _|refine af.alloc ?_ _|refine af.drew ?_))))
 clear hK K;(try simp only [sP]);refine wpAnyH_done ak ?_ _;go_wp2_with fail;refine bodyPost_ret (v:=.agg #[.bool b,.slice n1 l1.length n2,.slice d1 l2.length d2]) (by simp only [results,Tryz.results61];go_simp) rfl ⟨⟨_,rfl,?_⟩,?_⟩
 ·exact ⟨_,_,rfl,cF.cW On.o A1.o ah _ _ _,cF.cW Od.o A1.o ah _ _ _⟩
 ·have:=X.o;exact eX):p:=h
theorem jU9 (h:p:=by 
 go_wp2
 go_loopw [5] (fun i wr=>∃ k:Nat,k≤l1.length∧i=.int .i64 k∧l1.take k=l2.take k∧∃ n,wr=w.drewN n)
  (fun i _=>l1.length - (intOf i).toNat)
 case atStart=>exact ⟨0,Nat.zero_le _,rfl,rfl,0,rfl⟩
 case round=>
  obtain ⟨k,hk,rfl,htake,n,rfl⟩:=hrel;have HT:=kI htake;clear htake;by_cases hlt:k < l1.length
  ·obtain ⟨b1,o1,rfl,hb1,hx1⟩:=H1.o k hlt;obtain ⟨b2,o2,rfl,hb2,hx2⟩:=H2.o k hlt;go_wp2_with fail;go_quiet (fail)
   go_wp2
   ·have hne:(l1[k] != l2[k]?.getD 0)=true:=by assumption
    go_ret;refine ⟨ii ?_,((Ext.refl w).drewN _).drewN _⟩;rw [eq_comm,decide_eq_false_iff_not];rintro rfl;simp [hlt] at hne
   ·have he:(l1[k] != l2[k]?.getD 0)=false:=by assumption
    have hlt2:k < l2.length:=HL.o ▸ hlt;go_roundw
    case rel=>exact ⟨k+1,by omega,by go_num,tl HT.o hlt hlt2 (by simpa [hlt2] using he),_,rfl⟩
    case measure=>simp [intOf];omega
  ·go_wp2
   go_ret;refine ⟨ii ?_,(Ext.refl w).drewN _⟩;have:=HT.o;rw [List.take_of_length_le Z,List.take_of_length_le (by have:=HL.o;omega)] at this;simp [this]):p:=h
theorem Wn (h:p:=by 
 have rg:Ext w wf:=by rw [hwf];exact ((X.o).set (p:=⟨w.heap.size+1+1,0,none⟩) Wo _).set (p:=⟨w.heap.size+1,0,none⟩) Wo _
 rw [← hwf];clear hwf;obtain ⟨HFE,HF0,Wp⟩:=cC hfe hf0 rg;have ke:=hfe.cell 0;have k0:=hf0.cell 0;simp only [List.getElem?_toArray,List.getElem?_cons_zero] at ke k0;clear hfe rg hf0;simp [Leaves,settle,results,Tryz.results19,go_sem,dC,ke,k0];exact ⟨dN.mk (bm.nil _ _) E.o,Wp.o.drew⟩):p:=h
theorem kZd (h:p:=by 
 have hb:nv la*2 ^ k≤nv l1:=by
  rw [K1.o,HGG.o];exact Nat.mul_le_mul (Nat.gcd_le_left _ (by have:=K3.o;omega)) (Nat.pow_le_pow_right Z Z)
 have hl:(lim (nv la*2 ^ k)).length≤512:=Nat.le_trans (aG.2 (Nat.lt_of_le_of_lt hb (bJ jg.o))) g1;have hsz:=VX.o.size;have hcall:=oV w.heap.size _ _ 0 _ VV.o (aH _) (aW _) Z hsz Z;have ek:2*nv (lim (nv la*2 ^ k))+(0:Int).toNat=nv la*2 ^ (k+1):=by
  rw [aA,Nat.pow_succ,Nat.mul_comm 2 (nv la*2 ^ k),Nat.mul_assoc];rfl
 rw [ek] at hcall;have HC2:=kI hcall;clear hcall hb ek;go_wp2_with fail;refine HC2.o.mono ?_;rintro e w9 ⟨⟨v',rfl,hv⟩,hb⟩;have VV2:=kI hv;have VX2:=kI (Below.trans (show Below w.heap.size w wr from VX.o) hb);clear hv hb;go_wp2_with fail;go_roundg (gk - 1)
 case measure=>omega
 case rel=>exact ⟨k+1,by omega,rfl,VV2.o,VX2.o⟩):p:=h
theorem kF4 (h:p:=by 
 obtain ⟨uR,uS,uT⟩:=JO.o.q3;go_wp2_with fail;go_roundw
 case rel=>
  obtain ⟨Bi,e1,e2,e3,e4,e5⟩:=O9.o (min (a:Int) ((al:Int) - 1)) Z;exact ⟨s+1,_,Bi,by omega,by go_num,rfl,NEXT.o _ (by simp <;> omega),e1,e2,e3,e4,e5⟩
 case measure=>simp [intOf];omega):p:=h
theorem TK (h:p:=by 
 clear hn hm;go_wp2
 go_ret;exact ⟨⟨_,rfl,fun h=>by cases h⟩,X0.drewN _⟩):p:=h
theorem TL (h:p:=by 
 go_wp2_with fail;go_ret2
 exact ⟨dN.mk (bm.nil _ _) E.o,X.o⟩):p:=h
theorem qU (h:p:=by exact ⟨af.s3 A0.o,af.s3 A1.o⟩):p:=h
theorem qFm (h:p:=by intro a W hW hB hD K hK;obtain ⟨v15,e15,h15⟩:=aQ (hD 3 _ 15 rfl rfl ak);obtain rfl:=h15;have z9:=aR e15;go_simp;exact hK _ _ (Ext.refl _) trivial):p:=h
theorem Pa (h:p:=by exact ⟨(AK.o.keeps KW.o ah).cell 3,Kv.o _ XW.o,VC.o.c3 XW.o⟩):p:=h
theorem Pb (h:p:=by exact ⟨EA.o.c3 (by have x9:=X.o;exact eX),EB.o.c3 (by have x9:=X.o;exact eX)⟩):p:=h
theorem Wq (h:p:=by intro listed a W hf inv;rw [Nat.zero_add];refine hfin listed a W inv (oW hn hB Pc fun j hj hm=>?_);have h1:=(mem_ready.1 hm).1;have h3:j ∈ still n listed:=List.mem_filter.2 ⟨List.mem_range.2 hj,by rw [h1];rfl⟩;rw [List.length_eq_zero_iff.1 hf] at h3;cases h3):p:=h
theorem jD0 (h:p:=by rintro ll pre x W K h1 h2 hlt2 hK;have Pd:=kI h1;have Pe:=kI h2;clear h1 h2 hseq I0;rw [ha0];simp only [List.zip_toArray,List.zip_cons_cons,List.zip_nil_left,List.zip_nil_right,List.foldl_toArray,List.foldl_toArray',List.size_toArray,List.length_cons,List.length_nil,List.foldl_cons,List.foldl_nil,List.setIfInBounds_toArray,List.set_cons_succ,List.set_cons_zero];gi_wp2_with fail;exact hK _ _ (Ext.refl W) ⟨Pd.out,Pe.out,by rw [ha0];simp only [List.setIfInBounds_toArray,List.set_cons_succ,List.set_cons_zero]⟩):p:=h
theorem Pf (h:p:=by exact ⟨Kx (BY.o.keeps KW.o ah),VC.o.c3 XW.o⟩):p:=h
theorem qH0 (h:p:=by 
 refine ⟨⟨hgrow.os,hgrow.tape,hgrow.output,hgrow.size,fun i hi=>by omega⟩,fun i hi ho=>hgrow.block i hi ?_⟩;intro heq;rcases h1.2 with ⟨rfl,_⟩|⟨g,cap,cur,rfl,hb,hg,_⟩
 ·simp [Value.ownBlock] at heq
 ·simp [Value.ownBlock] at heq;subst heq;have hg2:af (W.alloc (.cells cs.toArray e)) i cur e:=af.alloc (show af W i cur e from hg) _;rcases ho with ho|⟨c2,u,h5,h6⟩
  ·omega
  ·unfold af at hg2 h5;rw [hg2] at h5;injection h5 with h5
   injection h5 with _ h7
   exact h6 h7.symm):p:=h
theorem Ws (h:p:=by rintro e w1 ⟨⟨v,rfl,n1⟩,hx1⟩;obtain ⟨a1,c1,rfl⟩:=n1.shape;have N1:=kI n1;have X1:=kI hx1;clear n1 hx1;go_wp2_with fail;go_ret;exact ⟨⟨_,rfl,N1.o⟩,X1.o⟩):p:=h
theorem jQ5 (h:p:=by 
 rw [← hx] at hc;have HX:=kI hx;clear hx;by_cases hz:x=0
 ·subst hz;go_wp2
  go_roundw
  case rel=>exact ⟨k - 1,by omega,by go_num,Bj hk h0 HX.o.symm HT.o,_,rfl⟩
  case measure=>simp [slen];omega
 ·have hz':(x == 0)=false:=by simpa using hz
  go_wp2
  go_ret;have e:=uU HL.o hk (.inr (by rw [← HX.o];exact hz)) HT.o;have el:(lim (nv l)).length=k:=by rw [← e,List.length_take_of_le hk]
  exact ⟨by rw [el];rfl,(H.o.lim e).ext ((Ext.refl w).drewN _),(Ext.refl w).drewN _⟩):p:=h
theorem Pg (h:p:=by 
 have yq:=HX.x hx1;clear hx1;go_wp2
 go_roundw
 case rel=>exact ⟨k+1,by omega,by go_num,yq.o⟩
 case measure=>simp [intOf];omega):p:=h
theorem zNh (h:p:=by obtain ⟨aK,fA0,aJ⟩:=A0.o.q3;obtain ⟨cT,cU,lA1⟩:=A1.o.q3;go_wp2_with fail;refine (HQ.o _ X.o).mono ?_;rintro e w1 ⟨rfl,hx⟩;clear aK fA0 aJ cT cU lA1;revert A0 A1 X;refine lf hx ?_;intro A0 A1 X;clear HQ;obtain ⟨aK,fA0,aJ⟩:=A0.o.q3;obtain ⟨cT,cU,lA1⟩:=A1.o.q3;go_wp2_with fail;refine (HP.o _ X.o).mono ?_;rintro e w2 ⟨rfl,hx⟩;clear aK fA0 aJ cT cU lA1;revert A0 A1 X;refine lf hx ?_;intro A0 A1 X;clear HP;go_wp2_with fail;go_ret;exact ⟨rfl,X.o⟩):p:=h
theorem qLn (h:p:=by 
 obtain rfl:j=ac.length:=by omega
 have q5:¬ (ac.length:Int) < (ac.length:Int):=by omega
 have hs:qV ss.length (ss.getD k [])=0:=by rw [← iY.o];exact JP g1 g2 OA.o
 have oO:∀ j,j < k+1→qV ss.length (ss.getD j [])=0:=fun i hi=>by
  by_cases e:i=k
  ·rw [e];exact hs
  ·exact OK.o i Z
 have oP:=kI oO;have Wt:=kI (XB.o.trans XK.o);clear hs oO g1 g2;go_wp2_with fail;go_roundw
 case rel=>exact ⟨k+1,by omega,by go_num,oP.o,Wt.o⟩
 case measure=>simp [intOf];omega):p:=h
theorem Wu (h:p:=by 
 intro j u hj;have hlt:j < cs.length:=(List.getElem?_eq_some_iff.1 hj).1;have hadd:(⟨W.heap.size,0,none⟩:Addr).add j=⟨W.heap.size,j,none⟩:=by unfold Addr.add;split <;> simp_all
 rw [hadd,World.cell?_alloc_at _ _ _ _ rfl];simpa using hj):p:=h
theorem CR (h:p:=by exact ⟨af.s3 (g2.alloc _),af.s3 (g3.alloc _)⟩):p:=h
theorem Wv (h:p:=by 
 intro g cap2 w2 hown2 hk2;have Ww:=kI hown2;have xX:=kI (Below.trans HX.o (hk2.below hz1));clear hown2 hk2;go_wp2
 go_roundw
 case rel=>
  refine ⟨k+1,by omega,by go_num,?_,xX.o⟩;rw [HT.o];exact Ww.o
 case measure=>simp [intOf];omega):p:=h
theorem zHg (h:p:=by 
 unfold af at hg2 h5;rw [hg2] at h5;injection h5 with h5
 injection h5 with _ h7
 exact h6 h7.symm):p:=h
theorem zBa (h:p:=by have E:=kI (HE.o k hlt OK.o 8 hE ah);clear hE;go_wp2_with fail;go_ret;have:=X.o;exact ⟨aV E.o.symm,by rw [uV.o] at this;exact this⟩):p:=h
theorem kK9 (h:p:=by 
 go_wp2_with fail;refine HOW.o.mono ?_;rintro e w1 ⟨rfl,hg⟩;have G1:=kI hg;clear hg;go_wp2_with fail;go_roundw
 case rel=>exact ⟨k+1,by omega,by go_num,HG.o.trans G1.o,HR.o.gr G1.o⟩
 case measure=>simp [intOf];omega):p:=h
theorem kRb (h:p:=by intro a W hW hB hD K hK;obtain ⟨v17,e17,h17⟩:=aQ (hD 5 _ 17 rfl rfl ak);obtain ⟨d1,d2,d3,d4,rfl,dh⟩:=h17;obtain ⟨v18,e18,h18⟩:=aQ (hD 6 _ 18 rfl rfl ak);obtain ⟨e1,rfl,eh⟩:=h18;obtain ⟨v15,e15,h15⟩:=aQ (hD 3 _ 15 rfl rfl ak);obtain rfl:=h15;have z9:=aR e15;go_simp;refine (oS.o _ _ _ dh eh).mono ?_;rintro e w9 ⟨rfl,hx⟩;exact hK _ _ hx rfl):p:=h
theorem TM (h:p:=by 
 rw [List.take_of_length_le Z] at hown;have HO:=kI hown;have HX:=kI hext;clear hown hext;go_wp2
 go_ret;exact ⟨⟨_,rfl,HO.o⟩,HX.o⟩):p:=h
theorem Wx (h:p:=by go_simp;refine hK _ _ ((Ext.refl _).alloc _) (fun W9 k=>?_);have kk:=(Keeps.ext ((Ext.refl W).alloc _)).trans k;have bb:=(af.new W _ _).keeps k ah;exact Dg bb (OR.o W9 ((Keeps.ext hW).trans kk))):p:=h
theorem Wy (h:p:=by 
 have hne:still n listed≠[]:=fun e=>by rw [e] at hf;cases hf
 obtain ⟨i,hi⟩:=List.exists_mem_of_ne_nil _ hne;obtain ⟨h1,h2⟩:=List.mem_filter.1 hi;exact ⟨i,List.mem_range.1 h1,by simpa using h2⟩):p:=h
theorem TN (h:p:=by have h2:=((hB.set 0 (.bool RS.neg)).set 1 (.slice p13 RS.num.length q13)).set 2 (.slice gZ RS.den.length kl);exact kI Bk):p:=h
theorem TO (h:p:=by 
 clear hn hm;go_wp2
 go_roundw
 case rel=>exact ⟨k+1,by omega,by go_num,X0.drewN _,⟨_,rfl⟩,S⟩
 case measure=>simp [intOf];omega):p:=h
theorem zUz (h:p:=by rintro e w8 ⟨rfl,rfl⟩;(try simp +zetaDelta only [Exit.then,Exit.inBlock]);exact cX ah ⟨rfl,rfl⟩ A1.o A2.o X.o WA.o HE.o [] List.nodup_nil (fun r h=>by cases h)):p:=h
theorem zC8 (h:p:=by have hl3:=hk3.2.2.trans hl2;have hlt3:w.heap.size+1 < W3.heap.size:=(Array.getElem?_eq_some_iff.1 hl3).1;have:=run_endRound (P:=P) jump hl3;rw [hrec] at this ⊢;exact ⟨this,World.putObj_heap_same hlt3,(World.putObj_heap_other Z).trans (hk3.2.1.trans hk2),NF _ _ _ (NF _ _ _ hV1 hb3) (hRk _ _ Z (Kq.iZ _ (hk3.2.2.trans hl2)))⟩):p:=h
theorem WB (h:p:=by 
 injection e with e
 simp only [Array.mk.injEq,List.cons.injEq,Value.slice.injEq,and_true,true_and] at e;obtain ⟨⟨rfl,rfl⟩,⟨rfl,rfl⟩,⟨rfl,rfl⟩⟩:=e;exact ⟨f1,f2⟩):p:=h
theorem TP (h:p:=by rw [List.getD_eq_getElem?_getD,List.getElem?_map,List.getD_eq_getElem?_getD (l:=m.states),List.getElem?_eq_getElem h];rfl):p:=h
theorem zD4 (h:p:=by 
 obtain rfl:k=p.length:=by omega
 have q1:¬ (p.length:Int) < (p.length:Int):=by omega
 have hE:=HI.o OK.o;have hte:(sk m p vals).take p.length=sk m p vals:=List.take_of_length_le (by rw [JN.o];exact Nat.le_refl _);rw [hte] at OW;have WC:=kI (OW.o.mono WL.o);have E:=kI hE;clear hE hte;go_wp2_with fail;go_ret2
 exact ⟨dN.mk WC.o E.o,X.o⟩):p:=h
theorem kHn (h:p:=by 
 have h1:=List.all_eq_true.1 hh2 t (List.mem_range.2 htlt);simp only [Bool.or_eq_true,decide_eq_true_eq,hot] at h1;rcases h1 with h1|h1
 ·omega
 ·obtain ⟨e,he,h2⟩:=Array.any_eq_true'.1 h1;simp only [Bool.and_eq_true,decide_eq_true_eq] at h2;have h3:=hall e he h2.1;have h4:=getD_both (inv.tail e.on h2.2.1 h2.2.2);rw [h3] at h4;cases h4):p:=h
theorem WD (h:p:=by 
 go_wp2_with fail;refine (HK.o _ H1.o H2.o).mono ?_;rintro e w1 ⟨rfl,hx1⟩;have X1:=kI hx1;clear hx1;go_wp2_with fail;go_ret2
 exact ⟨zQ.mk (bv.nil _ _) e1.out,X1.o⟩):p:=h
theorem jLq (h:p:=by intro a W hW hB hD K hK;obtain ⟨v16,e16,h16⟩:=aQ (hD 4 _ 16 rfl rfl ak);obtain rfl:=h16;obtain ⟨v15,e15,h15⟩:=aQ (hD 3 _ 15 rfl rfl ak);obtain rfl:=h15;have q9:=(A0.o.ext hW).cell;have l9:=(A0.o.ext hW).lt;have z9:=aR e15;go_simp;exact hK _ _ (Ext.refl _) ⟨_,_,_,_,rfl,HR.o.ext hW⟩):p:=h
theorem jWi {p:Prop} (h:p:=by exact ((X.o.set (p:=⟨w.heap.size,0,none⟩) (Nat.le_refl _) _).set (p:=⟨w.heap.size,1,none⟩) (Nat.le_refl _) _).set (p:=⟨w.heap.size,2,none⟩) (Nat.le_refl _) _):p:=h
theorem NG (h:p:=by 
 go_wp2
 go_ret;exact ⟨by rw [H.o];rfl,eX⟩):p:=h
theorem qLy (h:p:=by 
 unfold jh at hi ⊢;rw [List.length_set,List.length_replicate] at hi;rw [List.getD_eq_getElem?_getD,Int.toNat_natCast];by_cases e:i=sn
 ·subst e;rw [List.getElem?_set_self (by rw [List.length_replicate];exact hi)];exact cG _
 ·rw [List.getElem?_set_ne (Ne.symm e),List.getElem?_replicate,if_pos hi];exact bO):p:=h
theorem kRi (h:p:=by 
 rw [← hw7] at h;refine h.congr (fun k hk=>?_);unfold jh;rw [List.getD_eq_getElem?_getD,Int.toNat_natCast];by_cases e:k=sn
 ·subst e;rw [if_pos rfl,List.getElem?_set_self (by rw [List.length_replicate];exact hk),← ys.o];rfl
 ·rw [if_neg e,List.getElem?_set_ne (Ne.symm e),List.getElem?_replicate,if_pos hk];rfl):p:=h
theorem kQq (h:p:=by 
 have h4:T (listed.setIfInBounds j true) w':=by
  have:=h3.2.1;rw [Array.setIfInBounds_comm _ _ (Ne.symm hji)] at this;exact (hT _ _).1 this
 refine ⟨h4,ih (listed.setIfInBounds j true) a' w' hfree' (ready_mono hr (Ne.symm hji)) h3.1 (hC _ j oj hoj hnot hc) h4 ?_⟩;rw [Array.setIfInBounds_comm _ _ hji];exact h3.2.2):p:=h
theorem kJ7 (h:p:=by obtain ⟨cT,cU,lA1⟩:=A1.o.q3;obtain ⟨ji,jk,lA2⟩:=A2.o.q3;obtain ⟨Bl,fA3,lA3⟩:=A3.o.q3;go_wp2_with fail;clear cT cU lA1 ji jk lA2 Bl fA3 lA3;refine (bB (c:=1) ah _).mono ?_;rintro e w9 ⟨rfl,rfl⟩;exact gL ah ⟨rfl,rfl,rfl⟩ A1.o A2.o A3.o X.o WA.o E.o):p:=h
theorem WF (h:p:=by obtain ⟨VM,VN,VP⟩:=BK.o.q3;go_wp2_with fail;go_ret;exact ⟨nE.mk _,XK.o⟩):p:=h
theorem TQ (h:p:=by 
 rcases h1 with ⟨_,h0,a,ha,rfl⟩|⟨g,cap,_,rfl,_⟩
 ·rw [h0];exact ⟨_,_,rfl⟩
 ·exact ⟨_,_,rfl⟩):p:=h
theorem TR (h:p:=by 
 refine hfree k ok hk hki ?_ hno;by_cases hjk:j=k
 ·exact hjk ▸ hjun
 ·rwa [getD_set_ne true hjk] at hun):p:=h
theorem jRm (h:p:=by 
 subst he;have Ph:∀ i,i < j+1→dZ ss.length (ac.getD i dA)=0:=fun i hi=>by
  by_cases e:i=j
  ·rw [e];exact Pi.o.symm
  ·exact OA.o i Z
 have WG:=kI Ph;clear Ph;go_wp2_with fail;go_roundw
 case rel=>exact ⟨j+1,by omega,by go_num,WG.o,XK.o⟩
 case measure=>simp [intOf];omega):p:=h
theorem zAf (h:p:=by 
 refine ⟨⟨_,af.new w _ _,?_,?_⟩,by simp,by omega⟩
 ·have:=size_madeCells (Value.int .u32 0).cells (n*1);simpa using this
 ·have e:=yt n;rw [List.length_replicate];rw [← e,Nat.mul_one];apply List.take_of_length_le;rw [Array.length_toList,size_madeCells];exact Nat.le_refl _):p:=h
theorem JQ (h:p:=by exact ⟨af.s3 (g2.ext hx),af.s3 (g3.ext hx)⟩):p:=h
theorem WH (h:p:=by rintro e w9 ⟨⟨v,rfl,nn⟩,hx⟩;obtain ⟨x1,x2,x3,x4,rfl⟩:=nn.shape;obtain ⟨s1,s2⟩:=GA nn;exact hK _ _ hx ⟨_,_,_,_,rfl,s1,s2⟩):p:=h
theorem zFm (h:p:=by intro a W hW hB hD K hK;obtain ⟨v5,e5,h5⟩:=aQ (hD 2 _ 5 rfl rfl ak);obtain ⟨x1,x2,x3,x4,rfl,e1,e2⟩:=h5;obtain ⟨v8,e8,h8⟩:=aQ (hD 5 _ 8 rfl rfl ak);obtain ⟨x5,x6,rfl,e3⟩:=h8;go_simp;exact hK _ _ (Ext.refl _) ⟨_,_,_,_,_,_,rfl,e1,e2,e3⟩):p:=h
theorem qO6 (h:p:=by go_simp;exact hK _ _ (Ext.refl _) ⟨_,_,_,_,rfl,hn⟩):p:=h
theorem kW1 (h:p:=by 
 exfalso
 have:=oW hn hB Pc (fun j _ hm=>by rw [hr] at hm;cases hm) i hi;rw [getD_both hiu] at this;cases this):p:=h
theorem Pj (h:p:=by (intro w hSw;(try dsimp only at hSw);go_simp;first|done|with_reducible rfl)):p:=h
theorem zRg (h:p:=by intro a W hW hB hD K hK;obtain ⟨v15,e15,h15⟩:=aQ (hD 3 _ 15 rfl rfl ak);obtain rfl:=h15;have z9:=aR e15;go_simp;refine (eI 1 W Z Z).mono ?_;rintro e w9 ⟨⟨v,rfl,nn⟩,hx⟩;exact hK _ _ hx ⟨_,rfl,nn.rd⟩):p:=h
theorem TS (h:p:=by have h1:=hall e he hb;rw [heq,getD_both (mem_ready.1 hr).1] at h1;exact Bool.false_ne_true h1):p:=h
theorem JR (h:p:=by exact ⟨af.s3 A0.o.drew,af.s3 A1.o.drew⟩):p:=h
theorem jRh (h:p:=by 
 have yu:=kI hJ3;clear hJ3;gi_wp2
 go_roundw
 case rel=>
  rcases Nat.eq_zero_or_pos j with h|h
  ·subst h;exact .inl ⟨rfl,yu.o⟩
  ·exact .inr ⟨j - 1,by omega,by go_num,by rw [show j - 1+1=j by omega];exact yu.o⟩
 case measure=>simp [intOf] <;> omega):p:=h
theorem Pk (h:p:=by go_wp2_with fail;go_ret;exact ⟨JK.tt _ _,X.o⟩):p:=h
theorem zPc (h:p:=by rintro e w9 ⟨⟨v,rfl,nn⟩,hx⟩;exact hK _ _ hx ⟨_,rfl,nn.rd⟩):p:=h
theorem WI (h:p:=by rw [← hW1];have:=World.alloc_heap_new (w.alloc (.deferred (some []))) (.loop (rec .ready none));rwa [World.size_alloc] at this):p:=h
theorem TU (h:p:=by exact (Below.heap_setCell _ _ _ _ aD).trans (H4.o.block _ Z)):p:=h
theorem zVp (h:p:=by 
 go_enter Tryz.func130,Tryz.ntmps130
 go_wp2_with fail;exact bodyPost_ret (v:=.tuple #[.agg #[.bool false,.slice none 0 0,.slice none 0 0],.int .i64 4]) (by simp only [results,Tryz.results130];go_simp) rfl ⟨bG.mk (aO.zero _ _) E.o,eX⟩):p:=h
theorem jJu (h:p:=by exact ⟨by rw [el];rfl,(H.o.lim e).ext ((Ext.refl w).drewN _),(Ext.refl w).drewN _⟩):p:=h
theorem jYg (h:p:=by 
 have hE:dZ n ⟨co,l⟩=e2:=by rw [HI2.o,oX.o,HST.o,if_neg he];dsimp only;rw [if_pos he]
 have E:=kI hE;have q4:(e2 != 0)=true:=by simpa using he
 clear hE he;go_wp2_with fail;go_ret;exact ⟨aV E.o.symm,cw (o:=0) X.o GC.o⟩):p:=h
theorem zBt (h:p:=by 
 go_wp2
 go_ret;exact ⟨⟨_,rfl,HO.o⟩,HX.o⟩):p:=h
theorem zZa (h:p:=by 
 have E:=kI (HE.o k hlt OK.o zP.o he);have q6:(e != 0)=true:=by simpa using he
 have XW:Hid (w.heap.size≤bn):=kI (Nat.le_trans XS.o zO.o);clear he;go_wp2_with fail;go_ret2
 exact ⟨dN.mk (bm.nil _ _) E.o,cw (o:=0) X.o XW.o⟩):p:=h
theorem zOd (h:p:=by go_wp2_with fail;refine (lI o _ lk _ G4.o G2.o).mono ?_;rintro e w1 ⟨v',rfl,h1,h2⟩;have P1:=kI h1;have P2:=kI h2;clear h1 h2;go_wp2_with fail;go_ret;refine ⟨⟨_,rfl,o,?_,GF.o⟩,G5.o.trans P2.o⟩;rw [← GV.o];exact P1.o):p:=h
theorem qC6 {p:Prop} (h:p:=by obtain ⟨a,cap,rfl,h1,h2,h3⟩:=h;refine ⟨a,cap,rfl,h1,h2,fun i hi=>?_⟩;obtain ⟨b,off,ai,ci,e1,e2,e3,e4⟩:=h3 i hi;exact ⟨b,off,ai,ci,e1,Nat.lt_of_lt_of_le e2 e.size,(e.cell (p:=⟨b,off+i,none⟩) e2).trans e3,e4.ext e⟩):p:=h
theorem qTz (h:p:=by rintro e9 w9 ⟨⟨v,rfl,nn⟩,hx⟩;obtain ⟨s1,s2,s3,s4,rfl⟩:=nn.shape;exact hK _ _ hx ⟨_,_,_,_,rfl,nn.from hW⟩):p:=h
theorem zF4 (h:p:=by 
 injection hq with hq
 dsimp only at hq;subst hq;rcases hfr with h|h
 ·exact DA.o _ h
 ·exact .inr (Nat.le_trans SZ.o h)):p:=h
theorem kGp (h:p:=by have q9:=(BS.o.ext hW).cell;have l9:=(BS.o.ext hW).lt;go_simp;exact hK _ _ (Ext.refl _) ⟨_,_,_,_,rfl,NS.o.ext hW⟩):p:=h
theorem Pm (h:p:=by 
 have HX:=kI hext;clear hext;go_wp2
 go_ret;exact ⟨rfl,HX.o⟩):p:=h
theorem NH (h:p:=by obtain ⟨a,c,h,_⟩:=au.rh h;exact ⟨a,c,h⟩):p:=h
theorem WJ (h:p:=by 
 go_wp2
 go_ret;refine ⟨ii ?_,Ext.refl w⟩;rw [eq_comm,decide_eq_false_iff_not];rintro rfl;exact hlen rfl):p:=h
theorem kZ0 (h:p:=by intro a W hW hB hD K hK;obtain ⟨v13,e13,h13⟩:=aQ (hD 1 _ 13 rfl rfl ak);obtain rfl:=h13;have q9:=(A0.o.ext hW).cell;have l9:=(A0.o.ext hW).lt;go_simp;exact hK _ _ (Ext.refl _) (by rw [TV.o];rfl)):p:=h
theorem ri (h:p:=by simpa using this):p:=h
theorem jH2 (h:p:=by 
 go_wp2
 go_loopw [0] (fun v wr=>v=.slice a 0 0∧∃ n,wr=w.drewN n) (fun _ _=>0)
 case atStart=>exact ⟨rfl,0,rfl⟩
 case round=>
  obtain ⟨rfl,n,rfl⟩:=hrel;go_wp2
  go_ret;exact ⟨rfl,(Ext.refl w).drewN _⟩):p:=h
theorem kZy (h:p:=by go_wp2_with fail;refine H.o.mono ?_;rintro e w2 ⟨⟨v,rfl,n2⟩,hx2⟩;obtain ⟨a2,c2,rfl⟩:=n2.shape;have N2:=kI n2;have X2:=kI hx2;clear n2 hx2;go_wp2_with fail;go_ret;exact ⟨⟨_,rfl,N2.o⟩,X2.o⟩):p:=h
theorem zUo (h:p:=by 
 obtain ⟨hs,h1,_⟩:=h;rcases h1.2 with ⟨rfl,_⟩|⟨g,cap,cur,rfl,hb,hg,_⟩
 ·cases hq
 ·injection hq with hq
  dsimp only at hq;subst hq;exact ⟨⟨cur,hg⟩,hb,(Array.getElem?_eq_some_iff.1 hg).1⟩):p:=h
theorem WK (h:p:=by 
 clear he hsz;go_enter Tryz.func214,Tryz.ntmps214
 go_wp2
 go_ret;exact ⟨by rw [← HE.o];rfl,Ext.refl w⟩):p:=h
theorem jPa (h:p:=by 
 refine ⟨by simpa using h0,fun hje=>?_⟩;rcases h1 with h1|h1
 ·exact h1
 ·obtain ⟨e,he,h2⟩:=Array.any_eq_true'.1 h1;simp only [Bool.and_eq_true,beq_iff_eq] at h2;exact absurd h2.2 (hje e he h2.1)):p:=h
theorem kGr (h:p:=by 
 refine wpAnyH_done ak ?_ _;go_wp2_with fail;go_roundw
 case rel=>exact ⟨k+1,by omega,by go_num,by rw [TA.o];exact O1.o,by rw [TB.o];exact O2.o,D9.o,X9.o⟩
 case measure=>simp [intOf];omega):p:=h
theorem qQo (h:p:=by 
 intro j u hj;have hlt:j < cs.length:=(List.getElem?_eq_some_iff.1 hj).1;have hadd:(⟨bn,0,none⟩:Addr).add j=⟨bn,j,none⟩:=by unfold Addr.add;split <;> simp_all
 rw [hadd,hbn.cell];simpa using hj):p:=h
theorem qGr (h:p:=by 
 have h1:=hall e he hb;have h0:=(mem_ready.1 hr).1;rw [heq] at h1;rcases Nat.lt_or_ge i listed.size with h'|h'
 ·simp [h'] at h0 h1;rw [h0] at h1;cases h1
 ·simp [Array.getElem?_eq_none h'] at h1):p:=h
theorem WM (h:p:=by simp only [IntKind.wrap,IntKind.bits,IntKind.signed,Bool.false_and,Bool.false_eq_true,if_false];omega):p:=h
theorem qHj (h:p:=by intro a W hW hB hD K hK;go_simp;exact hK _ _ ((Ext.refl _).alloc _) ⟨_,rfl,hW.size,af.new _ _ _⟩):p:=h
theorem jL0 (h:p:=by rw [decide_eq_true hone];have HO:=kI hone;clear hone;go_wp2_with fail;go_ret;exact ⟨by rw [HE.o];unfold aE;rw [if_neg H1.o,if_pos (.inr (.inr (.inl HO.o)))];rfl,by have:=X4.o;exact eX⟩):p:=h
theorem qOc (h:p:=by have:=cz (f:=fun a=>(aC m v ((m.states.getD k []).getD a dA)).2) (k:=j) h2 (by rw [show (aC m v ((m.states.getD k []).getD j dA)).2=c from h3];exact hc) hj;exact this.trans h3):p:=h
theorem qV5 (h:p:=by exact ⟨none,_,by have:=run_endLoop (P:=P) hl TW;rw [hrec] at this;exact this,hdone xs _ hF (hI _ _ _ hi (Kq.iZ _ hl)) ((World.putObj_heap_other Z).trans hk)⟩):p:=h
theorem jRa (h:p:=by 
 rintro e w1 ⟨rfl,rfl⟩;simp [wpOpsS,go_sem,recoverD,hu,Tryz.ntmps80,Exit.thenS,he,hz];refine wpS_of_wp ?_;go_wp2
 simp [bodyPostS,results,Tryz.results80,go_sem] <;> (cases c₀;simp_all)):p:=h
theorem zG5 (h:p:=by 
 rintro e w1 ⟨rfl,rfl⟩;simp [wpOpsS,go_sem,recoverD,hu,Tryz.ntmps77,Exit.thenS,he,hz];refine wpS_of_wp ?_;go_wp2
 simp [bodyPostS,results,Tryz.results77,go_sem] <;> (cases c₀;simp_all)):p:=h
theorem qUa (h:p:=by 
 rintro e w1 ⟨rfl,rfl⟩;simp [wpOpsS,go_sem,recoverD,hu,Tryz.ntmps75,Exit.thenS,he,hz];refine wpS_of_wp ?_;go_wp2
 simp [bodyPostS,results,Tryz.results75,go_sem] <;> (cases c₀;simp_all)):p:=h
theorem jFr (h:p:=by 
 rintro e w1 ⟨rfl,rfl⟩;simp [wpOpsS,go_sem,recoverD,hu,Tryz.ntmps70,Exit.thenS,he,hz];refine wpS_of_wp ?_;go_wp2
 simp [bodyPostS,results,Tryz.results70,go_sem] <;> (cases c₀;simp_all)):p:=h
theorem kTz (h:p:=by 
 refine hK.out _ _ (T2.both (fw B1.o) (fw B2.o)) ?_;clear hK K;(try simp only [sP]);refine yr [3] ?_;refine yc (fun K hK=>?_);rw [if_pos (aX rfl)];refine eW e2 _ _ _ rfl w.heap.size 29 (.slice none 0 0) 1 24 Tryz.underlying36 Tryz.ij rfl ah (nG.keeps ah ah) _ _ OV.o rfl [.slice y1 xl.length d1] rfl iW xl (nG.of O1.o) nF N1.o rfl TX TX XW.o.size ?_;intro g3 cap3 e3 hrow hgr hfr;have hk:=au.kJ OV.o hgr;have hsr:=SR.o.grown OV.o hgr ah ah (fun q hq=>by have h1:=(au.fx OV.o hq).2.1;rcases DA.o q hq with h|h;exact .inl ⟨h1,h⟩;exact .inr h);have hds:Aside (Value.slice (some ⟨g3,0,none⟩) ((List.map (bu m vals) (List.range (pre.length+1))).length+1) cap3) H (w4.heap.size+2):=fun q hq=>by
  exact zF4
 obtain ⟨ua,hu⟩:=gN (Value.slice (some ⟨g3,0,none⟩) ((List.map (bu m vals) (List.range (pre.length+1))).length+1) cap3);rw [← hu] at hrow hds ⊢;clear hu;replace OP:=kI (bX.keeps OP.o hk ah ah);replace OV:=kI hrow;replace O2:=kI (eO.keeps O2.o hk ah);replace DA:=kI hds;replace N2:=kI (N2.o.keeps hk ah);replace B1:=kI (B1.o.keeps hk ah);replace B2:=kI (B2.o.keeps hk ah);replace B3:=kI (B3.o.keeps hk ah);replace SR:=kI hsr;replace SZ:=kI (Nat.le_trans SZ.o hk.size);replace XW:Hid (Ext w e3):=kI (Below.trans XW.o (hk.below XW.o.size));clear hrow hgr hfr hk hsr hds O1;exact zG2):p:=h
theorem kLk (h:p:=by refine hK.out _ _ (T2.both ⟨fw A1.o,fw BL.o,(BG.o.cell _).trans CC.o.1,(BG.o.cell _).trans CC.o.2.1,(BG.o.cell _).trans CC.o.2.2⟩ (fw A2.o)) ?_;clear hK K;(try simp only [sP]);refine xr [6] ?_;refine xc (fun K hK=>?_);rw [if_pos (aX rfl)];refine aZ e3 _ _ _ rfl w.heap.size 25 (.agg #[.bool false,.slice none 0 0,.slice none 0 0]) 3 56 Tryz.underlying29 Tryz.dH rfl ah (fW.keeps ah) _ _ OV.o rfl [.bool ry.neg,.slice p1 ry.num.length c1,.slice p2 ry.den.length c2] rfl iW ry EA.o nF N1.o rfl TY TY X.o.size ?_;intro g4 cap4 e4 hrow hgr hfr;obtain ⟨hk,hko⟩:=kK OV.o hgr;obtain ⟨ua,hu⟩:=gN (Value.slice (some ⟨g4,0,none⟩) (((kr m vals).take k).length+1) cap4);rw [← hu] at hrow ⊢;clear hu;replace BG:Hid (af e4 gl cur 25):=kI ((hgr.block gl BG.o.lt (fun e=>NE.o gl e.symm rfl)).trans BG.o);replace OZ:=kI (eO.keeps OZ.o hk ah);replace OV:=kI hrow;replace N2:=kI (N2.o.keeps hk ah);replace A0:=kI (A0.o.keeps hk ah);replace A1:=kI (A1.o.keeps hk ah);replace A2:=kI (A2.o.keeps hk ah);replace A3:=kI (A3.o.keeps hk ah);replace BL:=kI (BL.o.keeps hk ah);replace oR:=kI (oR.o.yo hko);replace uK:=kI (Nat.le_trans uK.o hk.size);replace X:Hid (Ext w e4):=kI (Below.trans X.o (hk.below X.o.size));clear hrow hgr hfr hk hko;exact qFg):p:=h
theorem kDz (h:p:=by 
 refine ⟨?_,?_,?_,?_,?_,?_,?_,?_,?_,?_,trivial⟩
 ·intro a W hW hB hD K hK;have b1:=hB 1 rfl;simp only [sB] at b1;exact fu
 ·intro a W hW hB hD K hK;obtain ⟨v12,e12,h12⟩:=aQ (hD 0 _ 12 rfl rfl ak);obtain rfl:=h12;exact fu
 ·exact kZ0
 ·intro a W hW hB hD K hK;obtain ⟨v14,e14,zW⟩:=aQ (hD 2 _ 14 rfl rfl ak);obtain rfl:=zW;exact fu
 ·intro a W hW hB hD K hK;have b1:=hB 1 rfl;simp only [sB] at b1;obtain ⟨v15,e15,h15⟩:=aQ (hD 3 _ 15 rfl rfl ak);obtain rfl:=h15;have z9:=aR e15;exact fu
 ·exact jLq
 ·exact zRg
 ·exact kRb
 ·intro a W hW hB hD K hK;obtain ⟨v19,e19,h19⟩:=aQ (hD 7 _ 19 rfl rfl ak);obtain rfl:=h19;obtain ⟨v15,e15,h15⟩:=aQ (hD 3 _ 15 rfl rfl ak);obtain rfl:=h15;have z9:=aR e15;exact fu
 ·intro a W hW hB hD K hK;obtain ⟨v15,e15,h15⟩:=aQ (hD 3 _ 15 rfl rfl ak);obtain rfl:=h15;obtain ⟨v20,e20,h20⟩:=aQ (hD 8 _ 20 rfl rfl ak);obtain rfl:=h20;exact fu):p:=h
theorem KG (h:p:=by intro a W hW hB hD K hK;have b1:=hB 1 rfl;simp only [sB] at b1;exact fu):p:=h
theorem zR3 (h:p:=by 
 subst h1;by_cases h2:l.length=ss.length
 ·have q2:((l.length:Int) != (ss.length:Int))=false:=by simp [h2]
  have E:=kI (show cJ ⟨d,ss⟩ l=0 by rw [EQ.o,if_neg (fun h=>h rfl),if_neg (fun h=>h h2)]);clear h2;exact Bg
 ·have q2:((l.length:Int) != (ss.length:Int))=true:=bne_iff_ne.2 Z;have E:=kI (show cJ ⟨d,ss⟩ l=16 by rw [EQ.o,if_neg (fun h=>h rfl),if_pos h2]);clear h2;exact Bg):p:=h
theorem Po (h:p:=by have q9:=(A0.o.ext hW).cell;have l9:=(A0.o.ext hW).lt;exact fu):p:=h
theorem kLs (h:p:=by 
 rintro e w9 ⟨⟨v,rfl,nn⟩,hx⟩;have hx:=Ext.trans (show Ext w8 _ from by first|exact Ext.refl _|exact (Ext.refl _).drew) hx;clear aK fA0 aJ cT cU lA1;revert A0 A1 A2 X Np Nq Nd;refine lf hx ?_;intro A0 A1 A2 X Np Nq Nd;obtain ⟨m1,m2,rfl⟩:=nn.shape;have Nm:=kI nn.rd;clear nn hx;(try go_wp2_with fail);refine hK.out _ _ ?_ (fun hHeld=>?_)
 ·exact qU
 clear hK K;(try simp only [sP]);have x6:=X.o;refine dt [6] ?_;refine rc (fun K hK=>?_);go_simp;refine (GH.o _ _ _ Nm.o (Nd.o.ext gM)).mono ?_;rintro e w10 ⟨⟨v,rfl,nn⟩,hx⟩;have hx:=Ext.trans (show Ext w9 _ from by first|exact Ext.refl _|exact (Ext.refl _).drew) hx;exact qKj):p:=h
theorem qJ3 (h:p:=by 
 have hk:Keeps B e W w':=by
  refine ⟨⟨hgrow.os,hgrow.tape,hgrow.output,hgrow.size,fun i hi=>by omega⟩,fun i hi ho=>hgrow.block i hi ?_⟩;intro heq;rcases h1.2 with ⟨rfl,_⟩|⟨g,cap,cur,rfl,hb,hg,_⟩
  ·simp [Value.ownBlock] at heq
  ·simp [Value.ownBlock] at heq;subst heq;have hg2:af W i cur e:=hg;rcases ho with ho|⟨c2,u,h5,h6⟩
   ·omega
   ·exact zHg
 have hrow:au e size El B w' v' (l ++ [y]):=by
  exact jCy
 have h5:=hown'.2;rcases h5 with ⟨_,h0⟩|⟨g,cap,cur,rfl,_⟩
 ·omega
 ·exact h g cap w' hrow hgrow (hfr g rfl)):p:=h
theorem kNc (h:p:=by 
 by_cases p6:6 < plan.length
 ·have d1:(6:Int) < (plan.length:Int):=by omega
  by_cases p24:plan.length≤24
  ·have d2:(plan.length:Int)≤24:=by omega
   exact Pk
  ·have d2:¬ (plan.length:Int)≤24:=by omega
   by_cases p30:plan.length≤30
   rotate_left
   ·have d3:(30:Int) < (plan.length:Int):=by omega
    exact Pk
   have d3:¬ (30:Int) < (plan.length:Int):=by omega
   exact kSa
 ·have d1:¬ (6:Int) < (plan.length:Int):=by omega
  have d3:¬ (30:Int) < (plan.length:Int):=by omega
  have p30:plan.length≤30:=by omega
  exact kSa):p:=h
theorem Pq (h:p:=by intro a W hW hB hD K hK;have b1:=hB 1 rfl;simp only [sB] at b1;have q9:=(BY.o.ext hW).cell;have l9:=(BY.o.ext hW).lt;exact fu):p:=h
theorem WN (h:p:=by have q9:=(BY.o.ext hW).cell;have l9:=(BY.o.ext hW).lt;exact fu):p:=h
theorem NI (h:p:=by obtain ⟨aK,fA0,aJ⟩:=A0.o.q3;exact Bg):p:=h
theorem TZ (h:p:=by 
 have r1:(6:Int) < (m:Int):=by omega
 have r2:¬ (m:Int)≤128:=by omega
 have r3:(200:Int) < (m:Int):=by omega
 exact TK):p:=h
theorem zSh (h:p:=by 
 intro v' w' hown' hgrow _;have hk0:Keeps B e (W.alloc (.cells cs.toArray e)) w':=by
  exact qH0
 have hk:Keeps B e W w':=(Keeps.ext ((Ext.refl W).alloc _)).trans hk0;have hrow:au e size El B w' v' (l ++ [y]):=by
  exact jCy
 have h5:=hown'.2;rcases h5 with ⟨_,h0⟩|⟨g,cap,cur,rfl,_⟩
 ·omega
 ·exact h g cap w' hrow hk):p:=h
theorem qNf (h:p:=by intro a W hW hB hD K hK;have b10:=hB 10 rfl;simp only [sB] at b10;exact fu):p:=h
theorem zU0 (h:p:=by obtain ⟨aK,fA0,aJ⟩:=A0.o.q3;obtain ⟨oh,ol,ou⟩:=BY.o.q3;go_wp2_with fail;refine (iy _ r _ NR.o Pr.o).mono ?_;rintro e w2 ⟨rfl,hx⟩;clear aK fA0 aJ oh ol ou;revert XB;revert X;revert BY;revert NR;revert A0;revert HO;revert HR;exact kNf):p:=h
theorem zG9 (h:p:=by intro a W hW hB hD K hK;have b2:=hB 2 rfl;simp only [sB] at b2;exact fu):p:=h
theorem T0 (h:p:=by 
 have hlt:w.heap.size+1+1 < bx:=by omega
 rw [← hbx] at B11 ⊢;clear hw hbx hB;exact kWh):p:=h
theorem kJ8 (h:p:=by 
 rw [← hc] at E h1 ⊢;have q1:(c != 0)=true:=by simpa using h1
 clear h1 hc;exact Bg):p:=h
theorem qW5 (h:p:=by obtain ⟨aK,fA0,aJ⟩:=A0.o.q3;obtain ⟨oh,ol,ou⟩:=BY.o.q3;go_wp2_with fail;refine (cY _ r _ NR.o Pr.o).mono ?_;rintro e w2 ⟨rfl,hx⟩;clear aK fA0 aJ oh ol ou;revert HR HO A0 NR BY X XB;exact kNf):p:=h
theorem NJ (h:p:=by obtain ⟨aK,fA0,aJ⟩:=A0.o.q3;exact TL):p:=h
theorem T1 (h:p:=by 
 have r1:(6:Int) < (m:Int):=by omega
 have r2:(m:Int)≤128:=by omega
 exact TK):p:=h
theorem kDj (h:p:=by 
 have HOW:=kI how;simp only [List.getElem?_cons_zero,Nat.add_zero,Nat.mul_one] at z0;have q1:(0:Int)≤(k:Int):=by omega
 have q2:(k:Int) < (l.length:Int):=by omega
 clear hr hc how s1 hgr hrow hy;exact kK9):p:=h
theorem WO (h:p:=by intro a W hW hB hD K hK;have b5:=hB 5 rfl;simp only [sB] at b5;exact fu):p:=h
theorem qMy (h:p:=by 
 (refine aF ak ak ?_;(repeat (go_big_quiet_step ((fail))));refine wpQuiet_nil ?_;rintro w1 ⟨⟨_,hx1⟩,rfl⟩;(try dsimp only))
 replace X:=X.x hx1;exact TL):p:=h
theorem kA7 (h:p:=by 
 by_cases he:c=0
 rotate_left
 ·have E:=kI (HE.o k hlt OK.o c (by rw [← iY.o];exact Dj g1 g2 hlj OA.o Pi.o.symm he) he);have q7:(c != 0)=true:=by simpa using he
  clear he;exact Bg
 exact jRm):p:=h
theorem zPe (h:p:=by 
 obtain ⟨vn,vd,e,h1,h2⟩:=h;injection e with e
 simp only [Array.mk.injEq,List.cons.injEq,and_true,true_and] at e;obtain ⟨rfl,rfl⟩:=e;exact ⟨gB.new h1 hB,gB.new h2 hB⟩):p:=h
theorem jSu (h:p:=by exact ⟨hb.os.trans G8.o.os,hb.tape.trans G8.o.tape,hb.output.trans G8.o.output,Nat.le_trans G8.o.size hb.size,fun i hi hn=>(hb.block i Z).trans (G8.o.block i hi hn)⟩):p:=h
theorem qXr (h:p:=by 
 clear hb2 hc0;go_wp2_with fail;all_goals (try (exfalso;omega))
 go_roundw
 case rel=>exact ⟨j+1,by omega,hlj,by rw [HB2.o],by go_num,XJ.o⟩
 case measure=>simp [intOf];omega):p:=h
theorem WP (h:p:=by rw [List.drop_eq_getElem_cons h,List.getD_eq_getElem?_getD,List.getElem?_eq_getElem h];rfl):p:=h
theorem jKq (h:p:=by obtain ⟨hs,h1,h2,h3,h4⟩:=h;exact ⟨hs,eY h1 g.keeps ah,h2,h3,fun i x hi=>by obtain ⟨h,e1,a,c,e2,e3⟩:=h4 i x hi;exact ⟨h,e1,a,c,e2,e3.gr g⟩⟩):p:=h
theorem qHf (h:p:=by subst hn;refine ⟨_,_,rfl,Nat.le_refl _,by omega,fun i hi=>?_⟩;obtain ⟨ai,ci,e1,e2⟩:=hr i hi;exact ⟨b,0,ai,ci,rfl,h.lt,by rw [h.cell,Nat.zero_add];exact e1,e2⟩):p:=h
theorem qEi (h:p:=by 
 refine ⟨h.1,?_⟩;rcases h.2 with hn|⟨g,cap,cur,rfl,hb,hg,rest⟩
 ·exact .inl hn
 ·exact .inr ⟨g,cap,cur,rfl,hb,af.keeps (show af w g cur e from hg) k ht,rest⟩):p:=h
theorem qNm (h:p:=by obtain ⟨hk3,hb3,hi3⟩:=hp;obtain ⟨hr,hl4,hk4,hb4⟩:=fin none W3 hk3 hb3;exact ⟨_,_,hr,hb4,.inl ⟨rfl,hI _ _ _ hi3 (Kq.iZ _ (hk3.2.2.trans hl2)),hl4,hk4⟩⟩):p:=h
theorem WQ (h:p:=by 
 have q1:(c != 0)=true:=by simpa using h1
 clear h1 hc;exact TL):p:=h
theorem WR (h:p:=by have:=e4 0 Z;rw [Nat.mul_one,Nat.add_zero] at this;rw [Nat.zero_add];exact this):p:=h
theorem WS (h:p:=by rw [← hW1];exact (Below.heap_alloc _ _ _ dc).trans (World.alloc_heap_new w _)):p:=h
theorem zO6 (h:p:=by 
 subst hkk;clear hkq hk hmin;go_wp2_with fail;rw [Exit.noGoto_ret];go_ret2
 refine ⟨zQ.mk VV.o ?_,VX.o⟩;rw [e1.out,K1.o,K2.o,Dk K3.o K4.o,← HQ.o,HGG.o]):p:=h
theorem WT (h:p:=by rw [show n+(l.length - n)=l.toArray.size by simp;omega] at h;exact wp_region_any hm h):p:=h
theorem qAk (h:p:=by gi_wp2_with fail;refine bodyPost_ret (v:=.tuple #[]) ?_ rfl (.inl ⟨⟨_,rfl⟩,.inr ⟨_,yu.o⟩⟩);first|rfl|(simp only [results,Tryz.results182];go_simp)):p:=h
theorem qAg (h:p:=by 
 go_wp2_with fail;go_ret3
 exact ⟨kg.mk (bA.nil _ _) (bX.nil _ _) E.o,X.o⟩):p:=h
theorem KI (h:p:=by 
 go_wp2
 go_ret;exact ⟨rfl,rfl⟩):p:=h
theorem WU (h:p:=by 
 obtain ⟨a',cap,e,_,_,hr⟩:=h;injection e with e1 _ _
 subst e1;exact hr i hi):p:=h
theorem jTv (h:p:=by refine ⟨0,by omega,rfl,?_,X6.o⟩;rw [Nat.pow_zero,Nat.mul_one,dg LA.o ZA.o];exact ⟨some pa,eZ.row JS.o,fun g e=>by cases e;exact hpa⟩):p:=h
theorem kTg {p:Prop} (h:p:=by have m0:=(XP.o.trans hW |>.cell (p:=⟨ob,oo+i*4,none⟩) VS.o.1).trans VS.o.2.1;have ml:=Nat.lt_of_lt_of_le VS.o.1 (XP.o.trans hW).size;exact fu):p:=h
theorem WV (h:p:=by rw [List.getD_eq_getElem?_getD,List.getElem?_eq_none Z];exact bO):p:=h
theorem qUv (h:p:=by have h:=FQ.o.set (a:=tn) (r:=rr) WW.o S1.o S2.o;rw [← uW] at h;exact h.congr (fun k hk=>(ik _ _ _ _ (by rw [YL.o];exact WW.o)).symm)):p:=h
theorem kBn (h:p:=by 
 have E:=kI (HE.o k hlt OK.o 4 (by rw [← iY.o];exact Ps g1 g2) ah);have q4:(6:Int) < (ac.length:Int):=by omega
 clear g1 g2;exact Bg):p:=h
theorem kCn (h:p:=by 
 have E:=kI (HE.o k hlt OK.o 3 (by rw [← iY.o];exact Pt g1) ah);have q3:((ac.length:Int) == 0)=true:=by simp [g1]
 clear g1;exact Bg):p:=h
theorem kJ3 (h:p:=by go_wp2_with fail;go_ret;exact ⟨by rw [HE.o];unfold aE;rw [if_neg H1.o,if_neg (CN.o),if_neg (fun h=>h.1 HZ3.o)];rfl,by have:=X4.o;exact eX⟩):p:=h
theorem T3 (h:p:=by refine ⟨?_,rfl⟩;unfold sg;simp [Int.neg_mul];omega):p:=h
theorem T5 (h:p:=by go_wp2_with fail;go_ret;exact ⟨by rw [E.o];rfl,eX⟩):p:=h
theorem WX (h:p:=by 
 go_wp2_with fail;go_ret2
 exact ⟨by rw [R1.o];rfl,by have:=X9.o;exact eX⟩):p:=h
theorem zIz (h:p:=by 
 obtain ⟨i,hi,hif,hiu⟩:=hex;refine ⟨fun hr=>?_,fun j hj=>?_⟩
 ·exact kW1
 ·have hjn:=zX listed inv.head i hi hif hiu j hj;exact zJd):p:=h
theorem WY (h:p:=by intro a W hW hB hD K hK;have b16:=hB 16 rfl;simp only [sB] at b16;exact fu):p:=h
theorem WZ (h:p:=by intro a W hW hB hD K hK;have b15:=hB 15 rfl;simp only [sB] at b15;exact fu):p:=h
theorem qUw (h:p:=by 
 obtain rfl:k=0:=by omega
 go_wp2
 go_ret;have e:=uU HL.o hk (.inl rfl) HT.o;have el:(lim (nv l)).length=0:=by rw [← e];rfl
 exact jJu):p:=h
theorem zVh (h:p:=by 
 have hne:r'≠r:=fun e=>by subst e;exact (List.nodup_cons.1 hn).1 hr'
 exact (World.putObj_heap_other hne).trans (hm r' (by simp [hr'])).2):p:=h
theorem JT (h:p:=by rw [if_pos h2] at h;cases h):p:=h
theorem jFv (h:p:=by intro a W hW hB hD K hK;have b9:=hB 9 rfl;simp only [sB] at b9;exact fu):p:=h
theorem kRc (h:p:=by intro a W hW hB hD K hK;have b4:=hB 4 rfl;simp only [sB] at b4;exact fu):p:=h
theorem kOp (h:p:=by intro a W hW hB hD K hK;have b3:=hB 3 rfl;simp only [sB] at b3;exact fu):p:=h
theorem zRu (h:p:=by exact ⟨b,off,e1,Nat.lt_of_lt_of_le e2 k.size,(World.cell?_of_block hb).trans e3,e4.imp id fun ⟨cur,hc⟩=>⟨cur,hb.trans hc⟩⟩):p:=h
theorem kNi (h:p:=by intro k listed a _ _ hk hu inv hB h;simp only [List.length_nil,Nat.zero_add,Nat.add_zero] at *;subst hk;exact hK _ listed h inv hu hB):p:=h
theorem qBn (h:p:=by refine Classical.byContradiction fun hc=>hex ⟨i,hi,hif,getD_in TJ (by simpa using hc)⟩):p:=h
theorem Xa (h:p:=by rw [List.getD_eq_getElem?_getD,List.getElem?_replicate];split <;> rfl):p:=h
theorem kKi (h:p:=by rw [List.getElem?_map,List.getElem?_eq_getElem hjl] at hj;rw [List.getD_eq_getElem?_getD,List.getElem?_eq_getElem hjl];exact hj):p:=h
theorem qUg (h:p:=by go_wp2_with fail;refine (HF.o _ (by first|omega|(simp [IntKind.wrap,IntKind.signed,IntKind.bits];omega)) _).mono ?_;exact Ws):p:=h
theorem Pu (h:p:=by rw [if_pos h1] at h;exact absurd h h1):p:=h
theorem kPu (h:p:=by 
 have r1:(6:Int) < (m:Int):=by omega
 have r2:¬ (m:Int)≤128:=by omega
 have r3:¬ (200:Int) < (m:Int):=by omega
 exact TK):p:=h
theorem qB5 (h:p:=by 
 obtain rfl:k=ss.length:=by omega
 have q1:¬ (ss.length:Int) < (ss.length:Int):=by omega
 have E:=kI (HI.o OK.o);exact Bg):p:=h
theorem zP3 (h:p:=by intro a W hW hB hD K hK;obtain ⟨ag7,ag8,Xb⟩:=aQ (hD 3 _ 103 rfl rfl ak);obtain rfl:=Xb;exact fu):p:=h
theorem qL8 (h:p:=by 
 have E:=kI (show cJ ⟨d,ss⟩ l=c by rw [EQ.o,if_pos h1]);have q1:(c == 0)=false:=by simpa using h1
 clear h1;exact Bg):p:=h
theorem qAf (h:p:=by obtain ⟨cur,hbk,hs',ht⟩:=G6.o.blk;exact ⟨⟨cur,(hb.block g Z).trans hbk,hs',ht⟩,G6.o.le,G6.o.most⟩):p:=h
theorem qGg (h:p:=by 
 refine hfree k ok hk hki ?_ hno;by_cases hjk:j=k
 ·subst hjk;exact hjun
 ·rw [getD_set_ne true hjk] at hun;exact hun):p:=h
theorem qP7 (h:p:=by clear h2;obtain ⟨aK,fA0,aJ⟩:=A0.o.q3;go_wp2_with fail;refine (bB (c:=8) ah _).mono ?_;exact zUz):p:=h
theorem zEc (h:p:=by intro a W hW hB hD K hK;obtain ⟨v17,e17,h17⟩:=aQ (hD 4 _ 17 rfl rfl ak);obtain rfl:=h17;exact fu):p:=h
theorem kLv (h:p:=by rw [List.getD_eq_getElem?_getD,List.getElem?_map,List.getD_eq_getElem?_getD (l:=l),List.getElem?_eq_getElem h];rfl):p:=h
theorem zBm (h:p:=by rintro e w9 ⟨rfl,hx⟩;exact hK _ _ hx rfl):p:=h
theorem jOp (h:p:=by have e2:=congrArg (4294967296 ^ i * ·) e1;simp only [Nat.mul_add] at e2 ⊢;rw [Nat.pow_succ,Nat.mul_assoc];omega):p:=h
theorem jAl (h:p:=by 
 have X1:=kI hx1;clear hx1;go_wp2_with fail;go_ret3
 exact ⟨Dl.mk (bv.nil _ _) (bv.nil _ _) e1.out,X1.o⟩):p:=h
theorem kDm (h:p:=by have e2:=congrArg (4294967296 ^ k * ·) e1;simp only [Nat.mul_add] at e2;rw [Nat.pow_succ,Nat.mul_assoc];omega):p:=h
theorem jJt (h:p:=by rintro e w9 ⟨⟨v,rfl,nn⟩,hx⟩;obtain ⟨a9,c9,rfl⟩:=nn.shape;exact hK _ _ hx ⟨_,_,rfl,nn.from hW⟩):p:=h
theorem Xc (h:p:=by intro f' hf';simp [Target.leads] at hf';subst hf';exact hFg):p:=h
theorem jZu (h:p:=by 
 rw [hr] at hr2;injection hr2 with e1 _
 subst e1;intro q hq;injection hq with hq
 exact .inr (Nat.le_of_eq hq)):p:=h
theorem qCi (h:p:=by 
 rw [Nat.mul_one];apply Array.ext
 ·simp [madeCells]
 ·intro i h1 h2;simp [madeCells,Value.cells,Nat.mod_one]):p:=h
theorem jVw (h:p:=by rw [pow_two] at e2;have:=(Nat.pow_lt_pow_iff_right (a:=2) Z).1 (Nat.lt_of_le_of_lt e1 e2);omega):p:=h
theorem kGy (h:p:=by rw [E.o];exact ⟨_,_,rfl,cF.cW ON.o A1.o ah _ _ _,cF.cW OD.o A1.o ah _ _ _⟩):p:=h
theorem zUe (h:p:=by unfold cL;rw [← HY.o,hk1,← Dm];dsimp only;rw [if_neg Db,if_pos ⟨h0,d3⟩]):p:=h
theorem qKh (h:p:=by rw [HR0.o];have h9:=HS.o;rw [List.drop_of_length_le (Nat.le_refl _)] at h9;rw [h9];exact oY _ _):p:=h
theorem Pv (h:p:=by 
 go_wp2
 go_ret;exact ⟨rfl,eX⟩):p:=h
theorem kWl (h:p:=by rw [List.drop_eq_getElem_cons hk,dP,List.getD_eq_getElem?_getD,List.getElem?_eq_getElem hk];rfl):p:=h
theorem qLd (h:p:=by 
 by_cases h:q.num < 0
 ·rw [if_pos iw];omega
 ·rw [if_neg iw];omega):p:=h
theorem Xd (h:p:=by rw [← hW1,hrec];exact run_enterLoop_outer _ _ _ _ _):p:=h
theorem kKl (h:p:=by rw [hwf];exact Below.setCell (Below.setCell hx aD _) aD _):p:=h
theorem kSr (h:p:=by rw [hwf];exact (b3.set 0 (.int .i64 c)).setOther (a:=⟨An+1,0,none⟩) aD _):p:=h
theorem qF9 (h:p:=by have X0:Hid (Ext w v1):=kI (X.o.trans NK.o);go_wp2_with fail;go_ret;exact ⟨nE.mk _,X0.o⟩):p:=h
theorem jCb (h:p:=by intro a W hW hB hD K hK;go_simp;refine (il 1 W Z Z).mono ?_;exact zPc):p:=h
theorem jIm (h:p:=by 
 have hE:cL n l k=8:=by
  unfold cL;rw [← HY.o];dsimp only;rw [if_pos (.inr d2)]
 exact zBa):p:=h
theorem qCa (h:p:=by 
 have hE:cL n l k=8:=by
  unfold cL;rw [← HY.o];dsimp only;rw [if_pos (.inl d1)]
 exact zBa):p:=h
theorem T6 (h:p:=by subst hji;exact ⟨hjn,hy.qOp hi H⟩):p:=h
theorem kTe (h:p:=by obtain ⟨a1,c1,a2,c2,a3,c3,e1,e2,e3⟩:=h;exact ⟨a1,c1,a2,c2,a3,c3,e1,e2.ext e,e3.ext e⟩):p:=h
theorem jD1 (h:p:=by 
 intro x hx;rcases List.mem_cons.1 hx with rfl|hx
 ·omega
 ·rw [List.mem_singleton.1 hx];omega):p:=h
theorem Xe (h:p:=by have:=ready_mono hj hji;rw [H.1] at this;cases this):p:=h
theorem jA8 (h:p:=by 
 rcases h with h|⟨g,c,h1,h2,h3⟩
 ·exact .inl h
 ·exact .inr ⟨g,c,h1,k.rows g n h2,h3⟩):p:=h
theorem kNb (h:p:=by go_simp;refine (yv.o _ _ _ _ (HM.o.ext hW) (HV.o.ext hW) (RX.o.ext hW)).mono ?_;exact qTz):p:=h
theorem jAd (h:p:=by go_simp;exact hK _ _ (Ext.refl _) ⟨_,_,rfl,xg⟩):p:=h
theorem Xf (h:p:=by 
 clear hgr hrow;go_wp2
 go_end0
 exact ⟨rfl,HG.o⟩):p:=h
theorem kCl (h:p:=by subst hji;exact YieldsIf.GI hF (hd _ _ hi) hi hy (hS _ _ hc ht) ⟨(hT _ _).2 ht,H⟩):p:=h
theorem kKm (h:p:=by rintro e w1 ⟨⟨v,rfl,ho⟩,hx1⟩;have HO:=kI ho;have HX:=kI hx1;clear hx1 ho;exact zBt):p:=h
theorem kJo (h:p:=by 
 obtain rfl:j=t:=by omega
 rw [hot] at ho;cases ho;have:=hall e hem h3.1;rwa [h3.2] at this):p:=h
theorem zUy (h:p:=by 
 have r1:¬ (6:Int) < (m:Int):=by omega
 have r2:¬ (200:Int) < (m:Int):=by omega
 exact TK):p:=h
theorem jR6 (h:p:=by have:mj≤mj*2 ^ j:=Nat.le_mul_of_pos_right _ (Nat.pow_pos Z);have:=KE.o;omega):p:=h
theorem kL6 (h:p:=by unfold sk;rw [List.getD_eq_getElem?_getD,List.getElem?_map,List.getElem?_range h];rfl):p:=h
theorem qFp (h:p:=by rw [hwf];exact (b1.setOther (a:=⟨An+1+1,0,none⟩) aD _).set 0 _):p:=h
theorem qC5 (h:p:=by obtain ⟨aK,fA0,aJ⟩:=A0.o.q3;go_wp2_with fail;go_ret;exact ⟨nE.mk _,X.o⟩):p:=h
theorem jHu (h:p:=by obtain ⟨a1,c1,a2,c2,e1,e2,e3⟩:=e;exact ⟨a1,c1,a2,c2,e1,e2.ext k,e3.ext k⟩):p:=h
theorem Xg (h:p:=by 
 go_enter Tryz.func201,Tryz.ntmps201
 exact NG):p:=h
theorem Xh (h:p:=by 
 go_enter Tryz.func200,Tryz.ntmps200
 exact NG):p:=h
theorem zIv (h:p:=by unfold fH;rw [if_neg T7];exact bg PO.o):p:=h
theorem Xi (h:p:=by intro a W hW hB hD K hK;obtain ⟨v3,e3,h3⟩:=aQ (hD 0 _ 3 rfl rfl ak);obtain rfl:=h3;exact Po):p:=h
theorem jJj (h:p:=by 
 go_wp2_with fail;refine (gY.o _ _ HM.o).mono ?_;rintro e w1 ⟨rfl,hx⟩;revert A0 X;refine lf hx ?_;intro A0 X;clear hx HM gY;have qA:=A0.o.cell;have lA:=A0.o.lt;by_cases h1:c=0
 ·exact zR3
 ·exact qL8):p:=h
theorem zMw (h:p:=by have E:=kI (Py.o h1 h2);have q2:((p.length:Int) != (m.states.length:Int))=true:=bne_iff_ne.2 Z;clear h1 h2;exact NJ):p:=h
theorem jIq (h:p:=by intro a W hW hB hD K hK;obtain ⟨v6,e6,h6⟩:=aQ (hD 3 _ 6 rfl rfl ak);obtain rfl:=h6;exact Po):p:=h
theorem zY1 (h:p:=by 
 have E:=kI (JU (n:=n) h1 h2 h3);have q3:(64:Int) < (l.length:Int):=by omega
 clear h1 h2 h3;exact NI):p:=h
theorem jU3 (h:p:=by 
 have E:=kI (JV (n:=n) h1 h2);have q2:((l.length:Int) == 0)=true:=by simp [h2]
 clear h1 h2;exact NI):p:=h
theorem kF2 (h:p:=by have E:=kI (Pz.o h1);obtain ⟨c,hc⟩:=gN (cJ m vals);rw [← hc] at E h1 ⊢;exact WQ):p:=h
theorem kB8 (h:p:=by have E:=kI (uX (n:=n) (l:=l) h1);obtain ⟨c,hc⟩:=gN (aE co);exact kJ8):p:=h
theorem qRr (h:p:=by 
 go_wp2_with fail;go_ret3
 exact ⟨tm.mk (bm.nil _ _) (eO.nil _ _) E.o,X.o⟩):p:=h
theorem qW6 (h:p:=by 
 obtain ⟨a',cap',e,_,_,h3⟩:=h;injection e with e1 _ _
 subst e1;exact h3 i hi):p:=h
theorem zI7 (h:p:=by obtain ⟨r1,r2,r3,r4,rfl⟩:=nn.shape;have Nr:=kI nn.rd;clear nn hx;exact jOo):p:=h
theorem zLi (h:p:=by have:=O8.o;unfold Gz;rw [List.length_append,G1.o,List.map_append];exact this):p:=h
theorem zFj (h:p:=by go_wp2_with fail;go_ret;exact ⟨rfl,X.o⟩):p:=h
theorem jRv (h:p:=by 
 cases e;rcases ho with ho|⟨c2,u,h5,h6⟩
 ·omega
 ·have hg2:=HB.o;exact zHg):p:=h
theorem kOv (h:p:=by rw [oX.o,List.drop_of_length_le T8];rfl):p:=h
theorem zAs (h:p:=by intro a W hW hB hD K hK;have b13:=hB 13 rfl;simp only [sB] at b13;exact fu):p:=h
theorem zWd (h:p:=by simp only [hw,Bool.false_eq_true,if_false];exact ⟨fun f _=>hF.fn f,h⟩):p:=h
theorem zQn (h:p:=by simp only [Array.getD_eq_getD_getElem?,Array.getElem?_setIfInBounds_ne h]):p:=h
theorem zZb (h:p:=by have:=(cD (aH _) (aW _)).2 h;rw [aA] at this;omega):p:=h
theorem T9 (h:p:=by rwa [World.size_alloc] at this):p:=h
theorem JW (h:p:=by rw [hwf];exact ri):p:=h
theorem qPi (h:p:=by intro a W hW hB hD K hK;have b8:=hB 8 rfl;simp only [sB] at b8;exact kGp):p:=h
theorem kHa (h:p:=by intro a W hW hB hD K hK;have b3:=hB 3 rfl;simp only [sB] at b3;exact Po):p:=h
theorem zL8 (h:p:=by have:=sm hi TJ hiu;omega):p:=h
theorem JX (h:p:=by have:=X.o;exact eX):p:=h
theorem kYe (h:p:=by 
 have HJ:=kI hj;clear hj;gi_wp2
 go_end0
 exact ⟨⟨_,rfl⟩,.inl HJ.o⟩):p:=h
theorem qQt (h:p:=by rw [← e3];exact World.cell?_of_block (Below.heap_setCell _ _ _ _ hne)):p:=h
theorem zFi (h:p:=by simp only [execOp,hop,hl,hc];simp [hr,Result.andThen];exact hK' _ _ hK):p:=h
theorem qTa (h:p:=by have E:=kI (PE (ss:=ss) h1);obtain ⟨c,hc⟩:=gN (aE d);exact kJ8):p:=h
theorem Z (h:p:=by omega):p:=h
theorem ak (h:p:=by kernel_rfl):p:=h
theorem ah (h:p:=by decide):p:=h
theorem aD (h:p:=by dsimp only;omega):p:=h
theorem gM (h:p:=by first|exact Ext.refl _|exact (Ext.refl _).drew):p:=h
theorem iW (h:p:=by simp [Value.oneCell']):p:=h
theorem CT (h:p:=by intro x hx n;rcases (by simpa using hx) with rfl|rfl|rfl <;> simp):p:=h
theorem iw (h:p:=by simpa using h):p:=h
theorem dc (h:p:=by simp):p:=h
theorem Gw (h:p:=by have:=Do.o;have:=Dp.o;have:=Xj.o;dsimp only;omega):p:=h
theorem KL (h:p:=by have hh:=X.o.size;(try simp only [World.size_alloc] at hh);omega):p:=h
theorem KM (h:p:=by have hh:=A0.o.lt;(try simp only [World.size_alloc] at hh);omega):p:=h
theorem uY (h:p:=by first|trivial|rfl):p:=h
theorem oZ (h:p:=by simp;omega):p:=h
theorem Ua (h:p:=by (try simp only [World.size_alloc,World.size_setCell,World.size_drew,fX]);omega):p:=h
theorem PF (h:p:=by have hh:=A1.o.lt;(try simp only [World.size_alloc] at hh);omega):p:=h
theorem CV (h:p:=by have:=x.size;omega):p:=h
theorem CW (h:p:=by have:=CQ.o;omega):p:=h
theorem JM (h:p:=by have:=LB.o;have:=HKB.o;omega):p:=h
theorem JL (h:p:=by have:=LA.o;have:=HKB.o;omega):p:=h
theorem Bk (h:p:=by simpa using h2):p:=h
theorem Dc (h:p:=by have:=G1.o;omega):p:=h
theorem OX (h:p:=by simp only [results,Tryz.results166];go_simp):p:=h
theorem Ub (h:p:=by (try simp only [World.size_alloc,World.size_drew]);omega):p:=h
theorem Gl (h:p:=by simpa using hj):p:=h
theorem Gm (h:p:=by simp [go_sem]):p:=h
theorem TF (h:p:=by simp only [results,Tryz.results118];go_simp):p:=h
theorem TX (h:p:=by have:=ENA.o;have:=HNA.o;have:=ox.o;omega):p:=h
theorem PG (h:p:=by rw [hAn];exact Nat.le_refl _):p:=h
theorem TJ (h:p:=by have:=inv.head.size;simp at this;omega):p:=h
theorem NO (h:p:=by rw [h] at hr;cases hr):p:=h
theorem NP (h:p:=by constructor <;> omega):p:=h
theorem JY (h:p:=by simpa using h1):p:=h
theorem JG (h:p:=by have x9:=X.o;have z9:=xW.o;exact eX):p:=h
theorem Pc (h:p:=by simpa using inv.head.size):p:=h
theorem Uc (h:p:=by unfold qOp;simp only [h0];exact h):p:=h
theorem kHk (h:p:=by have k1:=hb6.cell;have k2:=hb6.free;have k3:=hb6.lt;clear hb6;simp only [results,Tryz.results178];go_simp):p:=h
theorem Nv (h:p:=by have k1:=hb6.cell;have k2:=hb6.free;have k3:=hb6.lt;clear hb6;simp only [results,Tryz.results172];go_simp):p:=h
theorem jDf (h:p:=by have k1:=hb6.cell;have k2:=hb6.free;have k3:=hb6.lt;clear hb6;simp only [results,Tryz.results136];go_simp):p:=h
theorem zQj (h:p:=by have k1:=hb6.cell;have k2:=hb6.free;have k3:=hb6.lt;clear hb6;simp only [results,Tryz.results127];go_simp):p:=h
theorem zF3 (h:p:=by have k1:=A0.o.cell;have k2:=A0.o.free;have k3:=A0.o.lt;simp only [results,Tryz.results178];go_simp):p:=h
theorem zEn (h:p:=by have k1:=A0.o.cell;have k2:=A0.o.free;have k3:=A0.o.lt;simp only [results,Tryz.results172];go_simp):p:=h
theorem Ud (h:p:=by rw [getD_replicate_false];simp):p:=h
theorem TY (h:p:=by have:=LV.o;have:=Ky.o;omega):p:=h
theorem NV (h:p:=by have:=DL.o;omega):p:=h
theorem Wb (h:p:=by simp only [results,Tryz.results119];go_simp):p:=h
theorem Xk (h:p:=by simp only [results,Tryz.results114];go_simp):p:=h
theorem jWe (h:p:=by rw [hun,show fD m p k=8 from hpe.trans (if_pos (Or.inr d2))];exact if_pos (by decide)):p:=h
theorem jTo (h:p:=by rw [hun,show fD m p k=8 from hpe.trans (if_pos (Or.inl d1))];exact if_pos (by decide)):p:=h
theorem PH (h:p:=by unfold maxLen;omega):p:=h
theorem NW (h:p:=by simpa using hi):p:=h
theorem Ue (h:p:=by rw [jT];exact hlt):p:=h
theorem Uf (h:p:=by rw [aA];exact KN):p:=h
theorem T8 (h:p:=by rw [jT];exact Nat.le_refl _):p:=h
theorem PJ (h:p:=by simpa using hr):p:=h
theorem Xl (h:p:=by rw [← HX.o,← HY.o];exact hc):p:=h
theorem jB2 (h:p:=by simp only [results,Tryz.results149];go_simp;first|done|(simp_all)):p:=h
theorem Ug (h:p:=by rw [VT.o];exact hsl):p:=h
theorem Xm (h:p:=by rw [List.length_drop];exact hq):p:=h
theorem kQ0 (h:p:=by have h1:=BN.o;have h2:=XW.o;have:=NX.o;have h3:=BY.o.lt;omega):p:=h
theorem T7 (h:p:=by rw [NY.o];exact fun h=>h rfl):p:=h
theorem Wm (h:p:=by rw [ig hwt.2];exact he):p:=h
theorem NZ (h:p:=by simp [s1]):p:=h
theorem N0 (h:p:=by simp [hy]):p:=h
theorem Uh (h:p:=by rw [hc];exact h1):p:=h
theorem Ui (h:p:=by have:=Q1.o;omega):p:=h
theorem Db (h:p:=by have:=D2.o;omega):p:=h
theorem Uj (h:p:=by simpa using hlt):p:=h
theorem Xn (h:p:=by rw [← iY.o];exact hlj):p:=h
theorem PK (h:p:=by simp [hcs]):p:=h
theorem Uk (h:p:=by simpa using ho):p:=h
theorem TW (h:p:=by rw [hrec];simp):p:=h
theorem kU4 (h:p:=by rw [Array.setIfInBounds_comm _ _ hji];exact h3.2):p:=h
theorem Wo (h:p:=by (try dsimp only);omega):p:=h
theorem kZz (h:p:=by rw [h2];exact (bD (bU h1).1).2.2.1):p:=h
theorem PM (h:p:=by simp [hx]):p:=h
abbrev Ext (w w':World):Prop:=Below w.heap.size w w'
theorem Ext.refl (w:World):Ext w w:=Below.refl _ _
theorem Ext.trans {a b c:World} (h:Ext a b) (k:Ext b c):Ext a c:=Below.trans h (k.mono h.size)
theorem Ext.alloc {a:World} (h:Ext a w) (o:Obj):Ext a (w.alloc o):=Below.alloc h h.size o
theorem Ext.drew {a:World} (h:Ext a w):Ext a w.drew:=Below.drew h
theorem Ext.drewN {a:World} (h:Ext a w) (n:Nat):Ext a (w.drewN n):=below_drewN h n
theorem Ext.set {a:World} (h:Ext a w) {p:Addr} (hp:a.heap.size≤p.block) (v:Value):Ext a (w.setCell p v):=Below.setCell h hp v
theorem Ext.PN {a:World} {p:Addr} (hp:a.heap.size≤p.block) (h:Ext a w):Ext a (w.setCell p v):=Below.setCell h hp v
theorem eX {a b:World} (h:Ext a b:=by (repeat (first|(with_reducible first|exact Ext.refl _|assumption|refine Ext.alloc ?_ _)|((with_reducible refine Ext.PN ?_ ?_);focus (dsimp only;omega))|(with_reducible first|refine Ext.drew ?_|refine Ext.drewN ?_ _|refine Ext.trans ?_ (by assumption))))):Ext a b:=h
instance {a b c:World}:Lx (Ext b c) (Ext a b) (Ext a c):=⟨fun k h=>Ext.trans h k⟩
@[simp] theorem fX (w:World) (n:Nat):(w.drewN n).heap.size=w.heap.size:=rfl
/-- What a walk wants of a later world: cells and marks below B as they were. -/
theorem Ext.old {w1:World} (h:Ext w w1) (hB:B≤w.heap.size):(∀ b o,b < B→w1.cell? ⟨b,o,none⟩=w.cell? ⟨b,o,none⟩)∧(∀ b o,b < B→w1.frozen? ⟨b,o,none⟩=w.frozen? ⟨b,o,none⟩):=
 ⟨fun _ _ hb=>h.cell (Nat.lt_of_lt_of_le hb hB),fun _ _ hb=>h.frozen (Nat.lt_of_lt_of_le hb hB)⟩
theorem Ext.cO {w1:World} (h:Ext w w1) (hb:b < w.heap.size):(∀ o,w1.cell? ⟨b,o,none⟩=w.cell? ⟨b,o,none⟩)∧(∀ o,w1.frozen? ⟨b,o,none⟩=w.frozen? ⟨b,o,none⟩):=
 ⟨fun _=>h.cell hb,fun _=>h.frozen hb⟩
def af (w:World) (b:Nat) (c:Array Value) (t:TypeId):Prop:=w.heap[b]?=some (.cells c t (0,0))
theorem af.lt {c:Array Value} (h:af w b c t):b < w.heap.size:=(Array.getElem?_eq_some_iff.1 h).1
theorem af.cell {c:Array Value} (h:af w b c t) (o:Nat):w.cell? ⟨b,o,none⟩=c[o]?:=by
 unfold af at h;simp [World.cell?,h]
theorem af.free {c:Array Value} (h:af w b c t) (o:Nat):w.frozen? ⟨b,o,none⟩=false:=by
 unfold af at h;simp [World.frozen?,h]
theorem af.ext {c:Array Value} (h:af w b c t) (e:Ext w w'):af w' b c t:=(e.block b h.lt).trans h
instance {c:Array Value}:Lx (Ext w w') (af w b c t) (af w' b c t):=⟨fun k h=>af.ext h k⟩
theorem af.alloc {c:Array Value} (h:af w b c t) (o:Obj):af (w.alloc o) b c t:=h.ext ((Ext.refl w).alloc o)
theorem af.drew {c:Array Value} (h:af w b c t):af w.drew b c t:=h
theorem af.new (w:World) (c:Array Value) (t:TypeId):af (w.alloc (.cells c t)) w.heap.size c t:=by
 show (w.heap.push _)[w.heap.size]?=_;simp
theorem af.setOther {c:Array Value} (h:af w b c t) {a:Addr} (ha:b≠a.block) (v:Value):af (w.setCell a v) b c t:=(Below.heap_setCell w a v b ha).trans h
theorem af.set {c:Array Value} (h:af w b c t) (o:Nat) (v:Value):af (w.setCell ⟨b,o,none⟩ v) b (c.setIfInBounds o v) t:=by
 unfold af at *;simp [World.setCell,Array.getElem?_modify,h]
def Rd (w:World) (v:Value) (l:List Value):Prop:=
 ∃ a cap,v=.slice a l.length cap∧l.length≤cap∧cap≤9223372036854775807∧
  ∀ i,i < l.length→∃ b off,a=some ⟨b,off,none⟩∧b < w.heap.size∧w.cell? ⟨b,off+i,none⟩=l[i]?
theorem Rd.ext {l:List Value} (h:Rd w v l) (e:Ext w w'):Rd w' v l:=by
 obtain ⟨a,cap,hv,hc,hm,hr⟩:=h;refine ⟨a,cap,hv,hc,hm,fun i hi=>?_⟩;obtain ⟨b,off,ha,hb,hx⟩:=hr i hi;exact ⟨b,off,ha,Nat.lt_of_lt_of_le hb e.size,(e.cell (p:=⟨b,off+i,none⟩) hb).trans hx⟩
instance {l:List Value}:Lx (Ext w w') (Rd w v l) (Rd w' v l):=⟨fun k h=>Rd.ext h k⟩
abbrev aY (k:IntKind) (w:World) (v:Value) (l:List Int):Prop:=Rd w v (l.map (Value.int k))
theorem aY.get {k:IntKind} (h:aY k w v l):∃ a cap,v=.slice a l.length cap∧l.length≤cap∧cap≤9223372036854775807∧
  ∀ i,i < l.length→∃ b off,a=some ⟨b,off,none⟩∧b < w.heap.size∧w.cell? ⟨b,off+i,none⟩=some (.int k (l.getD i 0)):=by
 obtain ⟨a,cap,hv,hc,hm,hr⟩:=h;simp only [List.length_map] at hv hc hr;refine ⟨a,cap,hv,hc,hm,fun i hi=>?_⟩;obtain ⟨b,off,ha,hb,hx⟩:=hr i hi;exact ⟨b,off,ha,hb,by rw [hx];simp [hi]⟩
def Xo (n:Nat) (w:World) (v:Value) (l:List (List Value)):Prop:=
 ∃ a cap,v=.slice a l.length cap∧l.length≤cap∧cap≤9223372036854775807∧
  ∀ i,i < l.length→∃ b off,a=some ⟨b,off,none⟩∧b < w.heap.size∧∀ j,j < n→w.cell? ⟨b,off+i*n+j,none⟩=(l.getD i [])[j]?
theorem tl {l1 l2:List α} (h:l1.take k=l2.take k) (h1:k < l1.length) (h2:k < l2.length) (e:l1[k]=l2[k]):l1.take (k+1)=l2.take (k+1):=by
 rw [List.take_succ_eq_append_getElem h1,List.take_succ_eq_append_getElem h2,h,e]
theorem ii {a b:Bool} (h:a=b):Ending.returned (.bool a)=.returned (.bool b):=by rw [h]
theorem aV {k:IntKind} {a b:Int} (h:a=b):Ending.returned (.int k a)=.returned (.int k b):=by rw [h]
theorem bY (W:World) {o:Oper} (hgd:o.guard=none) (s x:Operand) (t:TypeId)
  (ho:o.op=.call { callee:=.builtin .append,args:=#[s,x],argTypes:=#[t,t] })
  (B:Nat) (e:TypeId) (z:Value) (size bytes:Nat) (ht:P.underlying t=some (.slice e)) (hinfo:(P.info? e).map (fun i=>(i.zero,i.size,i.bytes))=some (some z,size,bytes))
  (hzs:z.cells.size=size) (hsz:0 < size) (v:Value) (n:Nat) (xs:List Value) (hown:W.ownsRow B e size v n xs) (hs:a.eval s=v)
  (cs:List Value) (hcs:cs.length=size) (h1c:∀ u ∈ cs,u.oneCell'=true) (hx:a.eval x=.slice (some ⟨W.heap.size,0,none⟩) 1 1)
  (h63:n+1≤9223372036854775807) (hbytes:(n+1)*bytes≤140737488355328) (hB:B≤W.heap.size)
  (h:∀ g cap w',w'.ownsRow B e size (.slice (some ⟨g,0,none⟩) (n+1) cap) (n+1) (xs ++ cs)→Below B W w'→wpList P ops Q rest (a.put o.dst (.slice (some ⟨g,0,none⟩) (n+1) cap)) w') :
  wpList P ops Q (o :: rest) a (W.alloc (.cells cs.toArray e)):=by
 obtain ⟨i0,hi,hz0,hz1,hz2⟩:=info_parts hinfo;refine wpList_append_own _ hgd s x t ho B e i0 z size bytes ht hi hz0 hz1 hz2 hzs hsz v n xs hs (hown.alloc _) ⟨W.heap.size,0,none⟩ 1 1 cs hx PK ?_ h1c PH hbytes oZ ?_
 ·exact Wu
 ·intro v' w' hown' hgrow _;have hb:Below B W w':=((Below.refl B W).alloc hB _).grown hgrow oZ (fun k hk=>(hown.lt k hk).1);have h2:=hown'.2;rcases h2 with ⟨_,h0⟩|⟨g,cap,cur,rfl,_⟩
  ·omega
  ·exact h g cap w' hown' hb
structure Later (w:World) where
 at':World
 ext:Ext w at'
instance Later.inhabited (w:World):Nonempty (Later w):=⟨⟨w,Ext.refl w⟩⟩
@[go_sem] theorem Later.cell (x:Later w) {o:Nat} (h:b < w.heap.size):x.at'.cell? ⟨b,o,none⟩=w.cell? ⟨b,o,none⟩:=x.ext.cell (p:=⟨b,o,none⟩) h
@[go_sem] theorem Later.frozen (x:Later w) {o:Nat} (h:b < w.heap.size):x.at'.frozen? ⟨b,o,none⟩=w.frozen? ⟨b,o,none⟩:=x.ext.frozen (p:=⟨b,o,none⟩) h
/-- A contract of a callee that hands back one value and turns nothing that was there, met inside such a region. -/
theorem iz {x:Later w} 
  (h:Calls P f args x.at' fun e w'=>e=.returned v∧Ext x.at' w'):Calls P f args x.at' fun e w''=>e=.returned v∧∃ y:Later w,w''=y.at':=
 h.mono fun _ w' ⟨he,hx⟩=>⟨he,⟨w',x.ext.trans hx⟩,rfl⟩
theorem aF {l:List Oper} (hm:P.follows .mixedOrders=true) (hB:Region.lexB .any l.toArray=true)
  (h:wpQuiet P l.toArray (fun w'=>∃ y:Later w,w'=y.at') (fun a'=>∀ w',(∃ y:Later w,w'=y.at')→Q .normal a' w') l a):(Code.region id l.toArray true).wp P Q a w:=
 wp_region_quiet (C:=fun w'=>∃ y:Later w,w'=y.at') hm hB ⟨⟨w.drew,(Ext.refl w).drew⟩,rfl⟩ iw
section
variable {P:Program} {ops:Array Oper} {md:Region.Mode} {C:World→Prop}
def gC (P:Program) (md:Region.Mode) (ops:Array Oper) (C:World→Prop) (n:Nat) (L:Array Bool→Act→Prop):Nat→Array Bool→Act→Prop
 | 0,listed,a=>L listed a
 | f+1,listed,a=>Region.ready md ops listed≠[]∧∀ i ∈ Region.ready md ops listed,i < n∧qOp P ops C i (gC P md ops C n L f (listed.setIfInBounds i true)) a
theorem rk {L:Array Bool→Act→Prop} (hL:∀ listed a w,C w→L listed a→wpAny P md ops Q g listed a w):
  ∀ (f:Nat) (listed:Array Bool) (a:Act) (w:World),C w→gC P md ops C n L f listed a→wpAny P md ops Q (f+g) listed a w:=by
 intro f;induction f with
 | zero=>intro listed a w hw h;rw [Nat.zero_add];exact hL _ _ _ hw h
 | succ f ih=>
  intro listed a w hw h;rw [Nat.succ_add];exact ⟨fun h0=>absurd h0 h.1,fun i hi=>wpOp_of_qOp hw (fun a' w' hw'=>ih _ a' w' hw') (h.2 i hi).2⟩
theorem rm {L:Array Bool→Act→Prop} (hi:ops[i]?=some oi) (hsel:∀ (j:Nat) (o:Oper) cs b,ops[j]?=some o→o.op≠.select cs b)
  (hs:Region.sinkB md ops n=true) (hc:Region.chainB md ops n=true) (hn:n < ops.size) (hin:i < n)
  (hdone:∀ listed a,L listed a→∀ j ∈ Region.ready md ops listed,n≤j) :
  ∀ (f:Nat) (listed:Array Bool) (a:Act),HeadInv md ops n listed→
   (∀ j oj,ops[j]?=some oj→j≠i→listed.getD j true=false→(∀ e ∈ oj.after,Region.binds md e=true→e.on≠i)→oi.apart ops oj=true)→
   i ∈ Region.ready md ops listed→YieldsIn P ops C oi v a→
   gC P md ops C n L f (listed.setIfInBounds i true) (a.put oi.dst v)→gC P md ops C n L (f+1) listed a:=by
 intro f;induction f with
 | zero=>
  intro listed a inv _ hr hy H;refine ⟨List.ne_nil_of_mem hr,fun j hj=>?_⟩;have hjn:j < n:=Nat.lt_of_not_le fun hge=>tail_waits hs hc hn inv _ i rfl hin (mem_ready.1 hr).1 j hge hj;by_cases hji:j=i
  ·exact T6
  ·have:=hdone _ _ H j (ready_mono hj hji);omega
 | succ f ih=>
  intro listed a inv hfree hr hy H;refine ⟨List.ne_nil_of_mem hr,fun j hj=>?_⟩;have hjn:j < n:=Nat.lt_of_not_le fun hge=>tail_waits hs hc hn inv _ i rfl hin (mem_ready.1 hr).1 j hge hj;by_cases hji:j=i
  ·exact T6
  refine ⟨hjn,?_⟩;obtain ⟨hjun,oj,hoj,hall⟩:=mem_ready.1 hj;have hnot:∀ e ∈ oj.after,Region.binds md e=true→e.on≠i:=fun e he hb heq=>by
   exact TS
  have h2:=qOp_put hoj (hfree j oj hoj hji hjun hnot) (fun cs b=>hsel i oi cs b hi) (fun cs b=>hsel j oj cs b hoj) hy (H.2 j (ready_mono hj hji)).2;refine qOp_mono (fun a' h3=>ih _ a' (inv.set hj hjn) (fun k ok hk hki hun hno=>?_) (ready_mono hr (Ne.symm hji)) h3.1 kU4) h2;exact TR
theorem uZ {Lq:Act→Prop} (hsel:Region.noSelect ops=true) (hs:Region.sinkB md ops n=true) (hc:Region.chainB md ops n=true) (hn:n < ops.size):
  ∀ (l:List Oper) (k:Nat) (listed:Array Bool) (a:Act),(∀ j,j < l.length→l[j]?=ops[k+j]?)→k+l.length=n→HeadInv md ops n listed→
  Region.lexHead md ops g l.length k listed=true→wpQuiet P ops C Lq l a→
  gC P md ops C n (fun listed' a'=>Region.seqB md ops g n listed'=true∧Lq a') l.length listed a:=by
 intro l;induction l with
 | nil=>
  intro k listed a _ hk _ hB h;obtain rfl:k=n:=by simpa using hk
  exact ⟨by simpa [Region.lexHead] using hB,h⟩
 | cons o l ih=>
  intro k listed a hl hk inv hB h;have h0:ops[k]?=some o:=by simpa using (hl 0 dc).symm
  simp only [List.length_cons,Region.lexHead,Bool.and_eq_true] at hB hk;obtain ⟨⟨hr,hf⟩,hB'⟩:=hB;have hr':k ∈ Region.ready md ops listed:=by simpa using hr
  have hkn:k < n:=Z
  obtain ⟨v,hy,hK⟩:=yieldsIn_of_qOp (C:=C) (P:=P) (K:=wpQuiet P ops C Lq l) (a:=a) h0 Uc;exact rm h0 (Region.noSelect_spec hsel) hs hc hn hkn (fun _ _ hL=>seqB_ready hL.1) l.length listed a inv (Region.free_spec h0 hf) hr' hy
   (ih (k+1) _ _ (fun j hj=>by have:=hl (j+1) oZ;simpa [Nat.add_assoc,Nat.add_comm 1 j] using this) Z (inv.set hr' hkn) hB' hK)
theorem jl {l:List Oper} (n:Nat) (hm:P.follows .mixedOrders=true) (hB:Region.lexTailB .any l.toArray n=true) (hC:C w.drew)
  (h:wpQuiet P l.toArray C (fun a'=>∀ w',C w'→wpList P l.toArray Q (l.drop n) a' w') (l.take n) a):(Code.region id l.toArray true).wp P Q a w:=by
 simp only [Region.lexTailB,Bool.and_eq_true,decide_eq_true_eq] at hB;obtain ⟨⟨⟨⟨hsel,hn⟩,hs⟩,hc⟩,hlex⟩:=hB;have hn':n < l.length:=by simpa using hn
 have htl:(l.take n).length=n:=by simp;omega
 have hdl:(l.drop n).length=l.toArray.size - n:=by simp
 have inv0:HeadInv .any l.toArray n (Array.replicate l.toArray.size false):=
  ⟨by simp,fun j oj _ hl=>absurd hl Ud,fun t _ ht=>getD_in (by simpa using ht) (getD_replicate_false _ _)⟩
 have H:=uZ (C:=C) (P:=P) (md:=.any) (g:=l.toArray.size - n) hsel hs hc hn (l.take n) 0 _ a
  (fun j hj=>by rw [htl] at hj;simp [hj]) (by simpa using htl) inv0 (by rw [htl];exact hlex) h
 have R:=rk (Q:=Q) (g:=l.toArray.size - n) (fun listed a' w' hw' hL=>by
  have:=wpAny_of_seq (md:=.any) (Q':=Q) (l.drop n) n listed a' w' (fun j=>by simp [List.getElem?_drop]) (by rw [hdl];exact hL.1) (hL.2 w' hw');rwa [hdl] at this) _ _ _ _ hC H
 rw [htl,show n+(l.toArray.size - n)=l.toArray.size by omega] at R;exact wp_region_any hm R
theorem i4 {l:List Oper} (n:Nat) (hm:P.follows .mixedOrders=true) (hB:Region.lexTailB .any l.toArray n=true)
  (h:wpQuiet P l.toArray (fun w'=>∃ y:Later w,w'=y.at') (fun a'=>∀ w',(∃ y:Later w,w'=y.at')→wpList P l.toArray Q (l.drop n) a' w') (l.take n) a):(Code.region id l.toArray true).wp P Q a w:=
 jl (C:=fun w'=>∃ y:Later w,w'=y.at') n hm hB ⟨⟨w.drew,(Ext.refl w).drew⟩,rfl⟩ h
end
end
theorem jU {size:Nat} (h:w.ownsRow B e size v n xs) (x:Ext w w'):w'.ownsRow B e size v n xs:=by
 refine ⟨h.1,?_⟩;rcases h.2 with hn|⟨g,cap,cur,rfl,hb,hg,rest⟩
 ·exact .inl hn
 ·exact .inr ⟨g,cap,cur,rfl,hb,(x.block g (Array.getElem?_eq_some_iff.1 hg).1).trans hg,rest⟩
theorem fZ {B':Nat} {size:Nat} (h:w.ownsRow B e size v n xs) (hB:B'≤B):w.ownsRow B' e size v n xs:=by
 refine ⟨h.1,?_⟩;rcases h.2 with hn|⟨g,cap,cur,rfl,hb,hg,rest⟩
 ·exact .inl hn
 ·exact .inr ⟨g,cap,cur,rfl,Nat.le_trans hB hb,hg,rest⟩
theorem KO {l:List Value} (h:w.ownsRow B e 1 v l.length l):Rd w v l:=by
 rcases h.2 with ⟨rfl,h0⟩|⟨g,cap,cur,rfl,hb,hg,hn,hm,hs,ht⟩
 ·exact ⟨none,0,by rw [h0],by omega,by omega,fun i hi=>by omega⟩
 ·refine ⟨_,cap,rfl,hn,by unfold maxLen at hm;omega,fun i hi=>⟨g,0,rfl,(Array.getElem?_eq_some_iff.1 hg).1,?_⟩⟩;rw [Nat.zero_add];have hc:w.cell? ⟨g,i,none⟩=cur[i]?:=by simp [World.cell?,hg]
  rw [hc];have hi':i < (cur.toList.take (l.length*1)).length:=by rw [ht];exact hi
  have e1:(cur.toList.take (l.length*1))[i]?=l[i]?:=by rw [ht]
  rw [← e1,List.getElem?_take_of_lt Z,Array.getElem?_toList]
theorem GJ {m:Nat} {l:List (List Value)} (h:w.ownsRow B e m v l.length l.flatten) (hl:∀ x ∈ l,x.length=m):Xo m w v l:=by
 rcases h.2 with ⟨rfl,h0⟩|⟨g,cap,cur,rfl,hb,hg,hn,hm,hs,ht⟩
 ·exact ⟨none,0,by rw [h0],by omega,by omega,fun i hi=>by omega⟩
 ·refine ⟨_,cap,rfl,hn,by unfold maxLen at hm;omega,fun i hi=>⟨g,0,rfl,(Array.getElem?_eq_some_iff.1 hg).1,fun j hj=>?_⟩⟩;rw [Nat.zero_add];have hc:w.cell? ⟨g,i*m+j,none⟩=cur[i*m+j]?:=by simp [World.cell?,hg]
  rw [hc];have hlt:i*m+j < l.length*m:=by
   have:(i+1)*m≤l.length*m:=Nat.mul_le_mul_right _ hi;rw [Nat.add_mul,Nat.one_mul] at this;omega
  have e1:(cur.toList.take (l.length*m))[i*m+j]?=l.flatten[i*m+j]?:=by rw [ht]
  rw [List.getElem?_take_of_lt hlt,Array.getElem?_toList] at e1;rw [e1];clear e1 hc ht hs hg hn hm hlt h;induction l generalizing i with
  | nil=>simp at hi
  | cons x r ih=>
   have hx:x.length=m:=hl x dc;cases i with
   | zero=>
    rw [List.flatten_cons,Nat.zero_mul,Nat.zero_add,List.getElem?_append_left Z];simp
   | succ i=>
    rw [List.flatten_cons,Nat.add_mul,Nat.one_mul,List.getElem?_append_right Z,hx,
     show i*m+m+j - m=i*m+j by omega]
    have:=ih (fun y hy=>hl y N0) i NW;exact ri
def BB:Nat:=4294967296
def nv:List Int→Nat
 | []=>0
 | x :: xs=>x.toNat+4294967296*nv xs
def bk (l:List Int):Prop:=∀ x ∈ l,0≤x∧x < 4294967296
def df (l:List Int):Prop:=l.getLast?≠some 0
def tp:Nat→Nat→List Int
 | 0,_=>[]
 | f+1,n=>if n=0 then [] else ((n % 4294967296:Nat):Int) :: tp f (n / 4294967296)
def lim (n:Nat):List Int:=tp n n
theorem Bm:∀ (f n:Nat),n≤f→tp f n=tp n n:=by
 intro f;induction f using Nat.strongRecOn with
 | _ f ih=>
  intro n hn;match f,n,hn with
  | 0,0,_=>rfl
  | f+1,0,_=>simp [tp]
  | f+1,n+1,hn=>
   rw [tp,tp,if_neg Z,if_neg Z];have h1:(n+1) / 4294967296≤n:=Z
   rw [ih f Z _ Z];by_cases hf:n=f
   ·subst hf;rw [ih n Z _ h1]
   ·rw [ih n Z _ h1]
theorem lJ:lim 0=[]:=rfl
theorem lK (h:0 < n):lim n=((n % 4294967296:Nat):Int) :: lim (n / 4294967296):=by
 obtain ⟨m,rfl⟩:∃ m,n=m+1:=⟨n - 1,by omega⟩;show tp (m+1) (m+1)=_;rw [tp,if_neg Z,Bm m _ Z];rfl
theorem KT:nv []=0:=rfl
theorem dP (x:Int) (xs:List Int):nv (x :: xs)=x.toNat+4294967296*nv xs:=rfl
theorem aA:∀ n,nv (lim n)=n:=by
 intro n;induction n using Nat.strongRecOn with
 | _ n ih=>
  by_cases h:n=0
  ·subst h;rfl
  ·rw [lK Z,dP,ih _ Z];omega
theorem aH:∀ n,bk (lim n):=by
 intro n;induction n using Nat.strongRecOn with
 | _ n ih=>
  by_cases h:n=0
  ·subst h;intro x hx;simp [lJ] at hx
  ·rw [lK Z];intro x hx;rcases List.mem_cons.1 hx with rfl|hx
   ·omega
   ·exact ih _ Z x hx
theorem gO (hl:bk l) (h:df l) (hne:l≠[]):0 < nv l:=by
 induction l with
 | nil=>exact absurd rfl hne
 | cons x xs ih=>
  rw [dP];have hx:=hl x dc;by_cases hxs:xs=[]
  ·subst hxs;have:x≠0:=by intro e;subst e;exact h rfl
   omega
  ·have:=ih (fun y hy=>hl y N0) (by
    unfold df at *;rwa [List.getLast?_cons_of_ne_nil hxs] at h) hxs
   omega
theorem aW:∀ n,df (lim n):=by
 intro n;induction n using Nat.strongRecOn with
 | _ n ih=>
  by_cases h:n=0
  ·subst h;simp [df,lJ]
  ·rw [lK Z];by_cases h2:n / 4294967296=0
   ·rw [h2,lJ];simp [df];omega
   ·have h3:=ih _ (show n / 4294967296 < n by omega);unfold df at *;rw [List.getLast?_cons_of_ne_nil]
    ·exact h3
    ·rw [lK Z];simp
theorem dg:∀ {l:List Int},bk l→df l→lim (nv l)=l:=by
 intro l;induction l with
 | nil=>intros;rfl
 | cons x xs ih=>
  intro hl hz;have hp:=gO hl hz dc;have hx:=hl x dc;have hxs:df xs:=by
   by_cases h:xs=[]
   ·subst h;simp [df]
   ·unfold df at *;rwa [List.getLast?_cons_of_ne_nil h] at hz
  rw [lK hp,dP];rw [dP] at hp;have e1:(x.toNat+4294967296*nv xs) / 4294967296=nv xs:=Z
  have e2:(x.toNat+4294967296*nv xs) % 4294967296=x.toNat:=Z
  rw [e1,e2,ih (fun y hy=>hl y N0) hxs];congr 1
  omega
theorem fO (a b:List Int):nv (a ++ b)=nv a+4294967296 ^ a.length*nv b:=by
 induction a with
 | nil=>simp [nv]
 | cons x xs ih=>
  rw [List.cons_append,dP,dP,ih,List.length_cons,Nat.pow_succ,Nat.mul_add,Nat.mul_comm (4294967296 ^ xs.length) 4294967296,Nat.mul_assoc];omega
theorem bJ (h:bk l):nv l < 4294967296 ^ l.length:=by
 induction l with
 | nil=>simp [nv]
 | cons x xs ih=>
  have hx:=h x dc;have:=ih (fun y hy=>h y N0);rw [dP,List.length_cons,Nat.pow_succ];omega
theorem zY (h:bk l) (hz:df l) (hne:l≠[]):4294967296 ^ (l.length - 1)≤nv l:=by
 induction l with
 | nil=>exact absurd rfl hne
 | cons x xs ih=>
  have hx:=h x dc;by_cases hxs:xs=[]
  ·subst hxs;have:x≠0:=by intro e;subst e;exact hz rfl
   simp [nv];omega
  ·have h1:=ih (fun y hy=>h y N0) (by unfold df at *;rwa [List.getLast?_cons_of_ne_nil hxs] at hz) hxs;have hl:xs.length≠0:=by simpa using hxs
   rw [dP,List.length_cons,show xs.length+1 - 1=(xs.length - 1)+1 by omega,Nat.pow_succ];omega
theorem f5 {a:Nat} (h:a≤b):(4294967296:Nat) ^ a≤4294967296 ^ b:=Nat.pow_le_pow_right Z h
theorem iA {a:Nat} (h1:(4294967296:Nat) ^ a≤n) (h2:n < 4294967296 ^ b):a < b:=by
 rcases Nat.lt_or_ge a b with h|h
 ·exact h
 ·have:=f5 h;omega
theorem aG:(lim n).length≤k↔n < 4294967296 ^ k:=by
 have h1:=bJ (aH n);rw [aA] at h1;constructor
 ·intro h;exact Nat.lt_of_lt_of_le h1 (f5 h)
 ·intro h;by_cases h0:lim n=[]
  ·simp [h0]
  ·have h2:=zY (aH n) (aW n) h0;rw [aA] at h2;have:=iA h2 h;omega
theorem lL (h:k < l.length):nv (l.take (k+1))=nv (l.take k)+4294967296 ^ k*l[k].toNat:=by
 rw [List.take_succ_eq_append_getElem h,fO,List.length_take_of_le Z];simp [nv]
theorem jm (l:List Int) (k:Nat) (h:k≤l.length):nv l=nv (l.take k)+4294967296 ^ k*nv (l.drop k):=by
 conv=>lhs;rw [← List.take_append_drop k l,fO,List.length_take_of_le h]
theorem fi (h:bk l) (k:Nat):bk (l.take k):=fun x hx=>h x (List.mem_of_mem_take hx)
theorem ve (h:bk l) (k:Nat):bk (l.drop k):=fun x hx=>h x (List.mem_of_mem_drop hx)
theorem zZ {a b:List Int} (ha:bk a) (hb:bk b):bk (a ++ b):=fun x hx=>(List.mem_append.1 hx).elim (ha x) (hb x)
theorem GL (h:bk l) (hk:k < l.length):0≤l[k]∧l[k] < 4294967296:=h _ (List.getElem_mem hk)
theorem jS (h:bk l) (k:Nat) {x:Int} (h0:0≤x) (h1:x < 4294967296):bk (l.set k x):=by
 intro y hy;rcases List.mem_or_eq_of_mem_set hy with h2|rfl
 ·exact h y h2
 ·exact ⟨h0,h1⟩
theorem KU (hk:k < l.length) (x:Int):nv (l.set k x)+4294967296 ^ k*l[k].toNat=nv l+4294967296 ^ k*x.toNat:=by
 have e1:l=l.take k ++ l[k] :: l.drop (k+1):=by simp
 have e2:l.set k x=l.take k ++ x :: l.drop (k+1):=by rw [List.set_eq_take_append_cons_drop];simp [hk]
 rw [e2,fO];conv=>rhs;rw [e1,fO]
 rw [List.length_take_of_le Z,dP,dP,Nat.mul_add,Nat.mul_add];omega
theorem im (n:Nat):nv (List.replicate n 0)=0:=by
 induction n with
 | zero=>rfl
 | succ n ih=>rw [List.replicate_succ,dP,ih];rfl
theorem fP (n:Nat):bk (List.replicate n 0):=by
 intro x hx;obtain ⟨_,rfl⟩:=List.mem_replicate.1 hx;omega
theorem tq (hk:k < l.length) (h0:l[k]=0) (he:nv (l.take (k+1))=nv l):nv (l.take k)=nv l:=by
 rw [lL hk,h0] at he;simpa using he
section
open Go Go.RowKit
theorem d5 (a b:Nat) (ha:a < 4294967296) (hb:b < 4294967296):
  bits .and .u32 a b=((a &&& b:Nat):Int)∧bits .or .u32 a b=((a ||| b:Nat):Int)∧bits .xor .u32 a b=((a ^^^ b:Nat):Int):=by
 have h1:a &&& b < 2 ^ 32:=Nat.and_lt_two_pow _ Z;have h2:a ||| b < 2 ^ 32:=Nat.or_lt_two_pow Z Z
 have h3:a ^^^ b < 2 ^ 32:=Nat.xor_lt_two_pow Z Z;have ea:(BitVec.ofInt 32 (a:Int)).toNat=a:=by rw [BitVec.toNat_ofInt];omega
 have eb:(BitVec.ofInt 32 (b:Int)).toNat=b:=by rw [BitVec.toNat_ofInt];omega
 refine ⟨?_,?_,?_⟩
 ·show IntKind.u32.wrap (((BitVec.ofInt 32 (a:Int) &&& BitVec.ofInt 32 (b:Int)).toNat:Nat):Int)=_;rw [BitVec.toNat_and,ea,eb];exact WM
 ·show IntKind.u32.wrap (((BitVec.ofInt 32 (a:Int) ||| BitVec.ofInt 32 (b:Int)).toNat:Nat):Int)=_;rw [BitVec.toNat_or,ea,eb];exact WM
 ·show IntKind.u32.wrap (((BitVec.ofInt 32 (a:Int) ^^^ BitVec.ofInt 32 (b:Int)).toNat:Nat):Int)=_;rw [BitVec.toNat_xor,ea,eb];exact WM
theorem yw (a b k:Nat) (ha:a % 2 ^ k=0) (hb:b < 2 ^ k):a ||| b=a+b:=by
 have e:a=2 ^ k*(a / 2 ^ k):=by have:=Nat.div_add_mod a (2 ^ k);omega
 rw [e,← Nat.two_pow_add_eq_or_of_lt hb]
theorem GN (n:Nat) (h:n < 4294967296):n / 2147483648=if n.testBit 31 then 1 else 0:=by
 rw [Nat.testBit_eq_decide_div_mod_eq];have e:(2:Nat) ^ 31=2147483648:=rfl;rw [e];split
 ·rename_i h1;have:=of_decide_eq_true h1;omega
 ·rename_i h1;have:¬ (n / 2147483648 % 2=1):=by simpa using h1
  omega
theorem yx (n:Nat) (h:n < 4294967296):n.testBit 31=decide (2147483648≤n):=by
 rw [Nat.testBit_eq_decide_div_mod_eq];have e:(2:Nat) ^ 31=2147483648:=rfl;rw [e,Bool.eq_iff_iff];simp only [decide_eq_true_eq];omega
def Gn (x y c:Int):Int:=if x < y+c then 1 else 0
theorem yz (x y c:Int) (hx:0≤x∧x < 4294967296) (hy:0≤y∧y < 4294967296) (hc:0≤c∧c≤1):
  bits .or .u32 (bits .and .u32 (bits .xor .u32 IntKind.u32.max x) y) (bits .and .u32 (bits .xor .u32 IntKind.u32.max (bits .xor .u32 x y)) ((x - y - c) % 4294967296)) / 2147483648=Gn x y c:=by
 obtain ⟨a,rfl⟩:=Int.eq_ofNat_of_zero_le hx.1;obtain ⟨b,rfl⟩:=Int.eq_ofNat_of_zero_le hy.1;have hm:IntKind.u32.max=((4294967295:Nat):Int):=rfl;obtain ⟨d,hd⟩:∃ d:Nat,((a:Int) - b - c) % 4294967296=(d:Int):=⟨(((a:Int) - b - c) % 4294967296).toNat,by omega⟩;have ha:a < 4294967296:=Z
 have hb:b < 4294967296:=Z
 have hdl:d < 4294967296:=Z
 have p1:4294967295 ^^^ a < 4294967296:=Nat.xor_lt_two_pow (n:=32) Z Z;have p2:a ^^^ b < 4294967296:=Nat.xor_lt_two_pow (n:=32) Z Z;have p3:4294967295 ^^^ (a ^^^ b) < 4294967296:=Nat.xor_lt_two_pow (n:=32) Z Z;have p4:(4294967295 ^^^ a) &&& b < 4294967296:=Nat.and_lt_two_pow (n:=32) _ Z;have p5:(4294967295 ^^^ (a ^^^ b)) &&& d < 4294967296:=Nat.and_lt_two_pow (n:=32) _ Z;have p6:((4294967295 ^^^ a) &&& b) ||| ((4294967295 ^^^ (a ^^^ b)) &&& d) < 4294967296:=Nat.or_lt_two_pow (n:=32) p4 p5
 rw [hm,hd,(d5 _ _ Z ha).2.2,(d5 _ _ p1 hb).1,(d5 _ _ ha hb).2.2,(d5 _ _ Z p2).2.2,(d5 _ _ p3 hdl).1,(d5 _ _ p4 p5).2.1];have e:(((((4294967295 ^^^ a) &&& b) ||| ((4294967295 ^^^ (a ^^^ b)) &&& d):Nat):Int) / 2147483648)=(((((4294967295 ^^^ a) &&& b) ||| ((4294967295 ^^^ (a ^^^ b)) &&& d)) / 2147483648:Nat):Int):=Z
 rw [e,GN _ p6];have hf:(4294967295:Nat).testBit 31=true:=by decide
 simp only [Nat.testBit_or,Nat.testBit_and,Nat.testBit_xor,hf,yx _ ha,yx _ hb,yx _ hdl];unfold Gn;by_cases h1:2147483648≤a <;> by_cases h2:2147483648≤b <;> by_cases h3:2147483648≤d <;> simp [h1,h2,h3] <;> first|(rw [if_pos Z])|(rw [if_neg Z])|omega|skip
end
abbrev Gr (o:Option Nat) (w w':World):Prop:=w.grownBy w' o
theorem Gr.refl (o:Option Nat) (w:World):Gr o w w:=⟨rfl,rfl,rfl,Nat.le_refl _,fun _ _ _=>rfl⟩
theorem Gr.trans {o:Option Nat} {a b c:World} (h:Gr o a b) (k:Gr o b c):Gr o a c:=
 ⟨k.os.trans h.os,k.tape.trans h.tape,k.output.trans h.output,Nat.le_trans h.size k.size,fun i hi hn=>(k.block i (Nat.lt_of_lt_of_le hi h.size) hn).trans (h.block i hi hn)⟩
instance {o:Option Nat} {a b c:World}:Lx (Gr o b c) (Gr o a b) (Gr o a c):=⟨fun k h=>Gr.trans h k⟩
theorem Gr.cj {o:Option Nat} {a b:World} (h:Ext a b):Gr o a b:=⟨h.os,h.tape,h.output,h.size,fun i hi _=>h.block i hi⟩
theorem Gr.ext {a b:World} (h:Gr none a b):Ext a b:=⟨h.os,h.tape,h.output,h.size,fun i hi=>h.block i hi dc⟩
theorem Gr.below {o:Option Nat} {a b:World} (h:Gr o a b) (hB:B≤a.heap.size) (ho:∀ g,o=some g→B≤g):Below B a b:=
 ⟨h.os,h.tape,h.output,h.size,fun i hi=>h.block i Z (fun e=>by have:=ho i e.symm;omega)⟩
theorem Gr.fresh {o o':Option Nat} {a b c:World} (h:Gr o a b) (k:Gr o' b c) (hn:∀ g,o'=some g→o=some g∨a.heap.size≤g):Gr o a c:=
 ⟨k.os.trans h.os,k.tape.trans h.tape,k.output.trans h.output,Nat.le_trans h.size k.size,fun i hi hne=>
  (k.block i (Nat.lt_of_lt_of_le hi h.size) (fun e=>(hn i e.symm).elim (fun h1=>hne h1.symm) (fun h1=>by omega))).trans (h.block i hi hne)⟩
theorem Gr.alloc {o:Option Nat} {a b:World} (h:Gr o a b) (x:Obj):Gr o a (b.alloc x):=h.trans (Gr.cj ((Ext.refl b).alloc x))
theorem Gr.set {a b:World} (h:Gr (some g) a b) (i:Nat) (v:Value):Gr (some g) a (b.setCell ⟨g,i,none⟩ v):=
 h.trans ⟨rfl,rfl,rfl,by simp [World.setCell],fun k hk hn=>Below.heap_setCell _ _ _ _ (by intro e;exact hn (by rw [e]))⟩
theorem Gr.KV {o:Option Nat} {a b:World} (h:Gr o a b) {p:Addr} (hp:a.heap.size≤p.block) (v:Value):Gr o a (b.setCell p v):=
 ⟨h.os,h.tape,h.output,by simpa [World.setCell] using h.size,fun k hk hn=>(Below.heap_setCell _ _ _ _ Z).trans (h.block k hk hn)⟩
theorem Gr.cell {o:Option Nat} {a b:World} (h:Gr o a b) {p:Addr} (hp:p.block < a.heap.size) (hn:some p.block≠o):b.cell? p=a.cell? p:=World.cell?_of_block (h.block _ hp hn)
theorem af.gr {o:Option Nat} {c:Array Value} (h:af w b c t) (e:Gr o w w') (hn:some b≠o):af w' b c t:=(e.block b h.lt hn).trans h
def lh (p:Nat→Prop) (w:World) (v:Value) (l:List Int):Prop:=
 ∃ a cap,v=.slice a l.length cap∧l.length≤cap∧cap≤9223372036854775807∧
  ∀ i,i < l.length→∃ b off,a=some ⟨b,off,none⟩∧p b∧b < w.heap.size∧w.cell? ⟨b,off+i,none⟩=some (.int .u32 (l.getD i 0))
theorem lh.of (h:aY .u32 w v l):lh (fun b=>b < w.heap.size) w v l:=by
 obtain ⟨a,cap,hv,h1,h2,h3⟩:=h.get;exact ⟨a,cap,hv,h1,h2,fun i hi=>by obtain ⟨b,off,e1,e2,e3⟩:=h3 i hi;exact ⟨b,off,e1,e2,e2,e3⟩⟩
theorem lh.to {p:Nat→Prop} (h:lh p w v l):aY .u32 w v l:=by
 obtain ⟨a,cap,hv,h1,h2,h3⟩:=h;refine ⟨a,cap,by simpa using hv,by simpa using h1,h2,fun i hi=>?_⟩;rw [List.length_map] at hi;obtain ⟨b,off,e1,_,e2,e3⟩:=h3 i hi;exact ⟨b,off,e1,e2,by rw [e3];simp [hi]⟩
theorem lh.gr {p:Nat→Prop} {o:Option Nat} (h:lh p w v l) (e:Gr o w w') (hn:∀ b,p b→some b≠o):lh p w' v l:=by
 obtain ⟨a,cap,hv,hc,hm,hr⟩:=h;refine ⟨a,cap,hv,hc,hm,fun i hi=>?_⟩;obtain ⟨b,off,ha,hp,hb,hx⟩:=hr i hi;exact ⟨b,off,ha,hp,Nat.lt_of_lt_of_le hb e.size,(e.cell (p:=⟨b,off+i,none⟩) hb (hn b hp)).trans hx⟩
theorem lh.ext {p:Nat→Prop} (h:lh p w v l) (e:Ext w w'):lh p w' v l:=h.gr (Gr.cj (o:=none) e) (fun _ _=>by simp)
instance {p:Nat→Prop}:Lx (Ext w w') (lh p w v l) (lh p w' v l):=⟨fun k h=>lh.ext h k⟩
theorem lh.mono {p q:Nat→Prop} (h:lh p w v l) (hpq:∀ b,p b→q b):lh q w v l:=by
 obtain ⟨a,cap,hv,hc,hm,hr⟩:=h;exact ⟨a,cap,hv,hc,hm,fun i hi=>by obtain ⟨b,off,e1,e2,e3⟩:=hr i hi;exact ⟨b,off,e1,hpq b e2,e3⟩⟩
structure bh (w:World) (g cap:Nat) (l:List Int):Prop where
 blk:∃ cur,af w g cur 157∧cur.size=cap∧cur.toList.take l.length=l.map (Value.int .u32)
 le:l.length≤cap
 most:cap≤9223372036854775807
theorem bh.lt (h:bh w g cap l):g < w.heap.size:=by obtain ⟨cur,hb,_⟩:=h.blk;exact hb.lt
theorem bh.free (h:bh w g cap l) (o:Nat):w.frozen? ⟨g,o,none⟩=false:=by obtain ⟨cur,hb,_⟩:=h.blk;exact hb.free o
theorem bh.cell (h:bh w g cap l) (hi:i < l.length):w.cell? ⟨g,i,none⟩=some (.int .u32 (l.getD i 0)):=by
 obtain ⟨cur,hb,hs,ht⟩:=h.blk;rw [hb.cell];have e1:(cur.toList.take l.length)[i]?=(l.map (Value.int .u32))[i]?:=by rw [ht]
 rw [List.getElem?_take_of_lt hi,Array.getElem?_toList] at e1;rw [e1];simp [hi]
theorem bh.gr {o:Option Nat} (h:bh w g cap l) (e:Gr o w w') (hn:some g≠o):bh w' g cap l:=by
 obtain ⟨cur,hb,hs,ht⟩:=h.blk;exact ⟨⟨cur,hb.gr e hn,hs,ht⟩,h.le,h.most⟩
theorem bh.ext (h:bh w g cap l) (e:Ext w w'):bh w' g cap l:=h.gr (Gr.cj (o:=none) e) dc
instance:Lx (Ext w w') (bh w g cap l) (bh w' g cap l):=⟨fun k h=>bh.ext h k⟩
theorem bh.take (h:bh w g cap l) (k:Nat):bh w g cap (l.take k):=by
 obtain ⟨cur,hb,hs,ht⟩:=h.blk;have hle:=h.le;refine ⟨⟨cur,hb,hs,?_⟩,by rw [List.length_take];omega,h.most⟩;rw [List.map_take,← ht,List.take_take,List.length_take]
theorem bh.set (h:bh w g cap l) (i:Nat) (x:Int) (hi:i < l.length):bh (w.setCell ⟨g,i,none⟩ (.int .u32 x)) g cap (l.set i x):=by
 obtain ⟨cur,hb,hs,ht⟩:=h.blk;refine ⟨⟨_,hb.set i (.int .u32 x),by simpa using hs,?_⟩,by simpa using h.le,h.most⟩;rw [List.length_set,Array.toList_setIfInBounds,List.take_set,ht,List.map_set]
theorem bh.new (w:World) (l:List Int) (hm:l.length≤9223372036854775807):bh (w.alloc (.cells (l.map (Value.int .u32)).toArray 157)) w.heap.size l.length l:=
 ⟨⟨_,af.new w _ _,by simp,List.take_of_length_le dc⟩,Nat.le_refl _,hm⟩
theorem bh.rd {p:Nat→Prop} (h:bh w g cap l) (hp:p g):lh p w (.slice (some ⟨g,0,none⟩) l.length cap) l:=
 ⟨_,cap,rfl,h.le,h.most,fun i hi=>⟨g,0,rfl,hp,h.lt,by rw [Nat.zero_add];exact h.cell hi⟩⟩
def eZ (w:World) (o:Option Nat) (v:Value) (l:List Int):Prop:=
 (o=none∧l=[]∧∃ a,a=none∧v=.slice a 0 0)∨∃ g cap,o=some g∧v=.slice (some ⟨g,0,none⟩) l.length cap∧bh w g cap l
theorem eZ.nil (w:World):eZ w none (.slice none 0 0) []:=.inl ⟨rfl,rfl,none,rfl,rfl⟩
theorem eZ.row (h:bh w g cap l):eZ w (some g) (.slice (some ⟨g,0,none⟩) l.length cap) l:=.inr ⟨g,cap,rfl,rfl,h⟩
theorem eZ.gr {o o':Option Nat} (h:eZ w o v l) (e:Gr o' w w') (hn:∀ g,o=some g→some g≠o'):eZ w' o v l:=by
 rcases h with h|⟨g,cap,ho,hv,hr⟩
 ·exact .inl h
 ·exact .inr ⟨g,cap,ho,hv,hr.gr e (hn g ho)⟩
theorem eZ.ext {o:Option Nat} (h:eZ w o v l) (e:Ext w w'):eZ w' o v l:=h.gr (Gr.cj (o:=none) e) (fun _ _=>by simp)
instance {o:Option Nat}:Lx (Ext w w') (eZ w o v l) (eZ w' o v l):=⟨fun k h=>eZ.ext h k⟩
theorem eZ.lt {o:Option Nat} (h:eZ w o v l) (ho:o=some g):g < w.heap.size:=by
 rcases h with ⟨h,_⟩|⟨g',cap,h,hv,hr⟩
 ·rw [ho] at h;cases h
 ·rw [ho] at h;cases h;exact hr.lt
theorem eZ.rd {p:Nat→Prop} {o:Option Nat} (h:eZ w o v l) (hp:∀ g,o=some g→p g):lh p w v l:=by
 rcases h with ⟨_,rfl,a,ha,rfl⟩|⟨g,cap,ho,rfl,hr⟩
 ·exact ⟨a,0,rfl,by simp,by omega,fun i hi=>by simp at hi⟩
 ·exact hr.rd (hp g ho)
theorem eZ.GQ {o:Option Nat} (h:eZ w o v l):aY .u32 w v l:=(h.rd (p:=fun _=>True) (fun _ _=>trivial)).to
theorem eZ.PP {o:Option Nat} (h:eZ w o v l) (hB:∀ g,o=some g→B≤g):w.ownsRow B 157 1 v l.length (l.map (Value.int .u32)):=by
 rcases h with ⟨_,rfl,a,rfl,rfl⟩|⟨g,cap,ho,rfl,hr⟩
 ·exact World.ownsRow_nil _ _ _ _
 ·obtain ⟨cur,hb,hs,ht⟩:=hr.blk;exact ⟨by simp,.inr ⟨g,cap,cur,rfl,hB g ho,hb,hr.le,by have:=hr.most;unfold maxLen;omega,by omega,by rw [Nat.mul_one];exact ht⟩⟩
theorem eZ.own (h:w.ownsRow B 157 1 v l.length (l.map (Value.int .u32))):∃ o,eZ w o v l∧∀ g,o=some g→B≤g:=by
 rcases h.2 with ⟨rfl,h0⟩|⟨g,cap,cur,rfl,hb,hg,hn,hm,hs,ht⟩
 ·exact ⟨none,.inl ⟨rfl,List.length_eq_zero_iff.1 h0,none,rfl,rfl⟩,fun g h=>by cases h⟩
 ·refine ⟨some g,.inr ⟨g,cap,rfl,rfl,⟨cur,hg,by omega,?_⟩,hn,by unfold maxLen at hm;omega⟩,fun g' h=>by cases h;exact hb⟩;rw [Nat.mul_one] at ht;exact ht
theorem Tryz.ko:(Tryz.prog.info? 157).map (fun i=>(i.zero,i.size,i.bytes))=some (some (.int .u32 0),1,4):=ak
theorem aI (h:bk l) (i:Nat):0≤l.getD i 0∧l.getD i 0 < 4294967296:=by
 rw [List.getD_eq_getElem?_getD];by_cases hi:i < l.length
 ·rw [List.getElem?_eq_getElem hi];exact GL h hi
 ·rw [List.getElem?_eq_none Z];simp
theorem lM (hk:k < l.length) (x:Int):nv (l.set k x)+4294967296 ^ k*(l.getD k 0).toNat=nv l+4294967296 ^ k*x.toNat:=by
 have:=KU hk x;rw [List.getD_eq_getElem?_getD,List.getElem?_eq_getElem hk];exact this
theorem dy (h:k < l.length):nv (l.take (k+1))=nv (l.take k)+4294967296 ^ k*(l.getD k 0).toNat:=by
 rw [lL h,List.getD_eq_getElem?_getD,List.getElem?_eq_getElem h];rfl
theorem lN {x:Int} (hl:bk l) (hi:i < l.length) (hx:0≤x) (hc:0≤c):
  nv (l.set i ((l.getD i 0+x+c) % 4294967296))+4294967296 ^ (i+1)*((l.getD i 0+x+c) / 4294967296).toNat=nv l+4294967296 ^ i*(x.toNat+c.toNat):=by
 have h1:=lM hi ((l.getD i 0+x+c) % 4294967296);have h2:=aI hl i;generalize l.getD i 0=y at *
 have e1:y.toNat+x.toNat+c.toNat=4294967296*((y+x+c) / 4294967296).toNat+((y+x+c) % 4294967296).toNat:=Z
 generalize ((y+x+c) / 4294967296).toNat=q at *
 generalize ((y+x+c) % 4294967296)=r at *
 exact jOp
theorem vf {x:Int} (hl:bk l) (hi:i < l.length) (hx:0≤x∧x < 4294967296) (hc:0≤c∧c≤1):
  nv (l.set i ((l.getD i 0 - x - c) % 4294967296))+4294967296 ^ i*(x.toNat+c.toNat)=nv l+4294967296 ^ (i+1)*(Gn (l.getD i 0) x c).toNat:=by
 have h1:=lM hi ((l.getD i 0 - x - c) % 4294967296);have h2:=aI hl i;generalize l.getD i 0=y at *
 have e1:y.toNat+4294967296*(Gn y x c).toNat=x.toNat+c.toNat+((y - x - c) % 4294967296).toNat:=by unfold Gn;split <;> omega
 generalize (Gn y x c).toNat=q at *
 generalize ((y - x - c) % 4294967296)=r at *
 exact jOp
theorem er (h:bk l) (i:Nat) (x:Int):bk (l.set i (x % 4294967296)):=jS h i Z Z
theorem Dq (x y c:Int):0≤Gn x y c∧Gn x y c≤1:=by unfold Gn;split <;> omega
theorem o0 {y x:Int} (hy:0≤y∧y < 4294967296) (hx:0≤x∧x < 4294967296) (hc:0≤c∧c≤1):0≤(y+x+c) / 4294967296∧(y+x+c) / 4294967296≤1:=Z
def slen:Value→Nat|.slice _ k _=>k|_=>0
theorem uU (hl:bk l) (hk:k≤l.length) (h:k=0∨l.getD (k - 1) 0≠0) (he:nv (l.take k)=nv l):l.take k=lim (nv l):=by
 rw [← he];refine (dg (fi hl k) ?_).symm;unfold df;rcases Nat.eq_zero_or_pos k with rfl|h3
 ·simp
 ·have h2:=h.resolve_left Z;rw [List.getLast?_eq_getElem?,List.length_take_of_le hk,List.getElem?_take_of_lt Z,List.getElem?_eq_getElem Z];rw [List.getD_eq_getElem?_getD,List.getElem?_eq_getElem Z] at h2;simpa using h2
theorem Bj (hk:k≤l.length) (h0:0 < k) (h:l.getD (k - 1) 0=0) (he:nv (l.take k)=nv l):nv (l.take (k - 1))=nv l:=by
 have hlt:k - 1 < l.length:=Z
 refine tq hlt ?_ (by rw [show k - 1+1=k by omega];exact he);rw [List.getD_eq_getElem?_getD,List.getElem?_eq_getElem hlt] at h;simpa using h
theorem bh.lim (h:bh w g cap l) (e:l.take k=lim (nv l)):bh w g cap (lim (nv l)):=by rw [← e];exact h.take k
theorem jo (g cap:Nat) (l:List Int) (w:World) (h:bh w g cap l) (hl:bk l):
  Calls Tryz.prog 188 #[.slice (some ⟨g,0,none⟩) l.length cap] w fun e w'=>e=.returned (.slice (some ⟨g,0,none⟩) (lim (nv l)).length cap)∧bh w' g cap (lim (nv l))∧Ext w w':=by
 have hle:=h.le;have o7:=h.most;have H:=kI h;clear h;have HL:=kI hl;clear hl;go_enter Tryz.func188,Tryz.ntmps188
 go_wp2
 go_loopw [0] (fun v wr=>∃ k:Nat,k≤l.length∧v=.slice (some ⟨g,0,none⟩) k cap∧nv (l.take k)=nv l∧∃ n,wr=w.drewN n)
  (fun v _=>slen v)
 case atStart=>exact ⟨l.length,Nat.le_refl _,rfl,by rw [List.take_length],0,rfl⟩
 case round=>
  obtain ⟨k,hk,rfl,htake,n,rfl⟩:=hrel;have HT:=kI htake;clear htake;by_cases h0:0 < k
  ·have hc:=H.o.cell (i:=k - 1) Z;obtain ⟨x,hx⟩:∃ x,x=l.getD (k - 1) 0:=⟨_,rfl⟩;exact jQ5
  ·exact qUw
theorem vg (a:Option Addr) (w:World):
  Calls Tryz.prog 188 #[.slice a 0 0] w fun e w'=>e=.returned (.slice a 0 0)∧Ext w w':=by
 go_enter Tryz.func188,Tryz.ntmps188
 exact jH2
theorem vh (o:Option Nat) (v:Value) (l:List Int) (w:World) (h:eZ w o v l) (hl:bk l):
  Calls Tryz.prog 188 #[v] w fun e w'=>∃ v',e=.returned v'∧eZ w' o v' (lim (nv l))∧Ext w w':=by
 rcases h with ⟨rfl,rfl,a,ha,rfl⟩|⟨g,cap,rfl,rfl,h⟩
 ·exact (vg a w).mono fun e w' ⟨he,hx⟩=>⟨_,he,.inl ⟨rfl,rfl,a,ha,rfl⟩,hx⟩
 ·exact (jo g cap l w h hl).mono fun e w' ⟨he,hr,hx⟩=>⟨_,he,.row hr,hx⟩
def cI (l:List Int):Int:=if 512 < l.length then 4 else if l.getLast?=some 0 then 2 else 0
def z6 (a b:Int):Int:=if a=0 then b else a
def dG (l1 l2:List Int):Int:=z6 (cI l1) (cI l2)
def jV (a b:Int):Int:=if a < b then -1 else if b < a then 1 else 0
theorem fI (l:List Int) (h:0 < l.length):l.getLast?=some (l.getD (l.length - 1) 0):=by
 rw [List.getLast?_eq_getElem?,List.getD_eq_getElem?_getD,List.getElem?_eq_getElem Z];rfl
theorem fC (h:aY .u32 w v l):∃ a cap,v=.slice a l.length cap∧l.length≤cap∧cap≤9223372036854775807∧
  ∀ i,i < l.length→∃ b off,a=some ⟨b,off,none⟩∧b < w.heap.size∧w.cell? ⟨b,off+i,none⟩=some (.int .u32 (l.getD i 0)):=h.get
theorem fa (v:Value) (l:List Int) (w:World) (h:aY .u32 w v l):
  Calls Tryz.prog 155 #[v] w fun e w'=>e=.returned (.int .i64 (cI l))∧Ext w w':=by
 obtain ⟨a,cap,rfl,hc,hm,hr⟩:=fC h;clear h;by_cases h5:512 < l.length
 ·have e:cI l=4:=by simp [cI,h5]
  have H:=kI e;clear e hr;have hd:decide (512 < (l.length:Int))=true:=by simp;omega
  go_enter Tryz.func155,Tryz.ntmps155
  go_wp2
  go_ret;exact ⟨by rw [H.o];rfl,Ext.refl w⟩
 ·have hd:decide (512 < (l.length:Int))=false:=by simp;omega
  by_cases h0:0 < l.length
  ·obtain ⟨b,off,rfl,hb,hx⟩:=hr (l.length - 1) Z;obtain ⟨x,hx'⟩:∃ x,x=l.getD (l.length - 1) 0:=⟨_,rfl⟩;rw [← hx'] at hx;have e:cI l=if x=0 then 2 else 0:=by
    unfold cI;rw [if_neg h5,fI l h0,← hx'];simp
   have H:=kI e;clear e hr hx';have hd0:decide (0 < (l.length:Int))=true:=by simp;omega
   by_cases hz:x=0
   ·subst hz;go_enter Tryz.func155,Tryz.ntmps155
    exact NG
   ·have hz':(x == 0)=false:=by simpa using hz
    go_enter Tryz.func155,Tryz.ntmps155
    go_wp2
    go_ret;exact ⟨by rw [H.o,if_neg hz];rfl,eX⟩
  ·have hl:l.length=0:=Z
   have e:cI l=0:=by rw [List.length_eq_zero_iff.1 hl];rfl
   have H:=kI e;clear e hr;have hd0:decide (0 < (l.length:Int))=false:=decide_eq_false Z;go_enter Tryz.func155,Tryz.ntmps155
   exact NG
theorem yA (a b:Int) (w:World):
  Calls Tryz.prog 200 #[.int .i64 a,.int .i64 b] w fun e w'=>e=.returned (.int .i64 (jV a b))∧Ext w w':=by
 rcases Int.lt_trichotomy a b with h|h|h
 ·have e:jV a b = -1:=by simp [jV,h]
  have H:=kI e;clear e;exact Xh
 ·have e:jV a b=0:=by simp [jV,h]
  have h1:decide (a < b)=false:=decide_eq_false Z;have h2:decide (b < a)=false:=decide_eq_false Z;have H:=kI e;clear e h;exact Xh
 ·have e:jV a b=1:=by
    have:¬ a < b:=Z
    simp [jV,h,this]
  have h1:decide (a < b)=false:=decide_eq_false Z;have H:=kI e;clear e;exact Xh
theorem Ds (a b:Int) (w:World):
  Calls Tryz.prog 201 #[.int .u32 a,.int .u32 b] w fun e w'=>e=.returned (.int .i64 (jV a b))∧Ext w w':=by
 rcases Int.lt_trichotomy a b with h|h|h
 ·have e:jV a b = -1:=by simp [jV,h]
  have H:=kI e;clear e;exact Xg
 ·have e:jV a b=0:=by simp [jV,h]
  have h1:decide (a < b)=false:=decide_eq_false Z;have h2:decide (b < a)=false:=decide_eq_false Z;have H:=kI e;clear e h;exact Xg
 ·have e:jV a b=1:=by
    have:¬ a < b:=Z
    simp [jV,h,this]
  have h1:decide (a < b)=false:=decide_eq_false Z;have H:=kI e;clear e;exact Xg
theorem lO (a b:Int) (g:Nat) (w:World) (h:af w g #[.int .i64 a,.int .i64 b] 37):
  Calls Tryz.prog 121 #[.slice (some ⟨g,0,none⟩) 2 2] w fun e w'=>e=.returned (.int .i64 (z6 a b))∧Ext w w':=by
 have c:=h.cell;have H:=kI h;clear h;by_cases ha:a=0
 ·subst ha;by_cases hb:b=0
  ·subst hb;go_enter Tryz.func121,Tryz.ntmps121
   go_wp2_with fail;refine wp_loop_rounds 3 ?_;rw [rounds_succ];go_wp2
   rw [rounds_succ];go_wp2
   rw [rounds_succ];exact Pv
  ·have hb':(b != 0)=true:=by simpa using hb
   have e:z6 0 b=b:=rfl;go_enter Tryz.func121,Tryz.ntmps121
   go_wp2_with fail;refine wp_loop_rounds 2 ?_;rw [rounds_succ];go_wp2
   rw [rounds_succ];exact Pv
 ·have ha':(a != 0)=true:=by simpa using ha
  have e:z6 a b=a:=by simp [z6,ha]
  have HE:=kI e;clear e;go_enter Tryz.func121,Tryz.ntmps121
  go_wp2_with fail;refine wp_loop_rounds 1 ?_;rw [rounds_succ];go_wp2
  go_ret;exact ⟨by rw [HE.o];rfl,eX⟩
theorem ct (v1 v2:Value) (l1 l2:List Int) (w:World) (h1:aY .u32 w v1 l1) (h2:aY .u32 w v2 l2):
  Calls Tryz.prog 183 #[v1,v2] w fun e w'=>e=.returned (.int .i64 (dG l1 l2))∧Ext w w':=by
 have H1:=kI h1;have H2:=kI h2;clear h1 h2;go_enter Tryz.func183,Tryz.ntmps183
 go_wp2_with fail;refine (fa v1 l1 _ H1.o).mono ?_;rintro e w1 ⟨rfl,hx1⟩;have HX:=kI hx1;clear hx1;go_wp2_with fail;refine (fa v2 l2 _ (H2.o.ext HX.o)).mono ?_;rintro e w2 ⟨rfl,hx2⟩;have xX:=HX.x hx2;clear hx2;go_wp2_with fail;refine (lO (cI l1) (cI l2) w2.heap.size _ (af.new w2 _ _)).mono ?_;rintro e w3 ⟨rfl,hx3⟩;have GU:=kI ((xX.o.alloc _).trans hx3);clear hx3;go_wp2
 go_ret;exact ⟨rfl,GU.o⟩
theorem Bo (x y c:Int) (w:World) (hx:0≤x∧x < 4294967296) (hy:0≤y∧y < 4294967296) (hc:0≤c∧c≤1):
  Calls Tryz.prog 204 #[.int .u32 x,.int .u32 y,.int .u32 c] w fun e w'=>e=.returned (.tuple #[.int .u32 ((x+y+c) % 4294967296),.int .u32 ((x+y+c) / 4294967296)])∧Ext w w':=by
 obtain ⟨x0,x1⟩:=hx;obtain ⟨y0,y1⟩:=hy;obtain ⟨c0,c1⟩:=hc;go_enter Tryz.func204,Tryz.ntmps204
 go_wp2
 go_ret2
 exact ⟨rfl,eX⟩
theorem su (x y c:Int) (w:World) (hx:0≤x∧x < 4294967296) (hy:0≤y∧y < 4294967296) (hc:0≤c∧c≤1):
  Calls Tryz.prog 202 #[.int .u32 x,.int .u32 y,.int .u32 c] w fun e w'=>e=.returned (.tuple #[.int .u32 ((x - y - c) % 4294967296),.int .u32 (Gn x y c)])∧Ext w w':=by
 have hb:=kI (yz x y c hx hy hc);obtain ⟨x0,x1⟩:=hx;obtain ⟨y0,y1⟩:=hy;obtain ⟨c0,c1⟩:=hc;go_enter Tryz.func202,Tryz.ntmps202
 go_wp2
 ·go_ret2
  exact ⟨by rw [← hb.out];rfl,eX⟩
theorem gN (e:α):∃ x,x=e:=⟨e,rfl⟩
theorem eR (w:World):Ext w w:=Ext.refl w
theorem eT {a b c:World} (h:Ext a b) (k:Ext b c):Ext a c:=Ext.trans h k
theorem eA {a:World} (h:Ext a w) (o:Obj):Ext a (w.alloc o):=Ext.alloc h o
theorem eD {a:World} (h:Ext a w):Ext a w.drew:=Ext.drew h
theorem eN {a:World} (h:Ext a w) (n:Nat):Ext a (w.drewN n):=Ext.drewN h n
theorem eS {a:World} {p:Addr} (hp:a.heap.size≤p.block) (h:Ext a w):Ext a (w.setCell p v):=Ext.PN hp h
theorem af.q3 {c:Array Value} (h:af w b c t):(∀ o:Nat,w.cell? ⟨b,o,none⟩=c[o]?)∧(∀ o:Nat,w.frozen? ⟨b,o,none⟩=false)∧b < w.heap.size:=⟨h.cell,h.free,h.lt⟩
end Go.Proofs.YtnnjbaijcaiohaaGreat
