/- Walks and lemmas. -/
import Derived.Test.YtnnjbaijcaiohaaGreatProg
import Derived.WalkKit
import Derived.WalkSpells
import Derived.WalkLawsBesides
import Derived.Deep.QuietTactic
import Derived.BigQuiet
import Derived.Lib.Hide
import Derived.Deep.RegionHeld3
import Derived.Deep.RegionWith
import Derived.Deep.DeepFit
import Derived.Deep.DeepCutAuto
import Derived.StillTailTactics
import Derived.StillTail
import Derived.Deep.RegionHeld
import Derived.OrdersHeld
set_option linter.unusedVariables false
set_option linter.unusedSimpArgs false
set_option maxRecDepth 100000
set_option maxHeartbeats 16000000
namespace Go.Proofs.YtnnjbaijcaiohaaGreat
open Go.RowKit
section
theorem sP:(∀ (a:Act) (d:Tmp) (v:Value),a.put (some d) v={ a with tmps:=a.tmps.setIfInBounds d v })∧(∀ (a:Act) (v:Value),a.put none v=a)∧(∀ {α:Type} {l:List α} {i:Nat} (h:i < l.toArray.size),l.toArray[i]=l[i]'(by simpa using h))∧(∀ {α:Type} {x:α} {l:List α} (h:0 < (x :: l).length),(x :: l)[0]=x)∧(∀ {α:Type} {x:α} {l:List α} {i:Nat} (h:i+1 < (x :: l).length),(x :: l)[i+1]=l[i]'(Nat.lt_of_succ_lt_succ h))∧(∀ {α:Type} {l:List α} {i:Nat} {x:α},l.toArray.setIfInBounds i x=(l.set i x).toArray)∧(∀ {α:Type} {x y:α} {l:List α},(x :: l).set 0 y=y :: l)∧(∀ {α:Type} {x y:α} {l:List α} {i:Nat},(x :: l).set (i+1) y=x :: l.set i y):=
  ⟨fun _ _ _=>rfl,fun _ _=>rfl,fun _=>rfl,fun _=>rfl,fun _=>rfl,by intro α l i x;exact List.setIfInBounds_toArray ..,rfl,rfl⟩
theorem sB:(∀ {α:Type} {xs:Array α} {i:Nat} {d:α},xs.getD i d=xs[i]?.getD d)∧(∀ {α:Type} {l:List α} {i:Nat},l.toArray[i]?=l[i]?)∧(∀ {α:Type} {x:α} {l:List α} {i:Nat},(x :: l)[i+1]?=l[i]?)∧(∀ {α:Type} {x:α} {l:List α},(x :: l)[0]?=some x)∧(∀ {α:Type} {x d:α},(some x).getD d=x):=
  ⟨by intro α xs i d;exact Array.getD_eq_getD_getElem? ..,by intro α l i;exact List.getElem?_toArray ..,rfl,rfl,rfl⟩
theorem aE {J:Nat→Value→World→Prop} {j t:Nat} {a:Act} {W:World} (h:J j (a.tmps.getD t undef) W):∃ x,a.tmps[t]?.getD undef=x∧J j x W:=⟨_,rfl,by rw [Array.getD_eq_getD_getElem?] at h;exact h⟩
theorem _root_.Go.RowKit.Hid.o {p:Prop} (h:Go.RowKit.Hid p):p:=h.out
theorem kI {p:Prop} (h:p):Go.RowKit.Hid p:=h
theorem tk (i:Nat) {P:Program} {md:Region.Mode} {ops:Array Oper} {Q:Exit→Act→World→Prop} {S:World→Prop} {oi:Oper} {v:Value} {fuel:Nat} {l:Array Bool} {a:Act} {w:World} {R:Prop} (r:R) (hi:ops[i]?=some oi:=by rfl) (h1:Region.noSelect ops=true:=by kernel_rfl) (h2:Region.free md ops l i=true:=by kernel_rfl) (h3:(Region.ready md ops l).contains i=true:=by kernel_rfl) (hQ:∀ c a w,Q (.panic c) (a.put oi.dst v) w→Q (.panic c) a w:=by exact fun _ _ _ h=>h) (hy:YieldsIf P ops S oi v a:=by refine Or.inl ⟨by rfl,?_⟩;intro w hSw;(try dsimp only at hSw);go_simp;first|done|with_reducible rfl) (hS:S w:=by assumption) (k:R→wpAnyH P md ops Q S fuel (l.setIfInBounds i true) (a.put oi.dst v) w:=by intro k;(try simp only [sP]);exact k):wpAnyH P md ops Q S (fuel+1) l a w:=wpAnyH_take hi h1 h2 h3 hQ hy hS (k r)
theorem lK (rs:List Nat) {P:Program} {md:Region.Mode} {ops:Array Oper} {Q:Exit→Act→World→Prop} {S:World→Prop} {fuel:Nat} {l:Array Bool} {a:Act} {w:World} (h:AllReadyH P md ops Q S fuel l a w rs) (hr:Region.ready md ops l=rs:=by kernel_rfl) (hn:rs≠[]:=by simp):wpAnyH P md ops Q S (fuel+1) l a w:=wpAnyH_ready hr hn h
theorem rc {P:Program} {md:Region.Mode} {ops:Array Oper} {Q:Exit→Act→World→Prop} {S:World→Prop} {fuel:Nat} {l:Array Bool} {a:Act} {w:World} {i:Nat} {o:Oper} (h:∀ K:Act→World→Prop,Shut (∀ a w,S w→(S w→wpAnyH P md ops Q S fuel (l.setIfInBounds i true) a w)→K a w)→if Region.wanted o (yielded ops a.tmps)=true then Oper.wp P o a w K Q else K (a.put o.dst undef) w) (ho:ops[i]?=some o:=by rfl):AllReadyH P md ops Q S fuel l a w [i]:=AllReadyH.cons ho h AllReadyH.nil
theorem au {p:Prop} (h:p:=by dsimp only;omega):p:=h
theorem ax {p:Prop} (h:p:=by kernel_rfl):p:=h
theorem ap {p:Prop} (h:p:=by decide):p:=h
theorem Z {p:Prop} (h:p:=by omega):p:=h
theorem Bl {p:Prop} (h:p:=by intro x hx n;rcases (by simpa using hx) with rfl|rfl|rfl <;> simp):p:=h
theorem cp {p:Prop} (h:p:=by simp):p:=h
theorem wH {p:Prop} (h:p:=by simp only [results,Tryz.results118];go_simp):p:=h
theorem mQ {p:Prop} (h:p:=by simp [Value.oneCell']):p:=h
theorem qz {p:Prop} (h:p:=by (try dsimp only);omega):p:=h
theorem ks {p:Prop} (h:p:=by simp [go_sem]):p:=h
theorem kN {p:Prop} (h:p:=by simpa using h):p:=h
theorem EV {p:Prop} (h:p:=by simp only [results,Tryz.results166];go_simp):p:=h
theorem QN {p:Prop} (h:p:=by have k1:=hb6.cell;have k2:=hb6.free;have k3:=hb6.lt;clear hb6;simp only [results,Tryz.results178];go_simp):p:=h
theorem Bm {p:Prop} (h:p:=by simpa using inv.head.size):p:=h
theorem qC {p:Prop} (h:p:=by simp;omega):p:=h
theorem QP {p:Prop} (h:p:=by (try simp only [World.size_alloc,World.size_setCell,World.size_drew,gh]);omega):p:=h
theorem M6 {p:Prop} (h:p:=by intro x hx n;simp at hx;rcases hx with rfl|rfl|rfl <;> simp):p:=h
theorem Mc {p:Prop} (h:p:=by first|exact Ext.refl _|exact (Ext.refl _).drew):p:=h
theorem QR {p:Prop} (h:p:=by rw [oQ (p:=R.1) (by rw [← HR.o];exact Prod.ext rfl uf)];exact hc.symm):p:=h
theorem Bo {p:Prop} (h:p:=by have:=x.size;omega):p:=h
theorem Md {p:Prop} (h:p:=by simp only [results,Tryz.results119];go_simp):p:=h
theorem yB {p:Prop} (h:p:=by simpa using h2):p:=h
theorem Me {p:Prop} (h:p:=by have:=Zh.o;have:=Sv.o;have:=fb.o;omega):p:=h
theorem Mf {p:Prop} (h:p:=by have:=Zi.o;have:=Zj.o;have:=fb.o;omega):p:=h
theorem Ey {p:Prop} (h:p:=by have x9:=X.o;exact eX):p:=h
theorem H7 {p:Prop} (h:p:=by have:=YL.o;dsimp only;omega):p:=h
theorem Mg {p:Prop} (h:p:=by have:=inv.head.size;simp at this;omega):p:=h
theorem QS {p:Prop} (h:p:=by (try simp only [World.size_alloc,World.size_drew]);omega):p:=h
theorem Bu {p:Prop} (h:p:=by simpa using hj):p:=h
theorem Mh {p:Prop} (h:p:=by have:=LZ.o;have:=M8.o;omega):p:=h
theorem Mi {p:Prop} (h:p:=by have:=LV.o;have:=M8.o;omega):p:=h
theorem Mj {p:Prop} (h:p:=by have:=LB.o;have:=HKB.o;omega):p:=h
theorem Mk {p:Prop} (h:p:=by have:=LA.o;have:=HKB.o;omega):p:=h
theorem M9 {p:Prop} (h:p:=by unfold small;rw [← uq.o];omega):p:=h
theorem Na {p:Prop} (h:p:=by rw [getD_replicate_false];simp):p:=h
theorem QT {p:Prop} (h:p:=by rw [EW (c:=R.2) (by rw [HR.o]) hpe]):p:=h
theorem Nc {p:Prop} (h:p:=by rw [je hwt.2];exact he):p:=h
theorem Ml {p:Prop} (h:p:=by rw [h] at hr;cases hr):p:=h
theorem Mm {p:Prop} (h:p:=by constructor <;> omega):p:=h
theorem Nd {p:Prop} (h:p:=by rw [je hjn];exact h2'):p:=h
theorem Ia {p:Prop} (h:p:=by simpa using hi):p:=h
theorem Ib {p:Prop} (h:p:=by simpa using h1):p:=h
theorem QU {p:Prop} (h:p:=by have x9:=X.o;have z9:=Ic.o;exact eX):p:=h
theorem IK {p:Prop} (h:p:=by have:=G1.o;omega):p:=h
theorem IL {p:Prop} (h:p:=by have:=D2.o;omega):p:=h
theorem IM {p:Prop} (h:p:=by rw [h];exact hc):p:=h
theorem QV {p:Prop} (h:p:=by unfold qOp;simp only [h0];exact h):p:=h
theorem Wi {p:Prop} (h:p:=by have k1:=hb6.cell;have k2:=hb6.free;have k3:=hb6.lt;clear hb6;simp only [results,Tryz.results136];go_simp):p:=h
theorem Id {p:Prop} (h:p:=by intro n;simp):p:=h
theorem EX {p:Prop} (h:p:=by rw [ug.o]):p:=h
theorem Wj {p:Prop} (h:p:=by have k1:=A0.o.cell;have k2:=A0.o.free;have k3:=A0.o.lt;simp only [results,Tryz.results178];go_simp):p:=h
theorem Mn {p:Prop} (h:p:=by first|trivial|rfl):p:=h
theorem QX {p:Prop} (h:p:=by rw [List.length_drop];exact hq):p:=h
theorem QY {p:Prop} (h:p:=by rw [← k3];exact h3 eg k1 k2):p:=h
theorem Sw {p:Prop} (h:p:=by simp only [results,Tryz.results108];go_simp):p:=h
theorem Sx {p:Prop} (h:p:=by simp only [results,Tryz.results107];go_simp):p:=h
theorem Mo {p:Prop} (h:p:=by rw [h];exact hk):p:=h
theorem Nf {p:Prop} (h:p:=by unfold maxLen;omega):p:=h
theorem Mp {p:Prop} (h:p:=by rw [e];decide):p:=h
theorem Ng {p:Prop} (h:p:=by simpa using hwt.1):p:=h
theorem Sy {p:Prop} (h:p:=by rw [← HR.o];exact Prod.ext rfl P1.o):p:=h
theorem QZ {p:Prop} (h:p:=by rw [← HN.o];exact hlt):p:=h
theorem Sz {p:Prop} (h:p:=by rintro (z|z);exact z rfl;exact z h8):p:=h
theorem SA {p:Prop} (h:p:=by rw [← Mq.o];exact Ie.o.ext X.o):p:=h
theorem Nh {p:Prop} (h:p:=by rw [← uq.o]):p:=h
theorem SD {p:Prop} (h:p:=by rw [← HX.o,← HY.o];exact hc):p:=h
theorem Wk {p:Prop} (h:p:=by have hh:=X.o.size;(try simp only [World.size_alloc] at hh);omega):p:=h
theorem Wl {p:Prop} (h:p:=by have hh:=A0.o.lt;(try simp only [World.size_alloc] at hh);omega):p:=h
theorem Wm {p:Prop} (h:p:=by have h1:=BN.o;have h2:=XW.o;have:=Mr.o;have h3:=BY.o.lt;omega):p:=h
theorem SE {p:Prop} (h:p:=by rintro (z|z) <;> exact z rfl):p:=h
theorem Ms {p:Prop} (h:p:=by simp [s1]):p:=h
theorem Mt {p:Prop} (h:p:=by simp [hy]):p:=h
theorem Q0 {p:Prop} (h:p:=by have:=hp.1;omega):p:=h
theorem Q4 {p:Prop} (h:p:=by have:=Q1.o;omega):p:=h
theorem Q5 {p:Prop} (h:p:=by have:=HL.o;omega):p:=h
theorem Wn {p:Prop} (h:p:=by rw [Nat.pow_add];exact Nat.mul_lt_mul'' h1.lt h2.lt):p:=h
theorem Ni {p:Prop} (h:p:=by simp [hcs]):p:=h
theorem Q6 {p:Prop} (h:p:=by simpa using hr):p:=h
theorem Q7 {p:Prop} (h:p:=by simpa using e1):p:=h
theorem Q8 {p:Prop} (h:p:=by rw [hrec];simp):p:=h
theorem Wo {p:Prop} (h:p:=by rw [Array.setIfInBounds_comm _ _ hji];exact h3.2):p:=h
theorem Mu {p:Prop} (h:p:=by cases h):p:=h
theorem Nj {p:Prop} (h:p:=by simp [hx]):p:=h
theorem SF {p:Prop} (h:p:=by simpa [hlt2] using he):p:=h
abbrev Ext (w w':World):Prop:=Below w.heap.size w w'
theorem Ext.refl (w:World):Ext w w:=Below.refl _ _
theorem Ext.trans {a b c:World} (h:Ext a b) (k:Ext b c):Ext a c:=Below.trans h (k.mono h.size)
theorem Ext.alloc {a w:World} (h:Ext a w) (o:Obj):Ext a (w.alloc o):=Below.alloc h h.size o
theorem Ext.drew {a w:World} (h:Ext a w):Ext a w.drew:=Below.drew h
theorem Ext.drewN {a w:World} (h:Ext a w) (n:Nat):Ext a (w.drewN n):=below_drewN h n
theorem Ext.set {a w:World} (h:Ext a w) {p:Addr} (hp:a.heap.size≤p.block) (v:Value):Ext a (w.setCell p v):=Below.setCell h hp v
theorem Ext.Nk {a w:World} {p:Addr} {v:Value} (hp:a.heap.size≤p.block) (h:Ext a w):Ext a (w.setCell p v):=Below.setCell h hp v
theorem eX {a b:World} (h:Ext a b:=by (repeat (first|(with_reducible first|exact Ext.refl _|assumption|refine Ext.alloc ?_ _)|((with_reducible refine Ext.Nk ?_ ?_);focus (dsimp only;omega))|(with_reducible first|refine Ext.drew ?_|refine Ext.drewN ?_ _|refine Ext.trans ?_ (by assumption))))):Ext a b:=h
@[simp] theorem gh (w:World) (n:Nat):(w.drewN n).heap.size=w.heap.size:=rfl
/-- What a walk wants of a later world: cells and marks below B as they were. -/
theorem Ext.old {w w1:World} (h:Ext w w1) {B:Nat} (hB:B≤w.heap.size):(∀ b o,b < B→w1.cell? ⟨b,o,none⟩=w.cell? ⟨b,o,none⟩)∧(∀ b o,b < B→w1.frozen? ⟨b,o,none⟩=w.frozen? ⟨b,o,none⟩):=
 ⟨fun _ _ hb=>h.cell (Nat.lt_of_lt_of_le hb hB),fun _ _ hb=>h.frozen (Nat.lt_of_lt_of_le hb hB)⟩
theorem Ext.cK {w w1:World} (h:Ext w w1) {b:Nat} (hb:b < w.heap.size):(∀ o,w1.cell? ⟨b,o,none⟩=w.cell? ⟨b,o,none⟩)∧(∀ o,w1.frozen? ⟨b,o,none⟩=w.frozen? ⟨b,o,none⟩):=
 ⟨fun _=>h.cell hb,fun _=>h.frozen hb⟩
def ag (w:World) (b:Nat) (c:Array Value) (t:TypeId):Prop:=w.heap[b]?=some (.cells c t (0,0))
theorem ag.lt {w:World} {b:Nat} {c:Array Value} {t:TypeId} (h:ag w b c t):b < w.heap.size:=(Array.getElem?_eq_some_iff.1 h).1
theorem ag.cell {w:World} {b:Nat} {c:Array Value} {t:TypeId} (h:ag w b c t) (o:Nat):w.cell? ⟨b,o,none⟩=c[o]?:=by
 unfold ag at h;simp [World.cell?,h]
theorem ag.free {w:World} {b:Nat} {c:Array Value} {t:TypeId} (h:ag w b c t) (o:Nat):w.frozen? ⟨b,o,none⟩=false:=by
 unfold ag at h;simp [World.frozen?,h]
theorem ag.ext {w w':World} {b:Nat} {c:Array Value} {t:TypeId} (h:ag w b c t) (e:Ext w w'):ag w' b c t:=(e.block b h.lt).trans h
theorem ag.alloc {w:World} {b:Nat} {c:Array Value} {t:TypeId} (h:ag w b c t) (o:Obj):ag (w.alloc o) b c t:=h.ext ((Ext.refl w).alloc o)
theorem ag.drew {w:World} {b:Nat} {c:Array Value} {t:TypeId} (h:ag w b c t):ag w.drew b c t:=h
theorem ag.new (w:World) (c:Array Value) (t:TypeId):ag (w.alloc (.cells c t)) w.heap.size c t:=by
 show (w.heap.push _)[w.heap.size]?=_;simp
theorem ag.setOther {w:World} {b:Nat} {c:Array Value} {t:TypeId} (h:ag w b c t) {a:Addr} (ha:b≠a.block) (v:Value):ag (w.setCell a v) b c t:=(Below.heap_setCell w a v b ha).trans h
theorem ag.set {w:World} {b:Nat} {c:Array Value} {t:TypeId} (h:ag w b c t) (o:Nat) (v:Value):ag (w.setCell ⟨b,o,none⟩ v) b (c.setIfInBounds o v) t:=by
 unfold ag at *;simp [World.setCell,Array.getElem?_modify,h]
def Rd (w:World) (v:Value) (l:List Value):Prop:=
 ∃ a cap,v=.slice a l.length cap∧l.length≤cap∧cap≤9223372036854775807∧
  ∀ i,i < l.length→∃ b off,a=some ⟨b,off,none⟩∧b < w.heap.size∧w.cell? ⟨b,off+i,none⟩=l[i]?
theorem Rd.ext {w w':World} {v:Value} {l:List Value} (h:Rd w v l) (e:Ext w w'):Rd w' v l:=by
 obtain ⟨a,cap,hv,hc,hm,hr⟩:=h;refine ⟨a,cap,hv,hc,hm,fun i hi=>?_⟩;obtain ⟨b,off,ha,hb,hx⟩:=hr i hi;exact ⟨b,off,ha,Nat.lt_of_lt_of_le hb e.size,(e.cell (p:=⟨b,off+i,none⟩) hb).trans hx⟩
abbrev bj (k:IntKind) (w:World) (v:Value) (l:List Int):Prop:=Rd w v (l.map (Value.int k))
theorem bj.get {k:IntKind} {w:World} {v:Value} {l:List Int} (h:bj k w v l):∃ a cap,v=.slice a l.length cap∧l.length≤cap∧cap≤9223372036854775807∧
  ∀ i,i < l.length→∃ b off,a=some ⟨b,off,none⟩∧b < w.heap.size∧w.cell? ⟨b,off+i,none⟩=some (.int k (l.getD i 0)):=by
 obtain ⟨a,cap,hv,hc,hm,hr⟩:=h;simp only [List.length_map] at hv hc hr;refine ⟨a,cap,hv,hc,hm,fun i hi=>?_⟩;obtain ⟨b,off,ha,hb,hx⟩:=hr i hi;exact ⟨b,off,ha,hb,by rw [hx];simp [hi]⟩
def SG (n:Nat) (w:World) (v:Value) (l:List (List Value)):Prop:=
 ∃ a cap,v=.slice a l.length cap∧l.length≤cap∧cap≤9223372036854775807∧
  ∀ i,i < l.length→∃ b off,a=some ⟨b,off,none⟩∧b < w.heap.size∧∀ j,j < n→w.cell? ⟨b,off+i*n+j,none⟩=(l.getD i [])[j]?
theorem iC {α:Type} {l1 l2:List α} {k:Nat} (h:l1.take k=l2.take k) (h1:k < l1.length) (h2:k < l2.length) (e:l1[k]=l2[k]):l1.take (k+1)=l2.take (k+1):=by
 rw [List.take_succ_eq_append_getElem h1,List.take_succ_eq_append_getElem h2,h,e]
theorem cT {a b:Bool} (h:a=b):Ending.returned (.bool a)=.returned (.bool b):=by rw [h]
theorem bp {k:IntKind} {a b:Int} (h:a=b):Ending.returned (.int k a)=.returned (.int k b):=by rw [h]
theorem dv {P:Program} (W:World) {ops:Array Oper} {rest:List Oper} {o:Oper} {a:Act} {Q:Exit→Act→World→Prop} (hgd:o.guard=none) (s x:Operand) (t:TypeId)
  (ho:o.op=.call { callee:=.builtin .append,args:=#[s,x],argTypes:=#[t,t] })
  (B:Nat) (e:TypeId) (z:Value) (size bytes:Nat) (ht:P.underlying t=some (.slice e)) (hinfo:(P.info? e).map (fun i=>(i.zero,i.size,i.bytes))=some (some z,size,bytes))
  (hzs:z.cells.size=size) (hsz:0 < size) (v:Value) (n:Nat) (xs:List Value) (hown:W.ownsRow B e size v n xs) (hs:a.eval s=v)
  (cs:List Value) (hcs:cs.length=size) (h1c:∀ u ∈ cs,u.oneCell'=true) (hx:a.eval x=.slice (some ⟨W.heap.size,0,none⟩) 1 1)
  (h63:n+1≤9223372036854775807) (hbytes:(n+1)*bytes≤140737488355328) (hB:B≤W.heap.size)
  (h:∀ g cap w',w'.ownsRow B e size (.slice (some ⟨g,0,none⟩) (n+1) cap) (n+1) (xs ++ cs)→Below B W w'→wpList P ops Q rest (a.put o.dst (.slice (some ⟨g,0,none⟩) (n+1) cap)) w') :
  wpList P ops Q (o :: rest) a (W.alloc (.cells cs.toArray e)):=by
 obtain ⟨i0,hi,hz0,hz1,hz2⟩:=info_parts hinfo;refine wpList_append_own _ hgd s x t ho B e i0 z size bytes ht hi hz0 hz1 hz2 hzs hsz v n xs hs (hown.alloc _) ⟨W.heap.size,0,none⟩ 1 1 cs hx Ni ?_ h1c Nf hbytes qC ?_
 ·intro j u hj;have hlt:j < cs.length:=(List.getElem?_eq_some_iff.1 hj).1;have hadd:(⟨W.heap.size,0,none⟩:Addr).add j=⟨W.heap.size,j,none⟩:=by unfold Addr.add;split <;> simp_all
  rw [hadd,World.cell?_alloc_at _ _ _ _ rfl];simpa using hj
 ·intro v' w' hown' hgrow _;have hb:Below B W w':=((Below.refl B W).alloc hB _).grown hgrow qC (fun k hk=>(hown.lt k hk).1);have h2:=hown'.2;rcases h2 with ⟨_,h0⟩|⟨g,cap,cur,rfl,_⟩
  ·omega
  ·exact h g cap w' hown' hb
structure Later (w:World) where
 at':World
 ext:Ext w at'
instance Later.inhabited (w:World):Nonempty (Later w):=⟨⟨w,Ext.refl w⟩⟩
@[go_sem] theorem Later.cell {w:World} (x:Later w) {b o:Nat} (h:b < w.heap.size):x.at'.cell? ⟨b,o,none⟩=w.cell? ⟨b,o,none⟩:=x.ext.cell (p:=⟨b,o,none⟩) h
@[go_sem] theorem Later.frozen {w:World} (x:Later w) {b o:Nat} (h:b < w.heap.size):x.at'.frozen? ⟨b,o,none⟩=w.frozen? ⟨b,o,none⟩:=x.ext.frozen (p:=⟨b,o,none⟩) h
/-- A contract of a callee that hands back one value and turns nothing that was there, met inside such a region. -/
theorem wT {P:Program} {f:FuncId} {args:Array Value} {w:World} {x:Later w} {v:Value}
  (h:Calls P f args x.at' fun e w'=>e=.returned v∧Ext x.at' w'):Calls P f args x.at' fun e w''=>e=.returned v∧∃ y:Later w,w''=y.at':=
 h.mono fun _ w' ⟨he,hx⟩=>⟨he,⟨w',x.ext.trans hx⟩,rfl⟩
theorem io {P:Program} {id:Nat} {Q:Exit→Act→World→Prop} {a:Act} {w:World} {l:List Oper} (hm:P.follows .mixedOrders=true) (hB:Region.lexB .any l.toArray=true)
  (h:wpQuiet P l.toArray (fun w'=>∃ y:Later w,w'=y.at') (fun a'=>∀ w',(∃ y:Later w,w'=y.at')→Q .normal a' w') l a):(Code.region id l.toArray true).wp P Q a w:=
 wp_region_quiet (C:=fun w'=>∃ y:Later w,w'=y.at') hm hB ⟨⟨w.drew,(Ext.refl w).drew⟩,rfl⟩ kN
section
variable {P:Program} {ops:Array Oper} {md:Region.Mode} {C:World→Prop}
def gL (P:Program) (md:Region.Mode) (ops:Array Oper) (C:World→Prop) (n:Nat) (L:Array Bool→Act→Prop):Nat→Array Bool→Act→Prop
 | 0,listed,a=>L listed a
 | f+1,listed,a=>Region.ready md ops listed≠[]∧∀ i ∈ Region.ready md ops listed,i < n∧qOp P ops C i (gL P md ops C n L f (listed.setIfInBounds i true)) a
theorem qH {n g:Nat} {L:Array Bool→Act→Prop} {Q:Exit→Act→World→Prop} (hL:∀ listed a w,C w→L listed a→wpAny P md ops Q g listed a w) :
  ∀ (f:Nat) (listed:Array Bool) (a:Act) (w:World),C w→gL P md ops C n L f listed a→wpAny P md ops Q (f+g) listed a w:=by
 intro f;induction f with
 | zero=>intro listed a w hw h;rw [Nat.zero_add];exact hL _ _ _ hw h
 | succ f ih=>
  intro listed a w hw h;rw [Nat.succ_add];exact ⟨fun h0=>absurd h0 h.1,fun i hi=>wpOp_of_qOp hw (fun a' w' hw'=>ih _ a' w' hw') (h.2 i hi).2⟩
theorem qI {n i:Nat} {oi:Oper} {v:Value} {L:Array Bool→Act→Prop} (hi:ops[i]?=some oi) (hsel:∀ (j:Nat) (o:Oper) cs b,ops[j]?=some o→o.op≠.select cs b)
  (hs:Region.sinkB md ops n=true) (hc:Region.chainB md ops n=true) (hn:n < ops.size) (hin:i < n)
  (hdone:∀ listed a,L listed a→∀ j ∈ Region.ready md ops listed,n≤j) :
  ∀ (f:Nat) (listed:Array Bool) (a:Act),HeadInv md ops n listed→
   (∀ j oj,ops[j]?=some oj→j≠i→listed.getD j true=false→(∀ e ∈ oj.after,Region.binds md e=true→e.on≠i)→oi.apart ops oj=true)→
   i ∈ Region.ready md ops listed→YieldsIn P ops C oi v a→
   gL P md ops C n L f (listed.setIfInBounds i true) (a.put oi.dst v)→gL P md ops C n L (f+1) listed a:=by
 intro f;induction f with
 | zero=>
  intro listed a inv _ hr hy H;refine ⟨List.ne_nil_of_mem hr,fun j hj=>?_⟩;have hjn:j < n:=Nat.lt_of_not_le fun hge=>tail_waits hs hc hn inv _ i rfl hin (mem_ready.1 hr).1 j hge hj;by_cases hji:j=i
  ·subst hji;exact ⟨hjn,hy.qOp hi H⟩
  ·have:=hdone _ _ H j (ready_mono hj hji);omega
 | succ f ih=>
  intro listed a inv hfree hr hy H;refine ⟨List.ne_nil_of_mem hr,fun j hj=>?_⟩;have hjn:j < n:=Nat.lt_of_not_le fun hge=>tail_waits hs hc hn inv _ i rfl hin (mem_ready.1 hr).1 j hge hj;by_cases hji:j=i
  ·subst hji;exact ⟨hjn,hy.qOp hi H⟩
  refine ⟨hjn,?_⟩;obtain ⟨hjun,oj,hoj,hall⟩:=mem_ready.1 hj;have hnot:∀ e ∈ oj.after,Region.binds md e=true→e.on≠i:=fun e he hb heq=>by
   have h1:=hall e he hb;rw [heq,getD_both (mem_ready.1 hr).1] at h1;exact Bool.false_ne_true h1
  have h2:=qOp_put hoj (hfree j oj hoj hji hjun hnot) (fun cs b=>hsel i oi cs b hi) (fun cs b=>hsel j oj cs b hoj) hy (H.2 j (ready_mono hj hji)).2;refine qOp_mono (fun a' h3=>ih _ a' (inv.set hj hjn) (fun k ok hk hki hun hno=>?_) (ready_mono hr (Ne.symm hji)) h3.1 Wo) h2;refine hfree k ok hk hki ?_ hno;by_cases hjk:j=k
  ·exact hjk ▸ hjun
  ·rwa [getD_set_ne true hjk] at hun
theorem ur {n g:Nat} {Lq:Act→Prop} (hsel:Region.noSelect ops=true) (hs:Region.sinkB md ops n=true) (hc:Region.chainB md ops n=true) (hn:n < ops.size) :
  ∀ (l:List Oper) (k:Nat) (listed:Array Bool) (a:Act),(∀ j,j < l.length→l[j]?=ops[k+j]?)→k+l.length=n→HeadInv md ops n listed→
  Region.lexHead md ops g l.length k listed=true→wpQuiet P ops C Lq l a→
  gL P md ops C n (fun listed' a'=>Region.seqB md ops g n listed'=true∧Lq a') l.length listed a:=by
 intro l;induction l with
 | nil=>
  intro k listed a _ hk _ hB h;obtain rfl:k=n:=by simpa using hk
  exact ⟨by simpa [Region.lexHead] using hB,h⟩
 | cons o l ih=>
  intro k listed a hl hk inv hB h;have h0:ops[k]?=some o:=by simpa using (hl 0 cp).symm
  simp only [List.length_cons,Region.lexHead,Bool.and_eq_true] at hB hk;obtain ⟨⟨hr,hf⟩,hB'⟩:=hB;have hr':k ∈ Region.ready md ops listed:=by simpa using hr
  have hkn:k < n:=Z
  obtain ⟨v,hy,hK⟩:=yieldsIn_of_qOp (C:=C) (P:=P) (K:=wpQuiet P ops C Lq l) (a:=a) h0 QV;exact qI h0 (Region.noSelect_spec hsel) hs hc hn hkn (fun _ _ hL=>seqB_ready hL.1) l.length listed a inv (Region.free_spec h0 hf) hr' hy
   (ih (k+1) _ _ (fun j hj=>by have:=hl (j+1) qC;simpa [Nat.add_assoc,Nat.add_comm 1 j] using this) Z (inv.set hr' hkn) hB' hK)
theorem jf {id:Nat} {Q:Exit→Act→World→Prop} {a:Act} {w:World} {l:List Oper} (n:Nat) (hm:P.follows .mixedOrders=true) (hB:Region.lexTailB .any l.toArray n=true) (hC:C w.drew)
  (h:wpQuiet P l.toArray C (fun a'=>∀ w',C w'→wpList P l.toArray Q (l.drop n) a' w') (l.take n) a):(Code.region id l.toArray true).wp P Q a w:=by
 simp only [Region.lexTailB,Bool.and_eq_true,decide_eq_true_eq] at hB;obtain ⟨⟨⟨⟨hsel,hn⟩,hs⟩,hc⟩,hlex⟩:=hB;have hn':n < l.length:=by simpa using hn
 have htl:(l.take n).length=n:=by simp;omega
 have hdl:(l.drop n).length=l.toArray.size - n:=by simp
 have inv0:HeadInv .any l.toArray n (Array.replicate l.toArray.size false):=
  ⟨by simp,fun j oj _ hl=>absurd hl Na,fun t _ ht=>getD_in (by simpa using ht) (getD_replicate_false _ _)⟩
 have H:=ur (C:=C) (P:=P) (md:=.any) (g:=l.toArray.size - n) hsel hs hc hn (l.take n) 0 _ a
  (fun j hj=>by rw [htl] at hj;simp [hj]) (by simpa using htl) inv0 (by rw [htl];exact hlex) h
 have R:=qH (Q:=Q) (g:=l.toArray.size - n) (fun listed a' w' hw' hL=>by
  have:=wpAny_of_seq (md:=.any) (Q':=Q) (l.drop n) n listed a' w' (fun j=>by simp [List.getElem?_drop]) (by rw [hdl];exact hL.1) (hL.2 w' hw');rwa [hdl] at this) _ _ _ _ hC H
 rw [htl,show n+(l.toArray.size - n)=l.toArray.size by omega] at R;exact wp_region_any hm R
theorem eK {id:Nat} {Q:Exit→Act→World→Prop} {a:Act} {w:World} {l:List Oper} (n:Nat) (hm:P.follows .mixedOrders=true) (hB:Region.lexTailB .any l.toArray n=true)
  (h:wpQuiet P l.toArray (fun w'=>∃ y:Later w,w'=y.at') (fun a'=>∀ w',(∃ y:Later w,w'=y.at')→wpList P l.toArray Q (l.drop n) a' w') (l.take n) a):(Code.region id l.toArray true).wp P Q a w:=
 jf (C:=fun w'=>∃ y:Later w,w'=y.at') n hm hB ⟨⟨w.drew,(Ext.refl w).drew⟩,rfl⟩ h
end
end
theorem yC {w w':World} {B:Nat} {e:TypeId} {size:Nat} {v:Value} {n:Nat} {xs:List Value} (h:w.ownsRow B e size v n xs) (x:Ext w w'):w'.ownsRow B e size v n xs:=by
 refine ⟨h.1,?_⟩;rcases h.2 with hn|⟨g,cap,cur,rfl,hb,hg,rest⟩
 ·exact .inl hn
 ·exact .inr ⟨g,cap,cur,rfl,hb,(x.block g (Array.getElem?_eq_some_iff.1 hg).1).trans hg,rest⟩
theorem jg {w:World} {B B':Nat} {e:TypeId} {size:Nat} {v:Value} {n:Nat} {xs:List Value} (h:w.ownsRow B e size v n xs) (hB:B'≤B):w.ownsRow B' e size v n xs:=by
 refine ⟨h.1,?_⟩;rcases h.2 with hn|⟨g,cap,cur,rfl,hb,hg,rest⟩
 ·exact .inl hn
 ·exact .inr ⟨g,cap,cur,rfl,Nat.le_trans hB hb,hg,rest⟩
theorem EY {w:World} {B:Nat} {e:TypeId} {m:Nat} {v:Value} {l:List (List Value)} (h:w.ownsRow B e m v l.length l.flatten) (hl:∀ x ∈ l,x.length=m):SG m w v l:=by
 rcases h.2 with ⟨rfl,h0⟩|⟨g,cap,cur,rfl,hb,hg,hn,hm,hs,ht⟩
 ·exact ⟨none,0,by rw [h0],by omega,by omega,fun i hi=>by omega⟩
 ·refine ⟨_,cap,rfl,hn,by unfold maxLen at hm;omega,fun i hi=>⟨g,0,rfl,(Array.getElem?_eq_some_iff.1 hg).1,fun j hj=>?_⟩⟩;rw [Nat.zero_add];have hc:w.cell? ⟨g,i*m+j,none⟩=cur[i*m+j]?:=by simp [World.cell?,hg]
  rw [hc];have hlt:i*m+j < l.length*m:=by
   have:(i+1)*m≤l.length*m:=Nat.mul_le_mul_right _ hi;rw [Nat.add_mul,Nat.one_mul] at this;omega
  have e1:(cur.toList.take (l.length*m))[i*m+j]?=l.flatten[i*m+j]?:=by rw [ht]
  rw [List.getElem?_take_of_lt hlt,Array.getElem?_toList] at e1;rw [e1];clear e1 hc ht hs hg hn hm hlt h;induction l generalizing i with
  | nil=>simp at hi
  | cons x r ih=>
   have hx:x.length=m:=hl x cp;cases i with
   | zero=>
    rw [List.flatten_cons,Nat.zero_mul,Nat.zero_add,List.getElem?_append_left Z];simp
   | succ i=>
    rw [List.flatten_cons,Nat.add_mul,Nat.one_mul,List.getElem?_append_right Z,hx,
     show i*m+m+j - m=i*m+j by omega]
    have:=ih (fun y hy=>hl y Mt) i Ia;simpa using this
def nv:List Int→Nat
 | []=>0
 | x :: xs=>x.toNat+4294967296*nv xs
def br (l:List Int):Prop:=∀ x ∈ l,0≤x∧x < 4294967296
def cL (l:List Int):Prop:=l.getLast?≠some 0
def sC:Nat→Nat→List Int
 | 0,_=>[]
 | f+1,n=>if n=0 then [] else ((n % 4294967296:Nat):Int) :: sC f (n / 4294967296)
def lim (n:Nat):List Int:=sC n n
theorem zD:∀ (f n:Nat),n≤f→sC f n=sC n n:=by
 intro f;induction f using Nat.strongRecOn with
 | _ f ih=>
  intro n hn;match f,n,hn with
  | 0,0,_=>rfl
  | f+1,0,_=>simp [sC]
  | f+1,n+1,hn=>
   rw [sC,sC,if_neg Z,if_neg Z];have h1:(n+1) / 4294967296≤n:=Z
   rw [ih f Z _ Z];by_cases hf:n=f
   ·subst hf;rw [ih n Z _ h1]
   ·rw [ih n Z _ h1]
theorem oR:lim 0=[]:=rfl
theorem lM {n:Nat} (h:0 < n):lim n=((n % 4294967296:Nat):Int) :: lim (n / 4294967296):=by
 obtain ⟨m,rfl⟩:∃ m,n=m+1:=⟨n - 1,by omega⟩;show sC (m+1) (m+1)=_;rw [sC,if_neg Z,zD m _ Z];rfl
theorem IN:nv []=0:=rfl
theorem dw (x:Int) (xs:List Int):nv (x :: xs)=x.toNat+4294967296*nv xs:=rfl
theorem aG:∀ n,nv (lim n)=n:=by
 intro n;induction n using Nat.strongRecOn with
 | _ n ih=>
  by_cases h:n=0
  ·subst h;rfl
  ·rw [lM Z,dw,ih _ Z];omega
theorem aR:∀ n,br (lim n):=by
 intro n;induction n using Nat.strongRecOn with
 | _ n ih=>
  by_cases h:n=0
  ·subst h;intro x hx;simp [oR] at hx
  ·rw [lM Z];intro x hx;rcases List.mem_cons.1 hx with rfl|hx
   ·omega
   ·exact ih _ Z x hx
theorem gY {l:List Int} (hl:br l) (h:cL l) (hne:l≠[]):0 < nv l:=by
 induction l with
 | nil=>exact absurd rfl hne
 | cons x xs ih=>
  rw [dw];have hx:=hl x cp;by_cases hxs:xs=[]
  ·subst hxs;have:x≠0:=by intro e;subst e;exact h rfl
   omega
  ·have:=ih (fun y hy=>hl y Mt) (by
    unfold cL at *;rwa [List.getLast?_cons_of_ne_nil hxs] at h) hxs
   omega
theorem aX:∀ n,cL (lim n):=by
 intro n;induction n using Nat.strongRecOn with
 | _ n ih=>
  by_cases h:n=0
  ·subst h;simp [cL,oR]
  ·rw [lM Z];by_cases h2:n / 4294967296=0
   ·rw [h2,oR];simp [cL];omega
   ·have h3:=ih _ (show n / 4294967296 < n by omega);unfold cL at *;rw [List.getLast?_cons_of_ne_nil]
    ·exact h3
    ·rw [lM Z];simp
theorem dx:∀ {l:List Int},br l→cL l→lim (nv l)=l:=by
 intro l;induction l with
 | nil=>intros;rfl
 | cons x xs ih=>
  intro hl hz;have hp:=gY hl hz cp;have hx:=hl x cp;have hxs:cL xs:=by
   by_cases h:xs=[]
   ·subst h;simp [cL]
   ·unfold cL at *;rwa [List.getLast?_cons_of_ne_nil h] at hz
  rw [lM hp,dw];rw [dw] at hp;have e1:(x.toNat+4294967296*nv xs) / 4294967296=nv xs:=Z
  have e2:(x.toNat+4294967296*nv xs) % 4294967296=x.toNat:=Z
  rw [e1,e2,ih (fun y hy=>hl y Mt) hxs];congr 1
  omega
theorem fS (a b:List Int):nv (a ++ b)=nv a+4294967296 ^ a.length*nv b:=by
 induction a with
 | nil=>simp [nv]
 | cons x xs ih=>
  rw [List.cons_append,dw,dw,ih,List.length_cons,Nat.pow_succ,Nat.mul_add,Nat.mul_comm (4294967296 ^ xs.length) 4294967296,Nat.mul_assoc];omega
theorem bX {l:List Int} (h:br l):nv l < 4294967296 ^ l.length:=by
 induction l with
 | nil=>simp [nv]
 | cons x xs ih=>
  have hx:=h x cp;have:=ih (fun y hy=>h y Mt);rw [dw,List.length_cons,Nat.pow_succ];omega
theorem Bv {l:List Int} (h:br l) (hz:cL l) (hne:l≠[]):4294967296 ^ (l.length - 1)≤nv l:=by
 induction l with
 | nil=>exact absurd rfl hne
 | cons x xs ih=>
  have hx:=h x cp;by_cases hxs:xs=[]
  ·subst hxs;have:x≠0:=by intro e;subst e;exact hz rfl
   simp [nv];omega
  ·have h1:=ih (fun y hy=>h y Mt) (by unfold cL at *;rwa [List.getLast?_cons_of_ne_nil hxs] at hz) hxs;have hl:xs.length≠0:=by simpa using hxs
   rw [dw,List.length_cons,show xs.length+1 - 1=(xs.length - 1)+1 by omega,Nat.pow_succ];omega
theorem gZ {a b:Nat} (h:a≤b):(4294967296:Nat) ^ a≤4294967296 ^ b:=Nat.pow_le_pow_right Z h
theorem iD {a b n:Nat} (h1:(4294967296:Nat) ^ a≤n) (h2:n < 4294967296 ^ b):a < b:=by
 rcases Nat.lt_or_ge a b with h|h
 ·exact h
 ·have:=gZ h;omega
theorem aL {n k:Nat}:(lim n).length≤k↔n < 4294967296 ^ k:=by
 have h1:=bX (aR n);rw [aG] at h1;constructor
 ·intro h;exact Nat.lt_of_lt_of_le h1 (gZ h)
 ·intro h;by_cases h0:lim n=[]
  ·simp [h0]
  ·have h2:=Bv (aR n) (aX n) h0;rw [aG] at h2;have:=iD h2 h;omega
theorem lN {l:List Int} {k:Nat} (h:k < l.length):nv (l.take (k+1))=nv (l.take k)+4294967296 ^ k*l[k].toNat:=by
 rw [List.take_succ_eq_append_getElem h,fS,List.length_take_of_le Z];simp [nv]
theorem lO (l:List Int) (k:Nat) (h:k≤l.length):nv l=nv (l.take k)+4294967296 ^ k*nv (l.drop k):=by
 conv=>lhs;rw [← List.take_append_drop k l,fS,List.length_take_of_le h]
theorem gi {l:List Int} (h:br l) (k:Nat):br (l.take k):=fun x hx=>h x (List.mem_of_mem_take hx)
theorem yD {a b:List Int} (ha:br a) (hb:br b):br (a ++ b):=fun x hx=>(List.mem_append.1 hx).elim (ha x) (hb x)
theorem EZ {l:List Int} (h:br l) {k:Nat} (hk:k < l.length):0≤l[k]∧l[k] < 4294967296:=h _ (List.getElem_mem hk)
theorem oA {l:List Int} (h:br l) (k:Nat) {x:Int} (h0:0≤x) (h1:x < 4294967296):br (l.set k x):=by
 intro y hy;rcases List.mem_or_eq_of_mem_set hy with h2|rfl
 ·exact h y h2
 ·exact ⟨h0,h1⟩
theorem IQ {l:List Int} {k:Nat} (hk:k < l.length) (x:Int):nv (l.set k x)+4294967296 ^ k*l[k].toNat=nv l+4294967296 ^ k*x.toNat:=by
 have e1:l=l.take k ++ l[k] :: l.drop (k+1):=by simp
 have e2:l.set k x=l.take k ++ x :: l.drop (k+1):=by rw [List.set_eq_take_append_cons_drop];simp [hk]
 rw [e2,fS];conv=>rhs;rw [e1,fS]
 rw [List.length_take_of_le Z,dw,dw,Nat.mul_add,Nat.mul_add];omega
theorem lP (n:Nat):nv (List.replicate n 0)=0:=by
 induction n with
 | zero=>rfl
 | succ n ih=>rw [List.replicate_succ,dw,ih];rfl
theorem jY (n:Nat):br (List.replicate n 0):=by
 intro x hx;obtain ⟨_,rfl⟩:=List.mem_replicate.1 hx;omega
theorem sD {l:List Int} {k:Nat} (hk:k < l.length) (h0:l[k]=0) (he:nv (l.take (k+1))=nv l):nv (l.take k)=nv l:=by
 rw [lN hk,h0] at he;simpa using he
section
open Go Go.RowKit
theorem dR (a b:Nat) (ha:a < 4294967296) (hb:b < 4294967296) :
  bits .and .u32 a b=((a &&& b:Nat):Int)∧bits .or .u32 a b=((a ||| b:Nat):Int)∧bits .xor .u32 a b=((a ^^^ b:Nat):Int):=by
 have h1:a &&& b < 2 ^ 32:=Nat.and_lt_two_pow _ Z;have h2:a ||| b < 2 ^ 32:=Nat.or_lt_two_pow Z Z
 have h3:a ^^^ b < 2 ^ 32:=Nat.xor_lt_two_pow Z Z;have ea:(BitVec.ofInt 32 (a:Int)).toNat=a:=by rw [BitVec.toNat_ofInt];omega
 have eb:(BitVec.ofInt 32 (b:Int)).toNat=b:=by rw [BitVec.toNat_ofInt];omega
 refine ⟨?_,?_,?_⟩
 ·show IntKind.u32.wrap (((BitVec.ofInt 32 (a:Int) &&& BitVec.ofInt 32 (b:Int)).toNat:Nat):Int)=_;rw [BitVec.toNat_and,ea,eb];simp only [IntKind.wrap,IntKind.bits,IntKind.signed,Bool.false_and,Bool.false_eq_true,if_false];omega
 ·show IntKind.u32.wrap (((BitVec.ofInt 32 (a:Int) ||| BitVec.ofInt 32 (b:Int)).toNat:Nat):Int)=_;rw [BitVec.toNat_or,ea,eb];simp only [IntKind.wrap,IntKind.bits,IntKind.signed,Bool.false_and,Bool.false_eq_true,if_false];omega
 ·show IntKind.u32.wrap (((BitVec.ofInt 32 (a:Int) ^^^ BitVec.ofInt 32 (b:Int)).toNat:Nat):Int)=_;rw [BitVec.toNat_xor,ea,eb];simp only [IntKind.wrap,IntKind.bits,IntKind.signed,Bool.false_and,Bool.false_eq_true,if_false];omega
theorem wU (a b k:Nat) (ha:a % 2 ^ k=0) (hb:b < 2 ^ k):a ||| b=a+b:=by
 have e:a=2 ^ k*(a / 2 ^ k):=by have:=Nat.div_add_mod a (2 ^ k);omega
 rw [e,← Nat.two_pow_add_eq_or_of_lt hb]
theorem E0 (n:Nat) (h:n < 4294967296):n / 2147483648=if n.testBit 31 then 1 else 0:=by
 rw [Nat.testBit_eq_decide_div_mod_eq];have e:(2:Nat) ^ 31=2147483648:=rfl;rw [e];split
 ·rename_i h1;have:=of_decide_eq_true h1;omega
 ·rename_i h1;have:¬ (n / 2147483648 % 2=1):=by simpa using h1
  omega
theorem wV (n:Nat) (h:n < 4294967296):n.testBit 31=decide (2147483648≤n):=by
 rw [Nat.testBit_eq_decide_div_mod_eq];have e:(2:Nat) ^ 31=2147483648:=rfl;rw [e,Bool.eq_iff_iff];simp only [decide_eq_true_eq];omega
def Ez (x y c:Int):Int:=if x < y+c then 1 else 0
theorem wW (x y c:Int) (hx:0≤x∧x < 4294967296) (hy:0≤y∧y < 4294967296) (hc:0≤c∧c≤1) :
  bits .or .u32 (bits .and .u32 (bits .xor .u32 IntKind.u32.max x) y) (bits .and .u32 (bits .xor .u32 IntKind.u32.max (bits .xor .u32 x y)) ((x - y - c) % 4294967296)) / 2147483648=Ez x y c:=by
 obtain ⟨a,rfl⟩:=Int.eq_ofNat_of_zero_le hx.1;obtain ⟨b,rfl⟩:=Int.eq_ofNat_of_zero_le hy.1;have hm:IntKind.u32.max=((4294967295:Nat):Int):=rfl;obtain ⟨d,hd⟩:∃ d:Nat,((a:Int) - b - c) % 4294967296=(d:Int):=⟨(((a:Int) - b - c) % 4294967296).toNat,by omega⟩;have ha:a < 4294967296:=Z
 have hb:b < 4294967296:=Z
 have hdl:d < 4294967296:=Z
 have p1:4294967295 ^^^ a < 4294967296:=Nat.xor_lt_two_pow (n:=32) Z Z;have p2:a ^^^ b < 4294967296:=Nat.xor_lt_two_pow (n:=32) Z Z;have p3:4294967295 ^^^ (a ^^^ b) < 4294967296:=Nat.xor_lt_two_pow (n:=32) Z Z;have p4:(4294967295 ^^^ a) &&& b < 4294967296:=Nat.and_lt_two_pow (n:=32) _ Z;have p5:(4294967295 ^^^ (a ^^^ b)) &&& d < 4294967296:=Nat.and_lt_two_pow (n:=32) _ Z;have p6:((4294967295 ^^^ a) &&& b) ||| ((4294967295 ^^^ (a ^^^ b)) &&& d) < 4294967296:=Nat.or_lt_two_pow (n:=32) p4 p5
 rw [hm,hd,(dR _ _ Z ha).2.2,(dR _ _ p1 hb).1,(dR _ _ ha hb).2.2,(dR _ _ Z p2).2.2,(dR _ _ p3 hdl).1,(dR _ _ p4 p5).2.1];have e:(((((4294967295 ^^^ a) &&& b) ||| ((4294967295 ^^^ (a ^^^ b)) &&& d):Nat):Int) / 2147483648)=(((((4294967295 ^^^ a) &&& b) ||| ((4294967295 ^^^ (a ^^^ b)) &&& d)) / 2147483648:Nat):Int):=Z
 rw [e,E0 _ p6];have hf:(4294967295:Nat).testBit 31=true:=by decide
 simp only [Nat.testBit_or,Nat.testBit_and,Nat.testBit_xor,hf,wV _ ha,wV _ hb,wV _ hdl];unfold Ez;by_cases h1:2147483648≤a <;> by_cases h2:2147483648≤b <;> by_cases h3:2147483648≤d <;> simp [h1,h2,h3] <;> first|(rw [if_pos Z])|(rw [if_neg Z])|omega|skip
end
abbrev Gr (o:Option Nat) (w w':World):Prop:=w.grownBy w' o
theorem Gr.refl (o:Option Nat) (w:World):Gr o w w:=⟨rfl,rfl,rfl,Nat.le_refl _,fun _ _ _=>rfl⟩
theorem Gr.trans {o:Option Nat} {a b c:World} (h:Gr o a b) (k:Gr o b c):Gr o a c:=
 ⟨k.os.trans h.os,k.tape.trans h.tape,k.output.trans h.output,Nat.le_trans h.size k.size,fun i hi hn=>(k.block i (Nat.lt_of_lt_of_le hi h.size) hn).trans (h.block i hi hn)⟩
theorem Gr.dM {o:Option Nat} {a b:World} (h:Ext a b):Gr o a b:=⟨h.os,h.tape,h.output,h.size,fun i hi _=>h.block i hi⟩
theorem Gr.ext {a b:World} (h:Gr none a b):Ext a b:=⟨h.os,h.tape,h.output,h.size,fun i hi=>h.block i hi cp⟩
theorem Gr.below {o:Option Nat} {B:Nat} {a b:World} (h:Gr o a b) (hB:B≤a.heap.size) (ho:∀ g,o=some g→B≤g):Below B a b:=
 ⟨h.os,h.tape,h.output,h.size,fun i hi=>h.block i Z (fun e=>by have:=ho i e.symm;omega)⟩
theorem Gr.fresh {o o':Option Nat} {a b c:World} (h:Gr o a b) (k:Gr o' b c) (hn:∀ g,o'=some g→o=some g∨a.heap.size≤g):Gr o a c:=
 ⟨k.os.trans h.os,k.tape.trans h.tape,k.output.trans h.output,Nat.le_trans h.size k.size,fun i hi hne=>
  (k.block i (Nat.lt_of_lt_of_le hi h.size) (fun e=>(hn i e.symm).elim (fun h1=>hne h1.symm) (fun h1=>by omega))).trans (h.block i hi hne)⟩
theorem Gr.alloc {o:Option Nat} {a b:World} (h:Gr o a b) (x:Obj):Gr o a (b.alloc x):=h.trans (Gr.dM ((Ext.refl b).alloc x))
theorem Gr.set {g:Nat} {a b:World} (h:Gr (some g) a b) (i:Nat) (v:Value):Gr (some g) a (b.setCell ⟨g,i,none⟩ v):=
 h.trans ⟨rfl,rfl,rfl,by simp [World.setCell],fun k hk hn=>Below.heap_setCell _ _ _ _ (by intro e;exact hn (by rw [e]))⟩
theorem Gr.IS {o:Option Nat} {a b:World} (h:Gr o a b) {p:Addr} (hp:a.heap.size≤p.block) (v:Value):Gr o a (b.setCell p v):=
 ⟨h.os,h.tape,h.output,by simpa [World.setCell] using h.size,fun k hk hn=>(Below.heap_setCell _ _ _ _ Z).trans (h.block k hk hn)⟩
theorem Gr.cell {o:Option Nat} {a b:World} (h:Gr o a b) {p:Addr} (hp:p.block < a.heap.size) (hn:some p.block≠o):b.cell? p=a.cell? p:=World.cell?_of_block (h.block _ hp hn)
theorem ag.gr {o:Option Nat} {w w':World} {b:Nat} {c:Array Value} {t:TypeId} (h:ag w b c t) (e:Gr o w w') (hn:some b≠o):ag w' b c t:=(e.block b h.lt hn).trans h
def no (p:Nat→Prop) (w:World) (v:Value) (l:List Int):Prop:=
 ∃ a cap,v=.slice a l.length cap∧l.length≤cap∧cap≤9223372036854775807∧
  ∀ i,i < l.length→∃ b off,a=some ⟨b,off,none⟩∧p b∧b < w.heap.size∧w.cell? ⟨b,off+i,none⟩=some (.int .u32 (l.getD i 0))
theorem no.of {w:World} {v:Value} {l:List Int} (h:bj .u32 w v l):no (fun b=>b < w.heap.size) w v l:=by
 obtain ⟨a,cap,hv,h1,h2,h3⟩:=h.get;exact ⟨a,cap,hv,h1,h2,fun i hi=>by obtain ⟨b,off,e1,e2,e3⟩:=h3 i hi;exact ⟨b,off,e1,e2,e2,e3⟩⟩
theorem no.to {p:Nat→Prop} {w:World} {v:Value} {l:List Int} (h:no p w v l):bj .u32 w v l:=by
 obtain ⟨a,cap,hv,h1,h2,h3⟩:=h;refine ⟨a,cap,by simpa using hv,by simpa using h1,h2,fun i hi=>?_⟩;rw [List.length_map] at hi;obtain ⟨b,off,e1,_,e2,e3⟩:=h3 i hi;exact ⟨b,off,e1,e2,by rw [e3];simp [hi]⟩
theorem no.gr {p:Nat→Prop} {o:Option Nat} {w w':World} {v:Value} {l:List Int} (h:no p w v l) (e:Gr o w w') (hn:∀ b,p b→some b≠o):no p w' v l:=by
 obtain ⟨a,cap,hv,hc,hm,hr⟩:=h;refine ⟨a,cap,hv,hc,hm,fun i hi=>?_⟩;obtain ⟨b,off,ha,hp,hb,hx⟩:=hr i hi;exact ⟨b,off,ha,hp,Nat.lt_of_lt_of_le hb e.size,(e.cell (p:=⟨b,off+i,none⟩) hb (hn b hp)).trans hx⟩
theorem no.ext {p:Nat→Prop} {w w':World} {v:Value} {l:List Int} (h:no p w v l) (e:Ext w w'):no p w' v l:=h.gr (Gr.dM (o:=none) e) (fun _ _=>by simp)
theorem no.mono {p q:Nat→Prop} {w:World} {v:Value} {l:List Int} (h:no p w v l) (hpq:∀ b,p b→q b):no q w v l:=by
 obtain ⟨a,cap,hv,hc,hm,hr⟩:=h;exact ⟨a,cap,hv,hc,hm,fun i hi=>by obtain ⟨b,off,e1,e2,e3⟩:=hr i hi;exact ⟨b,off,e1,hpq b e2,e3⟩⟩
structure bm (w:World) (g cap:Nat) (l:List Int):Prop where
 blk:∃ cur,ag w g cur 157∧cur.size=cap∧cur.toList.take l.length=l.map (Value.int .u32)
 le:l.length≤cap
 most:cap≤9223372036854775807
theorem bm.lt {w:World} {g cap:Nat} {l:List Int} (h:bm w g cap l):g < w.heap.size:=by obtain ⟨cur,hb,_⟩:=h.blk;exact hb.lt
theorem bm.free {w:World} {g cap:Nat} {l:List Int} (h:bm w g cap l) (o:Nat):w.frozen? ⟨g,o,none⟩=false:=by obtain ⟨cur,hb,_⟩:=h.blk;exact hb.free o
theorem bm.cell {w:World} {g cap:Nat} {l:List Int} (h:bm w g cap l) {i:Nat} (hi:i < l.length):w.cell? ⟨g,i,none⟩=some (.int .u32 (l.getD i 0)):=by
 obtain ⟨cur,hb,hs,ht⟩:=h.blk;rw [hb.cell];have e1:(cur.toList.take l.length)[i]?=(l.map (Value.int .u32))[i]?:=by rw [ht]
 rw [List.getElem?_take_of_lt hi,Array.getElem?_toList] at e1;rw [e1];simp [hi]
theorem bm.gr {o:Option Nat} {w w':World} {g cap:Nat} {l:List Int} (h:bm w g cap l) (e:Gr o w w') (hn:some g≠o):bm w' g cap l:=by
 obtain ⟨cur,hb,hs,ht⟩:=h.blk;exact ⟨⟨cur,hb.gr e hn,hs,ht⟩,h.le,h.most⟩
theorem bm.ext {w w':World} {g cap:Nat} {l:List Int} (h:bm w g cap l) (e:Ext w w'):bm w' g cap l:=h.gr (Gr.dM (o:=none) e) cp
theorem bm.take {w:World} {g cap:Nat} {l:List Int} (h:bm w g cap l) (k:Nat):bm w g cap (l.take k):=by
 obtain ⟨cur,hb,hs,ht⟩:=h.blk;have hle:=h.le;refine ⟨⟨cur,hb,hs,?_⟩,by rw [List.length_take];omega,h.most⟩;rw [List.map_take,← ht,List.take_take,List.length_take]
theorem bm.set {w:World} {g cap:Nat} {l:List Int} (h:bm w g cap l) (i:Nat) (x:Int) (hi:i < l.length):bm (w.setCell ⟨g,i,none⟩ (.int .u32 x)) g cap (l.set i x):=by
 obtain ⟨cur,hb,hs,ht⟩:=h.blk;refine ⟨⟨_,hb.set i (.int .u32 x),by simpa using hs,?_⟩,by simpa using h.le,h.most⟩;rw [List.length_set,Array.toList_setIfInBounds,List.take_set,ht,List.map_set]
theorem bm.new (w:World) (l:List Int) (hm:l.length≤9223372036854775807):bm (w.alloc (.cells (l.map (Value.int .u32)).toArray 157)) w.heap.size l.length l:=
 ⟨⟨_,ag.new w _ _,by simp,List.take_of_length_le cp⟩,Nat.le_refl _,hm⟩
theorem bm.rd {p:Nat→Prop} {w:World} {g cap:Nat} {l:List Int} (h:bm w g cap l) (hp:p g):no p w (.slice (some ⟨g,0,none⟩) l.length cap) l:=
 ⟨_,cap,rfl,h.le,h.most,fun i hi=>⟨g,0,rfl,hp,h.lt,by rw [Nat.zero_add];exact h.cell hi⟩⟩
def gI (w:World) (o:Option Nat) (v:Value) (l:List Int):Prop:=
 (o=none∧l=[]∧∃ a,a=none∧v=.slice a 0 0)∨∃ g cap,o=some g∧v=.slice (some ⟨g,0,none⟩) l.length cap∧bm w g cap l
theorem gI.nil (w:World):gI w none (.slice none 0 0) []:=.inl ⟨rfl,rfl,none,rfl,rfl⟩
theorem gI.row {w:World} {g cap:Nat} {l:List Int} (h:bm w g cap l):gI w (some g) (.slice (some ⟨g,0,none⟩) l.length cap) l:=.inr ⟨g,cap,rfl,rfl,h⟩
theorem gI.gr {o o':Option Nat} {w w':World} {v:Value} {l:List Int} (h:gI w o v l) (e:Gr o' w w') (hn:∀ g,o=some g→some g≠o'):gI w' o v l:=by
 rcases h with h|⟨g,cap,ho,hv,hr⟩
 ·exact .inl h
 ·exact .inr ⟨g,cap,ho,hv,hr.gr e (hn g ho)⟩
theorem gI.ext {o:Option Nat} {w w':World} {v:Value} {l:List Int} (h:gI w o v l) (e:Ext w w'):gI w' o v l:=h.gr (Gr.dM (o:=none) e) (fun _ _=>by simp)
theorem gI.lt {o:Option Nat} {w:World} {v:Value} {l:List Int} (h:gI w o v l) {g:Nat} (ho:o=some g):g < w.heap.size:=by
 rcases h with ⟨h,_⟩|⟨g',cap,h,hv,hr⟩
 ·rw [ho] at h;cases h
 ·rw [ho] at h;cases h;exact hr.lt
theorem gI.rd {p:Nat→Prop} {o:Option Nat} {w:World} {v:Value} {l:List Int} (h:gI w o v l) (hp:∀ g,o=some g→p g):no p w v l:=by
 rcases h with ⟨_,rfl,a,ha,rfl⟩|⟨g,cap,ho,rfl,hr⟩
 ·exact ⟨a,0,rfl,by simp,by omega,fun i hi=>by simp at hi⟩
 ·exact hr.rd (hp g ho)
theorem gI.uh {o:Option Nat} {w:World} {v:Value} {l:List Int} (h:gI w o v l):bj .u32 w v l:=(h.rd (p:=fun _=>True) (fun _ _=>trivial)).to
theorem gI.Nl {w:World} {o:Option Nat} {B:Nat} {v:Value} {l:List Int} (h:gI w o v l) (hB:∀ g,o=some g→B≤g):w.ownsRow B 157 1 v l.length (l.map (Value.int .u32)):=by
 rcases h with ⟨_,rfl,a,rfl,rfl⟩|⟨g,cap,ho,rfl,hr⟩
 ·exact World.ownsRow_nil _ _ _ _
 ·obtain ⟨cur,hb,hs,ht⟩:=hr.blk;exact ⟨by simp,.inr ⟨g,cap,cur,rfl,hB g ho,hb,hr.le,by have:=hr.most;unfold maxLen;omega,by omega,by rw [Nat.mul_one];exact ht⟩⟩
theorem gI.own {w:World} {B:Nat} {v:Value} {l:List Int} (h:w.ownsRow B 157 1 v l.length (l.map (Value.int .u32))):∃ o,gI w o v l∧∀ g,o=some g→B≤g:=by
 rcases h.2 with ⟨rfl,h0⟩|⟨g,cap,cur,rfl,hb,hg,hn,hm,hs,ht⟩
 ·exact ⟨none,.inl ⟨rfl,List.length_eq_zero_iff.1 h0,none,rfl,rfl⟩,fun g h=>by cases h⟩
 ·refine ⟨some g,.inr ⟨g,cap,rfl,rfl,⟨cur,hg,by omega,?_⟩,hn,by unfold maxLen at hm;omega⟩,fun g' h=>by cases h;exact hb⟩;rw [Nat.mul_one] at ht;exact ht
theorem Tryz.rp:(Tryz.prog.info? 157).map (fun i=>(i.zero,i.size,i.bytes))=some (some (.int .u32 0),1,4):=ax
theorem bv {l:List Int} (h:br l) (i:Nat):0≤l.getD i 0∧l.getD i 0 < 4294967296:=by
 rw [List.getD_eq_getElem?_getD];by_cases hi:i < l.length
 ·rw [List.getElem?_eq_getElem hi];exact EZ h hi
 ·rw [List.getElem?_eq_none Z];simp
theorem oB {l:List Int} {k:Nat} (hk:k < l.length) (x:Int):nv (l.set k x)+4294967296 ^ k*(l.getD k 0).toNat=nv l+4294967296 ^ k*x.toNat:=by
 have:=IQ hk x;rw [List.getD_eq_getElem?_getD,List.getElem?_eq_getElem hk];exact this
theorem dS {l:List Int} {k:Nat} (h:k < l.length):nv (l.take (k+1))=nv (l.take k)+4294967296 ^ k*(l.getD k 0).toNat:=by
 rw [lN h,List.getD_eq_getElem?_getD,List.getElem?_eq_getElem h];rfl
theorem lQ {l:List Int} {i:Nat} {x c:Int} (hl:br l) (hi:i < l.length) (hx:0≤x) (hc:0≤c) :
  nv (l.set i ((l.getD i 0+x+c) % 4294967296))+4294967296 ^ (i+1)*((l.getD i 0+x+c) / 4294967296).toNat=nv l+4294967296 ^ i*(x.toNat+c.toNat):=by
 have h1:=oB hi ((l.getD i 0+x+c) % 4294967296);have h2:=bv hl i;generalize l.getD i 0=y at *
 have e1:y.toNat+x.toNat+c.toNat=4294967296*((y+x+c) / 4294967296).toNat+((y+x+c) % 4294967296).toNat:=Z
 generalize ((y+x+c) / 4294967296).toNat=q at *
 generalize ((y+x+c) % 4294967296)=r at *
 have e2:=congrArg (4294967296 ^ i * ·) e1;simp only [Nat.mul_add] at e2 ⊢;rw [Nat.pow_succ,Nat.mul_assoc];omega
theorem ut {l:List Int} {i:Nat} {x c:Int} (hl:br l) (hi:i < l.length) (hx:0≤x∧x < 4294967296) (hc:0≤c∧c≤1) :
  nv (l.set i ((l.getD i 0 - x - c) % 4294967296))+4294967296 ^ i*(x.toNat+c.toNat)=nv l+4294967296 ^ (i+1)*(Ez (l.getD i 0) x c).toNat:=by
 have h1:=oB hi ((l.getD i 0 - x - c) % 4294967296);have h2:=bv hl i;generalize l.getD i 0=y at *
 have e1:y.toNat+4294967296*(Ez y x c).toNat=x.toNat+c.toNat+((y - x - c) % 4294967296).toNat:=by unfold Ez;split <;> omega
 generalize (Ez y x c).toNat=q at *
 generalize ((y - x - c) % 4294967296)=r at *
 have e2:=congrArg (4294967296 ^ i * ·) e1;simp only [Nat.mul_add] at e2 ⊢;rw [Nat.pow_succ,Nat.mul_assoc];omega
theorem eM {l:List Int} (h:br l) (i:Nat) (x:Int):br (l.set i (x % 4294967296)):=oA h i Z Z
theorem Bw (x y c:Int):0≤Ez x y c∧Ez x y c≤1:=by unfold Ez;split <;> omega
theorem uu {y x c:Int} (hy:0≤y∧y < 4294967296) (hx:0≤x∧x < 4294967296) (hc:0≤c∧c≤1):0≤(y+x+c) / 4294967296∧(y+x+c) / 4294967296≤1:=Z
def slen:Value→Nat|.slice _ k _=>k|_=>0
theorem uv {l:List Int} (hl:br l) {k:Nat} (hk:k≤l.length) (h:k=0∨l.getD (k - 1) 0≠0) (he:nv (l.take k)=nv l):l.take k=lim (nv l):=by
 rw [← he];refine (dx (gi hl k) ?_).symm;unfold cL;rcases Nat.eq_zero_or_pos k with rfl|h3
 ·simp
 ·have h2:=h.resolve_left Z;rw [List.getLast?_eq_getElem?,List.length_take_of_le hk,List.getElem?_take_of_lt Z,List.getElem?_eq_getElem Z];rw [List.getD_eq_getElem?_getD,List.getElem?_eq_getElem Z] at h2;simpa using h2
theorem zE {l:List Int} {k:Nat} (hk:k≤l.length) (h0:0 < k) (h:l.getD (k - 1) 0=0) (he:nv (l.take k)=nv l):nv (l.take (k - 1))=nv l:=by
 have hlt:k - 1 < l.length:=Z
 refine sD hlt ?_ (by rw [show k - 1+1=k by omega];exact he);rw [List.getD_eq_getElem?_getD,List.getElem?_eq_getElem hlt] at h;simpa using h
theorem bm.lim {w:World} {g cap:Nat} {l:List Int} (h:bm w g cap l) {k:Nat} (e:l.take k=lim (nv l)):bm w g cap (lim (nv l)):=by rw [← e];exact h.take k
theorem jh (g cap:Nat) (l:List Int) (w:World) (h:bm w g cap l) (hl:br l) :
  Calls Tryz.prog 188 #[.slice (some ⟨g,0,none⟩) l.length cap] w fun e w'=>e=.returned (.slice (some ⟨g,0,none⟩) (lim (nv l)).length cap)∧bm w' g cap (lim (nv l))∧Ext w w':=by
 have hle:=h.le;have rq:=h.most;have H:=kI h;clear h;have HL:=kI hl;clear hl;go_enter Tryz.func188,Tryz.ntmps188
 go_wp2
 go_loopw [0] (fun v wr=>∃ k:Nat,k≤l.length∧v=.slice (some ⟨g,0,none⟩) k cap∧nv (l.take k)=nv l∧∃ n,wr=w.drewN n)
  (fun v _=>slen v)
 case atStart=>exact ⟨l.length,Nat.le_refl _,rfl,by rw [List.take_length],0,rfl⟩
 case round=>
  obtain ⟨k,hk,rfl,htake,n,rfl⟩:=hrel;have HT:=kI htake;clear htake;by_cases h0:0 < k
  ·have hc:=H.o.cell (i:=k - 1) Z;obtain ⟨x,hx⟩:∃ x,x=l.getD (k - 1) 0:=⟨_,rfl⟩;rw [← hx] at hc;have HX:=kI hx;clear hx;by_cases hz:x=0
   ·subst hz;go_wp2
    go_roundw
    case rel=>exact ⟨k - 1,by omega,by go_num,zE hk h0 HX.o.symm HT.o,_,rfl⟩
    case measure=>simp [slen];omega
   ·have hz':(x == 0)=false:=by simpa using hz
    go_wp2
    go_ret;have e:=uv HL.o hk (.inr (by rw [← HX.o];exact hz)) HT.o;have el:(lim (nv l)).length=k:=by rw [← e,List.length_take_of_le hk]
    exact ⟨by rw [el];rfl,(H.o.lim e).ext ((Ext.refl w).drewN _),(Ext.refl w).drewN _⟩
  ·obtain rfl:k=0:=Z
   go_wp2
   go_ret;have e:=uv HL.o hk (.inl rfl) HT.o;have el:(lim (nv l)).length=0:=by rw [← e];rfl
   exact ⟨by rw [el];rfl,(H.o.lim e).ext ((Ext.refl w).drewN _),(Ext.refl w).drewN _⟩
theorem uw (a:Option Addr) (w:World) :
  Calls Tryz.prog 188 #[.slice a 0 0] w fun e w'=>e=.returned (.slice a 0 0)∧Ext w w':=by
 go_enter Tryz.func188,Tryz.ntmps188
 go_wp2
 go_loopw [0] (fun v wr=>v=.slice a 0 0∧∃ n,wr=w.drewN n) (fun _ _=>0)
 case atStart=>exact ⟨rfl,0,rfl⟩
 case round=>
  obtain ⟨rfl,n,rfl⟩:=hrel;go_wp2
  go_ret;exact ⟨rfl,(Ext.refl w).drewN _⟩
theorem ux (o:Option Nat) (v:Value) (l:List Int) (w:World) (h:gI w o v l) (hl:br l) :
  Calls Tryz.prog 188 #[v] w fun e w'=>∃ v',e=.returned v'∧gI w' o v' (lim (nv l))∧Ext w w':=by
 rcases h with ⟨rfl,rfl,a,ha,rfl⟩|⟨g,cap,rfl,rfl,h⟩
 ·exact (uw a w).mono fun e w' ⟨he,hx⟩=>⟨_,he,.inl ⟨rfl,rfl,a,ha,rfl⟩,hx⟩
 ·exact (jh g cap l w h hl).mono fun e w' ⟨he,hr,hx⟩=>⟨_,he,.row hr,hx⟩
def dT (l:List Int):Int:=if 512 < l.length then 4 else if l.getLast?=some 0 then 2 else 0
def wX (a b:Int):Int:=if a=0 then b else a
def cS (l1 l2:List Int):Int:=wX (dT l1) (dT l2)
def iW (a b:Int):Int:=if a < b then -1 else if b < a then 1 else 0
theorem iE (l:List Int) (h:0 < l.length):l.getLast?=some (l.getD (l.length - 1) 0):=by
 rw [List.getLast?_eq_getElem?,List.getD_eq_getElem?_getD,List.getElem?_eq_getElem Z];rfl
theorem jZ {w:World} {v:Value} {l:List Int} (h:bj .u32 w v l):∃ a cap,v=.slice a l.length cap∧l.length≤cap∧cap≤9223372036854775807∧
  ∀ i,i < l.length→∃ b off,a=some ⟨b,off,none⟩∧b < w.heap.size∧w.cell? ⟨b,off+i,none⟩=some (.int .u32 (l.getD i 0)):=h.get
theorem eO (v:Value) (l:List Int) (w:World) (h:bj .u32 w v l) :
  Calls Tryz.prog 155 #[v] w fun e w'=>e=.returned (.int .i64 (dT l))∧Ext w w':=by
 obtain ⟨a,cap,rfl,hc,hm,hr⟩:=jZ h;clear h;by_cases h5:512 < l.length
 ·have e:dT l=4:=by simp [dT,h5]
  have H:=kI e;clear e hr;have hd:decide (512 < (l.length:Int))=true:=by simp;omega
  go_enter Tryz.func155,Tryz.ntmps155
  go_wp2
  go_ret;exact ⟨by rw [H.o];rfl,Ext.refl w⟩
 ·have hd:decide (512 < (l.length:Int))=false:=by simp;omega
  by_cases h0:0 < l.length
  ·obtain ⟨b,off,rfl,hb,hx⟩:=hr (l.length - 1) Z;obtain ⟨x,hx'⟩:∃ x,x=l.getD (l.length - 1) 0:=⟨_,rfl⟩;rw [← hx'] at hx;have e:dT l=if x=0 then 2 else 0:=by
    unfold dT;rw [if_neg h5,iE l h0,← hx'];simp
   have H:=kI e;clear e hr hx';have hd0:decide (0 < (l.length:Int))=true:=by simp;omega
   by_cases hz:x=0
   ·subst hz;go_enter Tryz.func155,Tryz.ntmps155
    go_wp2
    go_ret;exact ⟨by rw [H.o];rfl,eX⟩
   ·have hz':(x == 0)=false:=by simpa using hz
    go_enter Tryz.func155,Tryz.ntmps155
    go_wp2
    go_ret;exact ⟨by rw [H.o,if_neg hz];rfl,eX⟩
  ·have hl:l.length=0:=Z
   have e:dT l=0:=by rw [List.length_eq_zero_iff.1 hl];rfl
   have H:=kI e;clear e hr;have hd0:decide (0 < (l.length:Int))=false:=decide_eq_false Z;go_enter Tryz.func155,Tryz.ntmps155
   go_wp2
   go_ret;exact ⟨by rw [H.o];rfl,eX⟩
theorem wY (a b:Int) (w:World) :
  Calls Tryz.prog 200 #[.int .i64 a,.int .i64 b] w fun e w'=>e=.returned (.int .i64 (iW a b))∧Ext w w':=by
 rcases Int.lt_trichotomy a b with h|h|h
 ·have e:iW a b = -1:=by simp [iW,h]
  have H:=kI e;clear e;go_enter Tryz.func200,Tryz.ntmps200
  go_wp2
  go_ret;exact ⟨by rw [H.o];rfl,eX⟩
 ·have e:iW a b=0:=by simp [iW,h]
  have h1:decide (a < b)=false:=decide_eq_false Z;have h2:decide (b < a)=false:=decide_eq_false Z;have H:=kI e;clear e h;go_enter Tryz.func200,Tryz.ntmps200
  go_wp2
  go_ret;exact ⟨by rw [H.o];rfl,eX⟩
 ·have e:iW a b=1:=by
    have:¬ a < b:=Z
    simp [iW,h,this]
  have h1:decide (a < b)=false:=decide_eq_false Z;have H:=kI e;clear e;go_enter Tryz.func200,Tryz.ntmps200
  go_wp2
  go_ret;exact ⟨by rw [H.o];rfl,eX⟩
theorem By (a b:Int) (w:World) :
  Calls Tryz.prog 201 #[.int .u32 a,.int .u32 b] w fun e w'=>e=.returned (.int .i64 (iW a b))∧Ext w w':=by
 rcases Int.lt_trichotomy a b with h|h|h
 ·have e:iW a b = -1:=by simp [iW,h]
  have H:=kI e;clear e;go_enter Tryz.func201,Tryz.ntmps201
  go_wp2
  go_ret;exact ⟨by rw [H.o];rfl,eX⟩
 ·have e:iW a b=0:=by simp [iW,h]
  have h1:decide (a < b)=false:=decide_eq_false Z;have h2:decide (b < a)=false:=decide_eq_false Z;have H:=kI e;clear e h;go_enter Tryz.func201,Tryz.ntmps201
  go_wp2
  go_ret;exact ⟨by rw [H.o];rfl,eX⟩
 ·have e:iW a b=1:=by
    have:¬ a < b:=Z
    simp [iW,h,this]
  have h1:decide (a < b)=false:=decide_eq_false Z;have H:=kI e;clear e;go_enter Tryz.func201,Tryz.ntmps201
  go_wp2
  go_ret;exact ⟨by rw [H.o];rfl,eX⟩
theorem j0 (a b:Int) (g:Nat) (w:World) (h:ag w g #[.int .i64 a,.int .i64 b] 37) :
  Calls Tryz.prog 121 #[.slice (some ⟨g,0,none⟩) 2 2] w fun e w'=>e=.returned (.int .i64 (wX a b))∧Ext w w':=by
 have c:=h.cell;have H:=kI h;clear h;by_cases ha:a=0
 ·subst ha;by_cases hb:b=0
  ·subst hb;go_enter Tryz.func121,Tryz.ntmps121
   go_wp2_with fail;refine wp_loop_rounds 3 ?_;rw [rounds_succ];go_wp2
   rw [rounds_succ];go_wp2
   rw [rounds_succ];go_wp2
   go_ret;exact ⟨rfl,eX⟩
  ·have hb':(b != 0)=true:=by simpa using hb
   have e:wX 0 b=b:=rfl;go_enter Tryz.func121,Tryz.ntmps121
   go_wp2_with fail;refine wp_loop_rounds 2 ?_;rw [rounds_succ];go_wp2
   rw [rounds_succ];go_wp2
   go_ret;exact ⟨rfl,eX⟩
 ·have ha':(a != 0)=true:=by simpa using ha
  have e:wX a b=a:=by simp [wX,ha]
  have HE:=kI e;clear e;go_enter Tryz.func121,Tryz.ntmps121
  go_wp2_with fail;refine wp_loop_rounds 1 ?_;rw [rounds_succ];go_wp2
  go_ret;exact ⟨by rw [HE.o];rfl,eX⟩
theorem bN (v1 v2:Value) (l1 l2:List Int) (w:World) (h1:bj .u32 w v1 l1) (h2:bj .u32 w v2 l2) :
  Calls Tryz.prog 183 #[v1,v2] w fun e w'=>e=.returned (.int .i64 (cS l1 l2))∧Ext w w':=by
 have H1:=kI h1;have H2:=kI h2;clear h1 h2;go_enter Tryz.func183,Tryz.ntmps183
 go_wp2_with fail;refine (eO v1 l1 _ H1.o).mono ?_;rintro e w1 ⟨rfl,hx1⟩;have HX:=kI hx1;clear hx1;go_wp2_with fail;refine (eO v2 l2 _ (H2.o.ext HX.o)).mono ?_;rintro e w2 ⟨rfl,hx2⟩;have Bz:=kI (HX.o.trans hx2);clear hx2;go_wp2_with fail;refine (j0 (dT l1) (dT l2) w2.heap.size _ (ag.new w2 _ _)).mono ?_;rintro e w3 ⟨rfl,hx3⟩;have Zk:=kI ((Bz.o.alloc _).trans hx3);clear hx3;go_wp2
 go_ret;exact ⟨rfl,Zk.o⟩
theorem zF (x y c:Int) (w:World) (hx:0≤x∧x < 4294967296) (hy:0≤y∧y < 4294967296) (hc:0≤c∧c≤1) :
  Calls Tryz.prog 204 #[.int .u32 x,.int .u32 y,.int .u32 c] w fun e w'=>e=.returned (.tuple #[.int .u32 ((x+y+c) % 4294967296),.int .u32 ((x+y+c) / 4294967296)])∧Ext w w':=by
 obtain ⟨x0,x1⟩:=hx;obtain ⟨y0,y1⟩:=hy;obtain ⟨c0,c1⟩:=hc;go_enter Tryz.func204,Tryz.ntmps204
 go_wp2
 go_ret2
 exact ⟨rfl,eX⟩
theorem ru (x y c:Int) (w:World) (hx:0≤x∧x < 4294967296) (hy:0≤y∧y < 4294967296) (hc:0≤c∧c≤1) :
  Calls Tryz.prog 202 #[.int .u32 x,.int .u32 y,.int .u32 c] w fun e w'=>e=.returned (.tuple #[.int .u32 ((x - y - c) % 4294967296),.int .u32 (Ez x y c)])∧Ext w w':=by
 have hb:=kI (wW x y c hx hy hc);obtain ⟨x0,x1⟩:=hx;obtain ⟨y0,y1⟩:=hy;obtain ⟨c0,c1⟩:=hc;go_enter Tryz.func202,Tryz.ntmps202
 go_wp2
 ·go_ret2
  exact ⟨by rw [← hb.out];rfl,eX⟩
theorem gN {α:Type} (e:α):∃ x,x=e:=⟨e,rfl⟩
theorem eR (w:World):Ext w w:=Ext.refl w
theorem eT {a b c:World} (h:Ext a b) (k:Ext b c):Ext a c:=Ext.trans h k
theorem eA {a w:World} (h:Ext a w) (o:Obj):Ext a (w.alloc o):=Ext.alloc h o
theorem eD {a w:World} (h:Ext a w):Ext a w.drew:=Ext.drew h
theorem eN {a w:World} (h:Ext a w) (n:Nat):Ext a (w.drewN n):=Ext.drewN h n
theorem eS {a w:World} {p:Addr} {v:Value} (hp:a.heap.size≤p.block) (h:Ext a w):Ext a (w.setCell p v):=Ext.Nk hp h
theorem ag.q3 {w:World} {b:Nat} {c:Array Value} {t:TypeId} (h:ag w b c t):(∀ o:Nat,w.cell? ⟨b,o,none⟩=c[o]?)∧(∀ o:Nat,w.frozen? ⟨b,o,none⟩=false)∧b < w.heap.size:=⟨h.cell,h.free,h.lt⟩
end Go.Proofs.YtnnjbaijcaiohaaGreat
