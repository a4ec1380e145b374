/- Walks and lemmas. -/
import Derived.Test.YtnnjbaijcaiohaaGreatSzA8
import Derived.Test.YtnnjbaijcaiohaaGreatSzA9
import Derived.Test.YtnnjbaijcaiohaaGreatSzA5
import Derived.Test.YtnnjbaijcaiohaaGreatSzA7
import Derived.WalkMore
import Derived.RangeFuncNested
import Derived.RangeFuncBound
import Derived.RangeFuncCalls
import Derived.RangeFuncLeaves
import Derived.Shelf.Abstract
import Derived.Shelf.RegionOpen
import Derived.WalkKit
import Derived.OwnWalkIn
import Derived.TacticsInMore
import Derived.LoopNIn
import Derived.LoopIn
import Derived.Test.YtnnjbaijcaiohaaGreatSzA1
import Derived.Test.YtnnjbaijcaiohaaGreatSzA3
import Derived.OrdersHeld
import Derived.Deep.RegionHeld
import Derived.Test.YtnnjbaijcaiohaaGreatSzA0
set_option linter.unusedVariables false
set_option linter.unusedSimpArgs false
set_option maxRecDepth 100000
set_option maxHeartbeats 16000000
namespace Go.Proofs.YtnnjbaijcaiohaaGreat
open Go.RowKit
variable {a a0:Act} {listed:Array Bool} {T:Array Bool→World→Prop} {ops:Array Oper} {ps:Array Tmp} {args tmps:Array Value} {assign body:Code} {Q:Exit→Act→World→Prop} {F:Fence} {u:FrameMode} {f:FuncId} {c s:Int} {plan:List (List Int)} {ds:List Deferred} {l l1 l2 la lb lq:List Int} {rest:List Oper} {cs h vs xs:List Value} {An B C H L N b b0 bx c1 c2 cap d1 d2 fuel g i id j jn k m1 m2 n n1 n2 nf nn off xn y:Nat} {X:Nat→Prop} {oi om:Oper} {a1 a2 a3 xa:Option Addr} {P:Program} {R p p0 p1 p10 p11 p12 p13 p2 p3 p4 p5 p6 p7 p8 p9:Prop} {md:Region.Mode} {α:Type} {e t t1 t2 t3:TypeId} {lv v vb vr z:Value} {A W W' W0 w w' w0 w2 w3 w4 wB:World} {S S1 S2:World→Prop}
theorem iK (w:World):Calls Tryz.prog 73 #[.int .i64 0] w fun e w'=>e=.returned (.tuple #[])∧w'=w:=wD 0 w
theorem bB (hc:c≠0) (w:World):Calls Tryz.prog 73 #[.int .i64 c] w fun e w'=>e=.panicked [dC c]∧w'=w:=by
 have:=wD c w;rwa [if_neg hc] at this
def iL (B:Nat) (w':World) (e:Ending) (c:Int) (l:List RR):Prop:=if c=0 then (∃ v',e=.returned v'∧bm B w' v' l) else e=.panicked [dC c]
theorem iL.ok {l:List RR} (h:c=0) (o:bm B w' v l):iL B w' (.returned v) c l:=by unfold iL;rw [if_pos h];exact ⟨v,rfl,o⟩
theorem iL.bad {d:Int} {l:List RR} (h:d≠0) (e:c=d):iL B w' (.panicked [dC d]) c l:=by unfold iL;rw [e,if_neg h]
theorem iL.Ij {e:Ending} {l:List RR} (h:iL B w' e 0 l):∃ v',e=.returned v'∧bm B w' v' l:=by unfold iL at h;rwa [if_pos rfl] at h
theorem iL.Ik {e:Ending} {l:List RR} (h:iL B w' e c l) (hc:c≠0):e=.panicked [dC c]:=by unfold iL at h;rwa [if_neg hc] at h
def jE (l:List RR):Prop:=∀ i,i < l.length→(l.getD i zR).num.length≤1000000∧(l.getD i zR).den.length≤1000000
theorem mO (mv vv:Value) (m:MD) (vals:List RR) (w:World) (hm:dd w mv m) (hv:aT w vv vals) (hlm:eG m) (hln:jE vals) :
  Calls Tryz.prog 72 #[mv,vv] w fun e w'=>iL w.heap.size w' e (cJ m vals) vals∧Ext w w':=by
 have hck:=fun W mv (h:dd W mv m)=>jz mv m W h hlm;obtain ⟨HM,HV,CZ⟩:=cC hm hv hln;obtain ⟨m1,n1,m2,n2,m3,n3,rfl,hmd,hst⟩:=hm;have hsl:m.states.length≤9223372036854775807:=by obtain ⟨_,_,_,h⟩:=hst.shape;exact h
 obtain ⟨av,cv,rfl,rA,hvm,fv,hvf⟩:=hv.get;have hvl:vals.length≤9223372036854775807:=Z
 have hmv:cJ m vals=if fS m≠0 then fS m else if vals.length≠m.states.length then 16 else 0:=rfl;have hvd:=fun h=>(bD (m:=m) h).2.2.1;obtain ⟨c,hc⟩:=gN (fS m);rw [← hc] at hck hmv hvd;obtain ⟨gY,Rb,HVD⟩:=cC hck hmv hvd;clear hv hmd hst hck hmv hvd rA hvm hvf fv hc;have bb0:=(af.new w #[.bool m.ag.neg,.slice m1 m.ag.num.length n1,.slice m2 m.ag.den.length n2,.slice m3 m.states.length n3] 28);have x0:Ext w (w.alloc (.cells #[.bool m.ag.neg,.slice m1 m.ag.num.length n1,.slice m2 m.ag.den.length n2,.slice m3 m.states.length n3] 28)):=((Ext.refl w).alloc _);have A0:=kI bb0;have X:=kI x0;clear x0 bb0;replace HM:=kI (HM.o.ext X.o);replace HV:=kI (HV.o.ext X.o);go_enter Tryz.func72,Tryz.ntmps72
 obtain ⟨aK,fA0,aJ⟩:=A0.o.q3;go_wp2_with fail;refine (gY.o _ _ HM.o).mono ?_;rintro e w1 ⟨rfl,hx⟩;clear aK fA0 aJ;revert A0 X HM HV;refine lf hx ?_;intro A0 X HM HV;clear hx gY;by_cases h1:c=0
 rotate_left
 ·have E:=kI (Rb.o.trans (if_pos h1));go_wp2_with fail;refine (bB h1 _).mono ?_;rintro e w9 ⟨rfl,rfl⟩;exact cH rfl ⟨iL.bad h1 E.o,X.o⟩
 subst h1;go_wp2_with fail;refine (iK _).mono ?_;rintro e w9 ⟨rfl,rfl⟩;by_cases h2:vals.length=m.states.length
 rotate_left
 ·have E:=kI (show cJ m vals=16 by rw [Rb.o,if_neg (fun h=>h rfl),if_pos h2]);have q2:((vals.length:Int) != (m.states.length:Int))=true:=bne_iff_ne.2 Z;clear h2;obtain ⟨aK,fA0,aJ⟩:=A0.o.q3;go_wp2_with fail;refine (bB (c:=16) ah _).mono ?_;rintro e w8 ⟨rfl,rfl⟩;exact cH rfl ⟨iL.bad ah E.o,X.o⟩
 have E:=kI (show cJ m vals=0 by rw [Rb.o,if_neg (fun h=>h rfl),if_neg (fun h=>h h2)]);have q2:((vals.length:Int) != (m.states.length:Int))=false:=by rw [h2];simp
 have Rc:=HVD.o uY;have uJ:vals.length≤1000000:=Z
 have JJ:=kI uJ;have XS:=kI X.o.size;clear h2 Rc uJ;obtain ⟨aK,fA0,aJ⟩:=A0.o.q3;go_wp2_with fail;refine (AA _ vals _ HV.o JJ.o CZ.o).mono ?_;rintro e w2 ⟨⟨v,rfl,ho⟩,hx⟩;clear aK fA0 aJ;revert A0 X HM HV;refine lf hx ?_;intro A0 X HM HV;have OW:=kI (ho.mono XS.o);clear ho hx;go_wp2_with fail;go_ret;exact ⟨iL.ok E.o OW.o,X.o⟩
def dL (w:World) (v:Value) (p:List (List Int)):Prop:=∃ a cap,v=.slice a p.length cap∧p.length≤cap∧cap≤9223372036854775807∧
 ∀ i,i < p.length→∃ b off ai ci,a=some ⟨b,off,none⟩∧b < w.heap.size∧w.cell? ⟨b,off+i,none⟩=some (.slice ai (p.getD i []).length ci)∧aY .i64 w (.slice ai (p.getD i []).length ci) (p.getD i [])
theorem dL.ext {p:List (List Int)} (h:dL w v p) (e:Ext w w'):dL w' v p:=by
 exact qC6
instance {p:List (List Int)}:Lx (Ext w w') (dL w v p) (dL w' v p):=⟨fun k h=>dL.ext h k⟩
theorem dL.at {a:Option Addr} {p:List (List Int)} (h:dL w (.slice a n cap) p) {i:Nat} (hi:i < p.length):∃ b off ai ci,a=some ⟨b,off,none⟩∧b < w.heap.size∧w.cell? ⟨b,off+i,none⟩=some (.slice ai (p.getD i []).length ci)∧aY .i64 w (.slice ai (p.getD i []).length ci) (p.getD i []):=by
 exact qW6
theorem dL.shape {p:List (List Int)} (h:dL w v p):∃ a cap,v=.slice a p.length cap∧p.length≤9223372036854775807:=by obtain ⟨a,cap,h,h1,h2,_⟩:=h;exact ⟨a,cap,h,Nat.le_trans h1 h2⟩
theorem Il {m:MD} {p:List Int} {v:List RR}:bQ (sk m p v):=fun i hi=>by
 rw [mo] at hi;unfold sk;rw [List.getD_eq_getElem?_getD,List.getElem?_map,List.getElem?_range hi];exact mN _ _ _
theorem Ce {m:MD} {p:List Int} {v:List RR}:bQ (aU m p v).1:=by
 unfold aU;split
 ·exact fun i hi=>by cases hi
 ·split
  ·exact fun i hi=>by cases hi
  ·split
   ·exact fun i hi=>by cases hi
   ·exact Il
theorem wF {m:MD} {v:List RR} {p:List (List Int)} (h:bQ v):∀ j,bQ (cZ m v p j)
 | 0=>h
 | j+1=>Ce
theorem yX (mv vv pv:Value) (m:MD) (vals:List RR) (p:List (List Int)) (B:Nat) (w:World) (hm:dd w mv m) (hv:bm B w vv vals) (hp:dL w pv p) (hlm:eG m) (hlv:bQ vals) (hB:B≤w.heap.size) :
  Calls Tryz.prog 76 #[mv,vv,pv] w fun e w'=>iL B w' e (rB m vals p p.length) (cZ m vals p p.length)∧Ext w w':=by
 have hun:=fun W mv pv vv q l (h:dd W mv m) (h2:aY .i64 W pv q) (h3:aT W vv l) (h4:bQ l)=>sI mv pv vv m q l W h h2 h3 hlm h4;have hpl:=fun j=>wF (m:=m) (p:=p) hlv j;obtain ⟨HM,HP,HV,zP,mD,HB⟩:=od hm hp hv hun hpl hB;obtain ⟨m1,n1,m2,n2,m3,n3,rfl,-,-⟩:=hm;obtain ⟨ap,cp,rfl,hpn⟩:=hp.shape;clear hp hun hlm hlv hpl hB;have bb0:=(af.new w #[.bool m.ag.neg,.slice m1 m.ag.num.length n1,.slice m2 m.ag.den.length n2,.slice m3 m.states.length n3] 28);have x0:Ext w (w.alloc (.cells #[.bool m.ag.neg,.slice m1 m.ag.num.length n1,.slice m2 m.ag.den.length n2,.slice m3 m.states.length n3] 28)):=((Ext.refl w).alloc _);have A0:=kI bb0;have X:=kI x0;clear x0 bb0;replace HM:=kI (HM.o.ext X.o);replace HP:=kI (HP.o.ext X.o);replace HV:=kI (bm.ext' HV.o X.o);have XB:=kI (Nat.le_trans HB.o X.o.size);go_enter Tryz.func76,Tryz.ntmps76
 go_wp2_with fail;obtain ⟨wl,hwl⟩:=gN ((w.alloc (.cells #[.bool m.ag.neg,.slice m1 m.ag.num.length n1,.slice m2 m.ag.den.length n2,.slice m3 m.states.length n3] 28)));rw [← hwl] at HM HP HV A0 X XB ⊢;clear hwl;obtain ⟨An,hAn⟩:=gN (w.heap.size);rw [← hAn] at A0 ⊢;clear hAn;go_loopw [1,13] (fun v i wr=>∃ k:Nat,k≤p.length∧i=.int .i64 k∧(∀ j,j < k→(aU m (p.getD j []) (cZ m vals p j)).2=0)∧bm B wr v (cZ m vals p k)∧Ext wl wr) (fun _ i _=>p.length - (intOf i).toNat)
 case atStart=>exact ⟨0,Nat.zero_le _,rfl,(fun j hj=>by omega),HV.o,Ext.refl _⟩
 case round=>
  obtain ⟨wk,hwk⟩:=gN (wr);subst hwk;obtain ⟨k,hk,rfl,hok,hown,hx⟩:=hrel;obtain ⟨XK,OW,OK⟩:=cC hx hown hok;revert X;revert A0;revert HP;revert HM;refine lf hx ?_;intro HM HP A0 X;have BK:=kI (Nat.le_trans XB.o hx.size);clear hx hown hok;by_cases hlt:k < p.length
  ·obtain ⟨bp,op,ai,ci,rfl,t0,t1,t2⟩:=HP.o.at hlt;have hst:cZ m vals p (k+1)=(aU m (p.getD k []) (cZ m vals p k)).1:=rfl;obtain ⟨pk,hpk⟩:=gN (p.getD k []);have YG:=kI hpk;rw [← hpk] at t1 t2 hst;have hun:=fun W mv pv vv h h2 h3=>zP.o W mv pv vv pk (cZ m vals p k) h h2 h3 (mD.o k);obtain ⟨R,hR⟩:=gN (aU m pk (cZ m vals p k));rw [← hR] at hst hun;have HR:=kI (show aU m (p.getD k []) (cZ m vals p k)=R by rw [← hpk,hR]);obtain ⟨l2,e2⟩:=R;dsimp only at hst;unfold dN at hun;dsimp only at hun;obtain ⟨HST,Re,RP⟩:=cC hst hun t2;have RV:=kI OW.o.rd;have q1:(0:Int)≤(k:Int):=Z
   have q2:(k:Int) < (p.length:Int):=Z
   clear t2 hst hun hpk hR;obtain ⟨aK,fA0,aJ⟩:=A0.o.q3;go_wp2_with fail;refine (Re.o _ _ _ _ HM.o RP.o RV.o).mono ?_;rintro e w1 ⟨⟨v,rfl,ho⟩,hx⟩;clear aK fA0 aJ;revert X;revert RP;revert A0;revert HP;revert HM;refine lf hx ?_;intro HM HP A0 RP X;have O2:=kI (ho.mono BK.o);replace XK:=XK.x hx;clear ho hx Re;by_cases he:e2=0
   rotate_left
   ·have E:=kI (show rB m vals p p.length=e2 from (cz (f:=fun j=>(aU m (p.getD j []) (cZ m vals p j)).2) (k:=k) OK.o (by show (aU m (p.getD k []) (cZ m vals p k)).2≠0;rw [HR.o];exact he) hlt).trans (by show (aU m (p.getD k []) (cZ m vals p k)).2=e2;rw [HR.o]));go_wp2_with fail;refine (bB he _).mono ?_;rintro e w9 ⟨rfl,rfl⟩;simp +zetaDelta only [Exit.then,Exit.inBlock];exact cH rfl ⟨iL.bad he E.o,X.o⟩
   subst he;go_wp2_with fail;refine (iK _).mono ?_;rintro e w9 ⟨rfl,rfl⟩;have oO:∀ j,j < k+1→(aU m (p.getD j []) (cZ m vals p j)).2=0:=fun j hj=>by
    by_cases e:j=k
    ·rw [e,HR.o]
    ·exact OK.o j Z
   have oP:=kI oO;clear oO;go_wp2_with fail;go_roundw
   case rel=>exact ⟨k+1,by omega,by go_num,oP.o,by rw [HST.o];exact O2.o,XK.o⟩
   case measure=>simp [intOf];omega
  ·obtain rfl:k=p.length:=Z
   have q1:¬ (p.length:Int) < (p.length:Int):=Z
   have E:=kI (show rB m vals p p.length=0 from bg (f:=fun j=>(aU m (p.getD j []) (cZ m vals p j)).2) OK.o);go_wp2_with fail;go_ret;exact ⟨iL.ok E.o OW.o,X.o⟩
section
open Go.RowKit Go.ChangeShapes Go.WideShapes Go.ChangeAt Go.Deep
theorem mp (d:α):∀ (n:Nat) (P:Nat→α→Prop),(∀ i,i < n→∃ x,P i x)→∃ l:List α,l.length=n∧∀ i,i < n→P i (l.getD i d)
 | 0,_,_=>⟨[],rfl,fun i h=>by omega⟩
 | n+1,P,h=>by
  obtain ⟨l,h1,h2⟩:=mp d n P (fun i hi=>h i Z);obtain ⟨x,hx⟩:=h n Z;refine ⟨l ++ [x],by simp [h1],fun i hi=>?_⟩;by_cases e:i=n
  ·subst e;rw [List.getD_eq_getElem?_getD,List.getElem?_append_right Z,h1,Nat.sub_self];exact hx
  ·rw [List.getD_eq_getElem?_getD,List.getElem?_append_left Z,← List.getD_eq_getElem?_getD];exact h2 i Z
theorem Eu {l:List α} (h:l.length=2):∃ a b,l=[a,b]:=by match l,h with|[a,b],_=>exact ⟨a,b,rfl⟩
theorem Ev {l:List α} (h:l.length=4):∃ a b c d,l=[a,b,c,d]:=by match l,h with|[a,b,c,d],_=>exact ⟨a,b,c,d,rfl⟩
theorem Tryz.uh:Tryz.prog.cellsOf 3=1:=ak
theorem Tryz.Ew:Tryz.prog.cellsOf 53=1:=ak
theorem Tryz.ui:Tryz.prog.cellsOf 80=4:=ak
theorem Tryz.wG:Tryz.prog.cellsOf 81=1:=ak
theorem Tryz.uj:Tryz.prog.cellsOf 83=4:=ak
theorem Tryz.wH:Tryz.prog.cellsOf 84=1:=ak
theorem Tryz.sJ:Tryz.prog.cellsOf 26=1:=ak
theorem Tryz.Im:Tryz.prog.cellsOf 28=4:=ak
section
variable {H:Type} {enc:TypeId × Value→H} {w:World} {base:Nat} {spare:Nat→Bool} {held:Bool}
theorem rH {x:DataW H × List MemPlace} (h:DataW.trod enc Tryz.prog w base spare held n 53 cs=some x):∃ v l,cs=[v]∧aY .i64 w v l:=by
 obtain ⟨v',l,hcs,hr⟩:=nc (m:=1) (f:=fun x:Int=>[Value.int .i64 x]) Tryz.underlying53 Tryz.uh Z (fun _=>rfl)
  (fun n cs x hx=>by obtain ⟨a,e0,_⟩:=DataW.trod_int Tryz.underlying3 hx;exact ⟨a,e0⟩) h
 exact ⟨v',l,hcs,pH hr⟩
theorem rI {x:DataW H × List MemPlace} (h:DataW.trod enc Tryz.prog w base spare held n 30 cs=some x):∃ v g,cs=[v]∧dL w v g:=by
 obtain ⟨a,len,cap,rfl,h1,h2,h3⟩:=fm (m:=1) (Pp:=fun cs=>∃ (v:Value) (l:List Int),cs=[v]∧aY .i64 w v l) Tryz.underlying30 Tryz.Ew Z
  (fun n cs x hx=>by
   obtain ⟨v,l,e,hr⟩:=rH hx;exact ⟨⟨v,l,e,hr⟩,by rw [e];rfl⟩) h
 obtain ⟨g,hg,hP⟩:=mp ([]:List Int) len (fun i c=>∃ b off ai ci,a=some ⟨b,off,none⟩∧b < w.heap.size∧w.cell? ⟨b,off+i,none⟩=some (.slice ai c.length ci)∧aY .i64 w (.slice ai c.length ci) c) (fun i hi=>by
  obtain ⟨b,off,es,e1,e2,⟨v,l,e3,e4⟩,_,e6⟩:=h3 i hi;obtain ⟨ai,ci,rfl,_⟩:=e4.get;subst e3;exact ⟨l,b,off,ai,ci,e1,e2,by have:=e6 0 Z;simpa using this,e4⟩)
 exact ⟨_,g,rfl,a,cap,by rw [hg],by omega,h2,fun i hi=>hP i Z⟩
theorem wI {x:DataW H × List MemPlace} (h:DataW.trod enc Tryz.prog w base spare held n 80 cs=some x) :
  ∃ (t:Int) (b:Bool) (v u:Value) (l m:List Int),cs=[.int .i64 t,.bool b,v,u]∧aY .u32 w v l∧bk l∧aY .u32 w u m∧bk m:=by
 obtain ⟨xs,m,_,_,hl,hx,hf⟩:=DataW.trod_struct Tryz.underlying80 h;obtain ⟨c0,c1,c2,c3,rfl⟩:=Ev (hl.trans Tryz.ui);obtain ⟨y0,y1,rfl⟩:=Eu hx;have h0:=hf 0 _ rfl;have h1:=hf 1 _ rfl;simp [Tryz.uh,Tryz.pN] at h0 h1;obtain ⟨t,e0,_⟩:=DataW.trod_int Tryz.underlying3 h0;obtain ⟨b,v,u,l,m,e1,k1,k2,k3,k4⟩:=jt h1;simp at e0 e1;exact ⟨t,b,v,u,l,m,by rw [e0,e1.1,e1.2.1,e1.2.2],k1,k2,k3,k4⟩
theorem uk {x:DataW H × List MemPlace} (h:DataW.trod enc Tryz.prog w base spare held n 81 cs=some x):∃ v l,cs=[v]∧dD w v l∧∀ i,bj (l.getD i dO).2:=by
 obtain ⟨a,len,cap,rfl,h1,h2,h3⟩:=fm (m:=4) (Pp:=fun cs=>∃ (t:Int) (b:Bool) (v u:Value) (l m:List Int),cs=[.int .i64 t,.bool b,v,u]∧aY .u32 w v l∧bk l∧aY .u32 w u m∧bk m) Tryz.underlying81 Tryz.ui Z
  (fun n cs x hx=>by
   refine ⟨wI hx,?_⟩;obtain ⟨t,b,v,u,l,m,e,_⟩:=wI hx;rw [e];rfl) h
 obtain ⟨g,hg,hP⟩:=mp dO len (fun i c=>(∃ b off a1 c1 a2 c2,a=some ⟨b,off,none⟩∧mh w b (off+i*4) c a1 c1 a2 c2)∧bj c.2) (fun i hi=>by
  obtain ⟨b,off,es,e1,e2,⟨t,bb,v,u,l,m,e3,e4,e5,e6,e7⟩,_,e9⟩:=h3 i hi;obtain ⟨a1,c1,rfl⟩:=am e4;obtain ⟨a2,c2,rfl⟩:=am e6;subst e3;exact ⟨(t,⟨bb,l,m⟩),⟨b,off,a1,c1,a2,c2,e1,e2,e9 0 Z,e9 1 Z,e9 2 Z,e9 3 Z,⟨_,_,rfl,e4,e6⟩⟩,e5,e7⟩)
 refine ⟨_,g,rfl,⟨a,cap,by rw [hg],by omega,h2,fun i hi=>(hP i Z).1⟩,fun i=>?_⟩;by_cases hi:i < len
 ·exact (hP i hi).2
 ·exact WV
theorem wJ {x:DataW H × List MemPlace} (h:DataW.trod enc Tryz.prog w base spare held n 83 cs=some x) :
  ∃ (b:Bool) (v u o:Value) (l m:List Int) (os:List Out),cs=[.bool b,v,u,o]∧aY .u32 w v l∧bk l∧aY .u32 w u m∧bk m∧dD w o os∧∀ i,bj (os.getD i dO).2:=by
 obtain ⟨xs,m,_,_,hl,hx,hf⟩:=DataW.trod_struct Tryz.underlying83 h;obtain ⟨c0,c1,c2,c3,rfl⟩:=Ev (hl.trans Tryz.uj);obtain ⟨y0,y1,rfl⟩:=Eu hx;have h0:=hf 0 _ rfl;have h1:=hf 1 _ rfl;simp [Tryz.wG,Tryz.pN] at h0 h1;obtain ⟨b,v,u,l,m,e0,k1,k2,k3,k4⟩:=jt h0;obtain ⟨o,os,e1,k5,k6⟩:=uk h1;simp at e0 e1;exact ⟨b,v,u,o,l,m,os,by rw [e0.1,e0.2.1,e0.2.2,e1],k1,k2,k3,k4,k5,k6⟩
theorem ul {x:DataW H × List MemPlace} (h:DataW.trod enc Tryz.prog w base spare held n 84 cs=some x):∃ v l,cs=[v]∧fb w v l∧∀ a,pW (l.getD a dA):=by
 obtain ⟨a,len,cap,rfl,h1,h2,h3⟩:=fm (m:=4) (Pp:=fun cs=>∃ (b:Bool) (v u o:Value) (l m:List Int) (os:List Out),cs=[.bool b,v,u,o]∧aY .u32 w v l∧bk l∧aY .u32 w u m∧bk m∧dD w o os∧∀ i,bj (os.getD i dO).2) Tryz.underlying84 Tryz.uj Z
  (fun n cs x hx=>by
   refine ⟨wJ hx,?_⟩;obtain ⟨b,v,u,o,l,m,os,e,_⟩:=wJ hx;rw [e];rfl) h
 obtain ⟨g,hg,hP⟩:=mp dA len (fun i c=>(∃ b off a1 c1 a2 c2 a3 c3,a=some ⟨b,off,none⟩∧iT w b (off+i*4) c a1 c1 a2 c2 a3 c3)∧pW c) (fun i hi=>by
  obtain ⟨b,off,es,e1,e2,⟨bb,v,u,o,l,m,os,e3,e4,e5,e6,e7,e8,e10⟩,_,e9⟩:=h3 i hi;obtain ⟨a1,c1,rfl⟩:=am e4;obtain ⟨a2,c2,rfl⟩:=am e6;obtain ⟨a3,c3,rfl,_⟩:=e8.shape;subst e3;exact ⟨⟨⟨bb,l,m⟩,os⟩,⟨b,off,a1,c1,a2,c2,a3,c3,e1,⟨e2,e9 0 Z,e9 1 Z,e9 2 Z,⟨_,_,rfl,e4,e6⟩⟩,e9 3 Z,e8⟩,⟨e5,e7⟩,e10⟩)
 refine ⟨_,g,rfl,⟨a,cap,by rw [hg],by omega,h2,fun i hi=>(hP i Z).1⟩,fun i=>?_⟩;by_cases hi:i < len
 ·exact (hP i hi).2
 ·rw [List.getD_eq_getElem?_getD,List.getElem?_eq_none Z];exact ⟨bO,fun i=>by cases i <;> exact bO⟩
theorem qo {x:DataW H × List MemPlace} (h:DataW.trod enc Tryz.prog w base spare held n 26 cs=some x):∃ v g,cs=[v]∧gh w v g∧∀ s a,pW ((g.getD s []).getD a dA):=by
 obtain ⟨a,len,cap,rfl,h1,h2,h3⟩:=fm (m:=1) (Pp:=fun cs=>∃ (v:Value) (l:List aL),cs=[v]∧fb w v l∧∀ a,pW (l.getD a dA)) Tryz.underlying26 Tryz.wH Z
  (fun n cs x hx=>by
   obtain ⟨v,l,e,hr⟩:=ul hx;exact ⟨⟨v,l,e,hr⟩,by rw [e];rfl⟩) h
 obtain ⟨g,hg,hP⟩:=mp ([]:List aL) len (fun i c=>(∃ b off ai ci,a=some ⟨b,off,none⟩∧tY w b (off+i) c ai ci)∧∀ a,pW (c.getD a dA)) (fun i hi=>by
  obtain ⟨b,off,es,e1,e2,⟨v,l,e3,e4,e5⟩,_,e6⟩:=h3 i hi;obtain ⟨ai,ci,rfl,_⟩:=e4.shape;subst e3;exact ⟨l,⟨b,off,ai,ci,e1,e2,by have:=e6 0 Z;simpa using this,e4⟩,e5⟩)
 refine ⟨_,g,rfl,⟨a,cap,by rw [hg],by omega,h2,fun i hi=>(hP i Z).1⟩,fun s b=>?_⟩;by_cases hi:s < len
 ·exact (hP s hi).2 b
 ·rw [List.getD_eq_getElem?_getD (l:=g),List.getElem?_eq_none Z];exact ⟨bO,fun i=>by cases i <;> exact bO⟩
/-- A process of the arguments. -/
theorem Ex {r:Reach} {d:DataW H} {p:List MemPlace} (hv:Value.okWide Tryz.prog w r b0 28 v) (h:DataW.Trod enc Tryz.prog w base spare held 28 v d p) :
  ∃ m:MD,dd w v m∧eG m:=by
 obtain ⟨cs,rfl,_⟩:=okWide_struct Tryz.underlying28 hv;obtain ⟨n,hf⟩:=h;obtain ⟨xs,m,_,_,hl,hx,hf⟩:=DataW.trod_struct Tryz.underlying28 hf;obtain ⟨c0,c1,c2,c3,hcs⟩:=Ev (hl.trans Tryz.Im);obtain ⟨y0,y1,rfl⟩:=Eu hx;have h0:=hf 0 _ rfl;have h1:=hf 1 _ rfl;have hcs':cs.toList=[c0,c1,c2,c3]:=hcs;simp [Value.cells,hcs',Tryz.sJ,Tryz.pN] at h0 h1;obtain ⟨b,v,u,l,m,e0,k1,k2,k3,k4⟩:=jt h0;obtain ⟨o,g,e1,k5,k6⟩:=qo h1;simp at e0 e1;obtain ⟨a1,d1,rfl⟩:=am k1;obtain ⟨a2,d2,rfl⟩:=am k3;obtain ⟨a3,d3,rfl,_⟩:=k5.shape;refine ⟨⟨⟨b,l,m⟩,g⟩,⟨a1,d1,a2,d2,a3,d3,?_,⟨_,_,rfl,k1,k3⟩,k5⟩,⟨k2,k4⟩,k6⟩;rw [← Array.toArray_toList (xs:=cs),hcs',e0.1,e0.2.1,e0.2.2,e1]
/-- A plan of the arguments. -/
theorem Cf {r:Reach} {d:DataW H} {p:List MemPlace} (hv:Value.okWide Tryz.prog w r b0 30 v) (h:DataW.Trod enc Tryz.prog w base spare held 30 v d p):∃ g,dL w v g:=by
 obtain ⟨n,hf⟩:=h;obtain ⟨v',g,e,h1⟩:=rI hf;rw [At Tryz.underlying30 hv e] at h1;exact ⟨g,h1⟩
end
end
section
def Ey (a b:RR):Bool:=decide ((fK a b).1 < 0)
theorem In {a b:RR} (ha:aE a=0) (hb:aE b=0):Ey a b=decide (qv a < qv b):=by
 have hc:fK a b=(et (qv a) (qv b),0):=by unfold fK;rw [if_pos (lX ha hb)]
 unfold Ey;rw [hc];refine decide_eq_decide.2 ?_;show et (qv a) (qv b) < 0↔_;unfold et;split
 ·rename_i h;exact ⟨fun _=>h,fun _=>by decide⟩
 ·rename_i h;constructor
  ·intro e;split at e <;> omega
  ·intro e;exact absurd e h
theorem rJ (va vb:Value) (ra rb:RR) (w:World) (ha:bH w va ra) (hb:bH w vb rb) (la:bj ra) (lb:bj rb) :
  Calls Tryz.prog 148 #[va,vb] w fun e w'=>e=.returned (.bool (Ey ra rb))∧Ext w w':=by
 have hcm:=fun W (x:Ext w W)=>pU va vb ra rb W (ha.ext x) (hb.ext x) la lb;unfold Ey;obtain ⟨c,hcc⟩:=gN (fK ra rb);rw [← hcc] at hcm ⊢;obtain ⟨c1,c2⟩:=c;dsimp only at hcm ⊢;obtain ⟨a1,a2,a3,a4,rfl⟩:=ha.shape;obtain ⟨b1,b2,b3,b4,rfl⟩:=hb.shape;have HC:=kI hcm;have X0:=kI (((Ext.refl w).alloc (.cells #[.bool ra.neg,.slice a1 ra.num.length a2,.slice a3 ra.den.length a4] 25)).alloc (.cells #[.bool rb.neg,.slice b1 rb.num.length b2,.slice b3 rb.den.length b4] 25));clear hcm hcc ha hb la lb;go_enter Tryz.func148,Tryz.ntmps148
 go_wp2_with fail;refine (HC.o _ X0.o).mono ?_;rintro e w1 ⟨rfl,hx⟩;have X1:=X0.x hx;clear hx;go_wp2_with fail;go_ret;exact ⟨rfl,X1.o⟩
theorem wK {l:List RR}:∀ {k:Nat},0 < k→d8 l k < k
 | 0,h=>by omega
 | k+1,_=>by
  unfold d8;split
  ·omega
  ·rcases Nat.eq_zero_or_pos k with h0|h0
   ·subst h0;exact Nat.zero_lt_one
   ·have:=wK (l:=l) h0;omega
theorem jF (l:List RR) (k n:Nat) (h:k≤n) (hn:0 < n):d8 l k < n:=by
 rcases Nat.eq_zero_or_pos k with h0|h0
 ·subst h0;exact hn
 ·have:=wK (l:=l) h0;omega
theorem Cg (v:Value) (l:List RR) (w:World) (h:aT w v l) (hl:bQ l) (hv:∀ i,i < l.length→aE (l.getD i zR)=0) :
  Calls Tryz.prog 147 #[v,.func (.func 148) #[] #[]] w fun e w'=>e=.returned (.int .i64 (mf l))∧Ext w w':=by
 obtain ⟨a,c,rfl,hc,hm,_⟩:=h.get;have hll:l.length≤9223372036854775807:=Z
 obtain ⟨HR,HL,HV⟩:=cC h hl hv;clear h hl hv hc hm;have X:=kI (Ext.refl w);go_enter Tryz.func147,Tryz.ntmps147
 go_wp2_with fail;go_loopw [5,9] (fun b i wr=>∃ k:Nat,k≤l.length∧i=.int .i64 k∧b=.int .i64 (d8 l k)∧Ext w wr) (fun _ i _=>l.length - (intOf i).toNat)
 case atStart=>exact ⟨0,by omega,rfl,rfl,Ext.refl _⟩
 case round=>
  obtain ⟨wk,hwk⟩:=gN (wr);subst hwk;obtain ⟨k,hk,rfl,rfl,hx⟩:=hrel;have XK:=kI hx;have HW:=HR.x hx;clear hx;by_cases hlt:k < l.length
  ·have hb:=jF l k l.length hk Z;have hst:d8 l (k+1)=if qv (l.getD k zR) < qv (l.getD (d8 l k) zR) then k else d8 l k:=rfl;obtain ⟨j,hj⟩:=gN (d8 l k);rw [← hj] at hb hst ⊢;obtain ⟨b,off,a1,c1,a2,c2,ea,z0,z1,z2,z3,z4⟩:=HW.o.at hlt;obtain ⟨b',off',a3,c3,a4,c4,eb,y0,y1,y2,y3,y4⟩:=HW.o.at hb;rw [ea] at eb;injection eb with eb
   injection eb with QO QP
   subst QO;subst QP;subst ea;have hl1:=HL.o k;have hl2:=HL.o j;have hlo:=In (HV.o k hlt) (HV.o j hb);obtain ⟨r,hr⟩:=gN (l.getD k zR);obtain ⟨s,hs⟩:=gN (l.getD j zR);rw [← hr] at z1 z2 z3 z4 hl1 hlo hst;rw [← hs] at y1 y2 y3 y4 hl2 hlo hst;obtain ⟨NR,NS,H1,H2,Io,HST,HJ⟩:=Ba z4 y4 hl1 hl2 hlo hst hj;have q1:(0:Int)≤(k:Int):=Z
   have q2:(k:Int) < (l.length:Int):=Z
   have q3:(0:Int)≤(j:Int):=Z
   have q4:(j:Int) < (l.length:Int):=Z
   clear z4 y4 hl1 hl2 hlo hst hr hs hj;go_wp2_with fail;refine i4 9 ak ak ?_;simp only [List.take_succ_cons,List.take_zero,List.drop_succ_cons,List.drop_zero];(repeat (go_big_quiet_step (fail)))
   refine wpQuiet_nil ?_;rintro w1 ⟨⟨_,hx1⟩,rfl⟩;(try dsimp only);replace XK:=XK.x hx1;clear z0 z1 z2 z3 y0 y1 y2 y3 HW;go_wp2_with fail;refine (rJ _ _ r s w1 (NR.o.ext hx1) (NS.o.ext hx1) (H1.o hlt) (H2.o hb)).mono ?_;rintro e w2 ⟨rfl,hx⟩;replace XK:=XK.x hx;clear hx hx1;obtain ⟨q,hq⟩:=gN (Ey r s);have HQ:=kI hq;rw [← hq];clear hq;cases q
   ·go_wp2_with fail;go_roundw
    case rel=>
     have hn:¬ qv r < qv s:=of_decide_eq_false (Io.o.symm.trans HQ.o.symm);exact ⟨k+1,by omega,by go_num,by rw [HST.o,if_neg hn],XK.o⟩
    case measure=>simp [intOf];omega
   ·go_wp2_with fail;go_roundw
    case rel=>
     have hn:qv r < qv s:=of_decide_eq_true (Io.o.symm.trans HQ.o.symm);exact ⟨k+1,by omega,by go_num,by rw [HST.o,if_pos hn],XK.o⟩
    case measure=>simp [intOf];omega
  ·obtain rfl:k=l.length:=Z
   have q1:¬ (l.length:Int) < (l.length:Int):=Z
   go_wp2_with fail;go_ret;exact ⟨rfl,XK.o⟩
structure Kq (m:Nat) (A B:World):Prop where
 kz:Kz m A B
 blk:∀ (i:Nat) (c:Array Value) (t:TypeId),af A i c t→af B i c t
theorem Kq.ext {m:Nat} {B:World} (h:Ext A B):Kq m A B:=⟨.ext h,fun _ _ _ b=>b.ext h⟩
theorem Kq.iZ {m:Nat} {r:Loop} (o:Obj) (h:A.heap[m+1]?=some (.loop r)):Kq m A (A.putObj (m+1) o):=⟨.iZ A o,fun i c t b=>by
 have e:i≠m+1:=fun e=>by subst e;unfold af at b;rw [b] at h;cases h
 exact (World.putObj_heap_other e).trans b⟩
def Iq (R:World→World→Prop) (m:Nat) (I:List α→World→Prop) (Ix:Code→List α→World→Prop) (xs:List α) (W:World):Exit→Act→World→Prop
 | .normal,_,W'=>Kd m W W'∧R W W'∧I xs W'
 | .ret,_,W'=>Kd m W W'∧R W W'∧Ix .ret xs W'
 | .exit id,_,W'=>Kd m W W'∧R W W'∧Ix (.exit id) xs W'
 | _,_,_=>False
def qp (F:Fence) (n:Nat) (P:Program) (gf:Nat) (lb:Array Value) (R Ri:World→World→Prop) (encs:α→Array Value) (Nx:List α→α→World→Prop) (Fin:List α→Prop) (Pn:List α→List PanicEntry→Prop) (l:Nat) (W1:World):Prop:=
 ∀ (J Jx:List α→World→Prop),(∀ pre A B,J pre A→Ri A B→J pre B)→
  (∀ pre x W,J pre W→Nx pre x W→YieldAt F (n - 1) P l (encs x) W fun e W'=>R W W'∧((e=.returned (.bool true)∧J (pre ++ [x]) W')∨(e=.returned (.bool false)∧Jx (pre ++ [x]) W')))→
  J [] W1→CallsIn F n P gf (#[.func (.yield l) #[] #[]] ++ lb) W1 fun e W'=>((∃ v,e=.returned v)∧((∃ xs,Fin xs∧J xs W')∨∃ xs,Jx xs W'))∨∃ ch xs,e=.panicked ch∧Pn xs ch∧J xs W'
variable {F:Fence} {n:Nat} {P:Program}
theorem jG {g:Operand} 
  (hro:F.round=none) (h1:1≤n) {gf:Nat} {lb:Array Value} (hg:a.eval g=.func (.func gf) #[] lb) (hFg:F.fn gf) (eg:∀ args w,(callFunc gf args).run P w=.ok (.enter gf args) w)
  (R Ri:World→World→Prop) (hRi:∀ A B,Ri A B→w.heap.size+1 < A.heap.size→B.heap[w.heap.size]?=A.heap[w.heap.size]?∧B.heap[w.heap.size+1]?=A.heap[w.heap.size+1]?) (NF:∀ A B C,R A B→R B C→R A C) (hRk:∀ A B,w.heap.size≤A.heap.size→Kq w.heap.size A B→R A B) {encs:α→Array Value} {Nx:List α→α→World→Prop} {Fin:List α→Prop} {Pn:List α→List PanicEntry→Prop}
  (hseq:∀ W1,Ext w W1→qp F (n - 1) P gf lb R Ri encs Nx Fin Pn (w.heap.size+1) W1) (hps:∀ x,(encs x).size=ps.size)
  (I:List α→World→Prop) (Ix:Code→List α→World→Prop) (hI:∀ pre A B,I pre A→Kq w.heap.size A B→I pre B) (hIx:∀ c pre A B,Ix c pre A→Kq w.heap.size A B→Ix c pre B)
  (He:∀ pre A B,I pre A→Ri A B→I pre B) (h0:I [] w)
  (Ax:List α→α→Act→World→Prop) (hAx:∀ pre x a1 A B,Ax pre x a1 A→Kq w.heap.size A B→Ax pre x a1 B)
  (hassign:∀ (l:Nat) (pre:List α) (x:α) (W:World) (K:Act→World→Prop),I pre W→Nx pre x W→w.heap.size+1 < W.heap.size→(∀ a1 W1,Ext W W1→Ax pre x a1 W1→K a1 W1)→
   assign.wpIn (F.inRound l) (n - 1 - 1) P (Exit.then K (fun _ _ _=>False)) { tmps:=(ps.zip (encs x)).foldl (fun t (p,v)=>t.setIfInBounds p v) a.tmps,defers:=[] } W)
  (hbody:∀ (l:Nat) (pre:List α) (x:α) (a1:Act) (W:World),Ax pre x a1 W→w.heap.size+1 < W.heap.size→body.wpIn (F.inRound l) (n - 1 - 1) P (Iq R w.heap.size I Ix (pre ++ [x]) W) a1 W)
  (hdone:∀ (xs:List α) (W:World),Fin xs→I xs W→W.heap[w.heap.size]?=some (.deferred (some []))→Q .normal { a with defers:={ target:=.collected w.heap.size,args:=#[] } :: a.defers } W)
  (hstop:∀ (c:Code) (xs:List α) (W:World),Ix c xs W→W.heap[w.heap.size]?=some (.deferred (some []))→c.wpIn F n P Q { a with defers:={ target:=.collected w.heap.size,args:=#[] } :: a.defers } W)
  (gj:∀ (ch:List PanicEntry) (xs:List α) (W:World),Pn xs ch→I xs W→W.heap[w.heap.size]?=some (.deferred (some []))→Q (.panic ch) { a with defers:={ target:=.collected w.heap.size,args:=#[] } :: a.defers } W) :
  (Code.rangeFunc g ps assign body).wpIn F n P Q a w:=by
 refine wpIn_rangeFunc ?_;intro fn hfn;rw [hro];obtain ⟨rec,hrec⟩:∃ rec:LoopState→Option Code→Loop,rec=fun st pe=>{ state:=st,pending:=pe,fn,tmps:=a.tmps,params:=ps,assign,body,defers:=w.heap.size }:=⟨_,rfl⟩;obtain ⟨W1,hW1⟩:∃ W1,(w.alloc (.deferred (some []))).alloc (.loop (rec .ready none))=W1:=⟨_,rfl⟩;have hL1:W1.heap[w.heap.size+1]?=some (.loop (rec .ready none)):=by
  exact WI
 have hK1:W1.heap[w.heap.size]?=some (.deferred (some [])):=by
  exact WS
 have hx1:Ext w W1:=by rw [← hW1];exact ((Ext.refl w).alloc _).alloc _
 have hI1:I [] W1:=hI _ _ _ h0 (.ext hx1);refine ⟨w.heap.size+1,[{ target:=.collected w.heap.size,args:=#[] }],W1,{ target:=.fn (.func gf) lb,args:=#[.func (.yield (w.heap.size+1)) #[] #[]] },W1,gf,
  #[.func (.yield (w.heap.size+1)) #[] #[]] ++ lb,W1,?_,?_,?_,?_,fun _=>h1,?_⟩
 ·exact Xd
 ·simp only [resolve,hg];simp [go_sem]
 ·exact Xc
 ·simp [invoke,go_sem,eg]
 ·refine (hseq W1 hx1
   (fun pre W=>I pre W∧W.heap[w.heap.size+1]?=some (.loop (rec .ready none))∧W.heap[w.heap.size]?=some (.deferred (some [])))
   (fun pre W=>∃ c,Ix c pre W∧W.heap[w.heap.size+1]?=some (.loop (rec .done (some c)))∧W.heap[w.heap.size]?=some (.deferred (some [])))
   (fun pre A B hs x=>⟨He _ _ _ hs.1 x,(hRi _ _ x (Array.getElem?_eq_some_iff.1 hs.2.1).1).2.trans hs.2.1,(hRi _ _ x (Array.getElem?_eq_some_iff.1 hs.2.1).1).1.trans hs.2.2⟩)
   ?_ ⟨hI1,hL1,hK1⟩).mono ?_
  ·rintro pre x W ⟨hi,hl,hk⟩ hnx;have hlt:w.heap.size+1 < W.heap.size:=(Array.getElem?_eq_some_iff.1 hl).1;have hy:=run_yield (P:=P) (args:=encs x) hl (by rw [hrec];exact hps x);rw [hrec] at hy;refine ⟨fn,_,assign,body,hy,roundIn_of_wpIn hfn (hassign _ pre x W _ hi hnx hlt ?_)⟩;intro a1 V CX hax;have Bf:=(CX.block _ (Array.getElem?_eq_some_iff.1 hl).1).trans hl;have PZ:=(CX.block _ (Array.getElem?_eq_some_iff.1 hk).1).trans hk;refine ⟨_,run_beginRound Bf (by rw [hrec]),?_⟩;have vl:w.heap.size+1 < V.heap.size:=(Array.getElem?_eq_some_iff.1 Bf).1;have hl2:(V.putObj (w.heap.size+1) (.loop { rec .ready none with state:=.busy })).heap[w.heap.size+1]?=some (.loop { rec .ready none with state:=.busy }):=World.putObj_heap_same vl;have hk2:(V.putObj (w.heap.size+1) (.loop { rec .ready none with state:=.busy })).heap[w.heap.size]?=some (.deferred (some [])):=(World.putObj_heap_other Z).trans PZ;have hV1:R W (V.putObj (w.heap.size+1) (.loop { rec .ready none with state:=.busy })):=NF _ _ _ (hRk _ _ Z (Kq.ext CX)) (hRk _ _ (by have:=CX.size;omega) (Kq.iZ _ Bf));have fin:∀ (jump:Option Code) (W3:World),Kd w.heap.size (V.putObj (w.heap.size+1) (.loop { rec .ready none with state:=.busy })) W3→R (V.putObj (w.heap.size+1) (.loop { rec .ready none with state:=.busy })) W3→
     (Instr.endRound (w.heap.size+1) jump).run P W3=.ok (.bool jump.isNone) (W3.putObj (w.heap.size+1) (.loop (rec (if jump.isNone then .ready else .done) jump)))∧
     (W3.putObj (w.heap.size+1) (.loop (rec (if jump.isNone then .ready else .done) jump))).heap[w.heap.size+1]?=some (.loop (rec (if jump.isNone then .ready else .done) jump))∧
     (W3.putObj (w.heap.size+1) (.loop (rec (if jump.isNone then .ready else .done) jump))).heap[w.heap.size]?=some (.deferred (some []))∧
     R W (W3.putObj (w.heap.size+1) (.loop (rec (if jump.isNone then .ready else .done) jump))):=fun jump W3 hk3 hb3=>by
    exact zC8
   refine wpIn_mono (hbody _ pre x a1 _ (hAx _ _ _ _ _ hax (Kq.iZ _ Bf)) (by simpa using vl)) ?_;rintro e a3 W3 hp;cases e with
   | normal=>
    exact qNm
   | ret=>
    obtain ⟨hk3,hb3,hi3⟩:=hp;obtain ⟨hr,hl4,hk4,hb4⟩:=fin (some .ret) W3 hk3 hb3;exact ⟨_,_,hr,hb4,.inr ⟨rfl,.ret,hIx _ _ _ _ hi3 (Kq.iZ _ (hk3.2.2.trans hl2)),hl4,hk4⟩⟩
   | exit id=>
    obtain ⟨hk3,hb3,hi3⟩:=hp;obtain ⟨hr,hl4,hk4,hb4⟩:=fin (some (.exit id)) W3 hk3 hb3;exact ⟨_,_,hr,hb4,.inr ⟨rfl,.exit id,hIx _ _ _ _ hi3 (Kq.iZ _ (hk3.2.2.trans hl2)),hl4,hk4⟩⟩
   | goto t=>exact hp.elim
   | panic ch=>exact hp.elim
   | outgrown=>exact hp.elim
  ·rintro e W2 (⟨⟨v,rfl⟩,(⟨xs,hF,hi,hl,hk⟩|⟨xs,c,hi,hl,hk⟩)⟩|⟨ch,xs,rfl,hP,hi,hl,hk⟩)
   ·exact qV5
   ·exact ⟨some c,_,by have:=run_endLoop (P:=P) hl TW;rw [hrec] at this;exact this,hstop c xs _ (hIx _ _ _ _ hi (Kq.iZ _ hl)) ((World.putObj_heap_other Z).trans hk)⟩
   ·exact gj ch xs _ hP hi hk
structure ei (n:Nat) (X:Nat→Prop) (A B:World):Prop where
 zero:Below 0 A B
 block:∀ i,i < A.heap.size→i < n→¬ X i→B.heap[i]?=A.heap[i]?
theorem ei.refl (n:Nat) (X:Nat→Prop) (A:World):ei n X A A:=⟨Below.refl _ _,fun _ _ _ _=>rfl⟩
theorem ei.trans {B C:World} (h:ei n X A B) (k:ei n X B C):ei n X A C:=⟨h.zero.trans k.zero,fun i hi hn hL=>(k.block i (Nat.lt_of_lt_of_le hi h.zero.size) hn hL).trans (h.block i hi hn hL)⟩
instance {B C:World}:Lx (ei n X B C) (ei n X A B) (ei n X A C):=⟨fun k h=>ei.trans h k⟩
theorem ei.ext {B:World} (h:Ext A B):ei n X A B:=⟨h.mono (Nat.zero_le _),fun i hi _ _=>h.block i hi⟩
theorem ei.kz {m:Nat} {B:World} (hm:n≤m) (h:Kz m A B):ei n X A B:=⟨h.zero,fun i hi hn _=>h.block i hi (.inl Z)⟩
theorem ei.set {B:World} (h:ei n X A B) {o:Nat} (ho:X o∨n≤o) (p:Nat) (v:Value):ei n X A (B.setCell ⟨o,p,none⟩ v):=
 ⟨h.zero.setCell (Nat.zero_le _) v,fun i hi hn hL=>(Below.heap_setCell B ⟨o,p,none⟩ v i (by
  dsimp only;intro e;subst e;rcases ho with ho|ho
  ·exact hL ho
  ·omega)).trans (h.block i hi hn hL)⟩
theorem ei.mono {Y:Nat→Prop} {B:World} (h:ei n X A B) (k:∀ i,X i→Y i):ei n Y A B:=⟨h.zero,fun i hi hn hY=>h.block i hi hn (fun hX=>hY (k i hX))⟩
theorem af.yd {B:World} {c:Array Value} (h:af A b c t) (k:ei n X A B) (hb:b < n) (hL:¬ X b):af B b c t:=(k.block b h.lt hb hL).trans h
theorem ei.below {n0:Nat} {B:World} (h:ei n X A B) (h1:∀ i,X i→n0≤i) (h2:n0≤n) (h3:n0≤A.heap.size):Below n0 A B:=
 ⟨h.zero.os,h.zero.tape,h.zero.output,h.zero.size,fun i hi=>h.block i Z Z (fun hX=>by have:=h1 i hX;omega)⟩
end
abbrev wL (m:MD) (m1:Option Addr) (n1:Nat) (m2:Option Addr) (n2:Nat) (m3:Option Addr) (n3:Nat):Array Value:=#[.bool m.ag.neg,.slice m1 m.ag.num.length n1,.slice m2 m.ag.den.length n2,.slice m3 m.states.length n3]
abbrev Kg (H:Nat):Array Value:=#[.pointer (some ⟨H+2,0,none⟩),.pointer (some ⟨H,0,none⟩),.pointer (some ⟨H+1,0,none⟩)]
theorem um (m:MD) (m1:Option Addr) (n1:Nat) (m2:Option Addr) (n2:Nat) (m3:Option Addr) (n3:Nat) (a:Option Addr) (n c:Nat) (a2:Option Addr) (k2 c2:Nat) (w:World) :
  Calls Tryz.prog 146 #[.agg (wL m m1 n1 m2 n2 m3 n3),.slice a n c,.slice a2 k2 c2] w fun e w'=>e=.returned (.func (.func 182) #[] (Kg w.heap.size))∧w'=((w.alloc (.cells (wL m m1 n1 m2 n2 m3 n3) 28)).alloc (.cells #[.slice a n c] 29)).alloc (.cells #[.slice a2 k2 c2] 84):=by
 go_enter Tryz.func146,Tryz.ntmps146
 exact KI
def LJ (w0:World) (m:MD) (vals:List RR) (s:Nat) (pre:List (Value × Int)) (x:Value × Int) (W:World):Prop:=
 pre.length < (m.states.getD s []).length∧x.2=(aC m vals (m.act s pre.length)).2∧aO w0 W x.1 (aC m vals (m.act s pre.length)).1
def AR (m:MD) (s:Nat) (xs:List (Value × Int)):Prop:=xs.length=(m.states.getD s []).length∨∃ y ∈ xs,y.2≠0
theorem rK (n:Nat) (hn:1≤n) (m:MD) (m1:Option Addr) (n1:Nat) (m2:Option Addr) (n2:Nat) (m3:Option Addr) (n3:Nat) (a:Option Addr) (c:Nat) (a2:Option Addr) (c2:Nat) (vals:List RR) (s H N lb:Nat) (X:Nat→Prop) (w0 W1:World)
  (hm:dd w0 (.agg (wL m m1 n1 m2 n2 m3 n3)) m) (hv:aT w0 (.slice a vals.length c) vals) (hac:fb w0 (.slice a2 (m.states.getD s []).length c2) (m.states.getD s [])) (hlm:eG m) (hlv:bQ vals) (hE:cJ m vals=0) (hs:s < m.states.length)
  (hx:Ext w0 W1) (hX:∀ i,X i→w0.heap.size≤i∧i < H) (UA:w0.heap.size≤H) (hH:H+2 < N) (hN:N≤W1.heap.size)
  (hb0:af W1 H (wL m m1 n1 m2 n2 m3 n3) 28) (hb1:af W1 (H+1) #[.slice a vals.length c] 29) (hb2:af W1 (H+2) #[.slice a2 (m.states.getD s []).length c2] 84) :
  qp Fence.wide n Tryz.prog 182 (Kg H) (ei N X) Ext (fun x:Value × Int=>#[x.1,.int .i64 x.2]) (LJ w0 m vals s) (AR m s) (fun _ _=>False) lb W1:=by
 intro J Jx hJ hY h0;have hsc:=fun W xv k (x:Ext w0 W) (hx:ee W xv (m.act s k)) (hk:k < (m.states.getD s []).length)=>jC _ _ xv m vals s k W (hm.ext x) (hv.ext x) hx hlm hlv hE hs hk;have hll:(m.states.getD s []).length≤9223372036854775807:=by obtain ⟨_,_,_,h⟩:=hac.shape;exact h
 have hnx:∀ (pre:List (Value × Int)) (k:Nat) (v:Value) (r:RR) (e:Int) (W:World),pre.length=k→k < (m.states.getD s []).length→aC m vals (m.act s k)=(r,e)→aO w0 W v r→LJ w0 m vals s pre (v,e) W:=by
  intro pre k v r e W h1 h2 h3 h4;subst h1;exact ⟨h2,by rw [h3],by rw [h3];exact h4⟩
 have hat:∀ k,(m.states.getD s []).getD k dA=m.act s k:=fun _=>rfl;have hfin:∀ xs:List (Value × Int),AR m s xs↔(xs.length=(m.states.getD s []).length∨∃ y ∈ xs,y.2≠0):=fun _=>Iff.rfl;obtain ⟨ac,LK⟩:=gN (m.states.getD s []);rw [← LK] at hac hb2 hsc hll hnx hat;simp only [← LK] at hfin;obtain ⟨iY,nL,HNX,HAT,Rj,HB0,HB1,HB2,HX,Rk,HY⟩:=C5 hac hsc hnx hat hfin hb0 hb1 hb2 hx hJ hY;clear hm hv hac hsc hnx hat hfin LK hx hlm hlv hE hs hJ hY;have hw0:w0.heap.size≤W1.heap.size:=HX.o.size;refine callsIn_of_wp Tryz.func182 rfl trivial ?_ rfl;simp only [Tryz.ntmps182,List.size_toArray,List.length_cons,List.length_nil,Nat.reduceAdd,Nat.reduceSub,Array.replicate_succ,Array.replicate_zero,List.push_toArray,List.append_toArray,List.nil_append,List.cons_append];have d0:=hb2.cell;have d1:=hb2.lt;gi_wp2_with fail;clear d0 d1 hb0 hb1 hb2;gi_loopw [11] (fun i wr=>∃ (k:Nat) (pre:List (Value × Int)),k≤ac.length∧i=.int .i64 k∧pre.length=k∧J pre wr∧ei N X W1 wr) (fun i _=>ac.length - (intOf i).toNat)
 case atStart=>exact ⟨0,[],by omega,rfl,rfl,h0,ei.refl _ _ _⟩
 case round=>
  obtain ⟨wk,hwk⟩:=gN (wr);subst hwk;obtain ⟨k,pre,hk,rfl,hpl,hj,hkp⟩:=hrel;have XK:Hid (Ext w0 wk):=kI (Below.trans HX.o (hkp.below (fun i h=>(hX i h).1) Z hw0));obtain ⟨KP,HJ,mD⟩:=cC hkp hj hpl;have bk0:=kI (HB0.o.yd hkp Z (fun h=>by have:=(hX _ h).2;omega));have bk1:=kI (HB1.o.yd hkp Z (fun h=>by have:=(hX _ h).2;omega));have bk2:=kI (HB2.o.yd hkp Z (fun h=>by have:=(hX _ h).2;omega));clear hkp hj hpl;by_cases hlt:k < ac.length
  ·obtain ⟨b,off,p1,e1,p2,e2,p3,e3,rfl,zz⟩:=(iY.o.ext XK.o).at hlt;have hrd:=zz.rd;obtain ⟨⟨y0,y1,y2,y3,-⟩,y4,-⟩:=zz;have hsc:=fun W xv (x:Ext w0 W) (hx:ee W xv (m.act s k))=>nL.o W xv k x hx hlt;have hnx:=fun (v:Value) (r:RR) (e:Int) (W:World)=>HNX.o pre k v r e W mD.o hlt;rw [HAT.o k] at y1 y2 y3 y4 hrd;obtain ⟨x,hxx⟩:=gN (m.act s k);rw [← hxx] at y1 y2 y3 y4 hrd hsc hnx;obtain ⟨R,hR⟩:=gN (aC m vals x);rw [← hR] at hsc hnx;obtain ⟨r,e⟩:=R;unfold bG at hsc;dsimp only at hsc;have yv:=kI hsc;have YH:=kI (fun v W=>hnx v r e W rfl);have RX:=kI hrd;have q4:(0:Int)≤(k:Int):=Z
   have q5:(k:Int) < (ac.length:Int):=Z
   clear hsc hnx hrd hxx hR;have LM:=bk0.out.cell;have Cd:=bk1.out.cell;have kb2:=bk0.out.lt;have YJ:=bk1.out.lt;gi_wp2_with fail;obtain ⟨wa,Kh⟩:=gN (wk.alloc (.cells #[.bool x.cost.neg,.slice p1 x.cost.num.length e1,.slice p2 x.cost.den.length e2,.slice p3 x.next.length e3] 83));have hxa:Ext wk wa:=by rw [Kh];exact (Ext.refl _).alloc _
   rw [← Kh];clear Kh;refine ⟨trivial,(callsIn_wide.2 (yv.o wa _ (XK.o.trans hxa) (RX.o.ext hxa))).mono ?_⟩;rintro e9 w2 ⟨⟨v,rfl,nn⟩,hx2⟩;obtain ⟨s1,s2,s3,s4,rfl⟩:=nn.shape;have NN:=kI (nn.from (XK.o.trans hxa));have X2:=kI (hxa.trans hx2);clear nn hx2 hxa y0 y1 y2 y3 y4 LM Cd kb2 YJ;obtain ⟨fn,tmps,assign,body,hy,hR⟩:=HY.o pre (.agg #[.bool r.neg,.slice s1 r.num.length s2,.slice s3 r.den.length s4],e) (w2.alloc (.cells #[.bool r.neg,.slice s1 r.num.length s2,.slice s3 r.den.length s4] 25)) (Rk.o _ _ _ HJ.o (X2.o.alloc _)) (YH.o _ _ (NN.o.ext ((Ext.refl _).alloc _)));have HRR:=kI hR;have KA:Hid (ei N X W1 (w2.alloc (.cells #[.bool r.neg,.slice s1 r.num.length s2,.slice s3 r.den.length s4] 25))):=kI (KP.o.trans (.ext (X2.o.alloc _)));dsimp only at hy HRR;clear hR;by_cases he:e=0
   ·subst he;gi_wp2_with fail;refine HRR.o.mono ?_;rintro e9 W3 ⟨hb3,(⟨rfl,hJ3⟩|⟨rfl,hJ3⟩)⟩
    ·have yu:=kI hJ3;have YK:=KA.x hb3;clear hJ3 hb3 hy HRR;gi_wp2_with fail;go_roundw
     case rel=>exact ⟨k+1,_,by omega,by go_num,by have:=mD.o;simp [this],yu.o,YK.o⟩
     case measure=>simp [intOf];omega
    ·have yu:=kI hJ3;clear hJ3 hb3 hy HRR;exact qAk
   ·have q6:(e != 0)=true:=by simpa using he
    gi_wp2_with fail;refine HRR.o.mono ?_;rintro e9 W3 ⟨hb3,(⟨rfl,hJ3⟩|⟨rfl,hJ3⟩)⟩
    ·have yu:=kI hJ3;have F3:=kI ((Rj.o (pre ++ [(.agg #[.bool r.neg,.slice s1 r.num.length s2,.slice s3 r.den.length s4],e)])).2 (.inr ⟨_,List.mem_append_right _ (List.mem_singleton_self _),he⟩));clear hJ3 hb3 hy HRR he;gi_wp2_with fail;refine bodyPost_ret (v:=.tuple #[]) ?_ rfl (.inl ⟨⟨_,rfl⟩,.inl ⟨_,F3.o,yu.o⟩⟩);first|rfl|(simp only [results,Tryz.results182];go_simp)
    ·have yu:=kI hJ3;clear hJ3 hb3 hy HRR he;exact qAk
  ·obtain rfl:k=ac.length:=Z
   have F3:=kI ((Rj.o pre).2 (.inl mD.o));have q6:¬ (ac.length:Int) < (ac.length:Int):=Z
   gi_wp2_with fail;go_end0
   exact ⟨⟨_,rfl⟩,.inl ⟨_,F3.o,HJ.o⟩⟩
section
theorem it {B:World} (t:TypeId) (h0:Below 0 A B) (h:∀ (i:Nat) (c:Array Value) (u:TypeId),af A i c u→af B i c u):Keeps 0 t A B:=
 ⟨h0,fun i hi ho=>by
  rcases ho with ho|⟨cur,u,h1,_⟩
  ·omega
  ·have h2:=h i cur u h1;unfold af at h1 h2;rw [h1,h2]⟩
theorem Kq.keeps {m:Nat} {B:World} (h:Kq m A B) (t:TypeId):Keeps 0 t A B:=it t h.kz.zero h.blk
theorem au.jH {size:Nat} {El:World→List Value→α→Prop} {l:List α} (h:au e size El B w v l) (k:Keeps C t w w') (ht:e≠t) (hEl:∀ h y,El w h y→El w' h y):au e size El B w' v l:=by
 obtain ⟨hs,h1,h2,h3,h4⟩:=h;exact ⟨hs,eY h1 k ht,h2,h3,fun i y hi=>by obtain ⟨h,e1,e2⟩:=h4 i y hi;exact ⟨h,e1,hEl _ _ e2⟩⟩
def YN (_:World) (h:List Value) (y:Int):Prop:=h=[.int .i64 y]
abbrev eO (B:Nat) (w:World) (v:Value) (l:List Int):Prop:=au 3 1 YN B w v l
theorem eO.nil (B:Nat) (w:World):eO B w (.slice none 0 0) []:=au.nil _ _ _ _ _
theorem eO.ext' (h:eO B w v l) (x:Ext w w'):eO B w' v l:=au.ext h x (fun _ _ e=>e)
instance:Lx (Ext w w') (eO B w v l) (eO B w' v l):=⟨fun k h=>eO.ext' h k⟩
theorem eO.keeps (h:eO B w v l) (k:Keeps C t w w') (ht:3≠t):eO B w' v l:=au.jH h k ht (fun _ _ e=>e)
theorem eO.shape (h:eO B w v l):∃ a c,v=.slice a l.length c:=by
 exact NH
theorem eO.owI (h:eO B w v l):w.ownsRow B 3 1 v l.length (l.map (Value.int .i64)):=by
 obtain ⟨hs,h1,h2,h3,h4⟩:=h;have e:hs.flatten=l.map (Value.int .i64):=by
  have key:∀ (l:List Int) (hs:List (List Value)),hs.length=l.length→(∀ (i:Nat) x,l[i]?=some x→∃ h,hs[i]?=some h∧YN w h x)→hs.flatten=l.map (Value.int .i64):=by
   intro l;induction l with
   | nil=>intro hs h _;rw [List.length_eq_zero_iff.1 h];rfl
   | cons x r ih=>
    intro hs h hk;cases hs with
    | nil=>cases h
    | cons y t=>
     obtain ⟨h0,e0,e1⟩:=hk 0 x rfl;injection e0 with e0
     subst e0;rw [List.flatten_cons,List.map_cons,ih t iw (fun i x hi=>hk (i+1) x hi),show y=[.int .i64 x] from e1];rfl
  exact key l hs h2 h4
 rw [← e];exact h1
abbrev gz (B C:Nat) (w:World) (v:Value) (l:List RR):Prop:=au 25 3 (fW B) C w v l
theorem gz.nil (B C:Nat) (w:World):gz B C w (.slice none 0 0) []:=au.nil _ _ _ _ _
theorem gz.ext' {l:List RR} (h:gz B C w v l) (x:Ext w w'):gz B C w' v l:=au.ext h x (fun _ _ e=>e.ext x)
instance {l:List RR}:Lx (Ext w w') (gz B C w v l) (gz B C w' v l):=⟨fun k h=>gz.ext' h k⟩
theorem gz.keeps {D:Nat} {l:List RR} (h:gz B C w v l) (k:Keeps D t w w') (ht:25≠t) (hu:157≠t):gz B C w' v l:=au.jH h k ht (fun _ _ e=>fW.keeps hu _ _ _ _ e k)
theorem gz.rd {l:List RR} (h:gz B C w v l):aT w v l:=by
 obtain ⟨hs,h1,h2,h3,h4⟩:=h;exact bI.rd (B:=C) ⟨hs,h1,h2,h3,fun i x hi=>by
  obtain ⟨h,e1,a1,c1,a2,c2,e2,s1,s2⟩:=h4 i x hi;exact ⟨h,e1,a1,c1,a2,c2,e2,s1.1.mono (Nat.zero_le _),s2.1.mono (Nat.zero_le _)⟩⟩
theorem gz.shape {l:List RR} (h:gz B C w v l):∃ a c,v=.slice a l.length c:=by
 exact NH
theorem gz.at {l:List RR} (h:gz B C w v l) {i:Nat} (hi:i < l.length):∃ g n cap cur a1 c1 a2 c2,v=.slice (some ⟨g,0,none⟩) n cap∧C≤g∧af w g cur 25∧w.cell? ⟨g,i*3,none⟩=some (.bool (l.getD i zR).neg)∧w.cell? ⟨g,i*3+1,none⟩=some (.slice a1 (l.getD i zR).num.length c1)∧w.cell? ⟨g,i*3+2,none⟩=some (.slice a2 (l.getD i zR).den.length c2)∧
  fW B w [.bool (l.getD i zR).neg,.slice a1 (l.getD i zR).num.length c1,.slice a2 (l.getD i zR).den.length c2] (l.getD i zR):=by
 obtain ⟨a,cap,hv,_,_,hr⟩:=au.rh h;have hl:l[i]?=some (l.getD i zR):=by rw [List.getD_eq_getElem?_getD,List.getElem?_eq_getElem hi];rfl
 obtain ⟨b,h',e1,hb,e2,e3,e4,hel⟩:=hr i _ hl;have LO:=hel;obtain ⟨a1,c1,a2,c2,rfl,s1,s2⟩:=LO;obtain ⟨hs,h1,_⟩:=h;rcases h1.2 with ⟨rfl,h0⟩|⟨g,cap',cur,rfl,hg1,hg,_⟩
 ·rw [e1] at hv;cases hv
 ·injection hv with f1 f2 f3
  rw [e1] at f1;injection f1 with f1
  injection f1 with f1
  subst f1;have x0:=e4 0 Z;have x1:=e4 1 Z;have x2:=e4 2 Z;exact ⟨g,_,_,cur,a1,c1,a2,c2,rfl,hb,hg,x0,x1,x2,hel⟩
section
variable {P:Program} {n:Nat}
theorem rL {fn:Func} {R:Ending→World→Prop}:∀ (rs:List Nat) (W:World),rs.Nodup→(∀ r ∈ rs,B < r∧W.heap[r]?=some (.deferred (some [])))→
  (∀ W',Below (B+1) W W'→(∀ (i:Nat) (c:Array Value) (t:TypeId),af W i c t→af W' i c t)→LeavesInM F n P fn tmps R [] .returning W')→LeavesInM F n P fn tmps R (rs.map (fun r=>{ target:=.collected r,args:=#[] })) .returning W:=by
 intro rs;induction rs with
 | nil=>intro W _ _ h;exact h W (Below.refl _ _) (fun _ _ _ h=>h)
 | cons r rs ih=>
  intro W hn hm h;obtain ⟨hr,hk⟩:=hm r dc;refine ⟨by simp,.inl ⟨r,_,rfl,run_takeDeferred hk,?_⟩⟩;have hb:Below (B+1) W (W.putObj r (.deferred none)):=⟨rfl,rfl,rfl,by simp,fun i hi=>World.putObj_heap_other Z⟩;have hk2:∀ (i:Nat) (c:Array Value) (t:TypeId),af W i c t→af (W.putObj r (.deferred none)) i c t:=fun i c t b=>by
   have e:i≠r:=fun e=>by subst e;unfold af at b;rw [b] at hk;cases hk
   exact (World.putObj_heap_other e).trans b
  refine ih _ (List.nodup_cons.1 hn).2 (fun r' hr'=>⟨(hm r' (by simp [hr'])).1,?_⟩) (fun W' hb' hk'=>h W' (hb.trans hb') (fun i c t b=>hk' i c t (hk2 i c t b)));exact zVh
theorem Marks.un {fn:Func} {R:Ending→World→Prop} (h:Marks B ds W)
  (hr:∀ W',Below (B+1) W W'→(∀ (i:Nat) (c:Array Value) (t:TypeId),af W i c t→af W' i c t)→LeavesInM F n P fn tmps R [] .returning W'):LeavesInM F n P fn tmps R ds .returning W:=by
 obtain ⟨rs,rfl,h2,h3⟩:=h;exact rL rs W h2 h3 hr
end
def tm (w w':World) (e:Ending) (r:List RR × List Int × Int):Prop:=∃ v a,e=.returned (.tuple #[v,a,.int .i64 r.2.2])∧bm w.heap.size w' v r.1∧eO w.heap.size w' a r.2.1
theorem tm.mk {a:Value} {l:List RR} {p:List Int} {x:Int} {r:List RR × List Int × Int} (h:bm w.heap.size w' v l) (k:eO w.heap.size w' a p) (e:r=(l,p,x)):tm w w' (.returned (.tuple #[v,a,.int .i64 x])) r:=by subst e;exact ⟨v,a,rfl,h,k⟩
theorem cS (m:MD) (v:List RR) (ac:List aL):(bK m v ac).length=ac.length:=by simp [bK]
theorem mq {m:MD} {v:List RR} {ac:List aL} (h:i < ac.length):(bK m v ac).getD i zR=(aC m v (ac.getD i dA)).1:=by
 unfold bK;rw [List.getD_eq_getElem?_getD,List.getElem?_map,List.getD_eq_getElem?_getD (l:=ac),List.getElem?_eq_getElem h];rfl
theorem mP {m:MD} {v:List RR} {ac:List aL} (h:k < ac.length):(bK m v ac).take (k+1)=(bK m v ac).take k ++ [(aC m v (ac.getD k dA)).1]:=by
 rw [bC _ k zR (by rw [cS];exact h),mq h]
theorem wM (m:MD) (v:List RR) (ac:List aL):bQ (bK m v ac):=fun i hi=>by
 rw [cS] at hi;rw [mq hi];exact mN _ _ _
theorem fM (m:MD) (v:List RR):(kr m v).length=m.states.length:=by simp [kr]
theorem j5 (m:MD) (v:List RR):(qT m v).length=m.states.length:=by simp [qT]
theorem wN {m:MD} {v:List RR} (h:k < m.states.length):(kr m v).take (k+1)=(kr m v).take k ++ [(bK m v (m.states.getD k [])).getD (mf (bK m v (m.states.getD k []))) zR]:=by
 rw [bC _ k zR (by rw [fM];exact h)];congr 2
 unfold kr;exact TP
theorem wO {m:MD} {v:List RR} (h:k < m.states.length):(qT m v).take (k+1)=(qT m v).take k ++ [(mf (bK m v (m.states.getD k [])):Int)]:=by
 rw [bC _ k 0 (by rw [j5];exact h)];congr 2
 unfold qT;exact TP
theorem wP {m:MD} {v:List RR} (h:cJ m v≠0):az m v=([],[],cJ m v):=if_pos h
theorem Ez {m:MD} {v:List RR} (h:cJ m v=0) {k j:Nat} (hk:k < m.states.length) (h1:∀ i,i < k→gS m v (m.states.getD i [])=0) (hj:j < (m.states.getD k []).length) (h2:∀ i,i < j→(aC m v (m.act k i)).2=0) {c:Int} (h3:(aC m v (m.act k j)).2=c) (hc:c≠0):az m v=([],[],c):=by
 have e1:gS m v (m.states.getD k [])=c:=by
  exact qOc
 have e2:li m v=c:=by
  have:=cz (f:=fun s=>gS m v (m.states.getD s [])) (k:=k) h1 (by rw [e1];exact hc) hk;exact this.trans e1
 unfold az;rw [if_neg iw,e2,if_pos hc]
theorem row_zero {m:MD} {v:List RR} (h2:∀ i,i < (m.states.getD k []).length→(aC m v (m.act k i)).2=0):gS m v (m.states.getD k [])=0:=bg h2
theorem EE {m:MD} {v:List RR} (h:cJ m v=0) (h1:∀ i,i < m.states.length→gS m v (m.states.getD i [])=0):az m v=(kr m v,qT m v,0):=by
 have e:=bg h1;unfold az;rw [if_neg iw,show li m v=0 from e,if_neg (fun h=>h rfl)]
end
section
theorem kh (W:World) {ops:Array Oper} {rest:List Oper} {o:Oper} {a:Act} {Q:Exit→Act→World→Prop} (hgd:o.guard=none) (s x:Operand) (t:TypeId)
  (ho:o.op=.call { callee:=.builtin .append,args:=#[s,x],argTypes:=#[t,t] })
  (B:Nat) (e:TypeId) (z:Value) (size bytes:Nat) (ht:P.underlying t=some (.slice e)) (hinfo:(P.info? e).map (fun i=>(i.zero,i.size,i.bytes))=some (some z,size,bytes))
  (hzs:z.cells.size=size) (hsz:0 < size) {α:Type} {El:World→List Value→α→Prop} (hEl:∀ w w' h y,El w h y→Keeps B e w w'→El w' h y) (v:Value) (l:List α) (hown:au e size El B W v l) (hs:a.eval s=v)
  (cs:List Value) (hcs:cs.length=size) (h1c:∀ u ∈ cs,u.oneCell'=true) (y:α) (hy:El W cs y) (hx:a.eval x=.slice (some ⟨W.heap.size,0,none⟩) 1 1)
  (h63:l.length+1≤9223372036854775807) (hbytes:(l.length+1)*bytes≤140737488355328) (hB:B≤W.heap.size)
  (h:∀ g cap w',au e size El B w' (.slice (some ⟨g,0,none⟩) (l.length+1) cap) (l ++ [y])→Keeps B e W w'→wpListIn F nf P ops Q rest (a.put o.dst (.slice (some ⟨g,0,none⟩) (l.length+1) cap)) w') :
  wpListIn F nf P ops Q (o :: rest) a (W.alloc (.cells cs.toArray e)):=by
 obtain ⟨i0,hi,hz0,hz1,hz2⟩:=info_parts hinfo;obtain ⟨hs0,h1,h2,h3,h4⟩:=hown;refine wpListIn_append_own _ hgd s x t ho B e i0 z size bytes ht hi hz0 hz1 hz2 hzs hsz v l.length hs0.flatten hs (h1.alloc _) ⟨W.heap.size,0,none⟩ 1 1 cs hx PK ?_ h1c PH hbytes oZ ?_
 ·exact Wu
 ·exact zSh
section
variable {P:Program} {ops:Array Oper} {Q:Exit→Act→World→Prop} {md:Region.Mode} {T:Array Bool→World→Prop}
def dn (P:Program) (md:Region.Mode) (ops:Array Oper) (Q:Exit→Act→World→Prop) (T:Array Bool→World→Prop):Nat→Array Bool→Act→World→Prop
 | 0,listed,a,w=>Region.ready md ops listed=[]∧Q .normal a w
 | fuel+1,listed,a,w=>
  (Region.ready md ops listed=[]→Q .normal a w)∧
  ∀ i ∈ Region.ready md ops listed,wpOp P ops Q i (fun a' w'=>T (listed.setIfInBounds i true) w'∧dn P md ops Q T fuel (listed.setIfInBounds i true) a' w') a w
theorem sK:∀ (fuel:Nat) (listed:Array Bool) (a:Act) (w:World),dn P md ops Q T fuel listed a w→wpAny P md ops Q fuel listed a w
 | 0,_,_,_,h=>h
 | fuel+1,_,_,_,h=>⟨h.1,fun i hi=>wpOp_mono (fun a' w' h'=>sK fuel _ a' w' h'.2) (h.2 i hi)⟩
theorem ms {C:Array Bool→Prop} (hi:ops[i]?=some oi) (hsel:∀ (j:Nat) (o:Oper) cs b,ops[j]?=some o→o.op≠.select cs b)
  (hQ:∀ c a w,Q (.panic c) (a.put oi.dst v) w→Q (.panic c) a w)
  (hC:∀ l j oj,ops[j]?=some oj→(∀ e ∈ oj.after,Region.binds md e=true→e.on≠i)→C l→C (l.setIfInBounds j true)) (hS:∀ l w,C l→T l w→S w) (hT:∀ l w,T (l.setIfInBounds i true) w↔T l w) :
  ∀ (fuel:Nat) (listed:Array Bool) (a:Act) (w:World),
   (∀ j oj,ops[j]?=some oj→j≠i→listed.getD j true=false→(∀ e ∈ oj.after,Region.binds md e=true→e.on≠i)→oi.apart ops oj=true)→
   i ∈ Region.ready md ops listed→YieldsIf P ops S oi v a→C listed→T listed w→
   dn P md ops Q T fuel (listed.setIfInBounds i true) (a.put oi.dst v) w→dn P md ops Q T (fuel+1) listed a w:=by
 intro fuel;induction fuel with
 | zero=>
  intro listed a w _ hr hy hc ht H;refine ⟨fun h=>NO,fun j hj=>?_⟩;by_cases hji:j=i
  ·subst hji;exact hy.wpOp hi (hS _ _ hc ht) ⟨(hT _ _).2 ht,H⟩
  ·exact Xe
 | succ fuel ih=>
  intro listed a w hfree hr hy hc ht H;refine ⟨fun h=>NO,fun j hj=>?_⟩;by_cases hji:j=i
  ·subst hji;exact hy.wpOp hi (hS _ _ hc ht) ⟨(hT _ _).2 ht,H⟩
  ·have h1:=H.2 j (ready_mono hj hji);obtain ⟨hjun,oj,hoj,hall⟩:=mem_ready.1 hj;have hnot:∀ e ∈ oj.after,Region.binds md e=true→e.on≠i:=fun e he hb heq=>by
    exact qGr
   have h2:=wpOp_putIf hoj (hfree j oj hoj hji hjun hnot) (fun cs b=>hsel i oi cs b hi) (fun cs b=>hsel j oj cs b hoj) hQ hy h1;have hfree':∀ k ok,ops[k]?=some ok→k≠i→(listed.setIfInBounds j true).getD k true=false→
     (∀ e ∈ ok.after,Region.binds md e=true→e.on≠i)→oi.apart ops ok=true:=fun k ok hk hki hun hno=>by
    exact qGg
   refine wpOp_mono (fun a' w' h3=>?_) h2;exact kQq
def T2 (m1 m2:Nat) (S1 S2:World→Prop) (l:Array Bool) (w:World):Prop:=(l.getD m1 false=false→S1 w)∧(l.getD m2 false=false→S2 w)
theorem T2.both {l:Array Bool} (h1:S1 w) (h2:S2 w):T2 m1 m2 S1 S2 l w:=⟨fun _=>h1,fun _=>h2⟩
theorem fU {l:Array Bool} {m:Nat} (h:i≠m):(l.setIfInBounds i true).getD m false=l.getD m false:=by
 exact zQn
theorem T2.set (h1:i≠m1) (h2:i≠m2) (l:Array Bool) (w:World):T2 m1 m2 S1 S2 (l.setIfInBounds i true) w↔T2 m1 m2 S1 S2 l w:=by
 unfold T2;rw [fU h1,fU h2]
theorem uo {m:Nat} (hm:ops[m]?=some om) (hw:om.after.any (fun e=>Region.binds md e && e.on == i)=true) {j:Nat} {oj:Oper} (hj:ops[j]?=some oj) (hn:∀ e ∈ oj.after,Region.binds md e=true→e.on≠i):j≠m:=fun e=>by
 subst e;rw [hm] at hj;injection hj with hj
 subst hj;obtain ⟨e,he,h⟩:=Array.any_eq_true'.1 hw;simp only [Bool.and_eq_true,beq_iff_eq] at h;exact hn e he h.1 h.2
theorem fN (hi:ops[i]?=some oi) (hm:ops[m1]?=some om) (hw:om.after.any (fun e=>Region.binds md e && e.on == i)=true)
  (h1:i≠m1) (h2:i≠m2) (hs:Region.noSelect ops=true) (hf:Region.free md ops listed i=true) (hr:(Region.ready md ops listed).contains i=true)
  (hQ:∀ c a w,Q (.panic c) (a.put oi.dst v) w→Q (.panic c) a w) (hy:YieldsIf P ops S1 oi v a) (hc:listed.getD m1 false=false) (ht:T2 m1 m2 S1 S2 listed w)
  (h:dn P md ops Q (T2 m1 m2 S1 S2) fuel (listed.setIfInBounds i true) (a.put oi.dst v) w):dn P md ops Q (T2 m1 m2 S1 S2) (fuel+1) listed a w:=
 ms (S:=S1) (C:=fun l=>l.getD m1 false=false) hi (Region.noSelect_spec hs) hQ (fun l j oj hj hn hc=>(fU (uo hm hw hj hn)).trans hc) (fun l w hc ht=>ht.1 hc) (T2.set h1 h2) fuel listed a w (Region.free_spec hi hf) PJ hy hc ht h
theorem up (hi:ops[i]?=some oi) (hm:ops[m2]?=some om) (hw:om.after.any (fun e=>Region.binds md e && e.on == i)=true)
  (h1:i≠m1) (h2:i≠m2) (hs:Region.noSelect ops=true) (hf:Region.free md ops listed i=true) (hr:(Region.ready md ops listed).contains i=true)
  (hQ:∀ c a w,Q (.panic c) (a.put oi.dst v) w→Q (.panic c) a w) (hy:YieldsIf P ops S2 oi v a) (hc:listed.getD m2 false=false) (ht:T2 m1 m2 S1 S2 listed w)
  (h:dn P md ops Q (T2 m1 m2 S1 S2) fuel (listed.setIfInBounds i true) (a.put oi.dst v) w):dn P md ops Q (T2 m1 m2 S1 S2) (fuel+1) listed a w:=
 ms (S:=S2) (C:=fun l=>l.getD m2 false=false) hi (Region.noSelect_spec hs) hQ (fun l j oj hj hn hc=>(fU (uo hm hw hj hn)).trans hc) (fun l w hc ht=>ht.2 hc) (T2.set h1 h2) fuel listed a w (Region.free_spec hi hf) PJ hy hc ht h
def bP (P:Program) (md:Region.Mode) (ops:Array Oper) (Q:Exit→Act→World→Prop) (T:Array Bool→World→Prop) (fuel:Nat) (listed:Array Bool) (a:Act) (w:World) (rs:List Nat):Prop:=
 ∀ i ∈ rs,wpOp P ops Q i (fun a' w'=>T (listed.setIfInBounds i true) w'∧dn P md ops Q T fuel (listed.setIfInBounds i true) a' w') a w
theorem bP.nil:bP P md ops Q T fuel listed a w []:=fun _ h=>by cases h
theorem bP.cons {o:Oper} {rs:List Nat} (ho:ops[i]?=some o)
  (h:∀ K':Act→World→Prop,Shut (∀ a w,T (listed.setIfInBounds i true) w→dn P md ops Q T fuel (listed.setIfInBounds i true) a w→K' a w)→if Region.wanted o (yielded ops a.tmps)=true then Oper.wp P o a w K' Q else K' (a.put o.dst undef) w)
  (hs:bP P md ops Q T fuel listed a w rs):bP P md ops Q T fuel listed a w (i :: rs):=fun j hj=>by
 rcases List.mem_cons.1 hj with rfl|hj
 ·exact wpOp_step ho (fun K' hK=>h K' (fun a w hS hW=>hK a w ⟨hS,hW⟩))
 ·exact hs j hj
theorem xc {l:Array Bool} {o:Oper} (h:∀ K:Act→World→Prop,Shut (∀ a w,T (l.setIfInBounds i true) w→dn P md ops Q T fuel (l.setIfInBounds i true) a w→K a w)→if Region.wanted o (yielded ops a.tmps)=true then Oper.wp P o a w K Q else K (a.put o.dst undef) w) (ho:ops[i]?=some o:=by rfl):bP P md ops Q T fuel l a w [i]:=bP.cons ho h bP.nil
theorem uq {rs:List Nat} (hr:Region.ready md ops listed=rs) (hne:rs≠[])
  (h:bP P md ops Q T fuel listed a w rs):dn P md ops Q T (fuel+1) listed a w:=⟨fun h0=>absurd (hr ▸ h0) hne,hr ▸ h⟩
theorem xr (rs:List Nat) {P:Program} {md:Region.Mode} {ops:Array Oper} {Q:Exit→Act→World→Prop} {T:Array Bool→World→Prop} {fuel:Nat} {l:Array Bool} {a:Act} {w:World} (h:bP P md ops Q T fuel l a w rs) (hr:Region.ready md ops l=rs:=by kernel_rfl) (hn:rs≠[]:=by simp):dn P md ops Q T (fuel+1) l a w:=uq hr hn h
theorem eC (hr:Region.ready md ops listed=[]) (h:Q .normal a w) :
  ∀ fuel,dn P md ops Q T fuel listed a w
 | 0=>⟨hr,h⟩
 | _+1=>⟨fun _=>h,by rw [hr];simp⟩
theorem nk (hm:P.follows .mixedOrders=true) (h:dn P .any ops Q T ops.size (Array.replicate ops.size false) a w.drew):(Code.region id ops true).wp P Q a w:=
 wp_region_any hm (sK _ _ _ _ h)
def Qn (Q:Exit→Act→World→Prop):Exit→Act→World→Prop:=fun e a w=>e=.normal∧Q .normal a w
theorem Qn.Rm {d:Option Tmp}:∀ c (a:Act) w,Qn Q (.panic c) (a.put d v) w→Qn Q (.panic c) a w:=fun c a w h=>by cases h.1
theorem UC (i:Nat) {P:Program} {md:Region.Mode} {ops:Array Oper} {Q:Exit→Act→World→Prop} {oi:Oper} {v:Value} {fuel:Nat} {l:Array Bool} {a:Act} {w:World} {R:Prop} {m1 m2:Nat} {S1 S2:World→Prop} {om:Oper} (r:R) (hi:ops[i]?=some oi:=by rfl) (hm:ops[m2]?=some om:=by rfl) (hw:om.after.any (fun e=>Region.binds md e && e.on == i)=true:=by kernel_rfl) (h1:i≠m1:=by decide) (h2:i≠m2:=by decide) (hs:Region.noSelect ops=true:=by kernel_rfl) (hf:Region.free md ops l i=true:=by kernel_rfl) (hr:(Region.ready md ops l).contains i=true:=by kernel_rfl) (hy:YieldsIf P ops S2 oi v a:=by refine Or.inl ⟨by rfl,?_⟩;intro w hSw;(try dsimp only at hSw);go_simp;first|done|with_reducible rfl) (hc:l.getD m2 false=false:=by kernel_rfl) (hT:T2 m1 m2 S1 S2 l w:=by exact ht _) (k:R→dn P md ops (Qn Q) (T2 m1 m2 S1 S2) fuel (l.setIfInBounds i true) (a.put oi.dst v) w:=by intro k;(try simp only [sP]);exact k):dn P md ops (Qn Q) (T2 m1 m2 S1 S2) (fuel+1) l a w:=up hi hm hw h1 h2 hs hf hr Qn.Rm hy hc hT (k r)
theorem sL (i:Nat) {P:Program} {md:Region.Mode} {ops:Array Oper} {Q:Exit→Act→World→Prop} {oi:Oper} {v:Value} {fuel:Nat} {l:Array Bool} {a:Act} {w:World} {R:Prop} {m1 m2:Nat} {S1 S2:World→Prop} {om:Oper} (r:R) (hi:ops[i]?=some oi:=by rfl) (hm:ops[m1]?=some om:=by rfl) (hw:om.after.any (fun e=>Region.binds md e && e.on == i)=true:=by kernel_rfl) (h1:i≠m1:=by decide) (h2:i≠m2:=by decide) (hs:Region.noSelect ops=true:=by kernel_rfl) (hf:Region.free md ops l i=true:=by kernel_rfl) (hr:(Region.ready md ops l).contains i=true:=by kernel_rfl) (hy:YieldsIf P ops S1 oi v a:=by refine Or.inl ⟨by rfl,?_⟩;intro w hSw;(try dsimp only at hSw);go_simp;first|done|with_reducible rfl) (hc:l.getD m1 false=false:=by kernel_rfl) (hT:T2 m1 m2 S1 S2 l w:=by exact ht _) (k:R→dn P md ops (Qn Q) (T2 m1 m2 S1 S2) fuel (l.setIfInBounds i true) (a.put oi.dst v) w:=by intro k;(try simp only [sP]);exact k):dn P md ops (Qn Q) (T2 m1 m2 S1 S2) (fuel+1) l a w:=fN hi hm hw h1 h2 hs hf hr Qn.Rm hy hc hT (k r)
theorem dT (hm:P.follows .mixedOrders=true) (h:dn P .any ops (Qn Q) T ops.size (Array.replicate ops.size false) a w.drew):(Code.region id ops true).wp P Q a w:=
 wp_mono (nk hm h) (fun e a w h=>by obtain ⟨rfl,h⟩:=h;exact h)
end
end
end Go.Proofs.YtnnjbaijcaiohaaGreat
