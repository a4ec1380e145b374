/- Lemmas and walks of this claim. Conditions: as each states. -/
import Derived.Test.YtfflknbeidihoaaStItO
import Derived.Test.YtfflknbeidihoaaStMdG
set_option linter.unusedVariables false
set_option linter.unusedSimpArgs false
namespace Go.Proofs.Ytfflknbeidihoaa
open Go.RowKit
def lnR (r:RR):Prop:=r.num.length≤1000000∧r.den.length≤1000000
def lnO (l:List Out):Prop:=l.length≤1000000000∧∀ i,i < l.length→lnR (l.getD i dO).2
def lnX (x:DAct):Prop:=lnR x.cost∧lnO x.next
def lnA (l:List DAct):Prop:=l.length≤1000000000∧∀ i,i < l.length→lnX (l.getD i dA)
def lnS (l:List (List DAct)):Prop:=l.length≤1000000000∧∀ i,i < l.length→lnA (l.getD i [])
def ElO (w:World) (h:List Value) (y:Out):Prop:=∃ a1 c1 a2 c2,h=[.int .i64 y.1,.bool y.2.neg,.slice a1 y.2.num.length c1,.slice a2 y.2.den.length c2]∧SfU 0 w (.slice a1 y.2.num.length c1) y.2.num∧SfU 0 w (.slice a2 y.2.den.length c2) y.2.den
theorem ElO.keeps {B:Nat} {t:TypeId} (ht:115≠t) {w w':World} {h:List Value} {y:Out} (e:ElO w h y) (k:Keeps B t w w'):ElO w' h y:=by
 obtain ⟨a1,c1,a2,c2,e1,e2,e3⟩:=e
 exact ⟨a1,c1,a2,c2,e1,e2.keeps (k.mono (Nat.zero_le _)) ht,e3.keeps (k.mono (Nat.zero_le _)) ht⟩
theorem ElO.ext {w w':World} {h:List Value} {y:Out} (e:ElO w h y) (k:Ext w w'):ElO w' h y:=by
 obtain ⟨a1,c1,a2,c2,e1,e2,e3⟩:=e
 exact ⟨a1,c1,a2,c2,e1,e2.ext k,e3.ext k⟩
abbrev OwOs (B:Nat) (w:World) (v:Value) (l:List Out):Prop:=OwRow 77 4 ElO B w v l
theorem OwOs.ext {B:Nat} {w w':World} {v:Value} {l:List Out} (h:OwOs B w v l) (k:Ext w w'):OwOs B w' v l:=OwRow.ext h k (fun _ _ e=>e.ext k)
theorem OwOs.keeps {B C:Nat} {t:TypeId} {w w':World} {v:Value} {l:List Out} (h:OwOs B w v l) (k:Keeps C t w w') (h1:115≠t) (h2:77≠t):OwOs B w' v l:=OwRow.keepsG h k h2 (fun _ _ e=>e.keeps h1 k)
theorem OwOs.rd {B:Nat} {w:World} {v:Value} {l:List Out} (h:OwOs B w v l):RdOs w v l:=by
 obtain ⟨a,cap,hv,hc,hm,hr⟩:=OwRow.rdN h
 refine ⟨a,cap,hv,hc,hm,fun i hi=>?_⟩
 have hl:l[i]?=some (l.getD i dO):=by rw [List.getD_eq_getElem?_getD,List.getElem?_eq_getElem hi];rfl
 obtain ⟨b,h,e1,_,e2,e3,e4,a1,c1,a2,c2,e5,e6,e7⟩:=hr i _ hl
 subst e5
 refine ⟨b,0,a1,c1,a2,c2,e1,e2,?_,?_,?_,?_,_,_,rfl,e6.rd,e7.rd⟩
 ·rw [Nat.zero_add];exact e4 0 (by omega)
 ·rw [Nat.zero_add];exact e4 1 (by omega)
 ·rw [Nat.zero_add];exact e4 2 (by omega)
 ·rw [Nat.zero_add];exact e4 3 (by omega)
def ElX (w:World) (h:List Value) (x:DAct):Prop:=∃ a1 c1 a2 c2 a3 c3 B,h=[.bool x.cost.neg,.slice a1 x.cost.num.length c1,.slice a2 x.cost.den.length c2,.slice a3 x.next.length c3]∧SfU 0 w (.slice a1 x.cost.num.length c1) x.cost.num∧SfU 0 w (.slice a2 x.cost.den.length c2) x.cost.den∧OwOs B w (.slice a3 x.next.length c3) x.next
theorem ElX.keeps {B:Nat} {t:TypeId} (h1:115≠t) (h2:77≠t) {w w':World} {h:List Value} {x:DAct} (e:ElX w h x) (k:Keeps B t w w'):ElX w' h x:=by
 obtain ⟨a1,c1,a2,c2,a3,c3,C,e1,e2,e3,e4⟩:=e
 exact ⟨a1,c1,a2,c2,a3,c3,C,e1,e2.keeps (k.mono (Nat.zero_le _)) h1,e3.keeps (k.mono (Nat.zero_le _)) h1,e4.keeps k h1 h2⟩
theorem ElX.ext {w w':World} {h:List Value} {x:DAct} (e:ElX w h x) (k:Ext w w'):ElX w' h x:=by
 obtain ⟨a1,c1,a2,c2,a3,c3,C,e1,e2,e3,e4⟩:=e
 exact ⟨a1,c1,a2,c2,a3,c3,C,e1,e2.ext k,e3.ext k,e4.ext k⟩
abbrev OwXs (B:Nat) (w:World) (v:Value) (l:List DAct):Prop:=OwRow 53 4 ElX B w v l
theorem OwXs.ext {B:Nat} {w w':World} {v:Value} {l:List DAct} (h:OwXs B w v l) (k:Ext w w'):OwXs B w' v l:=OwRow.ext h k (fun _ _ e=>e.ext k)
theorem OwXs.keeps {B C:Nat} {t:TypeId} {w w':World} {v:Value} {l:List DAct} (h:OwXs B w v l) (k:Keeps C t w w') (h1:115≠t) (h2:77≠t) (h3:53≠t):OwXs B w' v l:=OwRow.keepsG h k h3 (fun _ _ e=>e.keeps h1 h2 k)
def ElT (B:Nat) (w:World) (h:List Value) (ac:List DAct):Prop:=∃ a c C,h=[.slice a ac.length c]∧B≤C∧OwXs C w (.slice a ac.length c) ac
theorem ElT.keeps {B D:Nat} {t:TypeId} (h1:115≠t) (h2:77≠t) (h3:53≠t) {w w':World} {h:List Value} {ac:List DAct} (e:ElT B w h ac) (k:Keeps D t w w'):ElT B w' h ac:=by
 obtain ⟨a,c,C,e1,e2,e3⟩:=e
 exact ⟨a,c,C,e1,e2,e3.keeps k h1 h2 h3⟩
theorem ElT.ext {B:Nat} {w w':World} {h:List Value} {ac:List DAct} (e:ElT B w h ac) (k:Ext w w'):ElT B w' h ac:=by
 obtain ⟨a,c,C,e1,e2,e3⟩:=e
 exact ⟨a,c,C,e1,e2,e3.ext k⟩
abbrev OwT (B:Nat) (w:World) (v:Value) (l:List (List DAct)):Prop:=OwRow 50 1 (ElT B) B w v l
theorem OwT.ext {B:Nat} {w w':World} {v:Value} {l:List (List DAct)} (h:OwT B w v l) (k:Ext w w'):OwT B w' v l:=OwRow.ext h k (fun _ _ e=>e.ext k)
theorem OwT.keeps {B C:Nat} {t:TypeId} {w w':World} {v:Value} {l:List (List DAct)} (h:OwT B w v l) (k:Keeps C t w w') (h1:115≠t) (h2:77≠t) (h3:53≠t) (h4:50≠t):OwT B w' v l:=OwRow.keepsG h k h4 (fun _ _ e=>e.keeps h1 h2 h3 k)
theorem Try.infoO:(Try.prog.info? 77).map (fun i=>(i.zero,i.size,i.bytes))=some (some (.agg #[.int .i64 0,.bool false,.slice none 0 0,.slice none 0 0]),4,64):=by kernel_rfl
theorem Try.infoX:(Try.prog.info? 53).map (fun i=>(i.zero,i.size,i.bytes))=some (some (.agg #[.bool false,.slice none 0 0,.slice none 0 0,.slice none 0 0]),4,80):=by kernel_rfl
theorem Try.infoT:(Try.prog.info? 50).map (fun i=>(i.zero,i.size,i.bytes))=some (some (.slice none 0 0),1,24):=by kernel_rfl
theorem keeps_set4 {w:World} {b:Nat} {c:Array Value} {t:TypeId} (hb:Blk w b c t) (x y z u:Value):Keeps 0 t w ((((w.setCell ⟨b,0,none⟩ x).setCell ⟨b,1,none⟩ y).setCell ⟨b,2,none⟩ z).setCell ⟨b,3,none⟩ u):=
 (((keeps_setC hb 0 x).trans (keeps_setC (hb.set 0 x) 1 y)).trans (keeps_setC ((hb.set 0 x).set 1 y) 2 z)).trans (keeps_setC (((hb.set 0 x).set 1 y).set 2 z) 3 u)
theorem sfU_new {w0 w:World} {b:Bool} {a1 a2:Option Addr} {n1 n2 c1 c2:Nat} {r:RR} (h:NewR w0 w (.agg #[.bool b,.slice a1 n1 c1,.slice a2 n2 c2]) r):SfU 0 w (.slice a1 n1 c1) r.num∧SfU 0 w (.slice a2 n2 c2) r.den:=by
 obtain ⟨vn,vd,e,h1,h2⟩:=h
 injection e with e
 simp only [Array.mk.injEq,List.cons.injEq,and_true,true_and] at e
 obtain ⟨_,rfl,rfl⟩:=e
 exact ⟨SfU.new h1,SfU.new h2⟩
def cpoJ (An:Nat) (y:Out) (p1 p2:Option Addr) (d1 d2:Nat) (j:Nat) (v:Value) (W:World):Prop:=
 match j with
 | 0=>v=.pointer (some ⟨An,0,none⟩)
 | 1=>v=.int .i64 y.1
 | 2=>v=.pointer (some ⟨An,1,none⟩)
 | 3=>v=.agg #[.bool y.2.neg,.slice p1 y.2.num.length d1,.slice p2 y.2.den.length d2]
 | 4=>∃ a1 c1 a2 c2,v=.agg #[.bool y.2.neg,.slice a1 y.2.num.length c1,.slice a2 y.2.den.length c2]∧SfU 0 W (.slice a1 y.2.num.length c1) y.2.num∧SfU 0 W (.slice a2 y.2.den.length c2) y.2.den
 | 5=>∃ a1 c1 a2 c2,v=.agg #[.int .i64 y.1,.bool y.2.neg,.slice a1 y.2.num.length c1,.slice a2 y.2.den.length c2]∧SfU 0 W (.slice a1 y.2.num.length c1) y.2.num∧SfU 0 W (.slice a2 y.2.den.length c2) y.2.den
 | _=>True
theorem cpoJ_ext {An:Nat} {y:Out} {p1 p2:Option Addr} {d1 d2:Nat} {j:Nat} {v:Value} {W W':World} (h:cpoJ An y p1 p2 d1 d2 j v W) (x:Ext W W'):cpoJ An y p1 p2 d1 d2 j v W':=by
 match j,h with
 | 0,h=>exact h
 | 1,h=>exact h
 | 2,h=>exact h
 | 3,h=>exact h
 | 4,⟨a1,c1,a2,c2,h1,h2,h3⟩=>exact ⟨a1,c1,a2,c2,h1,h2.ext x,h3.ext x⟩
 | 5,⟨a1,c1,a2,c2,h1,h2,h3⟩=>exact ⟨a1,c1,a2,c2,h1,h2.ext x,h3.ext x⟩
 | _+6,_=>trivial
set_option maxRecDepth 100000 in
set_option maxHeartbeats 2000000 in
theorem copyOutcome_any (y:Out) (p1 p2:Option Addr) (d1 d2:Nat) (w:World) (h:RdR w (.agg #[.bool y.2.neg,.slice p1 y.2.num.length d1,.slice p2 y.2.den.length d2]) y.2) (hs:lnR y.2) :
  Calls Try.prog 100 #[.agg #[.int .i64 y.1,.bool y.2.neg,.slice p1 y.2.num.length d1,.slice p2 y.2.den.length d2]] w fun e w'=>(∃ a1 c1 a2 c2,e=.returned (.agg #[.int .i64 y.1,.bool y.2.neg,.slice a1 y.2.num.length c1,.slice a2 y.2.den.length c2])∧ElO w' [.int .i64 y.1,.bool y.2.neg,.slice a1 y.2.num.length c1,.slice a2 y.2.den.length c2] y)∧Ext w w':=by
 have HN:=kI h;have HS:=kI hs
 clear h hs
 have bb0:=((Blk.new w #[.int .i64 y.1,.bool y.2.neg,.slice p1 y.2.num.length d1,.slice p2 y.2.den.length d2] 77).alloc (.cells #[.int .i64 0,.bool false,.slice none 0 0,.slice none 0 0] 77))
 have bb1:=(Blk.new (w.alloc (.cells #[.int .i64 y.1,.bool y.2.neg,.slice p1 y.2.num.length d1,.slice p2 y.2.den.length d2] 77)) #[.int .i64 0,.bool false,.slice none 0 0,.slice none 0 0] 77)
 rw [World.size_alloc] at bb1
 have x0:Ext w ((w.alloc (.cells #[.int .i64 y.1,.bool y.2.neg,.slice p1 y.2.num.length d1,.slice p2 y.2.den.length d2] 77)).alloc (.cells #[.int .i64 0,.bool false,.slice none 0 0,.slice none 0 0] 77)):=(((Ext.refl w).alloc _).alloc _)
 have A0:=kI bb0;have A1:=kI bb1;have X:=kI x0
 clear x0 bb0 bb1
 go_enter Try.func100,Try.ntmps100
 go_wp2_with fail
 obtain ⟨An,hAn⟩:∃ n,n=w.heap.size:=⟨_,rfl⟩
 rw [← hAn] at A0 A1 ⊢
 obtain ⟨w1,hw1⟩:∃ W,W=((w.alloc (.cells #[.int .i64 y.1,.bool y.2.neg,.slice p1 y.2.num.length d1,.slice p2 y.2.den.length d2] 77)).alloc (.cells #[.int .i64 0,.bool false,.slice none 0 0,.slice none 0 0] 77)):=⟨_,rfl⟩
 rw [← hw1] at A0 A1 X ⊢
 have AN:=kI hAn
 clear hAn hw1
 replace HN:=kI (HN.o.ext X.o)
 refine wp_region_each_tail 6 (cpoJ An y p1 p2 d1 d2) (by kernel_rfl) (by kernel_rfl) (by kernel_rfl) (fun _ _ _ _ h x=>cpoJ_ext h x) ?_ ?_
 ·refine ⟨?_,?_,?_,?_,?_,?_,trivial⟩
  ·intro a W hW hB hD K hK
   have b1:=hB 1 rfl
   simp only [Array.getD_eq_getD_getElem?,List.getElem?_toArray,List.getElem?_cons_succ,List.getElem?_cons_zero,Option.getD_some] at b1
   go_simp;exact hK _ _ (Ext.refl _) rfl
  ·intro a W hW hB hD K hK
   obtain ⟨v3,e3⟩:∃ x,a.tmps.getD 3 undef=x:=⟨_,rfl⟩
   have h3:=hD 0 _ 3 rfl rfl (by kernel_rfl)
   rw [e3] at h3
   simp only [Array.getD_eq_getD_getElem?] at e3
   obtain rfl:=h3
   have q9:=(A0.o.ext hW).cell;have l9:=(A0.o.ext hW).lt
   go_simp;exact hK _ _ (Ext.refl _) rfl
  ·intro a W hW hB hD K hK
   have b1:=hB 1 rfl
   simp only [Array.getD_eq_getD_getElem?,List.getElem?_toArray,List.getElem?_cons_succ,List.getElem?_cons_zero,Option.getD_some] at b1
   go_simp;exact hK _ _ (Ext.refl _) rfl
  ·intro a W hW hB hD K hK
   obtain ⟨v5,e5⟩:∃ x,a.tmps.getD 5 undef=x:=⟨_,rfl⟩
   have h5:=hD 2 _ 5 rfl rfl (by kernel_rfl)
   rw [e5] at h5
   simp only [Array.getD_eq_getD_getElem?] at e5
   obtain rfl:=h5
   have q9:=(A0.o.ext hW).cell;have l9:=(A0.o.ext hW).lt
   go_simp;exact hK _ _ (Ext.refl _) rfl
  ·intro a W hW hB hD K hK
   obtain ⟨v6,e6⟩:∃ x,a.tmps.getD 6 undef=x:=⟨_,rfl⟩
   have h6:=hD 3 _ 6 rfl rfl (by kernel_rfl)
   rw [e6] at h6
   simp only [Array.getD_eq_getD_getElem?] at e6
   obtain rfl:=h6
   go_simp
   refine (copyRat_any _ y.2 _ (HN.o.ext hW) HS.o).mono ?_
   rintro e w9 ⟨⟨v,rfl,nn⟩,hx⟩
   obtain ⟨x1,x2,x3,x4,rfl⟩:=nn.shape
   obtain ⟨s1,s2⟩:=sfU_new nn
   exact hK _ _ hx ⟨_,_,_,_,rfl,s1,s2⟩
  ·intro a W hW hB hD K hK
   obtain ⟨v4,e4⟩:∃ x,a.tmps.getD 4 undef=x:=⟨_,rfl⟩
   have h4:=hD 1 _ 4 rfl rfl (by kernel_rfl)
   rw [e4] at h4
   simp only [Array.getD_eq_getD_getElem?] at e4
   obtain rfl:=h4
   obtain ⟨v7,e7⟩:∃ x,a.tmps.getD 7 undef=x:=⟨_,rfl⟩
   have h7:=hD 4 _ 7 rfl rfl (by kernel_rfl)
   rw [e7] at h7
   simp only [Array.getD_eq_getD_getElem?] at e7
   obtain ⟨x1,x2,x3,x4,rfl,e1,e2⟩:=h7
   go_simp
   exact hK _ _ (Ext.refl _) ⟨_,_,_,_,rfl,e1,e2⟩
 intro w9 hx
 simp only [Vals,List.take_succ_cons,List.take_zero,List.drop_succ_cons,List.drop_zero]
 rintro u0 - u1 - u2 - u3 - u4 - u5 h9
 obtain ⟨a1,c1,a2,c2,rfl,h1,h2⟩:=h9
 simp only [Act.put,List.setIfInBounds_toArray,List.set_cons_zero,List.set_cons_succ]
 have B1:=kI (A1.o.ext hx);have X1:=kI (X.o.trans hx)
 have q1:=B1.o.cell;have f1:=B1.o.free;have l1:=B1.o.lt
 have E1:=kI h1;have E2:=kI h2;clear h1 h2
 clear hx
 go_wp2_with fail
 refine bodyPost_ret (v:=.agg #[.int .i64 y.1,.bool y.2.neg,.slice a1 y.2.num.length c1,.slice a2 y.2.den.length c2]) (by simp only [results,Try.results100];go_simp) rfl ⟨⟨_,_,_,_,rfl,_,_,_,_,rfl,E1.o.keeps (keeps_set4 B1.o _ _ _ _) (by decide),E2.o.keeps (keeps_set4 B1.o _ _ _ _) (by decide)⟩,?_⟩
 have:=X1.o;have:=AN.o;(repeat (first|(with_reducible first|exact Ext.refl _|assumption|refine Ext.alloc ?_ _)|((with_reducible refine Ext.setp ?_ ?_);focus (dsimp only;omega))|(with_reducible first|refine Ext.drew ?_|refine Ext.drewN ?_ _|refine Ext.trans ?_ (by assumption))))
set_option maxRecDepth 100000 in
set_option maxHeartbeats 2000000 in
theorem copyOutcomes_any (v:Value) (l:List Out) (w:World) (h:RdOs w v l) (hl:lnO l) :
  Calls Try.prog 92 #[v] w fun e w'=>(∃ v',e=.returned v'∧OwOs w.heap.size w' v' l)∧Ext w w':=by
 obtain ⟨a,cap,rfl,hlm⟩:=h.shape
 have HR:=kI h;have HL:=kI hl
 have hlb:=hl.1
 clear h hl
 go_enter Try.func92,Try.ntmps92
 go_wp2_with fail
 go_loopw [3,4] (fun v i wr=>∃ k:Nat,k≤l.length∧i=.int .i64 k∧OwOs w.heap.size wr v (l.take k)∧Ext w wr) (fun _ i _=>l.length - (intOf i).toNat)
 case atStart=>exact ⟨0,Nat.zero_le _,rfl,OwRow.nil _ _ _ _ _,Ext.refl w⟩
 case round=>
  obtain ⟨k,hk,rfl,hown,hext⟩:=hrel
  by_cases hlt:k < l.length
  ·obtain ⟨b,off,p1,d1,p2,d2,rfl,z⟩:=(HR.o.ext hext).at hlt
   obtain ⟨hb,y0,y1,y2,y3,hrd⟩:=z
   have hcp:=copyOutcome_any _ _ _ _ _ wr hrd (HL.o.2 k hlt)
   clear hrd
   have hts:=take_snocD l k dO hlt
   have hlk:=List.length_take_of_le (Nat.le_of_lt hlt)
   obtain ⟨r,hrr⟩:∃ r,r=l.getD k dO:=⟨_,rfl⟩
   rw [← hrr] at hts hcp y0 y1 y2 y3
   have HC:=kI hcp;have HO:=kI hown;have HX:=kI hext;have HT:=kI hts;have HLK:=kI hlk
   have hz:=hext.size
   have q1:(0:Int)≤(k:Int):=by omega
   have q2:(k:Int) < (l.length:Int):=by omega
   clear hcp hown hext hts hlk hrr
   go_wp2_with fail
   refine HC.o.mono ?_
   rintro e w1 ⟨⟨g0,g1,g2,g3,rfl,hel⟩,hx⟩
   have HE:=kI hel
   clear hel
   replace HO:=kI (OwOs.ext HO.o hx);replace HX:=kI (HX.o.trans hx)
   have hz1:=HX.o.size
   clear y0 y1 y2 y3
   go_wp2_with (at_builtin;(refine wpList_append_row (El:=ElO) (l:=l.take k) w1 rfl _ _ 51 rfl w.heap.size 77 (.agg #[.int .i64 0,.bool false,.slice none 0 0,.slice none 0 0]) 4 64 Try.underlying51 Try.infoO rfl (by decide) (fun _ _ _ _ e k=>ElO.keeps (by decide) e k) _ HO.o rfl [.int .i64 r.1,.bool r.2.neg,.slice g0 r.2.num.length g1,.slice g2 r.2.den.length g3] rfl (by simp [Value.oneCell']) r HE.o rfl (by have:=HLK.o;omega) (by have:=HLK.o;omega) hz1 ?_))
   intro g cap2 w2 hown2 hk2
   have HO2:=kI hown2;have HX2:=kI (Below.trans HX.o (hk2.below hz1))
   clear hown2 hk2
   go_wp2
   go_roundw
   case rel=>
    refine ⟨k+1,by omega,by go_num,?_,HX2.o⟩
    rw [HT.o]
    exact HO2.o
   case measure=>simp [intOf];omega
  ·rw [List.take_of_length_le (by omega)] at hown
   have HO:=kI hown;have HX:=kI hext
   clear hown hext
   go_wp2
   go_ret
   exact ⟨⟨_,rfl,HO.o⟩,HX.o⟩
def cpaJ (An:Nat) (ya:DAct) (p1 p2 p3:Option Addr) (d1 d2 d3:Nat) (j:Nat) (v:Value) (W:World):Prop:=
 match j with
 | 0=>v=.pointer (some ⟨An,0,none⟩)
 | 1=>v=.agg #[.bool ya.cost.neg,.slice p1 ya.cost.num.length d1,.slice p2 ya.cost.den.length d2]
 | 2=>∃ a1 c1 a2 c2,v=.agg #[.bool ya.cost.neg,.slice a1 ya.cost.num.length c1,.slice a2 ya.cost.den.length c2]∧SfU 0 W (.slice a1 ya.cost.num.length c1) ya.cost.num∧SfU 0 W (.slice a2 ya.cost.den.length c2) ya.cost.den
 | 3=>v=.pointer (some ⟨An,3,none⟩)
 | 4=>v=.slice p3 ya.next.length d3
 | 5=>∃ a3 c3,v=.slice a3 ya.next.length c3∧∃ B,0≤B∧OwOs B W (.slice a3 ya.next.length c3) ya.next
 | 6=>∃ a1 c1 a2 c2 a3 c3,v=.agg #[.bool ya.cost.neg,.slice a1 ya.cost.num.length c1,.slice a2 ya.cost.den.length c2,.slice a3 ya.next.length c3]∧SfU 0 W (.slice a1 ya.cost.num.length c1) ya.cost.num∧SfU 0 W (.slice a2 ya.cost.den.length c2) ya.cost.den∧∃ B,0≤B∧OwOs B W (.slice a3 ya.next.length c3) ya.next
 | _=>True
theorem cpaJ_ext {An:Nat} {ya:DAct} {p1 p2 p3:Option Addr} {d1 d2 d3:Nat} {j:Nat} {v:Value} {W W':World} (h:cpaJ An ya p1 p2 p3 d1 d2 d3 j v W) (x:Ext W W'):cpaJ An ya p1 p2 p3 d1 d2 d3 j v W':=by
 match j,h with
 | 0,h=>exact h
 | 1,h=>exact h
 | 2,⟨a1,c1,a2,c2,h1,h2,h3⟩=>exact ⟨a1,c1,a2,c2,h1,h2.ext x,h3.ext x⟩
 | 3,h=>exact h
 | 4,h=>exact h
 | 5,⟨a3,c3,h1,B,hB,h2⟩=>exact ⟨a3,c3,h1,B,hB,h2.ext x⟩
 | 6,⟨a1,c1,a2,c2,a3,c3,h1,h2,h3,B,hB,h4⟩=>exact ⟨a1,c1,a2,c2,a3,c3,h1,h2.ext x,h3.ext x,B,hB,h4.ext x⟩
 | _+7,_=>trivial
set_option maxRecDepth 100000 in
set_option maxHeartbeats 2000000 in
theorem copyAction_any (ya:DAct) (p1 p2 p3:Option Addr) (d1 d2 d3:Nat) (w:World) (h:RdR w (.agg #[.bool ya.cost.neg,.slice p1 ya.cost.num.length d1,.slice p2 ya.cost.den.length d2]) ya.cost) (hn:RdOs w (.slice p3 ya.next.length d3) ya.next) (hs:lnX ya) :
  Calls Try.prog 82 #[.agg #[.bool ya.cost.neg,.slice p1 ya.cost.num.length d1,.slice p2 ya.cost.den.length d2,.slice p3 ya.next.length d3]] w fun e w'=>(∃ a1 c1 a2 c2 a3 c3,e=.returned (.agg #[.bool ya.cost.neg,.slice a1 ya.cost.num.length c1,.slice a2 ya.cost.den.length c2,.slice a3 ya.next.length c3])∧ElX w' [.bool ya.cost.neg,.slice a1 ya.cost.num.length c1,.slice a2 ya.cost.den.length c2,.slice a3 ya.next.length c3] ya)∧Ext w w':=by
 have HN:=kI h;have HO:=kI hn;have HS:=kI hs.1;have HL:=kI hs.2
 clear h hs hn
 have bb0:=((Blk.new w #[.bool ya.cost.neg,.slice p1 ya.cost.num.length d1,.slice p2 ya.cost.den.length d2,.slice p3 ya.next.length d3] 53).alloc (.cells #[.bool false,.slice none 0 0,.slice none 0 0,.slice none 0 0] 53))
 have bb1:=(Blk.new (w.alloc (.cells #[.bool ya.cost.neg,.slice p1 ya.cost.num.length d1,.slice p2 ya.cost.den.length d2,.slice p3 ya.next.length d3] 53)) #[.bool false,.slice none 0 0,.slice none 0 0,.slice none 0 0] 53)
 rw [World.size_alloc] at bb1
 have x0:Ext w ((w.alloc (.cells #[.bool ya.cost.neg,.slice p1 ya.cost.num.length d1,.slice p2 ya.cost.den.length d2,.slice p3 ya.next.length d3] 53)).alloc (.cells #[.bool false,.slice none 0 0,.slice none 0 0,.slice none 0 0] 53)):=(((Ext.refl w).alloc _).alloc _)
 have A0:=kI bb0;have A1:=kI bb1;have X:=kI x0
 clear x0 bb0 bb1
 go_enter Try.func82,Try.ntmps82
 go_wp2_with fail
 obtain ⟨An,hAn⟩:∃ n,n=w.heap.size:=⟨_,rfl⟩
 rw [← hAn] at A0 A1 ⊢
 obtain ⟨w1,hw1⟩:∃ W,W=((w.alloc (.cells #[.bool ya.cost.neg,.slice p1 ya.cost.num.length d1,.slice p2 ya.cost.den.length d2,.slice p3 ya.next.length d3] 53)).alloc (.cells #[.bool false,.slice none 0 0,.slice none 0 0,.slice none 0 0] 53)):=⟨_,rfl⟩
 rw [← hw1] at A0 A1 X ⊢
 have AN:=kI hAn
 clear hAn hw1
 replace HN:=kI (HN.o.ext X.o);replace HO:=kI (HO.o.ext X.o)
 refine wp_region_each_tail 7 (cpaJ An ya p1 p2 p3 d1 d2 d3) (by kernel_rfl) (by kernel_rfl) (by kernel_rfl) (fun _ _ _ _ h x=>cpaJ_ext h x) ?_ ?_
 ·refine ⟨?_,?_,?_,?_,?_,?_,?_,trivial⟩
  ·intro a W hW hB hD K hK
   have b1:=hB 1 rfl
   simp only [Array.getD_eq_getD_getElem?,List.getElem?_toArray,List.getElem?_cons_succ,List.getElem?_cons_zero,Option.getD_some] at b1
   go_simp;exact hK _ _ (Ext.refl _) rfl
  ·intro a W hW hB hD K hK
   obtain ⟨v3,e3⟩:∃ x,a.tmps.getD 3 undef=x:=⟨_,rfl⟩
   have h3:=hD 0 _ 3 rfl rfl (by kernel_rfl)
   rw [e3] at h3
   simp only [Array.getD_eq_getD_getElem?] at e3
   obtain rfl:=h3
   have q9:=(A0.o.ext hW).cell;have l9:=(A0.o.ext hW).lt
   go_simp;exact hK _ _ (Ext.refl _) rfl
  ·intro a W hW hB hD K hK
   obtain ⟨v4,e4⟩:∃ x,a.tmps.getD 4 undef=x:=⟨_,rfl⟩
   have h4:=hD 1 _ 4 rfl rfl (by kernel_rfl)
   rw [e4] at h4
   simp only [Array.getD_eq_getD_getElem?] at e4
   obtain rfl:=h4
   go_simp
   refine (copyRat_any _ ya.cost _ (HN.o.ext hW) HS.o).mono ?_
   rintro e w9 ⟨⟨v,rfl,nn⟩,hx⟩
   obtain ⟨x1,x2,x3,x4,rfl⟩:=nn.shape
   obtain ⟨s1,s2⟩:=sfU_new nn
   exact hK _ _ hx ⟨_,_,_,_,rfl,s1,s2⟩
  ·intro a W hW hB hD K hK
   have b1:=hB 1 rfl
   simp only [Array.getD_eq_getD_getElem?,List.getElem?_toArray,List.getElem?_cons_succ,List.getElem?_cons_zero,Option.getD_some] at b1
   go_simp;exact hK _ _ (Ext.refl _) rfl
  ·intro a W hW hB hD K hK
   obtain ⟨v6,e6⟩:∃ x,a.tmps.getD 6 undef=x:=⟨_,rfl⟩
   have h6:=hD 3 _ 6 rfl rfl (by kernel_rfl)
   rw [e6] at h6
   simp only [Array.getD_eq_getD_getElem?] at e6
   obtain rfl:=h6
   have q9:=(A0.o.ext hW).cell;have l9:=(A0.o.ext hW).lt
   go_simp;exact hK _ _ (Ext.refl _) rfl
  ·intro a W hW hB hD K hK
   obtain ⟨v7,e7⟩:∃ x,a.tmps.getD 7 undef=x:=⟨_,rfl⟩
   have h7:=hD 4 _ 7 rfl rfl (by kernel_rfl)
   rw [e7] at h7
   simp only [Array.getD_eq_getD_getElem?] at e7
   obtain rfl:=h7
   go_simp
   refine (copyOutcomes_any _ ya.next _ (HO.o.ext hW) HL.o).mono ?_
   rintro e w9 ⟨⟨v,rfl,nn⟩,hx⟩
   obtain ⟨x1,x2,rfl,-⟩:=OwRow.rdN nn
   exact hK _ _ hx ⟨_,_,rfl,_,Nat.zero_le _,nn⟩
  ·intro a W hW hB hD K hK
   obtain ⟨v5,e5⟩:∃ x,a.tmps.getD 5 undef=x:=⟨_,rfl⟩
   have h5:=hD 2 _ 5 rfl rfl (by kernel_rfl)
   rw [e5] at h5
   simp only [Array.getD_eq_getD_getElem?] at e5
   obtain ⟨x1,x2,x3,x4,rfl,e1,e2⟩:=h5
   obtain ⟨v8,e8⟩:∃ x,a.tmps.getD 8 undef=x:=⟨_,rfl⟩
   have h8:=hD 5 _ 8 rfl rfl (by kernel_rfl)
   rw [e8] at h8
   simp only [Array.getD_eq_getD_getElem?] at e8
   obtain ⟨x5,x6,rfl,e3⟩:=h8
   go_simp
   exact hK _ _ (Ext.refl _) ⟨_,_,_,_,_,_,rfl,e1,e2,e3⟩
 intro w9 hx
 simp only [Vals,List.take_succ_cons,List.take_zero,List.drop_succ_cons,List.drop_zero]
 rintro u0 - u1 - u2 - u3 - u4 - u5 - u6 h9
 obtain ⟨a1,c1,a2,c2,a3,c3,rfl,h1,h2,h3⟩:=h9
 simp only [Act.put,List.setIfInBounds_toArray,List.set_cons_zero,List.set_cons_succ]
 have B1:=kI (A1.o.ext hx);have X1:=kI (X.o.trans hx)
 have q1:=B1.o.cell;have f1:=B1.o.free;have l1:=B1.o.lt
 have E1:=kI h1;have E2:=kI h2;have E3:=kI h3;clear h1 h2 h3
 clear hx
 go_wp2_with fail
 obtain ⟨C,hC,h3⟩:=E3.o
 refine bodyPost_ret (v:=.agg #[.bool ya.cost.neg,.slice a1 ya.cost.num.length c1,.slice a2 ya.cost.den.length c2,.slice a3 ya.next.length c3]) (by simp only [results,Try.results82];go_simp) rfl ⟨⟨_,_,_,_,_,_,rfl,_,_,_,_,_,_,C,rfl,E1.o.keeps (keeps_set4 B1.o _ _ _ _) (by decide),E2.o.keeps (keeps_set4 B1.o _ _ _ _) (by decide),h3.keeps (keeps_set4 B1.o _ _ _ _) (by decide) (by decide)⟩,?_⟩
 have:=X1.o;have:=AN.o;(repeat (first|(with_reducible first|exact Ext.refl _|assumption|refine Ext.alloc ?_ _)|((with_reducible refine Ext.setp ?_ ?_);focus (dsimp only;omega))|(with_reducible first|refine Ext.drew ?_|refine Ext.drewN ?_ _|refine Ext.trans ?_ (by assumption))))
set_option maxRecDepth 100000 in
set_option maxHeartbeats 2000000 in
theorem copyActions_any (v:Value) (l:List DAct) (w:World) (h:RdAs w v l) (hl:lnA l) :
  Calls Try.prog 65 #[v] w fun e w'=>(∃ v',e=.returned v'∧OwXs w.heap.size w' v' l)∧Ext w w':=by
 obtain ⟨a,cap,rfl,hlm⟩:=h.shape
 have HR:=kI h;have HL:=kI hl
 have hlb:=hl.1
 clear h hl
 go_enter Try.func65,Try.ntmps65
 go_wp2_with fail
 go_loopw [3,4] (fun v i wr=>∃ k:Nat,k≤l.length∧i=.int .i64 k∧OwXs w.heap.size wr v (l.take k)∧Ext w wr) (fun _ i _=>l.length - (intOf i).toNat)
 case atStart=>exact ⟨0,Nat.zero_le _,rfl,OwRow.nil _ _ _ _ _,Ext.refl w⟩
 case round=>
  obtain ⟨k,hk,rfl,hown,hext⟩:=hrel
  by_cases hlt:k < l.length
  ·obtain ⟨b,off,p1,d1,p2,d2,p3,d3,rfl,z⟩:=(HR.o.ext hext).at hlt
   obtain ⟨⟨hb,y0,y1,y2,hrd⟩,y3,hrn⟩:=z
   have hcp:=copyAction_any _ _ _ _ _ _ _ wr hrd hrn (HL.o.2 k hlt)
   clear hrd hrn
   have hts:=take_snocD l k dA hlt
   have hlk:=List.length_take_of_le (Nat.le_of_lt hlt)
   obtain ⟨r,hrr⟩:∃ r,r=l.getD k dA:=⟨_,rfl⟩
   rw [← hrr] at hts hcp y0 y1 y2 y3
   have HC:=kI hcp;have HO:=kI hown;have HX:=kI hext;have HT:=kI hts;have HLK:=kI hlk
   have hz:=hext.size
   have q1:(0:Int)≤(k:Int):=by omega
   have q2:(k:Int) < (l.length:Int):=by omega
   clear hcp hown hext hts hlk hrr
   go_wp2_with fail
   refine HC.o.mono ?_
   rintro e w1 ⟨⟨g0,g1,g2,g3,g4,g5,rfl,hel⟩,hx⟩
   have HE:=kI hel
   clear hel
   replace HO:=kI (OwXs.ext HO.o hx);replace HX:=kI (HX.o.trans hx)
   have hz1:=HX.o.size
   clear y0 y1 y2 y3
   go_wp2_with (at_builtin;(refine wpList_append_row (El:=ElX) (l:=l.take k) w1 rfl _ _ 50 rfl w.heap.size 53 (.agg #[.bool false,.slice none 0 0,.slice none 0 0,.slice none 0 0]) 4 80 Try.underlying50 Try.infoX rfl (by decide) (fun _ _ _ _ e k=>ElX.keeps (by decide) (by decide) e k) _ HO.o rfl [.bool r.cost.neg,.slice g0 r.cost.num.length g1,.slice g2 r.cost.den.length g3,.slice g4 r.next.length g5] rfl (by simp [Value.oneCell']) r HE.o rfl (by have:=HLK.o;omega) (by have:=HLK.o;omega) hz1 ?_))
   intro g cap2 w2 hown2 hk2
   have HO2:=kI hown2;have HX2:=kI (Below.trans HX.o (hk2.below hz1))
   clear hown2 hk2
   go_wp2
   go_roundw
   case rel=>
    refine ⟨k+1,by omega,by go_num,?_,HX2.o⟩
    rw [HT.o]
    exact HO2.o
   case measure=>simp [intOf];omega
  ·rw [List.take_of_length_le (by omega)] at hown
   have HO:=kI hown;have HX:=kI hext
   clear hown hext
   go_wp2
   go_ret
   exact ⟨⟨_,rfl,HO.o⟩,HX.o⟩
set_option maxRecDepth 100000 in
set_option maxHeartbeats 2000000 in
theorem copyStates_any (v:Value) (l:List (List DAct)) (w:World) (h:RdSt w v l) (hl:lnS l) :
  Calls Try.prog 42 #[v] w fun e w'=>(∃ v',e=.returned v'∧OwT w.heap.size w' v' l)∧Ext w w':=by
 obtain ⟨a,cap,rfl,hlm⟩:=h.shape
 have HR:=kI h;have HL:=kI hl
 have hlb:=hl.1
 clear h hl
 go_enter Try.func42,Try.ntmps42
 go_wp2_with fail
 go_loopw [3,4] (fun v i wr=>∃ k:Nat,k≤l.length∧i=.int .i64 k∧OwT w.heap.size wr v (l.take k)∧Ext w wr) (fun _ i _=>l.length - (intOf i).toNat)
 case atStart=>exact ⟨0,Nat.zero_le _,rfl,OwRow.nil _ _ _ _ _,Ext.refl w⟩
 case round=>
  obtain ⟨k,hk,rfl,hown,hext⟩:=hrel
  by_cases hlt:k < l.length
  ·obtain ⟨b,off,p1,d1,rfl,z⟩:=(HR.o.ext hext).at hlt
   obtain ⟨hb,y0,hrd⟩:=z
   have hcp:=copyActions_any _ _ wr hrd (HL.o.2 k hlt)
   clear hrd
   have hts:=take_snocD l k [] hlt
   have hlk:=List.length_take_of_le (Nat.le_of_lt hlt)
   obtain ⟨r,hrr⟩:∃ r,r=l.getD k []:=⟨_,rfl⟩
   rw [← hrr] at hts hcp y0
   have HC:=kI hcp;have HO:=kI hown;have HX:=kI hext;have HT:=kI hts;have HLK:=kI hlk
   have hz:=hext.size
   have q1:(0:Int)≤(k:Int):=by omega
   have q2:(k:Int) < (l.length:Int):=by omega
   clear hcp hown hext hts hlk hrr
   go_wp2_with fail
   refine HC.o.mono ?_
   rintro e w1 ⟨⟨v1,rfl,nn⟩,hx⟩
   obtain ⟨a9,c9,rfl,-⟩:=OwRow.rdN nn
   have hel:ElT w.heap.size w1 [.slice a9 r.length c9] r:=⟨a9,c9,_,rfl,hz,nn⟩
   have HE:=kI hel
   clear hel nn
   replace HO:=kI (OwT.ext HO.o hx);replace HX:=kI (HX.o.trans hx)
   have hz1:=HX.o.size
   clear y0
   go_wp2_with (at_builtin;(refine wpList_append_row (El:=ElT w.heap.size) (l:=l.take k) w1 rfl _ _ 26 rfl w.heap.size 50 (.slice none 0 0) 1 24 Try.underlying26 Try.infoT rfl (by decide) (fun _ _ _ _ e k=>ElT.keeps (by decide) (by decide) (by decide) e k) _ HO.o rfl [.slice a9 r.length c9] rfl (by simp [Value.oneCell']) r HE.o rfl (by have:=HLK.o;omega) (by have:=HLK.o;omega) hz1 ?_))
   intro g cap2 w2 hown2 hk2
   have HO2:=kI hown2;have HX2:=kI (Below.trans HX.o (hk2.below hz1))
   clear hown2 hk2
   go_wp2
   go_roundw
   case rel=>
    refine ⟨k+1,by omega,by go_num,?_,HX2.o⟩
    rw [HT.o]
    exact HO2.o
   case measure=>simp [intOf];omega
  ·rw [List.take_of_length_le (by omega)] at hown
   have HO:=kI hown;have HX:=kI hext
   clear hown hext
   go_wp2
   go_ret
   exact ⟨⟨_,rfl,HO.o⟩,HX.o⟩
def cpmJ (An:Nat) (ya:MD) (p1 p2 p3:Option Addr) (d1 d2 d3:Nat) (wB:World) (j:Nat) (v:Value) (W:World):Prop:=
 match j with
 | 0=>v=.pointer (some ⟨An,0,none⟩)
 | 1=>v=.agg #[.bool ya.disc.neg,.slice p1 ya.disc.num.length d1,.slice p2 ya.disc.den.length d2]
 | 2=>∃ a1 c1 a2 c2,v=.agg #[.bool ya.disc.neg,.slice a1 ya.disc.num.length c1,.slice a2 ya.disc.den.length c2]∧SfU 0 W (.slice a1 ya.disc.num.length c1) ya.disc.num∧SfU 0 W (.slice a2 ya.disc.den.length c2) ya.disc.den
 | 3=>v=.pointer (some ⟨An,3,none⟩)
 | 4=>v=.slice p3 ya.states.length d3
 | 5=>∃ a3 c3,v=.slice a3 ya.states.length c3∧∃ B,wB.heap.size≤B∧OwT B W (.slice a3 ya.states.length c3) ya.states
 | 6=>∃ a1 c1 a2 c2 a3 c3,v=.agg #[.bool ya.disc.neg,.slice a1 ya.disc.num.length c1,.slice a2 ya.disc.den.length c2,.slice a3 ya.states.length c3]∧SfU 0 W (.slice a1 ya.disc.num.length c1) ya.disc.num∧SfU 0 W (.slice a2 ya.disc.den.length c2) ya.disc.den∧∃ B,wB.heap.size≤B∧OwT B W (.slice a3 ya.states.length c3) ya.states
 | _=>True
theorem cpmJ_ext {An:Nat} {ya:MD} {p1 p2 p3:Option Addr} {d1 d2 d3:Nat} {wB:World} {j:Nat} {v:Value} {W W':World} (h:cpmJ An ya p1 p2 p3 d1 d2 d3 wB j v W) (x:Ext W W'):cpmJ An ya p1 p2 p3 d1 d2 d3 wB j v W':=by
 match j,h with
 | 0,h=>exact h
 | 1,h=>exact h
 | 2,⟨a1,c1,a2,c2,h1,h2,h3⟩=>exact ⟨a1,c1,a2,c2,h1,h2.ext x,h3.ext x⟩
 | 3,h=>exact h
 | 4,h=>exact h
 | 5,⟨a3,c3,h1,B,hB,h2⟩=>exact ⟨a3,c3,h1,B,hB,h2.ext x⟩
 | 6,⟨a1,c1,a2,c2,a3,c3,h1,h2,h3,B,hB,h4⟩=>exact ⟨a1,c1,a2,c2,a3,c3,h1,h2.ext x,h3.ext x,B,hB,h4.ext x⟩
 | _+7,_=>trivial
set_option maxRecDepth 100000 in
set_option maxHeartbeats 2000000 in
theorem copyMDP_any (ya:MD) (p1 p2 p3:Option Addr) (d1 d2 d3:Nat) (w:World) (h:RdR w (.agg #[.bool ya.disc.neg,.slice p1 ya.disc.num.length d1,.slice p2 ya.disc.den.length d2]) ya.disc) (hn:RdSt w (.slice p3 ya.states.length d3) ya.states) (hs:lnR ya.disc) (hss:lnS ya.states) :
  Calls Try.prog 17 #[.agg #[.bool ya.disc.neg,.slice p1 ya.disc.num.length d1,.slice p2 ya.disc.den.length d2,.slice p3 ya.states.length d3]] w fun e w'=>(∃ a1 c1 a2 c2 a3 c3 B,e=.returned (.agg #[.bool ya.disc.neg,.slice a1 ya.disc.num.length c1,.slice a2 ya.disc.den.length c2,.slice a3 ya.states.length c3])∧SfU 0 w' (.slice a1 ya.disc.num.length c1) ya.disc.num∧SfU 0 w' (.slice a2 ya.disc.den.length c2) ya.disc.den∧w.heap.size≤B∧OwT B w' (.slice a3 ya.states.length c3) ya.states)∧Ext w w':=by
 have HN:=kI h;have HO:=kI hn;have HS:=kI hs;have HL:=kI hss
 clear h hs hss hn
 have bb0:=((Blk.new w #[.bool ya.disc.neg,.slice p1 ya.disc.num.length d1,.slice p2 ya.disc.den.length d2,.slice p3 ya.states.length d3] 28).alloc (.cells #[.bool false,.slice none 0 0,.slice none 0 0,.slice none 0 0] 28))
 have bb1:=(Blk.new (w.alloc (.cells #[.bool ya.disc.neg,.slice p1 ya.disc.num.length d1,.slice p2 ya.disc.den.length d2,.slice p3 ya.states.length d3] 28)) #[.bool false,.slice none 0 0,.slice none 0 0,.slice none 0 0] 28)
 rw [World.size_alloc] at bb1
 have x0:Ext w ((w.alloc (.cells #[.bool ya.disc.neg,.slice p1 ya.disc.num.length d1,.slice p2 ya.disc.den.length d2,.slice p3 ya.states.length d3] 28)).alloc (.cells #[.bool false,.slice none 0 0,.slice none 0 0,.slice none 0 0] 28)):=(((Ext.refl w).alloc _).alloc _)
 have A0:=kI bb0;have A1:=kI bb1;have X:=kI x0
 clear x0 bb0 bb1
 go_enter Try.func17,Try.ntmps17
 go_wp2_with fail
 obtain ⟨An,hAn⟩:∃ n,n=w.heap.size:=⟨_,rfl⟩
 rw [← hAn] at A0 A1 ⊢
 obtain ⟨w1,hw1⟩:∃ W,W=((w.alloc (.cells #[.bool ya.disc.neg,.slice p1 ya.disc.num.length d1,.slice p2 ya.disc.den.length d2,.slice p3 ya.states.length d3] 28)).alloc (.cells #[.bool false,.slice none 0 0,.slice none 0 0,.slice none 0 0] 28)):=⟨_,rfl⟩
 rw [← hw1] at A0 A1 X ⊢
 have AN:=kI hAn
 clear hAn hw1
 replace HN:=kI (HN.o.ext X.o);replace HO:=kI (HO.o.ext X.o)
 refine wp_region_each_tail 7 (cpmJ An ya p1 p2 p3 d1 d2 d3 w1) (by kernel_rfl) (by kernel_rfl) (by kernel_rfl) (fun _ _ _ _ h x=>cpmJ_ext h x) ?_ ?_
 ·refine ⟨?_,?_,?_,?_,?_,?_,?_,trivial⟩
  ·intro a W hW hB hD K hK
   have b1:=hB 1 rfl
   simp only [Array.getD_eq_getD_getElem?,List.getElem?_toArray,List.getElem?_cons_succ,List.getElem?_cons_zero,Option.getD_some] at b1
   go_simp;exact hK _ _ (Ext.refl _) rfl
  ·intro a W hW hB hD K hK
   obtain ⟨v3,e3⟩:∃ x,a.tmps.getD 3 undef=x:=⟨_,rfl⟩
   have h3:=hD 0 _ 3 rfl rfl (by kernel_rfl)
   rw [e3] at h3
   simp only [Array.getD_eq_getD_getElem?] at e3
   obtain rfl:=h3
   have q9:=(A0.o.ext hW).cell;have l9:=(A0.o.ext hW).lt
   go_simp;exact hK _ _ (Ext.refl _) rfl
  ·intro a W hW hB hD K hK
   obtain ⟨v4,e4⟩:∃ x,a.tmps.getD 4 undef=x:=⟨_,rfl⟩
   have h4:=hD 1 _ 4 rfl rfl (by kernel_rfl)
   rw [e4] at h4
   simp only [Array.getD_eq_getD_getElem?] at e4
   obtain rfl:=h4
   go_simp
   refine (copyRat_any _ ya.disc _ (HN.o.ext hW) HS.o).mono ?_
   rintro e w9 ⟨⟨v,rfl,nn⟩,hx⟩
   obtain ⟨x1,x2,x3,x4,rfl⟩:=nn.shape
   obtain ⟨s1,s2⟩:=sfU_new nn
   exact hK _ _ hx ⟨_,_,_,_,rfl,s1,s2⟩
  ·intro a W hW hB hD K hK
   have b1:=hB 1 rfl
   simp only [Array.getD_eq_getD_getElem?,List.getElem?_toArray,List.getElem?_cons_succ,List.getElem?_cons_zero,Option.getD_some] at b1
   go_simp;exact hK _ _ (Ext.refl _) rfl
  ·intro a W hW hB hD K hK
   obtain ⟨v6,e6⟩:∃ x,a.tmps.getD 6 undef=x:=⟨_,rfl⟩
   have h6:=hD 3 _ 6 rfl rfl (by kernel_rfl)
   rw [e6] at h6
   simp only [Array.getD_eq_getD_getElem?] at e6
   obtain rfl:=h6
   have q9:=(A0.o.ext hW).cell;have l9:=(A0.o.ext hW).lt
   go_simp;exact hK _ _ (Ext.refl _) rfl
  ·intro a W hW hB hD K hK
   obtain ⟨v7,e7⟩:∃ x,a.tmps.getD 7 undef=x:=⟨_,rfl⟩
   have h7:=hD 4 _ 7 rfl rfl (by kernel_rfl)
   rw [e7] at h7
   simp only [Array.getD_eq_getD_getElem?] at e7
   obtain rfl:=h7
   go_simp
   refine (copyStates_any _ ya.states _ (HO.o.ext hW) HL.o).mono ?_
   rintro e w9 ⟨⟨v,rfl,nn⟩,hx⟩
   obtain ⟨x1,x2,rfl,-⟩:=OwRow.rdN nn
   exact hK _ _ hx ⟨_,_,rfl,_,hW.size,nn⟩
  ·intro a W hW hB hD K hK
   obtain ⟨v5,e5⟩:∃ x,a.tmps.getD 5 undef=x:=⟨_,rfl⟩
   have h5:=hD 2 _ 5 rfl rfl (by kernel_rfl)
   rw [e5] at h5
   simp only [Array.getD_eq_getD_getElem?] at e5
   obtain ⟨x1,x2,x3,x4,rfl,e1,e2⟩:=h5
   obtain ⟨v8,e8⟩:∃ x,a.tmps.getD 8 undef=x:=⟨_,rfl⟩
   have h8:=hD 5 _ 8 rfl rfl (by kernel_rfl)
   rw [e8] at h8
   simp only [Array.getD_eq_getD_getElem?] at e8
   obtain ⟨x5,x6,rfl,e3⟩:=h8
   go_simp
   exact hK _ _ (Ext.refl _) ⟨_,_,_,_,_,_,rfl,e1,e2,e3⟩
 intro w9 hx
 simp only [Vals,List.take_succ_cons,List.take_zero,List.drop_succ_cons,List.drop_zero]
 rintro u0 - u1 - u2 - u3 - u4 - u5 - u6 h9
 obtain ⟨a1,c1,a2,c2,a3,c3,rfl,h1,h2,h3⟩:=h9
 simp only [Act.put,List.setIfInBounds_toArray,List.set_cons_zero,List.set_cons_succ]
 have B1:=kI (A1.o.ext hx);have X1:=kI (X.o.trans hx)
 have q1:=B1.o.cell;have f1:=B1.o.free;have l1:=B1.o.lt
 have E1:=kI h1;have E2:=kI h2;have E3:=kI h3;clear h1 h2 h3
 clear hx
 go_wp2_with fail
 obtain ⟨C,hC,h3⟩:=E3.o
 refine bodyPost_ret (v:=.agg #[.bool ya.disc.neg,.slice a1 ya.disc.num.length c1,.slice a2 ya.disc.den.length c2,.slice a3 ya.states.length c3]) (by simp only [results,Try.results17];go_simp) rfl ⟨⟨_,_,_,_,_,_,C,rfl,E1.o.keeps (keeps_set4 B1.o _ _ _ _) (by decide),E2.o.keeps (keeps_set4 B1.o _ _ _ _) (by decide),Nat.le_trans X.o.size hC,h3.keeps (keeps_set4 B1.o _ _ _ _) (by decide) (by decide) (by decide) (by decide)⟩,?_⟩
 have:=X1.o;have:=AN.o;(repeat (first|(with_reducible first|exact Ext.refl _|assumption|refine Ext.alloc ?_ _)|((with_reducible refine Ext.setp ?_ ?_);focus (dsimp only;omega))|(with_reducible first|refine Ext.drew ?_|refine Ext.drewN ?_ _|refine Ext.trans ?_ (by assumption))))
end Go.Proofs.Ytfflknbeidihoaa
