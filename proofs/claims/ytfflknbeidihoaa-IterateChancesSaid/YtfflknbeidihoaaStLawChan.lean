/- Lemmas and walks of this claim. Conditions: as each states. -/
import Derived.Test.YtfflknbeidihoaaStAw22
import Derived.Test.YtfflknbeidihoaaStLong22b
import Derived.Test.YtfflknbeidihoaaStFreM
import Derived.Test.YtfflknbeidihoaaStItO
import Derived.Test.YtfflknbeidihoaaStUpR
set_option linter.unusedVariables false
set_option linter.unusedSimpArgs false
namespace Go.Proofs.Ytfflknbeidihoaa
open Go.RowKit
theorem getD_boolC {o:Option Value} {b:Bool} (h:o.getD undef=.bool b):o=some (.bool b):=by
 cases o with
 | none=>cases h
 | some v=>exact congrArg some h
def chA (la:Option Addr) (lc ln k b off:Nat) (s y t:RR) (c:Int) (B:Nat) (j:Nat) (v:Value) (W:World):Prop:=
 match j with
 | 0=>∃ s1 s2 s3 s4,v=.agg #[.bool s.neg,.slice s1 s.num.length s2,.slice s3 s.den.length s4]∧RdR W (.agg #[.bool s.neg,.slice s1 s.num.length s2,.slice s3 s.den.length s4]) s
 | 1=>v=.slice la ln lc
 | 2=>v=.int .i64 k
 | 3=>v=.pointer (some ⟨b,off+k*3,none⟩)
 | 4=>∃ s1 s2 s3 s4,v=.agg #[.bool y.neg,.slice s1 y.num.length s2,.slice s3 y.den.length s4]∧RdR W (.agg #[.bool y.neg,.slice s1 y.num.length s2,.slice s3 y.den.length s4]) y
 | 5=>∃ s1 s2 s3 s4,v=.tuple #[.agg #[.bool t.neg,.slice s1 t.num.length s2,.slice s3 t.den.length s4],.int .i64 c]∧RdR W (.agg #[.bool t.neg,.slice s1 t.num.length s2,.slice s3 t.den.length s4]) t
 | 6=>∃ s1 s2 s3 s4,v=.tuple #[.agg #[.bool t.neg,.slice s1 t.num.length s2,.slice s3 t.den.length s4],.int .i64 c]∧RdR W (.agg #[.bool t.neg,.slice s1 t.num.length s2,.slice s3 t.den.length s4]) t
 | 7=>∃ s1 s2 s3 s4,v=.agg #[.bool t.neg,.slice s1 t.num.length s2,.slice s3 t.den.length s4]∧RdR W (.agg #[.bool t.neg,.slice s1 t.num.length s2,.slice s3 t.den.length s4]) t
 | 8=>v=.int .i64 c
 | 9=>∃ b,v=.pointer (some ⟨b,0,none⟩)∧B≤b∧Blk W b #[.bool false,.slice none 0 0,.slice none 0 0] 25
 | _=>True
theorem chA_ext {la:Option Addr} {lc ln k b off:Nat} {s y t:RR} {c:Int} {B:Nat} {j:Nat} {v:Value} {W W':World} (h:chA la lc ln k b off s y t c B j v W) (x:Ext W W'):chA la lc ln k b off s y t c B j v W':=by
 match j,h with
 | 0,⟨s1,s2,s3,s4,h1,h2⟩=>exact ⟨s1,s2,s3,s4,h1,h2.ext x⟩
 | 1,h=>exact h
 | 2,h=>exact h
 | 3,h=>exact h
 | 4,⟨s1,s2,s3,s4,h1,h2⟩=>exact ⟨s1,s2,s3,s4,h1,h2.ext x⟩
 | 5,⟨s1,s2,s3,s4,h1,h2⟩=>exact ⟨s1,s2,s3,s4,h1,h2.ext x⟩
 | 6,⟨s1,s2,s3,s4,h1,h2⟩=>exact ⟨s1,s2,s3,s4,h1,h2.ext x⟩
 | 7,⟨s1,s2,s3,s4,h1,h2⟩=>exact ⟨s1,s2,s3,s4,h1,h2.ext x⟩
 | 8,h=>exact h
 | 9,⟨b,h0,h1,h2⟩=>exact ⟨b,h0,h1,h2.ext x⟩
 | _+10,_=>trivial
def chB (la:Option Addr) (lc ln an:Nat) (s:RR) (si:Int) (m:MD) (m1:Option Addr) (n1:Nat) (m2:Option Addr) (n2:Nat) (m3:Option Addr) (n3:Nat) (j:Nat) (v:Value) (W:World):Prop:=
 match j with
 | 0=>∃ s1 s2 s3 s4,v=.agg #[.bool s.neg,.slice s1 s.num.length s2,.slice s3 s.den.length s4]∧RdR W (.agg #[.bool s.neg,.slice s1 s.num.length s2,.slice s3 s.den.length s4]) s
 | 1=>∃ s1 s2 s3 s4,v=.agg #[.bool s.neg,.slice s1 s.num.length s2,.slice s3 s.den.length s4]∧RdR W (.agg #[.bool s.neg,.slice s1 s.num.length s2,.slice s3 s.den.length s4]) s
 | 2=>v=.bool true
 | 3=>v=.bool false
 | 4=>v=.bool false
 | 5=>v=.slice la ln lc
 | 6=>v=.int .i64 ln
 | 7=>v=.pointer (some ⟨an,3,none⟩)
 | 8=>v=.slice m3 m.states.length n3
 | 9=>v=.int .i64 m.states.length
 | 10=>v=.bool false
 | 11=>v=.bool false
 | 12=>v=.bool false
 | 13=>v=.int .i64 si
 | 14=>v=.bool false
 | 15=>v=.bool false
 | 16=>v=.bool false
 | 17=>v=.int .i64 si
 | 18=>v=.slice la ln lc
 | 19=>v=.int .i64 ln
 | 20=>v=.bool false
 | 21=>v=.bool false
 | _=>True
theorem chB_ext {la:Option Addr} {lc ln an:Nat} {s:RR} {si:Int} {m:MD} {m1:Option Addr} {n1:Nat} {m2:Option Addr} {n2:Nat} {m3:Option Addr} {n3:Nat} {j:Nat} {v:Value} {W W':World} (h:chB la lc ln an s si m m1 n1 m2 n2 m3 n3 j v W) (x:Ext W W'):chB la lc ln an s si m m1 n1 m2 n2 m3 n3 j v W':=by
 match j,h with
 | 0,⟨s1,s2,s3,s4,h1,h2⟩=>exact ⟨s1,s2,s3,s4,h1,h2.ext x⟩
 | 1,⟨s1,s2,s3,s4,h1,h2⟩=>exact ⟨s1,s2,s3,s4,h1,h2.ext x⟩
 | 2,h=>exact h
 | 3,h=>exact h
 | 4,h=>exact h
 | 5,h=>exact h
 | 6,h=>exact h
 | 7,h=>exact h
 | 8,h=>exact h
 | 9,h=>exact h
 | 10,h=>exact h
 | 11,h=>exact h
 | 12,h=>exact h
 | 13,h=>exact h
 | 14,h=>exact h
 | 15,h=>exact h
 | 16,h=>exact h
 | 17,h=>exact h
 | 18,h=>exact h
 | 19,h=>exact h
 | 20,h=>exact h
 | 21,h=>exact h
 | _+22,_=>trivial
def chD (ya:Option Addr) (yc yn:Nat) (si:Int) (k b off:Nat) (y w0:RR) (j:Nat) (v:Value) (W:World):Prop:=
 match j with
 | 0=>v=.int .i64 si
 | 1=>v=.slice ya yn yc
 | 2=>v=.int .i64 yn
 | 3=>v=.bool true
 | 4=>v=.bool true
 | 5=>v=.slice ya yn yc
 | 6=>v=.int .i64 si
 | 7=>v=.pointer (some ⟨b,off+k*3,none⟩)
 | 8=>∃ s1 s2 s3 s4,v=.agg #[.bool y.neg,.slice s1 y.num.length s2,.slice s3 y.den.length s4]∧RdR W (.agg #[.bool y.neg,.slice s1 y.num.length s2,.slice s3 y.den.length s4]) y
 | 9=>∃ s1 s2 s3 s4,v=.agg #[.bool w0.neg,.slice s1 w0.num.length s2,.slice s3 w0.den.length s4]∧RdR W (.agg #[.bool w0.neg,.slice s1 w0.num.length s2,.slice s3 w0.den.length s4]) w0
 | 10=>v=.bool true
 | 11=>v=.bool true
 | _=>True
theorem chD_ext {ya:Option Addr} {yc yn:Nat} {si:Int} {k b off:Nat} {y w0:RR} {j:Nat} {v:Value} {W W':World} (h:chD ya yc yn si k b off y w0 j v W) (x:Ext W W'):chD ya yc yn si k b off y w0 j v W':=by
 match j,h with
 | 0,h=>exact h
 | 1,h=>exact h
 | 2,h=>exact h
 | 3,h=>exact h
 | 4,h=>exact h
 | 5,h=>exact h
 | 6,h=>exact h
 | 7,h=>exact h
 | 8,⟨s1,s2,s3,s4,h1,h2⟩=>exact ⟨s1,s2,s3,s4,h1,h2.ext x⟩
 | 9,⟨s1,s2,s3,s4,h1,h2⟩=>exact ⟨s1,s2,s3,s4,h1,h2.ext x⟩
 | 10,h=>exact h
 | 11,h=>exact h
 | _+12,_=>trivial
set_option maxRecDepth 100000 in
set_option maxHeartbeats 8000000 in
theorem chanL_any (mv vv pv:Value) (si:Int) (m:MD) (vals:List RR) (plan:List (List Int)) (w:World) (hm:RdM w mv m) (hv:RdRs w vv vals) (hp:RdPl w pv plan) (hlm:LimM m) (hlv:LimL vals) :
  Calls Try.prog 4 #[mv,vv,pv,.int .i64 si] w fun e w'=>e=.returned (.bool true)∧Ext w w':=by
 have hch:=fun W mv pv (h:RdM W mv m) (k:RdPl W pv plan)=>chancesI_any mv pv m plan si W h k hlm
 have hpl:=fun W mv vv pv (h:RdM W mv (freeM m)) (k:RdRs W vv vals) (g:RdPl W pv plan) (hln:LenL vals)=>planI_any mv vv pv (freeM m) vals plan W h k g (freeM_lim hlm) hlv hln
 unfold ResN at hch hpl
 have HCH:=kI hch;have HPN:=kI hpl
 have HM:=kI hm;have HV:=kI hv;have HP:=kI hp;have HLV:=kI hlv;have HLM:=kI hlm
 obtain ⟨m1,n1,m2,n2,m3,n3,rfl,hmd,hms⟩:=hm
 have HMD:=kI hmd;have HMS:=kI hms
 obtain ⟨av,cv,rfl,-,-,-⟩:=hv.get
 obtain ⟨pa,pc,rfl,hpn⟩:=hp.shape
 clear hv hp hch hpl hlm hlv hmd hms
 have bb0:=(Blk.new w #[.bool m.disc.neg,.slice m1 m.disc.num.length n1,.slice m2 m.disc.den.length n2,.slice m3 m.states.length n3] 28)
 have x0:Ext w (w.alloc (.cells #[.bool m.disc.neg,.slice m1 m.disc.num.length n1,.slice m2 m.disc.den.length n2,.slice m3 m.states.length n3] 28)):=((Ext.refl w).alloc _)
 have A0:=kI bb0;have X:=kI x0
 clear x0 bb0
 go_enter Try.func4,Try.ntmps4
 have qA0:=A0.o.cell;have fA0:=A0.o.free;have lA0:=A0.o.lt
 go_wp2_with fail
 refine (long22_any _ _ _ m vals _ plan _ (HM.o.ext X.o) (HV.o.ext X.o) (HP.o.ext X.o)).mono ?_
 rintro e w1 ⟨⟨r,rfl,hr⟩,hx⟩
 clear qA0 fA0 lA0
 replace A0:=kI (A0.o.ext hx);replace X:=kI (X.o.trans hx)
 have HR:=kI hr
 clear hx hr
 cases r
 rotate_left
 ·go_wp2_with fail
  refine (awake22_any _).mono ?_
  rintro e w2 ⟨rfl,hx⟩
  replace A0:=kI (A0.o.ext hx);replace X:=kI (X.o.trans hx)
  clear hx
  go_wp2_with fail
  go_ret
  exact ⟨rfl,X.o⟩
 obtain ⟨-,hln,h30,-⟩:=HR.o rfl
 clear HR
 have HL:=kI hln;have H30:=kI h30
 clear hln h30
 go_wp2_with fail
 refine (awake22_any _).mono ?_
 rintro e w2 ⟨rfl,hx⟩
 replace A0:=kI (A0.o.ext hx);replace X:=kI (X.o.trans hx)
 clear hx
 have qA0:=A0.o.cell;have fA0:=A0.o.free;have lA0:=A0.o.lt
 go_wp2_with fail
 refine (HCH.o _ _ _ (HM.o.ext X.o) (HP.o.ext X.o)).mono ?_
 rintro e w3 ⟨⟨v,rfl,ov⟩,hx⟩
 obtain ⟨st,hst⟩:∃ p,p=chancesS m plan si:=⟨_,rfl⟩
 obtain ⟨l,c⟩:=st
 rw [← hst] at ov ⊢
 dsimp only at ov ⊢
 obtain ⟨la,lc,rfl⟩:=ov.shape
 have LR:=kI ov.rd;have HST:=kI hst
 clear qA0 fA0 lA0
 replace A0:=kI (A0.o.ext hx);replace X:=kI (X.o.trans hx)
 clear hx ov hst HCH
 by_cases hc:c=0
 rotate_left
 ·have hb:=chances_bad (m:=m) (plan:=plan) (s:=si) (by rw [← HST.o];exact hc)
  rw [← HST.o] at hb
  dsimp only at hb
  subst hb
  have q3:(c != 0)=true:=bne_iff_ne.2 hc
  clear hc
  simp only [List.length_nil]
  go_wp2_with fail
  go_ret
  exact ⟨rfl,X.o⟩
 subst hc
 have hok:=chances_ok (m:=m) (plan:=plan) (s:=si) (by rw [← HST.o])
 have hlw:=chances_law (m:=m) (plan:=plan) (s:=si) (by rw [← HST.o])
 rw [← HST.o] at hlw
 obtain ⟨sn,rfl⟩:∃ n:Nat,si=(n:Int):=⟨si.toNat,by omega⟩
 have hsn:sn < m.states.length:=by omega
 have HSN:=kI hsn;have HMZ:=kI hok.1;have NNL:=kI hlw.1
 have hll:l.length=m.states.length:=hlw.1.1
 have HLL:=kI hll
 clear hok hlw hsn hll
 have qA0:=A0.o.cell;have fA0:=A0.o.free;have lA0:=A0.o.lt
 go_wp2_with fail
 clear qA0 fA0 lA0
 obtain ⟨sb,hsb⟩:∃ n,n=w3.heap.size:=⟨_,rfl⟩
 have hz0:SumB (w3.alloc (.cells #[.bool false,.slice none 0 0,.slice none 0 0] 25)) sb 25 zR:=⟨none,0,none,0,by rw [hsb];exact Blk.new _ _ _,(NewR.zero w3 (w3.alloc (.cells #[.bool false,.slice none 0 0,.slice none 0 0] 25))).rd⟩
 obtain ⟨w4,hw4⟩:∃ W,W=w3.alloc (.cells #[.bool false,.slice none 0 0,.slice none 0 0] 25):=⟨_,rfl⟩
 have hx:Ext w3 w4:=by rw [hw4];exact (Ext.refl _).alloc _
 rw [← hw4] at hz0
 have SB0:=kI hz0;have X4:=kI hx
 rw [← hsb,← hw4]
 have SBN:=kI hsb
 clear hz0 hsb hw4 hx
 go_loopw [12] (fun i wr=>∃ k:Nat,k≤l.length∧i=.int .i64 k∧SumB wr sb 25 (csum l k)∧Ext w3 wr∧∀ j,j < k→(addR (csum l j) (l.getD j zR)).2=0) (fun i _=>l.length - (intOf i).toNat)
 case atStart=>exact ⟨0,Nat.zero_le _,rfl,SB0.o,X4.o,fun j hj=>by omega⟩
 case round=>
  clear SB0 X4
  obtain ⟨wk,hwk⟩:∃ W,W=wr:=⟨_,rfl⟩
  subst hwk
  obtain ⟨k,hk,rfl,hsb,hxk,hok⟩:=hrel
  have XK:=kI hxk;have SB:=kI hsb;have OK:=kI hok
  clear hxk hsb hok
  by_cases hlt:k < l.length
  ·obtain ⟨_,_,e1,_,_,fa,hfa⟩:=(LR.o.ext XK.o).get
   injection e1 with e0 e4 e5
   subst e0;clear e4 e5
   obtain ⟨ba,oa,rfl,hba,p0,p1,p2,hra⟩:=hfa k hlt
   clear hfa
   obtain ⟨ff,hff⟩:∃ f,f=fa k:=⟨_,rfl⟩
   rw [← hff] at p1 p2 hra
   obtain ⟨⟨a1,a2⟩,⟨a3,a4⟩⟩:=ff
   dsimp only at p1 p2 hra
   have hnn:=NNL.o.2 k
   have hse:=csum_err NNL.o OK.o
   have hlm:LimR (csum l k):=(csum_ok NNL.o k OK.o).1.2.1
   have hsuc:csum l (k+1)=(addR (csum l k) (l.getD k zR)).1:=rfl
   have hcall:=fun W v1 v2 (e1:RdR W v1 (csum l k)) (e2:RdR W v2 (l.getD k zR))=>addR_any v1 v2 (csum l k) (l.getD k zR) W e1 e2 hlm hnn.2.1
   have hstep:=fun (h:(addR (csum l k) (l.getD k zR)).2=0)=>(show ∀ j,j < k+1→(addR (csum l j) (l.getD j zR)).2=0 from fun j hj=>by
    by_cases e:j=k
    ·subst e;exact h
    ·exact OK.o j (by omega))
   have HSTP:=kI hstep
   obtain ⟨y,hy⟩:∃ y,y=l.getD k zR:=⟨_,rfl⟩
   obtain ⟨s,hs⟩:∃ s,s=csum l k:=⟨_,rfl⟩
   rw [← hy] at p0 p1 p2 hra hnn
   have SB1:=SB.o
   rw [← hs] at SB1
   rw [← hy,← hs] at hse hcall hsuc HSTP
   have NEG:y.neg=false:=hnn.2.2
   obtain ⟨ad,had⟩:∃ p,p=addR s y:=⟨_,rfl⟩
   unfold ResR at hcall
   rw [← had] at hse hcall hsuc HSTP
   obtain ⟨t,c⟩:=ad
   dsimp only at hse hcall hsuc HSTP
   obtain ⟨z1,z2,z3,z4,hz1,hz2⟩:=SB1
   have SBK:=kI hz1;have SBR:=kI hz2
   have HCALL:=kI hcall;have HSE:=kI hse;have HSUC:=kI hsuc
   have NG:=kI NEG
   have CA:Hid (ba < wk.heap.size∧wk.cell? ⟨ba,oa+k*3,none⟩=some (.bool y.neg)∧wk.cell? ⟨ba,oa+k*3+1,none⟩=some (.slice a1 y.num.length a2)∧wk.cell? ⟨ba,oa+k*3+2,none⟩=some (.slice a3 y.den.length a4)∧RdR wk (.agg #[.bool y.neg,.slice a1 y.num.length a2,.slice a3 y.den.length a4]) y):=kI ⟨hba,p0,p1,p2,hra⟩
   have q1:(k:Int) < (l.length:Int):=by omega
   have q2:(0:Int)≤(k:Int):=by omega
   clear hba p0 p1 p2 hra hnn hse hlm hsuc hcall hy hs had hz1 hz2 hff NEG hstep
   go_wp2_with fail
   refine wp_region_each_float 10 8 (chA (some ⟨ba,oa,none⟩) lc l.length k ba oa s y t c wk.heap.size) rfl (by kernel_rfl) (by kernel_rfl) (by kernel_rfl) (fun _ _ _ _ h x=>chA_ext h x) (fun _ _ d _ _ h=>by cases d <;> exact h) ?_ ?_ ?_
   ·refine ⟨?_,?_,?_,?_,?_,?_,?_,?_,?_,?_,trivial⟩
    ·intro a W hW hB hD K hK
     have b11:=hB 11 rfl
     simp only [Array.getD_eq_getD_getElem?,List.getElem?_toArray,List.getElem?_cons_succ,List.getElem?_cons_zero,Option.getD_some] at b11
     have q9:=(SBK.o.ext hW).cell;have l9:=(SBK.o.ext hW).lt
     go_simp
     exact hK _ _ (Ext.refl _) ⟨_,_,_,_,rfl,SBR.o.ext hW⟩
    ·intro a W hW hB hD K hK
     have b9:=hB 9 rfl
     simp only [Array.getD_eq_getD_getElem?,List.getElem?_toArray,List.getElem?_cons_succ,List.getElem?_cons_zero,Option.getD_some] at b9
     go_simp
     exact hK _ _ (Ext.refl _) rfl
    ·intro a W hW hB hD K hK
     have b12:=hB 12 rfl
     simp only [Array.getD_eq_getD_getElem?,List.getElem?_toArray,List.getElem?_cons_succ,List.getElem?_cons_zero,Option.getD_some] at b12
     go_simp
     exact hK _ _ (Ext.refl _) rfl
    ·intro a W hW hB hD K hK
     obtain ⟨v55,e55⟩:∃ x,a.tmps.getD 55 undef=x:=⟨_,rfl⟩
     have h55:=hD 1 _ 55 rfl rfl (by kernel_rfl)
     rw [e55] at h55
     simp only [Array.getD_eq_getD_getElem?] at e55
     obtain rfl:=h55
     obtain ⟨v56,e56⟩:∃ x,a.tmps.getD 56 undef=x:=⟨_,rfl⟩
     have h56:=hD 2 _ 56 rfl rfl (by kernel_rfl)
     rw [e56] at h56
     simp only [Array.getD_eq_getD_getElem?] at e56
     obtain rfl:=h56
     go_simp
     exact hK _ _ (Ext.refl _) rfl
    ·intro a W hW hB hD K hK
     obtain ⟨v57,e57⟩:∃ x,a.tmps.getD 57 undef=x:=⟨_,rfl⟩
     have h57:=hD 3 _ 57 rfl rfl (by kernel_rfl)
     rw [e57] at h57
     simp only [Array.getD_eq_getD_getElem?] at e57
     obtain rfl:=h57
     have m0:=(hW.cell (p:=⟨ba,oa+k*3,none⟩) CA.o.1).trans CA.o.2.1
     have m1:=(hW.cell (p:=⟨ba,oa+k*3+1,none⟩) CA.o.1).trans CA.o.2.2.1
     have m2:=(hW.cell (p:=⟨ba,oa+k*3+2,none⟩) CA.o.1).trans CA.o.2.2.2.1
     have ml:=Nat.lt_of_lt_of_le CA.o.1 hW.size
     go_simp
     exact hK _ _ (Ext.refl _) ⟨_,_,_,_,rfl,CA.o.2.2.2.2.ext hW⟩
    ·intro a W hW hB hD K hK
     obtain ⟨v54,e54⟩:∃ x,a.tmps.getD 54 undef=x:=⟨_,rfl⟩
     have h54:=hD 0 _ 54 rfl rfl (by kernel_rfl)
     rw [e54] at h54
     simp only [Array.getD_eq_getD_getElem?] at e54
     obtain ⟨d1,d2,d3,d4,rfl,dh⟩:=h54
     obtain ⟨v58,e58⟩:∃ x,a.tmps.getD 58 undef=x:=⟨_,rfl⟩
     have h58:=hD 4 _ 58 rfl rfl (by kernel_rfl)
     rw [e58] at h58
     simp only [Array.getD_eq_getD_getElem?] at e58
     obtain ⟨e1,e2,e3,e4,rfl,eh⟩:=h58
     go_simp
     refine (HCALL.o _ _ _ dh eh).mono ?_
     rintro e w9 ⟨⟨v,rfl,nn⟩,hx⟩
     obtain ⟨s1,s2,s3,s4,rfl⟩:=nn.shape
     exact hK _ _ hx ⟨_,_,_,_,rfl,nn.rd⟩
    ·intro a W hW hB hD K hK
     obtain ⟨v59,e59⟩:∃ x,a.tmps.getD 59 undef=x:=⟨_,rfl⟩
     have h59:=hD 5 _ 59 rfl rfl (by kernel_rfl)
     rw [e59] at h59
     simp only [Array.getD_eq_getD_getElem?] at e59
     obtain ⟨d1,d2,d3,d4,rfl,dh⟩:=h59
     go_simp
     exact hK _ _ (Ext.refl _) ⟨_,_,_,_,rfl,dh⟩
    ·intro a W hW hB hD K hK
     obtain ⟨v53,e53⟩:∃ x,a.tmps.getD 53 undef=x:=⟨_,rfl⟩
     have h53:=hD 6 _ 53 rfl rfl (by kernel_rfl)
     rw [e53] at h53
     simp only [Array.getD_eq_getD_getElem?] at e53
     obtain ⟨d1,d2,d3,d4,rfl,dh⟩:=h53
     go_simp
     exact hK _ _ (Ext.refl _) ⟨_,_,_,_,rfl,dh⟩
    ·intro a W hW hB hD K hK
     obtain ⟨v53,e53⟩:∃ x,a.tmps.getD 53 undef=x:=⟨_,rfl⟩
     have h53:=hD 6 _ 53 rfl rfl (by kernel_rfl)
     rw [e53] at h53
     simp only [Array.getD_eq_getD_getElem?] at e53
     obtain ⟨d1,d2,d3,d4,rfl,dh⟩:=h53
     go_simp
     exact hK _ _ (Ext.refl _) rfl
    ·intro a W hW hB hD K hK
     go_simp
     exact hK _ _ ((Ext.refl _).alloc _) ⟨_,rfl,hW.size,Blk.new _ _ _⟩
   ·intro a W hW hB hD
    have h53:=hD 6 _ 53 rfl rfl (by kernel_rfl)
    obtain ⟨v53,e53⟩:∃ x,a.tmps.getD 53 undef=x:=⟨_,rfl⟩
    rw [e53] at h53
    obtain ⟨d1,d2,d3,d4,rfl,dh⟩:=h53
    exact ⟨.int .i64 c,fun w9=>run_extract9 e53 rfl rfl w9,rfl⟩
   intro w5 hx
   simp only [Vals,List.take_succ_cons,List.take_zero,List.drop_succ_cons,List.drop_zero]
   rintro u0 - u1 - u2 - u3 - u4 - u5 - u6 - u7 h7 u8 h8 u9 h9
   obtain ⟨t1,t2,t3,t4,rfl,ht⟩:=h7
   obtain rfl:u8=.int .i64 c:=h8
   obtain ⟨bx,rfl,hbx,hbb⟩:=h9
   simp only [Act.put,List.setIfInBounds_toArray,List.set_cons_zero,List.set_cons_succ]
   have HT:=kI ht;have BX:=kI hbb;have HBX:=kI hbx
   replace XK:=kI (XK.o.trans hx)
   have SB5:=kI (SB.o.ext hx);have CG:Hid (ba < w5.heap.size∧w5.cell? ⟨ba,oa+k*3,none⟩=some (.bool y.neg)):=kI ⟨Nat.lt_of_lt_of_le CA.o.1 hx.size,(hx.cell (p:=⟨ba,oa+k*3,none⟩) CA.o.1).trans CA.o.2.1⟩
   have SLT:=kI (Nat.lt_of_lt_of_le (show sb < wk.heap.size from by obtain ⟨_,_,_,_,h,_⟩:=SB.o;exact h.lt) hbx)
   have BLT:=kI (Nat.lt_of_lt_of_le CA.o.1 hbx)
   clear ht hbb hbx hx SBK SBR CA HCALL
   have x0:=BX.o.cell;have x1:=BX.o.free;have x2:=BX.o.lt
   rcases HSE.o with hc|hc
   rotate_left
   ·subst hc
    go_wp2_with fail
    go_ret
    exact ⟨rfl,(X.o.trans (ext_put3 (x:=.bool t.neg) (y:=.slice t1 t.num.length t2) (z:=.slice t3 t.den.length t4) (o:=0) (b:=bx) XK.o (Nat.le_trans (Nat.le_of_lt (Nat.lt_of_le_of_lt (Nat.le_of_eq SBN.o.symm) SLT.o)) (Nat.le_refl _))))⟩
   subst hc
   have n8:=Nat.ne_of_lt BLT.o;have c0:=CG.o.2;have c1:=CG.o.1;have n7:=Nat.ne_of_lt SLT.o
   rw [NG.o] at c0
   obtain ⟨b1,b2,b3,b4,hb5,-⟩:=SB5.o
   have s0:=hb5.cell;have s1:=hb5.free;have s2:=hb5.lt
   clear hb5
   go_wp2_with fail
   clear x0 x1 x2 s0 s1 s2 c0 c1 n8 n7
   have hbo:=(show SumB w5 bx 25 zR from ⟨none,0,none,0,BX.o,(NewR.zero w5 w5).rd⟩)
   obtain ⟨c9,hp9⟩:=hbo.put3 (q:=t.neg) (a1:=t1) (n1:=t.num.length) (c1:=t2) (a2:=t3) (n2:=t.den.length) (c2:=t4) (o:=0)
   have hsb:=(hp9.sum SB5.o (Nat.ne_of_lt SLT.o)).put (hp9.rdR HT.o)
   have hsc:=HSUC.o
   have hxx:=ext_put3 (x:=.bool t.neg) (y:=.slice t1 t.num.length t2) (z:=.slice t3 t.den.length t4) (o:=0) (b:=sb) (ext_put3 (x:=.bool t.neg) (y:=.slice t1 t.num.length t2) (z:=.slice t3 t.den.length t4) (o:=0) (b:=bx) XK.o (Nat.le_of_lt (Nat.lt_of_le_of_lt (Nat.le_of_eq SBN.o.symm) SLT.o))) (Nat.le_of_eq SBN.o.symm)
   go_roundw
   case rel=>exact ⟨k+1,hlt,by go_num,by rw [hsc];exact hsb,hxx,HSTP.o rfl⟩
   case measure=>simp [intOf];omega
  ·obtain rfl:k=l.length:=by omega
   have hone:=csum_one HST.o OK.o
   have hsb:=SB.o
   rw [hone] at hsb
   obtain ⟨s,hs⟩:∃ s,s=rep ((1:Int):Rat):=⟨_,rfl⟩
   rw [← hs] at hsb
   have HS:=kI hs
   obtain ⟨z1,z2,z3,z4,hz1,hz2⟩:=hsb
   have SBK:=kI hz1;have SBR:=kI hz2
   have q1:¬ ((l.length:Int) < (l.length:Int)):=by omega
   clear hone hs hz1 hz2 hlt SB OK hk
   go_wp2_with fail
   have q3:((l.length:Int) != (m.states.length:Int))=false:=by rw [HLL.o];simp
   have q4:¬ ((sn:Int) < 0):=by omega
   have q5:¬ ((sn:Int) ≥ (l.length:Int)):=by have:=HSN.o;have:=HLL.o;omega
   refine wp_region_each (chB la lc l.length w.heap.size s (sn:Int) m m1 n1 m2 n2 m3 n3) (by kernel_rfl) (by kernel_rfl) (by kernel_rfl) (fun _ _ _ _ h x=>chB_ext h x) ?_ ?_
   ·refine ⟨?_,?_,?_,?_,?_,?_,?_,?_,?_,?_,?_,?_,?_,?_,?_,?_,?_,?_,?_,?_,?_,?_,trivial⟩
    ·intro a W hW hB hD K hK
     have b11:=hB 11 rfl
     simp only [Array.getD_eq_getD_getElem?,List.getElem?_toArray,List.getElem?_cons_succ,List.getElem?_cons_zero,Option.getD_some] at b11
     have q9:=(SBK.o.ext hW).cell;have l9:=(SBK.o.ext hW).lt
     go_simp
     exact hK _ _ (Ext.refl _) ⟨_,_,_,_,rfl,SBR.o.ext hW⟩
    ·intro a W hW hB hD K hK
     go_simp
     refine (fromR_any 1 _ (by decide) (by decide)).mono ?_
     rintro e w9 ⟨⟨v,rfl,nn⟩,hx⟩
     rw [← HS.o] at nn
     obtain ⟨x1,x2,x3,x4,rfl⟩:=nn.shape
     exact hK _ _ hx ⟨_,_,_,_,rfl,nn.rd⟩
    ·intro a W hW hB hD K hK
     obtain ⟨v74,e74⟩:∃ x,a.tmps.getD 74 undef=x:=⟨_,rfl⟩
     have h74:=hD 0 _ 74 rfl rfl (by kernel_rfl)
     rw [e74] at h74
     simp only [Array.getD_eq_getD_getElem?] at e74
     obtain ⟨d1,d2,d3,d4,rfl,dh⟩:=h74
     obtain ⟨v75,e75⟩:∃ x,a.tmps.getD 75 undef=x:=⟨_,rfl⟩
     have h75:=hD 1 _ 75 rfl rfl (by kernel_rfl)
     rw [e75] at h75
     simp only [Array.getD_eq_getD_getElem?] at e75
     obtain ⟨e1,e2,e3,e4,rfl,eh⟩:=h75
     go_simp
     refine (equalRat_any _ _ s s _ dh eh).mono ?_
     rintro e w9 ⟨rfl,hx⟩
     rw [decide_eq_true rfl]
     exact hK _ _ hx rfl
    ·intro a W hW hB hD K hK
     obtain ⟨v76,e76⟩:∃ x,a.tmps.getD 76 undef=x:=⟨_,rfl⟩
     have h76:=hD 2 _ 76 rfl rfl (by kernel_rfl)
     rw [e76] at h76
     simp only [Array.getD_eq_getD_getElem?] at e76
     obtain rfl:=h76
     go_simp
     exact hK _ _ (Ext.refl _) rfl
    ·intro a W hW hB hD K hK
     obtain ⟨v77,e77⟩:∃ x,a.tmps.getD 77 undef=x:=⟨_,rfl⟩
     have h77:=hD 3 _ 77 rfl rfl (by kernel_rfl)
     rw [e77] at h77
     simp only [Array.getD_eq_getD_getElem?] at e77
     obtain rfl:=h77
     go_simp
     exact hK _ _ (Ext.refl _) rfl
    ·intro a W hW hB hD K hK
     have b9:=hB 9 rfl
     simp only [Array.getD_eq_getD_getElem?,List.getElem?_toArray,List.getElem?_cons_succ,List.getElem?_cons_zero,Option.getD_some] at b9
     obtain ⟨v78,e78⟩:∃ x,a.tmps.getD 78 undef=x:=⟨_,rfl⟩
     have h78:=hD 4 _ 78 rfl rfl (by kernel_rfl)
     rw [e78] at h78
     simp only [Array.getD_eq_getD_getElem?] at e78
     obtain rfl:=h78
     have z9:=getD_boolC e78
     go_simp
     exact hK _ _ (Ext.refl _) rfl
    ·intro a W hW hB hD K hK
     obtain ⟨v79,e79⟩:∃ x,a.tmps.getD 79 undef=x:=⟨_,rfl⟩
     have h79:=hD 5 _ 79 rfl rfl (by kernel_rfl)
     rw [e79] at h79
     simp only [Array.getD_eq_getD_getElem?] at e79
     obtain rfl:=h79
     obtain ⟨v78,e78⟩:∃ x,a.tmps.getD 78 undef=x:=⟨_,rfl⟩
     have h78:=hD 4 _ 78 rfl rfl (by kernel_rfl)
     rw [e78] at h78
     simp only [Array.getD_eq_getD_getElem?] at e78
     obtain rfl:=h78
     have z9:=getD_boolC e78
     go_simp
     exact hK _ _ (Ext.refl _) rfl
    ·intro a W hW hB hD K hK
     have b4:=hB 4 rfl
     simp only [Array.getD_eq_getD_getElem?,List.getElem?_toArray,List.getElem?_cons_succ,List.getElem?_cons_zero,Option.getD_some] at b4
     obtain ⟨v78,e78⟩:∃ x,a.tmps.getD 78 undef=x:=⟨_,rfl⟩
     have h78:=hD 4 _ 78 rfl rfl (by kernel_rfl)
     rw [e78] at h78
     simp only [Array.getD_eq_getD_getElem?] at e78
     obtain rfl:=h78
     have z9:=getD_boolC e78
     go_simp
     exact hK _ _ (Ext.refl _) rfl
    ·intro a W hW hB hD K hK
     obtain ⟨v81,e81⟩:∃ x,a.tmps.getD 81 undef=x:=⟨_,rfl⟩
     have h81:=hD 7 _ 81 rfl rfl (by kernel_rfl)
     rw [e81] at h81
     simp only [Array.getD_eq_getD_getElem?] at e81
     obtain rfl:=h81
     obtain ⟨v78,e78⟩:∃ x,a.tmps.getD 78 undef=x:=⟨_,rfl⟩
     have h78:=hD 4 _ 78 rfl rfl (by kernel_rfl)
     rw [e78] at h78
     simp only [Array.getD_eq_getD_getElem?] at e78
     obtain rfl:=h78
     have z9:=getD_boolC e78
     have q9:=(A0.o.ext (XK.o.trans hW)).cell;have l9:=(A0.o.ext (XK.o.trans hW)).lt
     go_simp
     exact hK _ _ (Ext.refl _) rfl
    ·intro a W hW hB hD K hK
     obtain ⟨v82,e82⟩:∃ x,a.tmps.getD 82 undef=x:=⟨_,rfl⟩
     have h82:=hD 8 _ 82 rfl rfl (by kernel_rfl)
     rw [e82] at h82
     simp only [Array.getD_eq_getD_getElem?] at e82
     obtain rfl:=h82
     obtain ⟨v78,e78⟩:∃ x,a.tmps.getD 78 undef=x:=⟨_,rfl⟩
     have h78:=hD 4 _ 78 rfl rfl (by kernel_rfl)
     rw [e78] at h78
     simp only [Array.getD_eq_getD_getElem?] at e78
     obtain rfl:=h78
     have z9:=getD_boolC e78
     go_simp
     exact hK _ _ (Ext.refl _) rfl
    ·intro a W hW hB hD K hK
     obtain ⟨v80,e80⟩:∃ x,a.tmps.getD 80 undef=x:=⟨_,rfl⟩
     have h80:=hD 6 _ 80 rfl rfl (by kernel_rfl)
     rw [e80] at h80
     simp only [Array.getD_eq_getD_getElem?] at e80
     obtain rfl:=h80
     obtain ⟨v83,e83⟩:∃ x,a.tmps.getD 83 undef=x:=⟨_,rfl⟩
     have h83:=hD 9 _ 83 rfl rfl (by kernel_rfl)
     rw [e83] at h83
     simp only [Array.getD_eq_getD_getElem?] at e83
     obtain rfl:=h83
     obtain ⟨v78,e78⟩:∃ x,a.tmps.getD 78 undef=x:=⟨_,rfl⟩
     have h78:=hD 4 _ 78 rfl rfl (by kernel_rfl)
     rw [e78] at h78
     simp only [Array.getD_eq_getD_getElem?] at e78
     obtain rfl:=h78
     have z9:=getD_boolC e78
     go_simp
     exact hK _ _ (Ext.refl _) rfl
    ·intro a W hW hB hD K hK
     obtain ⟨v78,e78⟩:∃ x,a.tmps.getD 78 undef=x:=⟨_,rfl⟩
     have h78:=hD 4 _ 78 rfl rfl (by kernel_rfl)
     rw [e78] at h78
     simp only [Array.getD_eq_getD_getElem?] at e78
     obtain rfl:=h78
     obtain ⟨v84,e84⟩:∃ x,a.tmps.getD 84 undef=x:=⟨_,rfl⟩
     have h84:=hD 10 _ 84 rfl rfl (by kernel_rfl)
     rw [e84] at h84
     simp only [Array.getD_eq_getD_getElem?] at e84
     obtain rfl:=h84
     go_simp
     exact hK _ _ (Ext.refl _) rfl
    ·intro a W hW hB hD K hK
     obtain ⟨v85,e85⟩:∃ x,a.tmps.getD 85 undef=x:=⟨_,rfl⟩
     have h85:=hD 11 _ 85 rfl rfl (by kernel_rfl)
     rw [e85] at h85
     simp only [Array.getD_eq_getD_getElem?] at e85
     obtain rfl:=h85
     go_simp
     exact hK _ _ (Ext.refl _) rfl
    ·intro a W hW hB hD K hK
     have b3:=hB 3 rfl
     simp only [Array.getD_eq_getD_getElem?,List.getElem?_toArray,List.getElem?_cons_succ,List.getElem?_cons_zero,Option.getD_some] at b3
     obtain ⟨v86,e86⟩:∃ x,a.tmps.getD 86 undef=x:=⟨_,rfl⟩
     have h86:=hD 12 _ 86 rfl rfl (by kernel_rfl)
     rw [e86] at h86
     simp only [Array.getD_eq_getD_getElem?] at e86
     obtain rfl:=h86
     have z9:=getD_boolC e86
     go_simp
     exact hK _ _ (Ext.refl _) rfl
    ·intro a W hW hB hD K hK
     obtain ⟨v87,e87⟩:∃ x,a.tmps.getD 87 undef=x:=⟨_,rfl⟩
     have h87:=hD 13 _ 87 rfl rfl (by kernel_rfl)
     rw [e87] at h87
     simp only [Array.getD_eq_getD_getElem?] at e87
     obtain rfl:=h87
     obtain ⟨v86,e86⟩:∃ x,a.tmps.getD 86 undef=x:=⟨_,rfl⟩
     have h86:=hD 12 _ 86 rfl rfl (by kernel_rfl)
     rw [e86] at h86
     simp only [Array.getD_eq_getD_getElem?] at e86
     obtain rfl:=h86
     have z9:=getD_boolC e86
     go_simp
     exact hK _ _ (Ext.refl _) rfl
    ·intro a W hW hB hD K hK
     obtain ⟨v86,e86⟩:∃ x,a.tmps.getD 86 undef=x:=⟨_,rfl⟩
     have h86:=hD 12 _ 86 rfl rfl (by kernel_rfl)
     rw [e86] at h86
     simp only [Array.getD_eq_getD_getElem?] at e86
     obtain rfl:=h86
     obtain ⟨v88,e88⟩:∃ x,a.tmps.getD 88 undef=x:=⟨_,rfl⟩
     have h88:=hD 14 _ 88 rfl rfl (by kernel_rfl)
     rw [e88] at h88
     simp only [Array.getD_eq_getD_getElem?] at e88
     obtain rfl:=h88
     go_simp
     exact hK _ _ (Ext.refl _) rfl
    ·intro a W hW hB hD K hK
     obtain ⟨v89,e89⟩:∃ x,a.tmps.getD 89 undef=x:=⟨_,rfl⟩
     have h89:=hD 15 _ 89 rfl rfl (by kernel_rfl)
     rw [e89] at h89
     simp only [Array.getD_eq_getD_getElem?] at e89
     obtain rfl:=h89
     go_simp
     exact hK _ _ (Ext.refl _) rfl
    ·intro a W hW hB hD K hK
     have b3:=hB 3 rfl
     simp only [Array.getD_eq_getD_getElem?,List.getElem?_toArray,List.getElem?_cons_succ,List.getElem?_cons_zero,Option.getD_some] at b3
     obtain ⟨v90,e90⟩:∃ x,a.tmps.getD 90 undef=x:=⟨_,rfl⟩
     have h90:=hD 16 _ 90 rfl rfl (by kernel_rfl)
     rw [e90] at h90
     simp only [Array.getD_eq_getD_getElem?] at e90
     obtain rfl:=h90
     have z9:=getD_boolC e90
     go_simp
     exact hK _ _ (Ext.refl _) rfl
    ·intro a W hW hB hD K hK
     have b9:=hB 9 rfl
     simp only [Array.getD_eq_getD_getElem?,List.getElem?_toArray,List.getElem?_cons_succ,List.getElem?_cons_zero,Option.getD_some] at b9
     obtain ⟨v90,e90⟩:∃ x,a.tmps.getD 90 undef=x:=⟨_,rfl⟩
     have h90:=hD 16 _ 90 rfl rfl (by kernel_rfl)
     rw [e90] at h90
     simp only [Array.getD_eq_getD_getElem?] at e90
     obtain rfl:=h90
     have z9:=getD_boolC e90
     go_simp
     exact hK _ _ (Ext.refl _) rfl
    ·intro a W hW hB hD K hK
     obtain ⟨v92,e92⟩:∃ x,a.tmps.getD 92 undef=x:=⟨_,rfl⟩
     have h92:=hD 18 _ 92 rfl rfl (by kernel_rfl)
     rw [e92] at h92
     simp only [Array.getD_eq_getD_getElem?] at e92
     obtain rfl:=h92
     obtain ⟨v90,e90⟩:∃ x,a.tmps.getD 90 undef=x:=⟨_,rfl⟩
     have h90:=hD 16 _ 90 rfl rfl (by kernel_rfl)
     rw [e90] at h90
     simp only [Array.getD_eq_getD_getElem?] at e90
     obtain rfl:=h90
     have z9:=getD_boolC e90
     go_simp
     exact hK _ _ (Ext.refl _) rfl
    ·intro a W hW hB hD K hK
     obtain ⟨v91,e91⟩:∃ x,a.tmps.getD 91 undef=x:=⟨_,rfl⟩
     have h91:=hD 17 _ 91 rfl rfl (by kernel_rfl)
     rw [e91] at h91
     simp only [Array.getD_eq_getD_getElem?] at e91
     obtain rfl:=h91
     obtain ⟨v93,e93⟩:∃ x,a.tmps.getD 93 undef=x:=⟨_,rfl⟩
     have h93:=hD 19 _ 93 rfl rfl (by kernel_rfl)
     rw [e93] at h93
     simp only [Array.getD_eq_getD_getElem?] at e93
     obtain rfl:=h93
     obtain ⟨v90,e90⟩:∃ x,a.tmps.getD 90 undef=x:=⟨_,rfl⟩
     have h90:=hD 16 _ 90 rfl rfl (by kernel_rfl)
     rw [e90] at h90
     simp only [Array.getD_eq_getD_getElem?] at e90
     obtain rfl:=h90
     have z9:=getD_boolC e90
     go_simp
     exact hK _ _ (Ext.refl _) rfl
    ·intro a W hW hB hD K hK
     obtain ⟨v90,e90⟩:∃ x,a.tmps.getD 90 undef=x:=⟨_,rfl⟩
     have h90:=hD 16 _ 90 rfl rfl (by kernel_rfl)
     rw [e90] at h90
     simp only [Array.getD_eq_getD_getElem?] at e90
     obtain rfl:=h90
     obtain ⟨v94,e94⟩:∃ x,a.tmps.getD 94 undef=x:=⟨_,rfl⟩
     have h94:=hD 20 _ 94 rfl rfl (by kernel_rfl)
     rw [e94] at h94
     simp only [Array.getD_eq_getD_getElem?] at e94
     obtain rfl:=h94
     go_simp
     exact hK _ _ (Ext.refl _) rfl
   intro w6 hx
   simp only [Vals]
   rintro u0 - u1 - u2 - u3 - u4 - u5 - u6 - u7 - u8 - u9 - u10 - u11 - u12 - u13 - u14 - u15 - u16 - u17 - u18 - u19 - u20 - u21 h21
   obtain rfl:u21=.bool false:=h21
   simp only [Act.put,List.setIfInBounds_toArray,List.set_cons_zero,List.set_cons_succ]
   replace XK:=kI (XK.o.trans hx)
   clear hx q3 q4 q5 SBK SBR HS
   have A6:=kI (A0.o.ext XK.o)
   have a0:=A6.o.cell;have a1:=A6.o.free;have a2:=A6.o.lt
   go_wp2_with fail
   clear a0 a1 a2
   refine (copyMDP_any m m1 m2 m3 n1 n2 n3 _ (HMD.o.ext (X.o.trans XK.o)) (HMS.o.ext (X.o.trans XK.o)) (md_ln HMZ.o).1 (md_ln HMZ.o).2).mono ?_
   rintro e w7 ⟨⟨fa1,fc1,fa2,fc2,fa3,fc3,B,rfl,e1,e2,hB,e3⟩,hx⟩
   obtain ⟨-,hc1,hc2,g,bs,cs,rfl,hfs⟩:=FrS.of e3 (by have:=(md_valid HMZ.o).2.1;omega) (fun i hi=>(st_valid ((md_valid HMZ.o).2.2.2 i hi)).1)
   have E1:=kI e1;have E2:=kI e2;have HB:=kI hB;have FS:=kI hfs;have HC1:=kI hc1;have HC2:=kI hc2
   have X7:=kI hx
   clear e1 e2 hB hfs e3 hx hc1 hc2
   go_wp2_with fail
   have hb8:=Blk.new w7 #[.bool m.disc.neg,.slice fa1 m.disc.num.length fc1,.slice fa2 m.disc.den.length fc2,.slice (some ⟨g,0,none⟩) m.states.length fc3] 28
   have hx8:Ext w7 (w7.alloc (.cells #[.bool m.disc.neg,.slice fa1 m.disc.num.length fc1,.slice fa2 m.disc.den.length fc2,.slice (some ⟨g,0,none⟩) m.states.length fc3] 28)):=(Ext.refl w7).alloc _
   obtain ⟨w8,hw8⟩:∃ W,W=w7.alloc (.cells #[.bool m.disc.neg,.slice fa1 m.disc.num.length fc1,.slice fa2 m.disc.den.length fc2,.slice (some ⟨g,0,none⟩) m.states.length fc3] 28):=⟨_,rfl⟩
   rw [← hw8] at hb8 hx8 ⊢
   obtain ⟨fb,hfb⟩:∃ n,n=w7.heap.size:=⟨_,rfl⟩
   rw [← hfb] at hb8 ⊢
   have hfm:FrM B w8 fb fa1 fc1 fa2 fc2 g fc3 bs cs m 0 0:=⟨hb8,E1.o.ext hx8,E2.o.ext hx8,HC1.o,HC2.o,FS.o.ext hx8⟩
   have FM0:=kI hfm;have X8:=kI (X7.o.trans hx8)
   clear hb8 hx8 hw8 hfm hfb E1 E2 FS X7 HC1 HC2
   have h200:=(md_valid HMZ.o).2.2.1
   go_loopw [16] (fun i wr=>∃ t:Nat,t≤m.states.length∧i=.int .i64 t∧FrM B wr fb fa1 fc1 fa2 fc2 g fc3 bs cs m t 0∧Ext w6 wr) (fun i _=>m.states.length - (intOf i).toNat)
   case atStart=>exact ⟨0,Nat.zero_le _,rfl,FM0.o,X8.o⟩
   case round=>
    clear FM0 X8
    obtain ⟨wi,hwi⟩:∃ W,W=wr:=⟨_,rfl⟩
    subst hwi
    obtain ⟨t,ht,rfl,hfm,hxi⟩:=hrel
    have FM1:=kI hfm;have XI:=kI hxi
    clear hfm hxi
    have f0:=FM1.o.1.cell;have f1:=FM1.o.1.free;have f2:=FM1.o.1.lt
    by_cases htl:t < m.states.length
    ·have q1:(t:Int) < (m.states.length:Int):=by omega
     go_wp2_with fail
     clear f0 f1 f2
     go_loopw [17] (fun i wq=>∃ k:Nat,k≤(m.states.getD t []).length∧i=.int .i64 k∧FrM B wq fb fa1 fc1 fa2 fc2 g fc3 bs cs m t k∧Ext w6 wq) (fun i _=>(m.states.getD t []).length - (intOf i).toNat)
     case atStart=>exact ⟨0,Nat.zero_le _,rfl,FM1.o,XI.o⟩
     case round=>
      clear FM1 XI
      obtain ⟨wj,hwj⟩:∃ W,W=wr:=⟨_,rfl⟩
      subst hwj
      obtain ⟨k,hk,rfl,hfm,hxi⟩:=hrel
      have FM1:=kI hfm;have XI:=kI hxi
      clear hfm hxi
      have f0:=FM1.o.1.cell;have f1:=FM1.o.1.free;have f2:=FM1.o.1.lt
      obtain ⟨g1,g2,g3,g4,g5⟩:=FM1.o.cellS htl
      have q2:(0:Int)≤(t:Int):=by omega
      obtain ⟨al,hal⟩:∃ n,n=(m.states.getD t []).length:=⟨_,rfl⟩
      have HAL:=kI hal
      rw [← hal] at g2 hk g5 ⊢
      clear hal
      by_cases hlk:k < al
      ·have q3:(k:Int) < (al:Int):=by omega
       have q4:(0:Int)≤(k:Int):=by omega
       obtain ⟨cur,hcur⟩:=(FM1.o.2.2.2.2.2.2 t htl).2.2.2.2.1
       have r1:=hcur.free;have r2:=hcur.lt
       obtain ⟨p1,p2,p3,p4,p5,p6,p7,k1,k2,k3⟩:=FM1.o.cellA htl (a:=k) (by rw [← HAL.o];exact hlk)
       have G3:=kI g3
       clear hcur g3 g4
       go_wp2_with fail
       clear f0 f1 f2 g1 g2 g5 r1 r2 k1 k2 k3
       have hst:=FM1.o.store (k:=k) htl (by rw [← HAL.o];exact hlk)
       have hxs:=ext_put3 (x:=.bool false) (y:=.slice none 0 0) (z:=.slice none 0 0) (o:=k*4) (b:=bs t) XI.o (Nat.le_trans HB.o G3.o)
       go_roundw
       case rel=>exact ⟨k+1,hlk,by go_num,hst,hxs⟩
       case measure=>simp [intOf];omega
      ·obtain rfl:k=al:=by omega
       have q3:¬ ((k:Int) < (k:Int)):=by omega
       go_wp2_with fail
       have hnx:=FM1.o
       rw [HAL.o] at hnx
       go_roundw
       case rel=>exact ⟨t+1,htl,by go_num,hnx.next,XI.o⟩
       case measure=>simp [intOf];omega
    ·obtain rfl:t=m.states.length:=by omega
     have q1:¬ ((m.states.length:Int) < (m.states.length:Int)):=by omega
     go_wp2_with fail
     clear f0 f1 f2
     have X9:=kI (X.o.trans (XK.o.trans XI.o));have X39:=kI (XK.o.trans XI.o)
     refine (HPN.o _ _ _ _ FM1.o.done (HV.o.ext X9.o) (HP.o.ext X9.o) HL.o).mono ?_
     rintro e w11 ⟨⟨v,rfl,ov⟩,hx⟩
     obtain ⟨pu,hpu⟩:∃ p,p=planS (freeM m) vals plan:=⟨_,rfl⟩
     obtain ⟨y,c1⟩:=pu
     rw [← hpu] at ov ⊢
     dsimp only at ov ⊢
     obtain ⟨ya,yc,rfl⟩:=ov.shape
     have YL:=kI ov.rd;have HPU:=kI hpu
     replace X39:=kI (X39.o.trans hx)
     clear ov hpu hx FM1 XI X9
     go_wp2_with fail
     refine (dotR_any _ _ l vals _ (LR.o.ext X39.o) (HV.o.ext (X.o.trans X39.o)) (fun i _=>(NNL.o.2 i).2.1) HLV.o).mono ?_
     rintro e w12 ⟨hres,hx⟩
     obtain ⟨dd,hdd⟩:∃ p,p=dotR l vals:=⟨_,rfl⟩
     obtain ⟨w0,c2⟩:=dd
     rw [← hdd] at hres
     unfold ResR at hres
     dsimp only at hres
     obtain ⟨v,rfl,nn⟩:=hres
     obtain ⟨d1,d2,d3,d4,rfl⟩:=nn.shape
     have W0:=kI nn.rd;have HDD:=kI hdd
     replace X39:=kI (X39.o.trans hx);replace YL:=kI (YL.o.ext hx)
     clear nn hdd hx
     by_cases h1:c1=0
     rotate_left
     ·have q7:(c1 != 0)=true:=bne_iff_ne.2 h1
      clear h1
      go_wp2_with fail
      go_ret
      exact ⟨rfl,X.o.trans (X39.o.trans ((Ext.refl w12).alloc (.cells #[.bool w0.neg,.slice d1 w0.num.length d2,.slice d3 w0.den.length d4] 25)))⟩
     subst h1
     by_cases h2:c2=0
     rotate_left
     ·have q7:(c2 != 0)=true:=bne_iff_ne.2 h2
      clear h2
      go_wp2_with fail
      go_ret
      exact ⟨rfl,X.o.trans (X39.o.trans ((Ext.refl w12).alloc (.cells #[.bool w0.neg,.slice d1 w0.num.length d2,.slice d3 w0.den.length d4] 25)))⟩
     subst h2
     obtain ⟨v1,v2,v3,v4,v5⟩:=chances_value HLV.o HST.o HPU.o HDD.o
     rw [Int.toNat_natCast] at v5
     have HW1:=kI v2;have HW2:=kI v3;have HYL:=kI v4;have HV5:=kI v5
     clear v1 v2 v3 v4 v5
     go_wp2_with fail
     obtain ⟨wb,hwb⟩:∃ n,n=w12.heap.size:=⟨_,rfl⟩
     have hx:Ext w12 (w12.alloc (.cells #[.bool w0.neg,.slice d1 w0.num.length d2,.slice d3 w0.den.length d4] 25)):=(Ext.refl w12).alloc _
     have hz0:SumB (w12.alloc (.cells #[.bool w0.neg,.slice d1 w0.num.length d2,.slice d3 w0.den.length d4] 25)) wb 25 w0:=⟨d1,d2,d3,d4,by rw [hwb];exact Blk.new _ _ _,W0.o.ext hx⟩
     obtain ⟨w13,hw13⟩:∃ W,W=w12.alloc (.cells #[.bool w0.neg,.slice d1 w0.num.length d2,.slice d3 w0.den.length d4] 25):=⟨_,rfl⟩
     rw [← hw13] at hz0 hx ⊢
     rw [← hwb]
     have SB0:=kI hz0;have X13:=kI hx;have WBN:=kI hwb
     clear hz0 hwb hw13 hx
     go_loopw [22] (fun i wr=>∃ k:Nat,k≤plan.length∧i=.int .i64 k∧SumB wr wb 25 (wntK m w0 k)∧Ext w12 wr∧∀ j,j < k→(mulR (wntK m w0 j) m.disc).2=0) (fun i _=>plan.length - (intOf i).toNat)
     case atStart=>exact ⟨0,Nat.zero_le _,rfl,SB0.o,X13.o,fun j hj=>by omega⟩
     case round=>
      clear SB0 X13
      obtain ⟨wk,hwk⟩:∃ W,W=wr:=⟨_,rfl⟩
      subst hwk
      obtain ⟨k,hk,rfl,hsb,hxk,hok⟩:=hrel
      have XK2:=kI hxk;have SB:=kI hsb;have OK:=kI hok
      clear hxk hsb hok
      by_cases hlt:k < plan.length
      ·have hse:=wnt_err HMZ.o HW1.o HW2.o OK.o
       have hsl:=(wnt_ok HW1.o HW2.o k OK.o).2.1
       have hsuc:wntK m w0 (k+1)=(mulR (wntK m w0 k) m.disc).1:=rfl
       have hcall:=fun W v1 v2 (e1:RdR W v1 (wntK m w0 k)) (e2:RdR W v2 m.disc)=>mulR_any v1 v2 (wntK m w0 k) m.disc W e1 e2 hsl HLM.o.1
       have HSTP:=kI (fun (h:(mulR (wntK m w0 k) m.disc).2=0)=>(show ∀ j,j < k+1→(mulR (wntK m w0 j) m.disc).2=0 from fun j hj=>by
        by_cases e:j=k
        ·subst e;exact h
        ·exact OK.o j (by omega)))
       obtain ⟨s,hs⟩:∃ s,s=wntK m w0 k:=⟨_,rfl⟩
       have SB1:=SB.o
       rw [← hs] at SB1
       rw [← hs] at hse hcall hsuc HSTP
       obtain ⟨ad,had⟩:∃ p,p=mulR s m.disc:=⟨_,rfl⟩
       unfold ResR at hcall
       rw [← had] at hse hcall hsuc HSTP
       obtain ⟨t,c⟩:=ad
       dsimp only at hse hcall hsuc HSTP
       obtain ⟨z1,z2,z3,z4,hz1,hz2⟩:=SB1
       have SBR:=kI hz2;have SBK:=kI hz1
       have HCALL:=kI hcall;have HSE:=kI hse;have HSUC:=kI hsuc
       have q1:(k:Int) < (plan.length:Int):=by omega
       have AK:=kI (A0.o.ext (X39.o.trans XK2.o))
       have s0:=hz1.cell;have s1:=hz1.free;have s2:=hz1.lt
       have a0:=AK.o.cell;have a1:=AK.o.free;have a2:=AK.o.lt
       clear hse hsl hsuc hcall hs had hz1 hz2
       go_wp2_with fail
       clear s0 s1 s2 a0 a1 a2
       refine (HCALL.o _ _ _ SBR.o (HMD.o.ext (X.o.trans (X39.o.trans XK2.o)))).mono ?_
       rintro e w14 ⟨⟨v,rfl,nn⟩,hx⟩
       obtain ⟨t1,t2,t3,t4,rfl⟩:=nn.shape
       have HT:=kI nn.rd
       replace XK2:=kI (XK2.o.trans hx)
       have SB14:=kI (SB.o.ext hx);have SK14:=kI (SBK.o.ext hx)
       have s0:=SK14.o.cell;have s1:=SK14.o.free;have s2:=SK14.o.lt
       have hxx:=ext_put3 (x:=.bool t.neg) (y:=.slice t1 t.num.length t2) (z:=.slice t3 t.den.length t4) (o:=0) (b:=wb) XK2.o (Nat.le_of_eq WBN.o.symm)
       have HXX:=kI hxx
       clear nn hx SBR SBK SB hxx HCALL AK
       rcases HSE.o with hc|hc
       rotate_left
       ·subst hc
        go_wp2_with fail
        go_ret
        exact ⟨rfl,X.o.trans (X39.o.trans HXX.o)⟩
       subst hc
       go_wp2_with fail
       have hsb:=SB14.o.put HT.o
       have hsc:=HSUC.o
       go_roundw
       case rel=>exact ⟨k+1,hlt,by go_num,by rw [hsc];exact hsb,HXX.o,HSTP.o (by first|trivial|rfl)⟩
       case measure=>simp [intOf];omega
      ·obtain rfl:k=plan.length:=by omega
       have q1:¬ ((plan.length:Int) < (plan.length:Int)):=by omega
       have hyw:=HV5.o OK.o
       clear hlt hk
       go_wp2_with fail
       have hys:sn < y.length:=by rw [HYL.o];exact HSN.o
       obtain ⟨_,_,e1,_,_,fa,hfa⟩:=(YL.o.ext XK2.o).get
       injection e1 with e0 e4 e5
       subst e0;clear e4 e5
       obtain ⟨ba,oa,rfl,hba,p0,p1,p2,hra⟩:=hfa sn hys
       clear hfa
       obtain ⟨ff,hff⟩:∃ f,f=fa sn:=⟨_,rfl⟩
       rw [← hff] at p1 p2 hra
       obtain ⟨⟨a1,a2⟩,⟨a3,a4⟩⟩:=ff
       dsimp only at p1 p2 hra
       rw [hyw] at p0 p1 p2 hra
       have hsb:=SB.o
       obtain ⟨s,hs⟩:∃ s,s=wntK m w0 plan.length:=⟨_,rfl⟩
       rw [← hs] at p0 p1 p2 hra hsb
       obtain ⟨z1,z2,z3,z4,hz1,hz2⟩:=hsb
       have SBR:=kI hz2;have SBK:=kI hz1
       have CA:Hid (ba < wk.heap.size∧wk.cell? ⟨ba,oa+sn*3,none⟩=some (.bool s.neg)∧wk.cell? ⟨ba,oa+sn*3+1,none⟩=some (.slice a1 s.num.length a2)∧wk.cell? ⟨ba,oa+sn*3+2,none⟩=some (.slice a3 s.den.length a4)∧RdR wk (.agg #[.bool s.neg,.slice a1 s.num.length a2,.slice a3 s.den.length a4]) s):=kI ⟨hba,p0,p1,p2,hra⟩
       have q2:(sn:Int) < (y.length:Int):=by omega
       have q3:(0:Int)≤(sn:Int):=by omega
       clear hba p0 p1 p2 hra hz1 hz2 hs hff hyw hys OK SB
       refine wp_region_each_tail 12 (chD (some ⟨ba,oa,none⟩) yc y.length (sn:Int) sn ba oa s s) (by kernel_rfl) (by kernel_rfl) (by kernel_rfl) (fun _ _ _ _ h x=>chD_ext h x) ?_ ?_
       ·refine ⟨?_,?_,?_,?_,?_,?_,?_,?_,?_,?_,?_,?_,trivial⟩
        ·intro a W hW hB hD K hK
         have b3:=hB 3 rfl
         simp only [Array.getD_eq_getD_getElem?,List.getElem?_toArray,List.getElem?_cons_succ,List.getElem?_cons_zero,Option.getD_some] at b3
         go_simp
         exact hK _ _ (Ext.refl _) rfl
        ·intro a W hW hB hD K hK
         have b18:=hB 18 rfl
         simp only [Array.getD_eq_getD_getElem?,List.getElem?_toArray,List.getElem?_cons_succ,List.getElem?_cons_zero,Option.getD_some] at b18
         go_simp
         exact hK _ _ (Ext.refl _) rfl
        ·intro a W hW hB hD K hK
         obtain ⟨v161,e161⟩:∃ x,a.tmps.getD 161 undef=x:=⟨_,rfl⟩
         have h161:=hD 1 _ 161 rfl rfl (by kernel_rfl)
         rw [e161] at h161
         simp only [Array.getD_eq_getD_getElem?] at e161
         obtain rfl:=h161
         go_simp
         exact hK _ _ (Ext.refl _) rfl
        ·intro a W hW hB hD K hK
         obtain ⟨v160,e160⟩:∃ x,a.tmps.getD 160 undef=x:=⟨_,rfl⟩
         have h160:=hD 0 _ 160 rfl rfl (by kernel_rfl)
         rw [e160] at h160
         simp only [Array.getD_eq_getD_getElem?] at e160
         obtain rfl:=h160
         obtain ⟨v162,e162⟩:∃ x,a.tmps.getD 162 undef=x:=⟨_,rfl⟩
         have h162:=hD 2 _ 162 rfl rfl (by kernel_rfl)
         rw [e162] at h162
         simp only [Array.getD_eq_getD_getElem?] at e162
         obtain rfl:=h162
         go_simp
         exact hK _ _ (Ext.refl _) rfl
        ·intro a W hW hB hD K hK
         obtain ⟨v163,e163⟩:∃ x,a.tmps.getD 163 undef=x:=⟨_,rfl⟩
         have h163:=hD 3 _ 163 rfl rfl (by kernel_rfl)
         rw [e163] at h163
         simp only [Array.getD_eq_getD_getElem?] at e163
         obtain rfl:=h163
         go_simp
         exact hK _ _ (Ext.refl _) rfl
        ·intro a W hW hB hD K hK
         have b18:=hB 18 rfl
         simp only [Array.getD_eq_getD_getElem?,List.getElem?_toArray,List.getElem?_cons_succ,List.getElem?_cons_zero,Option.getD_some] at b18
         obtain ⟨v164,e164⟩:∃ x,a.tmps.getD 164 undef=x:=⟨_,rfl⟩
         have h164:=hD 4 _ 164 rfl rfl (by kernel_rfl)
         rw [e164] at h164
         simp only [Array.getD_eq_getD_getElem?] at e164
         obtain rfl:=h164
         have z9:=getD_boolC e164
         go_simp
         exact hK _ _ (Ext.refl _) rfl
        ·intro a W hW hB hD K hK
         have b3:=hB 3 rfl
         simp only [Array.getD_eq_getD_getElem?,List.getElem?_toArray,List.getElem?_cons_succ,List.getElem?_cons_zero,Option.getD_some] at b3
         obtain ⟨v164,e164⟩:∃ x,a.tmps.getD 164 undef=x:=⟨_,rfl⟩
         have h164:=hD 4 _ 164 rfl rfl (by kernel_rfl)
         rw [e164] at h164
         simp only [Array.getD_eq_getD_getElem?] at e164
         obtain rfl:=h164
         have z9:=getD_boolC e164
         go_simp
         exact hK _ _ (Ext.refl _) rfl
        ·intro a W hW hB hD K hK
         obtain ⟨v165,e165⟩:∃ x,a.tmps.getD 165 undef=x:=⟨_,rfl⟩
         have h165:=hD 5 _ 165 rfl rfl (by kernel_rfl)
         rw [e165] at h165
         simp only [Array.getD_eq_getD_getElem?] at e165
         obtain rfl:=h165
         obtain ⟨v166,e166⟩:∃ x,a.tmps.getD 166 undef=x:=⟨_,rfl⟩
         have h166:=hD 6 _ 166 rfl rfl (by kernel_rfl)
         rw [e166] at h166
         simp only [Array.getD_eq_getD_getElem?] at e166
         obtain rfl:=h166
         obtain ⟨v164,e164⟩:∃ x,a.tmps.getD 164 undef=x:=⟨_,rfl⟩
         have h164:=hD 4 _ 164 rfl rfl (by kernel_rfl)
         rw [e164] at h164
         simp only [Array.getD_eq_getD_getElem?] at e164
         obtain rfl:=h164
         have z9:=getD_boolC e164
         go_simp
         exact hK _ _ (Ext.refl _) rfl
        ·intro a W hW hB hD K hK
         obtain ⟨v167,e167⟩:∃ x,a.tmps.getD 167 undef=x:=⟨_,rfl⟩
         have h167:=hD 7 _ 167 rfl rfl (by kernel_rfl)
         rw [e167] at h167
         simp only [Array.getD_eq_getD_getElem?] at e167
         obtain rfl:=h167
         obtain ⟨v164,e164⟩:∃ x,a.tmps.getD 164 undef=x:=⟨_,rfl⟩
         have h164:=hD 4 _ 164 rfl rfl (by kernel_rfl)
         rw [e164] at h164
         simp only [Array.getD_eq_getD_getElem?] at e164
         obtain rfl:=h164
         have z9:=getD_boolC e164
         have m0:=(hW.cell (p:=⟨ba,oa+sn*3,none⟩) CA.o.1).trans CA.o.2.1
         have m1:=(hW.cell (p:=⟨ba,oa+sn*3+1,none⟩) CA.o.1).trans CA.o.2.2.1
         have m2:=(hW.cell (p:=⟨ba,oa+sn*3+2,none⟩) CA.o.1).trans CA.o.2.2.2.1
         have ml:=Nat.lt_of_lt_of_le CA.o.1 hW.size
         go_simp
         exact hK _ _ (Ext.refl _) ⟨_,_,_,_,rfl,CA.o.2.2.2.2.ext hW⟩
        ·intro a W hW hB hD K hK
         have b20:=hB 20 rfl
         simp only [Array.getD_eq_getD_getElem?,List.getElem?_toArray,List.getElem?_cons_succ,List.getElem?_cons_zero,Option.getD_some] at b20
         obtain ⟨v164,e164⟩:∃ x,a.tmps.getD 164 undef=x:=⟨_,rfl⟩
         have h164:=hD 4 _ 164 rfl rfl (by kernel_rfl)
         rw [e164] at h164
         simp only [Array.getD_eq_getD_getElem?] at e164
         obtain rfl:=h164
         have z9:=getD_boolC e164
         have q9:=(SBK.o.ext hW).cell;have l9:=(SBK.o.ext hW).lt
         go_simp
         exact hK _ _ (Ext.refl _) ⟨_,_,_,_,rfl,SBR.o.ext hW⟩
        ·intro a W hW hB hD K hK
         obtain ⟨v168,e168⟩:∃ x,a.tmps.getD 168 undef=x:=⟨_,rfl⟩
         have h168:=hD 8 _ 168 rfl rfl (by kernel_rfl)
         rw [e168] at h168
         simp only [Array.getD_eq_getD_getElem?] at e168
         obtain ⟨d1,d2,d3,d4,rfl,dh⟩:=h168
         obtain ⟨v169,e169⟩:∃ x,a.tmps.getD 169 undef=x:=⟨_,rfl⟩
         have h169:=hD 9 _ 169 rfl rfl (by kernel_rfl)
         rw [e169] at h169
         simp only [Array.getD_eq_getD_getElem?] at e169
         obtain ⟨e1,e2,e3,e4,rfl,eh⟩:=h169
         obtain ⟨v164,e164⟩:∃ x,a.tmps.getD 164 undef=x:=⟨_,rfl⟩
         have h164:=hD 4 _ 164 rfl rfl (by kernel_rfl)
         rw [e164] at h164
         simp only [Array.getD_eq_getD_getElem?] at e164
         obtain rfl:=h164
         have z9:=getD_boolC e164
         go_simp
         refine (equalRat_any _ _ s s _ dh eh).mono ?_
         rintro e w9 ⟨rfl,hx⟩
         rw [decide_eq_true rfl]
         exact hK _ _ hx rfl
        ·intro a W hW hB hD K hK
         obtain ⟨v164,e164⟩:∃ x,a.tmps.getD 164 undef=x:=⟨_,rfl⟩
         have h164:=hD 4 _ 164 rfl rfl (by kernel_rfl)
         rw [e164] at h164
         simp only [Array.getD_eq_getD_getElem?] at e164
         obtain rfl:=h164
         obtain ⟨v170,e170⟩:∃ x,a.tmps.getD 170 undef=x:=⟨_,rfl⟩
         have h170:=hD 10 _ 170 rfl rfl (by kernel_rfl)
         rw [e170] at h170
         simp only [Array.getD_eq_getD_getElem?] at e170
         obtain rfl:=h170
         go_simp
         exact hK _ _ (Ext.refl _) rfl
       intro w15 hx
       simp only [Vals,List.take_succ_cons,List.take_zero,List.drop_succ_cons,List.drop_zero]
       rintro u0 - u1 - u2 - u3 - u4 - u5 - u6 - u7 - u8 - u9 - u10 - u11 h11
       obtain rfl:u11=.bool true:=h11
       simp only [Act.put,List.setIfInBounds_toArray,List.set_cons_zero,List.set_cons_succ]
       go_wp2_with fail
       go_ret
       exact ⟨rfl,X.o.trans (X39.o.trans (XK2.o.trans hx))⟩
end Go.Proofs.Ytfflknbeidihoaa
