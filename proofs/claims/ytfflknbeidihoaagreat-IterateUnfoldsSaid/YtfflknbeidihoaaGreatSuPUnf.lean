/- Lemmas and walks. Conditions: as stated. -/
import Derived.Test.YtfflknbeidihoaaGreatSuAw22
import Derived.Test.YtfflknbeidihoaaGreatSuRfL
import Derived.ChangeMaps5
set_option linter.unusedVariables false
set_option linter.unusedSimpArgs false
set_option maxRecDepth 100000
set_option maxHeartbeats 16000000
namespace Go.Proofs.YtfflknbeidihoaaGreat
open Go.RowKit
theorem getD_boolU {o:Option Value} {b:Bool} (h:o.getD undef=.bool b):o=some (.bool b):=by
 cases o with
 | none=>cases h
 | some v=>exact congrArg some h
theorem stages_vals {m:MD} {v:List RR} {k:Nat} {g:List (List RR)} {q:List (List Int)} (h:(g,q,(0:Int))=stagesS m v (k:Int)):mvE m v=0∧stgE m v k=0∧g.length=k+1∧g.getD k []=stgV m v k∧(stgV m v k).length=m.states.length:=by
 obtain ⟨h1,h2,h3,h4⟩:=stages_ok (m:=m) (v:=v) (k:=(k:Int)) (by rw [← h]);have h5:=stages_mk h1 h2 h3 h4;rw [Int.toNat_natCast] at h4 h5;rw [← h] at h5;injection h5 with e1 e2
 subst e1;refine ⟨h1,h4,by simp,?_,stg_len (mv_valid h1).2 k (fun i hi=>stgE_at h4 hi)⟩;rw [List.getD_eq_getElem?_getD];simp
theorem rdPl_none (w:World):RdPl w (.slice none 0 0) []:=⟨none,0,rfl,Nat.le_refl _,by decide,fun i hi=>by cases hi⟩
def unA (ga:Option Addr) (gl gc nb an b1 o1:Nat) (a1:Option Addr) (c1:Nat) (m:MD) (m1:Option Addr) (n1:Nat) (m2:Option Addr) (n2:Nat) (m3:Option Addr) (n3:Nat) (j:Nat) (v:Value) (W:World):Prop:=
 match j with
 | 0=>v=.slice ga gl gc
 | 1=>v=.int .i64 gl
 | 2=>v=.int .i64 nb
 | 3=>v=.int .i64 gl
 | 4=>v=.bool false
 | 5=>v=.bool false
 | 6=>v=.slice ga gl gc
 | 7=>v=.int .i64 nb
 | 8=>v=.pointer (some ⟨b1,o1+nb,none⟩)
 | 9=>v=.slice a1 m.states.length c1
 | 10=>v=.int .i64 m.states.length
 | 11=>v=.pointer (some ⟨an,3,none⟩)
 | 12=>v=.slice m3 m.states.length n3
 | 13=>v=.int .i64 m.states.length
 | 14=>v=.bool false
 | 15=>v=.bool false
 | _=>True
theorem unA_ext {ga:Option Addr} {gl gc nb an b1 o1:Nat} {a1:Option Addr} {c1:Nat} {m:MD} {m1:Option Addr} {n1:Nat} {m2:Option Addr} {n2:Nat} {m3:Option Addr} {n3:Nat} {j:Nat} {v:Value} {W W':World} (h:unA ga gl gc nb an b1 o1 a1 c1 m m1 n1 m2 n2 m3 n3 j v W) (x:Ext W W'):unA ga gl gc nb an b1 o1 a1 c1 m m1 n1 m2 n2 m3 n3 j v W':=by
 match j,h with
 | 0,h=>exact h
 | 1,h=>exact h
 | 2,h=>exact h
 | 3,h=>exact h
 | 4,h=>exact h
 | 5,h=>exact h
 | 6,h=>exact h
 | 7,h=>exact h
 | 8,h=>exact h
 | 9,h=>exact h
 | 10,h=>exact h
 | 11,h=>exact h
 | 12,h=>exact h
 | 13,h=>exact h
 | 14,h=>exact h
 | 15,h=>exact h
 | _+16,_=>trivial
def unB (ga:Option Addr) (gl gc nb s b1 o1 b2 o2:Nat) (a1:Option Addr) (c1:Nat) (av:Option Addr) (vn cv:Nat) (r:RR) (m:MD) (m1:Option Addr) (n1:Nat) (m2:Option Addr) (n2:Nat) (m3:Option Addr) (n3:Nat) (j:Nat) (v:Value) (W:World):Prop:=
 match j with
 | 0=>v=.slice ga gl gc
 | 1=>v=.int .i64 nb
 | 2=>v=.pointer (some ⟨b1,o1+nb,none⟩)
 | 3=>v=.slice a1 m.states.length c1
 | 4=>v=.int .i64 s
 | 5=>v=.pointer (some ⟨b2,o2+s*3,none⟩)
 | 6=>∃ s1 s2 s3 s4,v=.agg #[.bool r.neg,.slice s1 r.num.length s2,.slice s3 r.den.length s4]∧RdR W (.agg #[.bool r.neg,.slice s1 r.num.length s2,.slice s3 r.den.length s4]) r
 | 7=>v=.agg #[.bool m.disc.neg,.slice m1 m.disc.num.length n1,.slice m2 m.disc.den.length n2,.slice m3 m.states.length n3]
 | 8=>v=.slice av vn cv
 | 9=>v=.int .i64 nb
 | 10=>v=.int .i64 s
 | 11=>∃ s1 s2 s3 s4,v=.agg #[.bool r.neg,.slice s1 r.num.length s2,.slice s3 r.den.length s4]∧RdR W (.agg #[.bool r.neg,.slice s1 r.num.length s2,.slice s3 r.den.length s4]) r
 | 12=>v=.bool true
 | 13=>v=.bool false
 | _=>True
theorem unB_ext {ga:Option Addr} {gl gc nb s b1 o1 b2 o2:Nat} {a1:Option Addr} {c1:Nat} {av:Option Addr} {vn cv:Nat} {r:RR} {m:MD} {m1:Option Addr} {n1:Nat} {m2:Option Addr} {n2:Nat} {m3:Option Addr} {n3:Nat} {j:Nat} {v:Value} {W W':World} (h:unB ga gl gc nb s b1 o1 b2 o2 a1 c1 av vn cv r m m1 n1 m2 n2 m3 n3 j v W) (x:Ext W W'):unB ga gl gc nb s b1 o1 b2 o2 a1 c1 av vn cv r m m1 n1 m2 n2 m3 n3 j v W':=by
 match j,h with
 | 0,h=>exact h
 | 1,h=>exact h
 | 2,h=>exact h
 | 3,h=>exact h
 | 4,h=>exact h
 | 5,h=>exact h
 | 6,⟨s1,s2,s3,s4,h1,h2⟩=>exact ⟨s1,s2,s3,s4,h1,h2.ext x⟩
 | 7,h=>exact h
 | 8,h=>exact h
 | 9,h=>exact h
 | 10,h=>exact h
 | 11,⟨s1,s2,s3,s4,h1,h2⟩=>exact ⟨s1,s2,s3,s4,h1,h2.ext x⟩
 | 12,h=>exact h
 | 13,h=>exact h
 | _+14,_=>trivial
theorem unfL_any (mv vv:Value) (k:Int) (m:MD) (vals:List RR) (w:World) (hm:RdM w mv m) (hv:RdRs w vv vals) (hlm:LimM m) (hlv:LimL vals) (hk:0≤k∧k≤255) :
  Calls Tryz.prog 4 #[mv,vv,.int .u8 k] w fun e w'=>e=.returned (.bool true)∧Ext w w':=by
 have hst:=fun W mv vv (k:Int) (h:RdM W mv m) (g:RdRs W vv vals) (hln:LenL vals)=>stagesI_any mv vv m vals k W h g hlm hlv hln
 unfold ResG at hst;have HST:=kI hst;have HM:=kI hm;have HV:=kI hv;have HLV:=kI hlv;have HLM:=kI hlm;obtain ⟨m1,n1,m2,n2,m3,n3,rfl,-,-⟩:=hm;obtain ⟨av,cv,rfl,-,-,-⟩:=hv.get;obtain ⟨nb,hnb,hnb3⟩:∃ a:Nat,k.tmod 4=(a:Int)∧a≤3:=⟨(k.tmod 4).toNat,by have:=Int.tmod_nonneg 4 hk.1;omega,by have:=Int.tmod_lt_of_pos k (show (0:Int) < 4 by decide);omega⟩
 have hua:IntKind.u8.wrap (nb:Int)=(nb:Int):=by simp [IntKind.wrap,IntKind.signed,IntKind.bits];omega
 have hva:wrap64 (nb:Int)=(nb:Int):=by unfold wrap64;omega
 have JA:=kI hnb3;clear hk hv hst hlm hlv;have bb0:=(Blk.new w #[.bool m.disc.neg,.slice m1 m.disc.num.length n1,.slice m2 m.disc.den.length n2,.slice m3 m.states.length n3] 28);have x0:Ext w (w.alloc (.cells #[.bool m.disc.neg,.slice m1 m.disc.num.length n1,.slice m2 m.disc.den.length n2,.slice m3 m.states.length n3] 28)):=((Ext.refl w).alloc _);have A0:=kI bb0;have X:=kI x0;clear x0 bb0;go_enter Tryz.func4,Tryz.ntmps4
 obtain ⟨qA0,fA0,lA0⟩:=A0.o.q3;go_wp2_with fail;refine (long22_any _ _ _ m vals _ [] _ (HM.o.ext X.o) (HV.o.ext X.o) (rdPl_none _)).mono ?_;rintro e w1 ⟨⟨r,rfl,hr⟩,hx⟩;clear qA0 fA0 lA0;replace A0:=kI (A0.o.ext hx);replace X:=kI (X.o.trans hx);have HR:=kI hr;clear hx hr;cases r
 rotate_left
 ·go_wp2_with fail;refine (awake22_any _).mono ?_;rintro e w2 ⟨rfl,hx⟩;replace A0:=kI (A0.o.ext hx);replace X:=kI (X.o.trans hx);clear hx;go_wp2_with fail;go_ret;exact ⟨rfl,X.o⟩
 obtain ⟨-,hln,-,-⟩:=HR.o rfl;clear HR;have HL:=kI hln;clear hln;by_cases h4:(m.states.length:Int) > 4
 ·obtain ⟨qA0,fA0,lA0⟩:=A0.o.q3;go_wp2_with fail;refine (awake22_any _).mono ?_;rintro e w2 ⟨rfl,hx⟩;clear qA0 fA0 lA0;replace A0:=kI (A0.o.ext hx);replace X:=kI (X.o.trans hx);clear hx;go_wp2_with fail;go_ret;exact ⟨rfl,X.o⟩
 obtain ⟨qA0,fA0,lA0⟩:=A0.o.q3;go_wp2_with fail;refine (HST.o _ _ _ (nb:Int) (HM.o.ext X.o) (HV.o.ext X.o) HL.o).mono ?_;rintro e w3 ⟨⟨v,p,rfl,ov,op⟩,hx⟩;obtain ⟨st,hst0⟩:=gN (stagesS m vals (nb:Int))
 rw [← hst0] at ov op ⊢;obtain ⟨g,q,c⟩:=st;dsimp only at ov op ⊢;obtain ⟨ga,gc,rfl⟩:=ov.shape;obtain ⟨qa,qc,rfl⟩:=op.shape;have GR:=kI ov.rd;have HS0:=kI hst0;clear qA0 fA0 lA0;replace A0:=kI (A0.o.ext hx);replace X:=kI (X.o.trans hx);clear hx ov op hst0;by_cases hc:c=0
 rotate_left
 ·have hb:=stages_bad (m:=m) (v:=vals) (k:=(nb:Int)) (by rw [← HS0.o];exact hc);rw [← HS0.o] at hb;obtain ⟨rfl,rfl⟩:=hb;have q3:(c != 0)=true:=bne_iff_ne.2 hc;clear hc hua hva hnb;simp only [List.length_nil];go_wp2_with fail;refine (awake22_any _).mono ?_;rintro e w2 ⟨rfl,hx⟩;replace A0:=kI (A0.o.ext hx);replace GR:=kI (GR.o.ext hx);replace X:=kI (X.o.trans hx);clear hx;go_wp2_with fail;go_ret;exact ⟨rfl,X.o⟩
 subst hc;obtain ⟨k1,k2,k3,k4,k5⟩:=stages_vals HS0.o;obtain ⟨gl,hgl⟩:=gN (g.length)
 have hgat:=GR.o;obtain ⟨b1,o1,a1,c1,e1,t10,t11,t12⟩:=hgat.at (i:=nb) (by rw [k3];exact Nat.lt_succ_self _);subst e1;rw [k4] at t11 t12;rw [k5] at t11 t12;rw [← hgl] at k3 ⊢;have hw1:(gl:Int)=(nb:Int)+1:=by omega
 have HGL:=kI k3;have HMV:=kI k1;have HSE:=kI k2;have HVL:=kI k5;have T1:Hid (b1 < w3.heap.size∧w3.cell? ⟨b1,o1+nb,none⟩=some (.slice a1 m.states.length c1)):=kI ⟨t10,t11⟩;have R1:=kI t12;clear k1 k2 k3 k4 k5 hgl hgat t10 t11 t12 HS0 h4;go_wp2_with fail;have q1:(0:Int)≤(nb:Int):=by omega
 have q2:(nb:Int) < (gl:Int):=by omega
 have q3:((gl:Int) != (gl:Int))=false:=by simp
 have q4:((m.states.length:Int) != (m.states.length:Int))=false:=by simp
 have HQ5:=kI (show wrap64 ((nb:Int)+1)=(gl:Int) by have:=JA.o;unfold wrap64;omega);clear hua hva hnb hw1;refine wp_region_each (unA (some ⟨b1,o1,none⟩) gl gc nb w.heap.size b1 o1 a1 c1 m m1 n1 m2 n2 m3 n3) (by kernel_rfl) (by kernel_rfl) (by kernel_rfl) (fun _ _ _ _ h x=>unA_ext h x) ?_ ?_
 ·refine ⟨?_,?_,?_,?_,?_,?_,?_,?_,?_,?_,?_,?_,?_,?_,?_,?_,trivial⟩
  ·intro a W hW hB hD K hK;have b8:=hB 8 rfl;simp only [sB] at b8;go_simp;exact hK _ _ (Ext.refl _) rfl
  ·intro a W hW hB hD K hK;obtain ⟨v42,e42,h42⟩:=dpE (hD 0 _ 42 rfl rfl (by kernel_rfl));obtain rfl:=h42;go_simp;exact hK _ _ (Ext.refl _) rfl
  ·intro a W hW hB hD K hK;have b7:=hB 7 rfl;simp only [sB] at b7;go_simp;exact hK _ _ (Ext.refl _) rfl
  ·intro a W hW hB hD K hK;obtain ⟨v44,e44,h44⟩:=dpE (hD 2 _ 44 rfl rfl (by kernel_rfl));obtain rfl:=h44;go_simp;exact hK _ _ (Ext.refl _) (show Value.int .i64 (IntKind.i64.wrap ((nb:Int)+1))=.int .i64 (gl:Int) by have h:=HQ5.o;unfold wrap64 at h;rw [IntKind.wrap_i64,h])
  ·intro a W hW hB hD K hK;obtain ⟨v43,e43,h43⟩:=dpE (hD 1 _ 43 rfl rfl (by kernel_rfl));obtain rfl:=h43;obtain ⟨v45,e45,h45⟩:=dpE (hD 3 _ 45 rfl rfl (by kernel_rfl));obtain rfl:=h45;go_simp;exact hK _ _ (Ext.refl _) rfl
  ·intro a W hW hB hD K hK;obtain ⟨v46,e46,h46⟩:=dpE (hD 4 _ 46 rfl rfl (by kernel_rfl));obtain rfl:=h46;go_simp;exact hK _ _ (Ext.refl _) rfl
  ·intro a W hW hB hD K hK;have b8:=hB 8 rfl;simp only [sB] at b8;obtain ⟨v47,e47,h47⟩:=dpE (hD 5 _ 47 rfl rfl (by kernel_rfl));obtain rfl:=h47;have z9:=getD_boolU e47;go_simp;exact hK _ _ (Ext.refl _) rfl
  ·intro a W hW hB hD K hK;have b7:=hB 7 rfl;simp only [sB] at b7;obtain ⟨v47,e47,h47⟩:=dpE (hD 5 _ 47 rfl rfl (by kernel_rfl));obtain rfl:=h47;have z9:=getD_boolU e47;go_simp;exact hK _ _ (Ext.refl _) rfl
  ·intro a W hW hB hD K hK;obtain ⟨v48,e48,h48⟩:=dpE (hD 6 _ 48 rfl rfl (by kernel_rfl));obtain rfl:=h48;obtain ⟨v49,e49,h49⟩:=dpE (hD 7 _ 49 rfl rfl (by kernel_rfl));obtain rfl:=h49;obtain ⟨v47,e47,h47⟩:=dpE (hD 5 _ 47 rfl rfl (by kernel_rfl));obtain rfl:=h47;have z9:=getD_boolU e47;go_simp;exact hK _ _ (Ext.refl _) rfl
  ·intro a W hW hB hD K hK;obtain ⟨v50,e50,h50⟩:=dpE (hD 8 _ 50 rfl rfl (by kernel_rfl));obtain rfl:=h50;obtain ⟨v47,e47,h47⟩:=dpE (hD 5 _ 47 rfl rfl (by kernel_rfl));obtain rfl:=h47;have m0:=(hW.cell (p:=⟨b1,o1+nb,none⟩) T1.o.1).trans T1.o.2;have ml:=Nat.lt_of_lt_of_le T1.o.1 hW.size;have z9:=getD_boolU e47;go_simp;exact hK _ _ (Ext.refl _) rfl
  ·intro a W hW hB hD K hK;obtain ⟨v51,e51,h51⟩:=dpE (hD 9 _ 51 rfl rfl (by kernel_rfl));obtain rfl:=h51;obtain ⟨v47,e47,h47⟩:=dpE (hD 5 _ 47 rfl rfl (by kernel_rfl));obtain rfl:=h47;have z9:=getD_boolU e47;go_simp;exact hK _ _ (Ext.refl _) rfl
  ·intro a W hW hB hD K hK;have b3:=hB 3 rfl;simp only [sB] at b3;obtain ⟨v47,e47,h47⟩:=dpE (hD 5 _ 47 rfl rfl (by kernel_rfl));obtain rfl:=h47;have z9:=getD_boolU e47;go_simp;exact hK _ _ (Ext.refl _) rfl
  ·intro a W hW hB hD K hK;obtain ⟨v53,e53,h53⟩:=dpE (hD 11 _ 53 rfl rfl (by kernel_rfl));obtain rfl:=h53;obtain ⟨v47,e47,h47⟩:=dpE (hD 5 _ 47 rfl rfl (by kernel_rfl));obtain rfl:=h47;have q9:=(A0.o.ext hW).cell;have l9:=(A0.o.ext hW).lt;have z9:=getD_boolU e47;go_simp;exact hK _ _ (Ext.refl _) rfl
  ·intro a W hW hB hD K hK;obtain ⟨v54,e54,h54⟩:=dpE (hD 12 _ 54 rfl rfl (by kernel_rfl));obtain rfl:=h54;obtain ⟨v47,e47,h47⟩:=dpE (hD 5 _ 47 rfl rfl (by kernel_rfl));obtain rfl:=h47;have z9:=getD_boolU e47;go_simp;exact hK _ _ (Ext.refl _) rfl
  ·intro a W hW hB hD K hK;obtain ⟨v52,e52,h52⟩:=dpE (hD 10 _ 52 rfl rfl (by kernel_rfl));obtain rfl:=h52;obtain ⟨v55,e55,h55⟩:=dpE (hD 13 _ 55 rfl rfl (by kernel_rfl));obtain rfl:=h55;obtain ⟨v47,e47,h47⟩:=dpE (hD 5 _ 47 rfl rfl (by kernel_rfl));obtain rfl:=h47;have z9:=getD_boolU e47;go_simp;exact hK _ _ (Ext.refl _) rfl
  ·intro a W hW hB hD K hK;obtain ⟨v47,e47,h47⟩:=dpE (hD 5 _ 47 rfl rfl (by kernel_rfl));obtain rfl:=h47;obtain ⟨v56,e56,h56⟩:=dpE (hD 14 _ 56 rfl rfl (by kernel_rfl));obtain rfl:=h56;go_simp;exact hK _ _ (Ext.refl _) rfl
 intro w4 hx;simp only [Vals];rintro u0 - u1 - u2 - u3 - u4 - u5 - u6 - u7 - u8 - u9 - u10 - u11 - u12 - u13 - u14 - u15 h15;obtain rfl:u15=.bool false:=h15;simp only [Act.put,List.setIfInBounds_toArray,List.set_cons_zero,List.set_cons_succ];have T4:Hid (b1 < w4.heap.size∧w4.cell? ⟨b1,o1+nb,none⟩=some (.slice a1 m.states.length c1)):=kI ⟨Nat.lt_of_lt_of_le T1.o.1 hx.size,(hx.cell (p:=⟨b1,o1+nb,none⟩) T1.o.1).trans T1.o.2⟩;have R4:=kI (R1.o.ext hx);replace A0:=kI (A0.o.ext hx);replace X:=kI (X.o.trans hx);clear hx q3 q4 HQ5 T1 R1;go_wp2_with fail;go_loopw [11] (fun i wr=>∃ s:Nat,s≤m.states.length∧i=.int .i64 s∧Ext w4 wr) (fun i _=>m.states.length - (intOf i).toNat)
 case atStart=>exact ⟨0,Nat.zero_le _,rfl,Ext.refl _⟩
 case round=>
  obtain ⟨wk,hwk⟩:=gN (wr)
  subst hwk;obtain ⟨s,hs,rfl,hxk⟩:=hrel;have XK:=kI hxk;have ak:=A0.o.ext hxk;have AK:=kI ak;have a0:=ak.cell;have a9:=ak.free;have a2:=ak.lt;have h200:=(md_valid (mv_valid HMV.o).1).2.2.1;clear hxk ak;by_cases hlt:s < m.states.length
  ·have q3:(s:Int) < (m.states.length:Int):=by omega
   have q4:(0:Int)≤(s:Int):=by omega
   have hvn:vals.length=m.states.length:=(mv_valid HMV.o).2;obtain ⟨_,_,e1,_,_,fb,hfb⟩:=(R4.o.ext XK.o).get;injection e1 with e0 e4 e5
   subst e0;clear e4 e5;obtain ⟨b2,o2,rfl,hb2,p0,p1,p2,hr⟩:=hfb s (by rw [HVL.o];exact hlt);obtain ⟨ff,hff⟩:=gN (fb s)
   rw [← hff] at p1 p2 hr;obtain ⟨⟨d1,d2⟩,⟨d3,d4⟩⟩:=ff;dsimp only at p1 p2 hr;have hls:=fun W mv vv (h:RdM W mv m) (g:RdRs W vv vals)=>least22_any mv vv m vals HLM.o HLV.o nb (by have:=JA.o;omega) hvn HSE.o s W hlt h g
   obtain ⟨r,hrr⟩:=gN ((stgV m vals nb).getD s zR)
   rw [← hrr] at p0 p1 p2 hr hls;have HLS:=kI hls;have CA:Hid (b2 < wk.heap.size∧wk.cell? ⟨b2,o2+s*3,none⟩=some (.bool r.neg)∧wk.cell? ⟨b2,o2+s*3+1,none⟩=some (.slice d1 r.num.length d2)∧wk.cell? ⟨b2,o2+s*3+2,none⟩=some (.slice d3 r.den.length d4)∧RdR wk (.agg #[.bool r.neg,.slice d1 r.num.length d2,.slice d3 r.den.length d4]) r):=kI ⟨hb2,p0,p1,p2,hr⟩;obtain ⟨_,_,e1,_,_,fa,hfa⟩:=(HV.o.ext (X.o.trans XK.o)).get;injection e1 with e0 e4 e5
   subst e0;clear e4 e5;obtain ⟨b3,o3,rfl,hb3,y0,y1,y2,hy⟩:=hfa s (by rw [hvn];exact hlt);have hchk:=refCheckR_any _ (vals.getD s zR) wk hy (HLV.o s (by rw [hvn];exact hlt));obtain ⟨ff,hff2⟩:=gN (fa s)
   rw [← hff2] at y1 y2 hchk;obtain ⟨⟨f1,f2⟩,⟨f3,f4⟩⟩:=ff;dsimp only at y1 y2 hchk;obtain ⟨v0,hv0⟩:=gN (vals.getD s zR)
   rw [← hv0] at y0 y1 y2 hchk;have HCK:=kI hchk;have HVN:=kI hvn;have qv:(s:Int) < (vals.length:Int):=by rw [hvn];exact q3
   clear hb2 p0 p1 p2 hr hff hls hfb hfa hy hff2 hchk hrr hv0 hvn;by_cases h0:nb=0
   case' pos=>
    have q6:((nb:Int) == 0)=true:=by rw [h0];rfl
    clear h0;go_wp2_with fail;refine HCK.o.mono ?_;rintro e w5 ⟨rfl,hx⟩;replace XK:=kI (XK.o.trans hx);obtain ⟨cc,hcc⟩:=gN (chkR v0)
    rw [← hcc];clear hcc;by_cases hc0:cc=0
    rotate_left
    ·have q7:(cc != 0)=true:=bne_iff_ne.2 hc0;go_wp2_with fail;go_roundw
     case rel=>exact ⟨s+1,hlt,by go_num,XK.o⟩
     case measure=>simp [intOf];omega
    subst hc0;have CB:Hid (b2 < w5.heap.size∧w5.cell? ⟨b2,o2+s*3,none⟩=some (.bool r.neg)∧w5.cell? ⟨b2,o2+s*3+1,none⟩=some (.slice d1 r.num.length d2)∧w5.cell? ⟨b2,o2+s*3+2,none⟩=some (.slice d3 r.den.length d4)∧RdR w5 (.agg #[.bool r.neg,.slice d1 r.num.length d2,.slice d3 r.den.length d4]) r):=kI ⟨Nat.lt_of_lt_of_le CA.o.1 hx.size,(hx.cell (p:=⟨b2,o2+s*3,none⟩) CA.o.1).trans CA.o.2.1,(hx.cell (p:=⟨b2,o2+s*3+1,none⟩) CA.o.1).trans CA.o.2.2.1,(hx.cell (p:=⟨b2,o2+s*3+2,none⟩) CA.o.1).trans CA.o.2.2.2.1,CA.o.2.2.2.2.ext hx⟩;clear CA AK a0 a9 a2 y0 y1 y2 hb3 HCK hx q6;have CA:=CB;clear CB;obtain ⟨wh,hwh⟩:=gN (w5)
    subst hwh;go_wp2_with fail
   case' neg=>
    have q6:((nb:Int) == 0)=false:=by simp;omega
    clear h0;go_wp2_with fail;clear AK a0 a9 a2 y0 y1 y2 hb3 HCK;obtain ⟨wh,hwh⟩:=gN (wk)
    subst hwh
   all_goals
    refine wp_region_each (unB (some ⟨b1,o1,none⟩) gl gc nb s b1 o1 b2 o2 (some ⟨b2,o2,none⟩) c1 (some ⟨b3,o3,none⟩) vals.length cv r m m1 n1 m2 n2 m3 n3) (by kernel_rfl) (by kernel_rfl) (by kernel_rfl) (fun _ _ _ _ h x=>unB_ext h x) ?_ ?_
    ·refine ⟨?_,?_,?_,?_,?_,?_,?_,?_,?_,?_,?_,?_,?_,?_,trivial⟩
     ·intro a W hW hB hD K hK;have b8:=hB 8 rfl;simp only [sB] at b8;go_simp;exact hK _ _ (Ext.refl _) rfl
     ·intro a W hW hB hD K hK;have b7:=hB 7 rfl;simp only [sB] at b7;go_simp;exact hK _ _ (Ext.refl _) rfl
     ·intro a W hW hB hD K hK;obtain ⟨v75,e75,h75⟩:=dpE (hD 0 _ 75 rfl rfl (by kernel_rfl));obtain rfl:=h75;obtain ⟨v76,e76,h76⟩:=dpE (hD 1 _ 76 rfl rfl (by kernel_rfl));obtain rfl:=h76;go_simp;exact hK _ _ (Ext.refl _) rfl
     ·intro a W hW hB hD K hK;obtain ⟨v77,e77,h77⟩:=dpE (hD 2 _ 77 rfl rfl (by kernel_rfl));obtain rfl:=h77;have m0:=((XK.o.trans hW).cell (p:=⟨b1,o1+nb,none⟩) T4.o.1).trans T4.o.2;have ml:=Nat.lt_of_lt_of_le T4.o.1 (XK.o.trans hW).size;go_simp;exact hK _ _ (Ext.refl _) rfl
     ·intro a W hW hB hD K hK;have b11:=hB 11 rfl;simp only [sB] at b11;go_simp;exact hK _ _ (Ext.refl _) rfl
     ·intro a W hW hB hD K hK;obtain ⟨v78,e78,h78⟩:=dpE (hD 3 _ 78 rfl rfl (by kernel_rfl));obtain rfl:=h78;obtain ⟨v79,e79,h79⟩:=dpE (hD 4 _ 79 rfl rfl (by kernel_rfl));obtain rfl:=h79;go_simp;exact hK _ _ (Ext.refl _) rfl
     ·intro a W hW hB hD K hK;obtain ⟨v80,e80,h80⟩:=dpE (hD 5 _ 80 rfl rfl (by kernel_rfl));obtain rfl:=h80;have m0:=(hW.cell (p:=⟨b2,o2+s*3,none⟩) CA.o.1).trans CA.o.2.1;have m1:=(hW.cell (p:=⟨b2,o2+s*3+1,none⟩) CA.o.1).trans CA.o.2.2.1;have m2:=(hW.cell (p:=⟨b2,o2+s*3+2,none⟩) CA.o.1).trans CA.o.2.2.2.1;have ml:=Nat.lt_of_lt_of_le CA.o.1 hW.size;go_simp;exact hK _ _ (Ext.refl _) ⟨_,_,_,_,rfl,CA.o.2.2.2.2.ext hW⟩
     ·intro a W hW hB hD K hK;have b3:=hB 3 rfl;simp only [sB] at b3;have q9:=(A0.o.ext (XK.o.trans hW)).cell;have l9:=(A0.o.ext (XK.o.trans hW)).lt;go_simp;exact hK _ _ (Ext.refl _) rfl
     ·intro a W hW hB hD K hK;have b1:=hB 1 rfl;simp only [sB] at b1;go_simp;exact hK _ _ (Ext.refl _) rfl
     ·intro a W hW hB hD K hK;have b7:=hB 7 rfl;simp only [sB] at b7;go_simp;exact hK _ _ (Ext.refl _) rfl
     ·intro a W hW hB hD K hK;have b11:=hB 11 rfl;simp only [sB] at b11;go_simp;exact hK _ _ (Ext.refl _) rfl
     ·intro a W hW hB hD K hK;obtain ⟨v82,e82,h82⟩:=dpE (hD 7 _ 82 rfl rfl (by kernel_rfl));obtain rfl:=h82;obtain ⟨v83,e83,h83⟩:=dpE (hD 8 _ 83 rfl rfl (by kernel_rfl));obtain rfl:=h83;obtain ⟨v84,e84,h84⟩:=dpE (hD 9 _ 84 rfl rfl (by kernel_rfl));obtain rfl:=h84;obtain ⟨v85,e85,h85⟩:=dpE (hD 10 _ 85 rfl rfl (by kernel_rfl));obtain rfl:=h85;go_simp;refine (HLS.o _ _ _ (HM.o.ext (X.o.trans (XK.o.trans hW))) (HV.o.ext (X.o.trans (XK.o.trans hW)))).mono ?_;rintro e w9 ⟨⟨z,rfl,hz⟩,hx⟩;obtain ⟨y1,y2,y3,y4,rfl⟩:=hz.shape;exact hK _ _ hx ⟨_,_,_,_,rfl,hz⟩
     ·intro a W hW hB hD K hK;obtain ⟨v81,e81,h81⟩:=dpE (hD 6 _ 81 rfl rfl (by kernel_rfl));obtain ⟨d1,d2,d3,d4,rfl,dh⟩:=h81;obtain ⟨v86,e86,h86⟩:=dpE (hD 11 _ 86 rfl rfl (by kernel_rfl));obtain ⟨e1,e2,e3,e4,rfl,eh⟩:=h86;go_simp;refine (equalRat_any _ _ r r _ dh eh).mono ?_;rintro e w9 ⟨rfl,hx⟩;rw [decide_eq_true rfl];exact hK _ _ hx rfl
     ·intro a W hW hB hD K hK;obtain ⟨v87,e87,h87⟩:=dpE (hD 12 _ 87 rfl rfl (by kernel_rfl));obtain rfl:=h87;go_simp;exact hK _ _ (Ext.refl _) rfl
    intro w6 hx;simp only [Vals];rintro u0 - u1 - u2 - u3 - u4 - u5 - u6 - u7 - u8 - u9 - u10 - u11 - u12 - u13 h13;obtain rfl:u13=.bool false:=h13;simp only [Act.put,List.setIfInBounds_toArray,List.set_cons_zero,List.set_cons_succ];replace XK:=kI (XK.o.trans hx);clear hx CA;go_wp2_with fail;go_roundw
    case rel=>exact ⟨s+1,hlt,by go_num,XK.o⟩
    case measure=>simp [intOf];omega
  ·obtain rfl:s=m.states.length:=by omega
   have q3:¬ ((m.states.length:Int) < (m.states.length:Int)):=by omega
   go_wp2_with fail;refine (awake22_any _).mono ?_;rintro e w7 ⟨rfl,hx⟩;go_wp2_with fail;go_ret;exact ⟨rfl,X.o.trans (XK.o.trans hx)⟩
end Go.Proofs.YtfflknbeidihoaaGreat
namespace Go.Proofs.YtfflknbeidihoaaGreat
open Go.ChangeShapes Go.WideShapes Go.ChangeAt Go.RowKit
theorem unfL_lifted (os:Os) (started:os.Started) (H:Type) (enc:TypeId × Value→H) :
  ReturnsInHanded {} Tryz.checked os 4 .any (Rows.iterateUnfoldsSpec.pre6 enc Tryz.prog Tryz.f4 Rows.iterateUnfoldsRow.domain false) (Rows.iterateUnfoldsSpec.post enc Tryz.prog Tryz.f4 false true false false):=by
 refine returnsInHanded_of_change (C:=Tryz.checked) rowOwn started (by kernel_rfl) Tryz.func4
  (ChangeSpec.witness6 (enc:=enc) (C:=Tryz.checked) false ⟨#[],#[.agg #[.bool false,.slice none 0 0,.slice none 0 0,.slice none 0 0],.slice none 0 0,.int .u8 0],[]⟩ 8 (by kernel_rfl) (by kernel_rfl) (by kernel_rfl) (by kernel_rfl)) ?_
 intro W base args ds gs before hval0 hW hcnd _;have hval:∀ (j:Nat) t v,Tryz.f4.params[j]?=some t→args[j]?=some v→Value.okWide Tryz.prog W .any base t v:=hval0
 have hW':=hW;obtain ⟨p,q,hA0,hV,rfl,hfz,hnd⟩:=hW;have hA:DataW.TrodAll enc Tryz.prog W 0 (fun _=>true) true Tryz.f4.params.toList args.toList ds p:=hA0;rw [Tryz.params4] at hA hval;obtain ⟨v0,v1,v2,d0,d1,d2,p0,p1,p2,rfl,rfl,rfl,h0,h1,h2⟩:=trodAll_three hA;obtain ⟨rfl,rfl⟩:=trodVars_none hV;have lt0:∀ x ∈ p0,x.block < W.heap.size:=by obtain ⟨m,hm⟩:=h0;exact DataW.trod_lt m _ _ _ hm
 have lt1:∀ x ∈ p1,x.block < W.heap.size:=by obtain ⟨m,hm⟩:=h1;exact DataW.trod_lt m _ _ _ hm
 have lt2:∀ x ∈ p2,x.block < W.heap.size:=by obtain ⟨m,hm⟩:=h2;exact DataW.trod_lt m _ _ _ hm
 obtain ⟨m0,hr0,hl0⟩:=open_mdp (hval 0 28 v0 rfl rfl) h0;obtain ⟨l1,hr1,hl1⟩:=open_rats (hval 1 29 v1 rfl rfl) h1;obtain ⟨n2,rfl,hn2⟩:=open_int Tryz.underlying5 (hval 2 5 v2 rfl rfl) h2;have hb2:=hn2.2.2;clear hA0 hval0;refine (unfL_any v0 v1 n2 m0 l1 W hr0 hr1 hl0 hl1 (by have:=hb2;simp [Lit.wf,IntKind.min,IntKind.max,IntKind.signed,IntKind.bits] at this;omega)).mono fun e W' ⟨he,bel⟩=>?_
 subst he;exact ⟨_,rfl,_,_,_,[],_,[],hW',trodAll_mk1 (shut_bool Tryz.underlying4 _),trodAll_mk3 (Below.trod rowLaid (by kernel_rfl) (of_decide_eq_true (by kernel_rfl)) h0 bel lt0) (Below.trod rowLaid (by kernel_rfl) (of_decide_eq_true (by kernel_rfl)) h1 bel lt1) (Below.trod rowLaid (by kernel_rfl) (of_decide_eq_true (by kernel_rfl)) h2 bel lt2),rfl,bel.frame _,fun h=>by cases h⟩
theorem unfL_holds:Rows.IterateUnfoldsSaid:=
 OpenClaim.holds_of_wide 4 Tryz.f4 rfl rfl rfl rfl rfl rfl rfl ⟨rfl,rfl,rfl,rfl,rfl⟩ rfl rfl rfl rfl rfl (by kernel_rfl) Tryz.func4 (by kernel_rfl)
  (of_decide_eq_true (by kernel_rfl)) (by unfold Func.isWrapper;first|(rw [if_pos (by decide +kernel)];kernel_rfl)|(rw [if_neg (by decide +kernel)];exact ⟨rfl,rfl⟩))
  (fun os started H enc _=>unfL_lifted os started H enc)
end Go.Proofs.YtfflknbeidihoaaGreat
