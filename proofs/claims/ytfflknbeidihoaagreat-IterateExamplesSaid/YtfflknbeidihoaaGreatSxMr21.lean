/- Lemmas and walks. Conditions: as stated. -/
import Derived.Test.YtfflknbeidihoaaGreatSxMrA
import Derived.Test.YtfflknbeidihoaaGreatSxAppT
import Derived.Test.YtfflknbeidihoaaGreatSxRatSc
import Derived.Test.YtfflknbeidihoaaGreatSxUnP
set_option linter.unusedVariables false
set_option linter.unusedSimpArgs false
set_option maxRecDepth 100000
set_option maxHeartbeats 16000000
namespace Go.Proofs.YtfflknbeidihoaaGreat
open Go.RowKit
theorem lenS21 {q:Rat} (h:small q):lenR (rep q) 2000:=⟨Nat.le_trans h.1 (by decide),Nat.le_trans h.2 (by decide)⟩
theorem getD_bool21 {o:Option Value} {b:Bool} (h:o.getD undef=.bool b):o=some (.bool b):=by
 cases o with
 | none=>cases h
 | some v=>exact congrArg some h
def mr1J (A:Nat) (j:Nat) (v:Value) (W:World):Prop:=
 match j with
 | 0=>v=.pointer (some ⟨A,0,none⟩)
 | 1=>v=.pointer (some ⟨A,0,none⟩)
 | 2=>v=.bool true
 | 3=>v=.bool true
 | 4=>True
 | 5=>True
 | 6=>True
 | 7=>True
 | 8=>True
 | 9=>v=.bool true
 | _=>True
theorem mr1J_ext {A:Nat} {j:Nat} {v:Value} {W W':World} (h:mr1J A j v W) (x:Ext W W'):mr1J A j v W':=by
 match j,h with
 | 0,h=>exact h
 | 1,h=>exact h
 | 2,h=>exact h
 | 3,h=>exact h
 | 4,h=>exact h
 | 5,h=>exact h
 | 6,h=>exact h
 | 7,h=>exact h
 | 8,h=>exact h
 | 9,h=>exact h
 | _+10,_=>trivial
def mr2J (A:Nat) (s:RR) (c:Int) (bb:Bool) (j:Nat) (v:Value) (W:World):Prop:=
 match j with
 | 0=>v=.pointer (some ⟨A,0,none⟩)
 | 1=>v=.pointer (some ⟨A,0,none⟩)
 | 2=>v=.bool false
 | 3=>v=.bool false
 | 4=>v=.pointer (some ⟨A,0,none⟩)
 | 5=>∃ s1 s2 s3 s4,v=.agg #[.bool s.neg,.slice s1 s.num.length s2,.slice s3 s.den.length s4]∧RdR W (.agg #[.bool s.neg,.slice s1 s.num.length s2,.slice s3 s.den.length s4]) s
 | 6=>∃ v',v=v'∧RdR W v' (rep ((1:Int):Rat))
 | 7=>v=.int .i64 c
 | 8=>v=.bool bb
 | 9=>v=.bool bb
 | _=>True
theorem mr2J_ext {A:Nat} {s:RR} {c:Int} {bb:Bool} {j:Nat} {v:Value} {W W':World} (h:mr2J A s c bb j v W) (x:Ext W W'):mr2J A s c bb j v W':=by
 match j,h with
 | 0,h=>exact h
 | 1,h=>exact h
 | 2,h=>exact h
 | 3,h=>exact h
 | 4,h=>exact h
 | 5,⟨s1,s2,s3,s4,h1,h2⟩=>exact ⟨s1,s2,s3,s4,h1,h2.ext x⟩
 | 6,⟨v9,h1,h2⟩=>exact ⟨v9,h1,h2.ext x⟩
 | 7,h=>exact h
 | 8,h=>exact h
 | 9,h=>exact h
 | _+10,_=>trivial
def mr3J (A b off k sn sc ai_n ba oa jj:Nat) (ai:Option Addr) (ci:Nat) (xv:Value) (c:Int) (j:Nat) (v:Value) (W:World):Prop:=
 match j with
 | 0=>v=.pointer (some ⟨A,3,none⟩)
 | 1=>v=.slice (some ⟨b,off,none⟩) sn sc
 | 2=>v=.int .i64 k
 | 3=>v=.pointer (some ⟨b,off+k,none⟩)
 | 4=>v=.slice ai ai_n ci
 | 5=>v=.int .i64 jj
 | 6=>v=.pointer (some ⟨ba,oa+jj*4,none⟩)
 | 7=>v=xv
 | 8=>v=.pointer (some ⟨A,3,none⟩)
 | 9=>v=.slice (some ⟨b,off,none⟩) sn sc
 | 10=>v=.int .i64 sn
 | 11=>v=.int .i64 c
 | _=>True
theorem mr3J_ext {A b off k sn sc ai_n ba oa jj:Nat} {ai:Option Addr} {ci:Nat} {xv:Value} {c:Int} {j:Nat} {v:Value} {W W':World} (h:mr3J A b off k sn sc ai_n ba oa jj ai ci xv c j v W) (x:Ext W W'):mr3J A b off k sn sc ai_n ba oa jj ai ci xv c j v W':=by
 match j,h with
 | 0,h=>exact h
 | 1,h=>exact h
 | 2,h=>exact h
 | 3,h=>exact h
 | 4,h=>exact h
 | 5,h=>exact h
 | 6,h=>exact h
 | 7,h=>exact h
 | 8,h=>exact h
 | 9,h=>exact h
 | 10,h=>exact h
 | 11,h=>exact h
 | _+12,_=>trivial
theorem mrCheck_any (v:Value) (m:MD) (w:World) (h:RdM w v m) (hl:LimM m) :
  Calls Tryz.prog 30 #[v] w fun e w'=>e=.returned (.int .i64 (mdE m))∧Ext w w':=by
 obtain ⟨d,ss⟩:=m;obtain ⟨a1,c1,a2,c2,a3,c3,rfl,hr,ho⟩:=h;obtain ⟨hl1,hl2⟩:=hl;unfold MD.act at hl2;dsimp only at hr ho hl1 hl2 ⊢;have hll:ss.length≤9223372036854775807:=by obtain ⟨_,_,_,h⟩:=ho.shape;exact h
 have HR:=kI hr;have HO:=kI ho;have HL1:=kI hl1;have HL2:=kI hl2;clear hr ho hl1 hl2;have bb0:=(Blk.new w #[.bool d.neg,.slice a1 d.num.length c1,.slice a2 d.den.length c2,.slice a3 ss.length c3] 28);have x0:Ext w (w.alloc (.cells #[.bool d.neg,.slice a1 d.num.length c1,.slice a2 d.den.length c2,.slice a3 ss.length c3] 28)):=((Ext.refl w).alloc _);have A0:=kI bb0;have X:=kI x0;clear x0 bb0;replace HR:=kI (HR.o.ext X.o);replace HO:=kI (HO.o.ext X.o);go_enter Tryz.func30,Tryz.ntmps30
 obtain ⟨qA0,fA0,lA0⟩:=A0.o.q3;go_wp2_with fail;refine (refCheckR_any _ d _ HR.o HL1.o).mono ?_;rintro e w1 ⟨rfl,hx⟩;clear qA0 fA0 lA0;replace HR:=kI (HR.o.ext hx);replace HO:=kI (HO.o.ext hx);replace A0:=kI (A0.o.ext hx);replace X:=kI (X.o.trans hx);clear hx;by_cases h1:chkR d=0
 rotate_left
 ·have E:=kI (md_1 (ss:=ss) h1);obtain ⟨c,hc⟩:=gN (chkR d);rw [← hc] at E h1 ⊢;have q1:(c != 0)=true:=by simpa using h1
  clear h1 hc;go_wp2_with fail;go_ret;exact ⟨ret_int E.o.symm,X.o⟩
 rw [h1];obtain ⟨qd,hqd⟩:=gN (qv d);have hdr:rep qd=d:=by rw [hqd];exact rep_of HL1.o h1
 have hsm:small qd:=by rw [hqd];exact valid_small HL1.o h1
 have hord:=fun W v1 v2 (f1:RdR W v1 d) (f2:RdR W v2 (rep ((1:Int):Rat)))=>refOrder6_any v1 v2 qd ((1:Int):Rat) W (by rw [hdr];exact f1) f2 (lenS21 hsm) (lenS21 small_one);obtain ⟨c,hc⟩:=gN (cmpQ qd ((1:Int):Rat));rw [← hc] at hord;have hc1:(1 < qv d→0 < c)∧(¬ 1 < qv d→¬ 0 < c):=by
  rw [← hqd,hc];rcases cmpQ_cases qd ((1:Int):Rat) with ⟨g,e⟩|⟨g,e⟩|⟨g,e⟩
  ·rw [e];exact ⟨fun h=>absurd h (rat_asymm g),fun _=>by decide⟩
  ·rw [e];exact ⟨fun h=>by rw [g] at h;exact absurd h Rat.lt_irrefl,fun _=>by decide⟩
  ·rw [e];exact ⟨fun _=>by decide,fun h=>absurd g h⟩
 have HORD:=kI hord;have HC1:=kI hc1;clear hqd hdr hsm hord hc hc1;obtain ⟨qA0,fA0,lA0⟩:=A0.o.q3;go_wp2_with fail;clear qA0 fA0 lA0;obtain ⟨wb,hwb⟩:=gN (w1);rw [← hwb] at HR HO A0 X ⊢;clear hwb;obtain ⟨An,hAn⟩:=gN (w.heap.size);rw [← hAn] at A0 ⊢;clear hAn;by_cases hn:d.neg=true
 ·have HN:=kI hn;clear hn;refine wp_region_each (mr1J An) (by kernel_rfl) (by kernel_rfl) (by kernel_rfl) (fun _ _ _ _ h x=>mr1J_ext h x) ?_ ?_
  ·refine ⟨?_,?_,?_,?_,?_,?_,?_,?_,?_,?_,trivial⟩
   ·intro a W hW hB hD K hK;have b1:=hB 1 rfl;simp only [sB] at b1;go_simp;exact hK _ _ (Ext.refl _) rfl
   ·intro a W hW hB hD K hK;obtain ⟨v12,e12,h12⟩:=dpE (hD 0 _ 12 rfl rfl (by kernel_rfl));obtain rfl:=h12;go_simp;exact hK _ _ (Ext.refl _) rfl
   ·intro a W hW hB hD K hK;obtain ⟨v13,e13,h13⟩:=dpE (hD 1 _ 13 rfl rfl (by kernel_rfl));obtain rfl:=h13;have q9:=(A0.o.ext hW).cell;have l9:=(A0.o.ext hW).lt;go_simp;exact hK _ _ (Ext.refl _) (by rw [HN.o];rfl)
   ·intro a W hW hB hD K hK;obtain ⟨v14,e14,h14⟩:=dpE (hD 2 _ 14 rfl rfl (by kernel_rfl));obtain rfl:=h14;go_simp;exact hK _ _ (Ext.refl _) rfl
   ·intro a W hW hB hD K hK;obtain ⟨v15,e15,h15⟩:=dpE (hD 3 _ 15 rfl rfl (by kernel_rfl));obtain rfl:=h15;have z9:=getD_bool21 e15;go_simp;exact hK _ _ (Ext.refl _) trivial
   ·intro a W hW hB hD K hK;obtain ⟨v15,e15,h15⟩:=dpE (hD 3 _ 15 rfl rfl (by kernel_rfl));obtain rfl:=h15;have z9:=getD_bool21 e15;go_simp;exact hK _ _ (Ext.refl _) trivial
   ·intro a W hW hB hD K hK;obtain ⟨v15,e15,h15⟩:=dpE (hD 3 _ 15 rfl rfl (by kernel_rfl));obtain rfl:=h15;have z9:=getD_bool21 e15;go_simp;exact hK _ _ (Ext.refl _) trivial
   ·intro a W hW hB hD K hK;obtain ⟨v15,e15,h15⟩:=dpE (hD 3 _ 15 rfl rfl (by kernel_rfl));obtain rfl:=h15;have z9:=getD_bool21 e15;go_simp;exact hK _ _ (Ext.refl _) trivial
   ·intro a W hW hB hD K hK;obtain ⟨v15,e15,h15⟩:=dpE (hD 3 _ 15 rfl rfl (by kernel_rfl));obtain rfl:=h15;have z9:=getD_bool21 e15;go_simp;exact hK _ _ (Ext.refl _) trivial
   ·intro a W hW hB hD K hK;obtain ⟨v15,e15,h15⟩:=dpE (hD 3 _ 15 rfl rfl (by kernel_rfl));obtain rfl:=h15;go_simp;exact hK _ _ (Ext.refl _) rfl
  intro w9 hx;simp only [Vals];rintro u0 - u1 - u2 - u3 - u4 - u5 - u6 - u7 - u8 - u9 h9;obtain rfl:u9=.bool true:=h9;simp only [Act.put,List.setIfInBounds_toArray,List.set_cons_zero,List.set_cons_succ];replace HR:=kI (HR.o.ext hx);replace HO:=kI (HO.o.ext hx);replace A0:=kI (A0.o.ext hx);replace X:=kI (X.o.trans hx);clear hx;have E:=kI (md_arg (ss:=ss) h1 (.inl HN.o));clear h1 HN;obtain ⟨qA0,fA0,lA0⟩:=A0.o.q3;go_wp2_with fail;go_ret;exact ⟨ret_int E.o.symm,X.o⟩
 have HN0:=kI (show d.neg=false by simpa using hn);have HNN:=kI hn;clear hn;by_cases h9:1 < qv d
 ·have q5:(0:Int) < c:=HC1.o.1 h9;have q55:c > 0:=q5;refine wp_region_each (mr2J An d c true) (by kernel_rfl) (by kernel_rfl) (by kernel_rfl) (fun _ _ _ _ h x=>mr2J_ext h x) ?_ ?_
  ·refine ⟨?_,?_,?_,?_,?_,?_,?_,?_,?_,?_,trivial⟩
   ·intro a W hW hB hD K hK;have b1:=hB 1 rfl;simp only [sB] at b1;go_simp;exact hK _ _ (Ext.refl _) rfl
   ·intro a W hW hB hD K hK;obtain ⟨v12,e12,h12⟩:=dpE (hD 0 _ 12 rfl rfl (by kernel_rfl));obtain rfl:=h12;go_simp;exact hK _ _ (Ext.refl _) rfl
   ·intro a W hW hB hD K hK;obtain ⟨v13,e13,h13⟩:=dpE (hD 1 _ 13 rfl rfl (by kernel_rfl));obtain rfl:=h13;have q9:=(A0.o.ext hW).cell;have l9:=(A0.o.ext hW).lt;go_simp;exact hK _ _ (Ext.refl _) (by rw [HN0.o];rfl)
   ·intro a W hW hB hD K hK;obtain ⟨v14,e14,h14⟩:=dpE (hD 2 _ 14 rfl rfl (by kernel_rfl));obtain rfl:=h14;go_simp;exact hK _ _ (Ext.refl _) rfl
   ·intro a W hW hB hD K hK;have b1:=hB 1 rfl;simp only [sB] at b1;obtain ⟨v15,e15,h15⟩:=dpE (hD 3 _ 15 rfl rfl (by kernel_rfl));obtain rfl:=h15;have z9:=getD_bool21 e15;go_simp;exact hK _ _ (Ext.refl _) rfl
   ·intro a W hW hB hD K hK;obtain ⟨v16,e16,h16⟩:=dpE (hD 4 _ 16 rfl rfl (by kernel_rfl));obtain rfl:=h16;obtain ⟨v15,e15,h15⟩:=dpE (hD 3 _ 15 rfl rfl (by kernel_rfl));obtain rfl:=h15;have q9:=(A0.o.ext hW).cell;have l9:=(A0.o.ext hW).lt;have z9:=getD_bool21 e15;go_simp;exact hK _ _ (Ext.refl _) ⟨_,_,_,_,rfl,HR.o.ext hW⟩
   ·intro a W hW hB hD K hK;obtain ⟨v15,e15,h15⟩:=dpE (hD 3 _ 15 rfl rfl (by kernel_rfl));obtain rfl:=h15;have z9:=getD_bool21 e15;go_simp;refine (refFromR_any 1 W (by omega) (by omega)).mono ?_;rintro e w9 ⟨⟨v,rfl,nn⟩,hx⟩;exact hK _ _ hx ⟨_,rfl,nn.rd⟩
   ·intro a W hW hB hD K hK;obtain ⟨v17,e17,h17⟩:=dpE (hD 5 _ 17 rfl rfl (by kernel_rfl));obtain ⟨d1,d2,d3,d4,rfl,dh⟩:=h17;obtain ⟨v18,e18,h18⟩:=dpE (hD 6 _ 18 rfl rfl (by kernel_rfl));obtain ⟨e1,rfl,eh⟩:=h18;obtain ⟨v15,e15,h15⟩:=dpE (hD 3 _ 15 rfl rfl (by kernel_rfl));obtain rfl:=h15;have z9:=getD_bool21 e15;go_simp;refine (HORD.o _ _ _ dh eh).mono ?_;rintro e w9 ⟨rfl,hx⟩;exact hK _ _ hx rfl
   ·intro a W hW hB hD K hK;obtain ⟨v19,e19,h19⟩:=dpE (hD 7 _ 19 rfl rfl (by kernel_rfl));obtain rfl:=h19;obtain ⟨v15,e15,h15⟩:=dpE (hD 3 _ 15 rfl rfl (by kernel_rfl));obtain rfl:=h15;have z9:=getD_bool21 e15;go_simp;exact hK _ _ (Ext.refl _) rfl
   ·intro a W hW hB hD K hK;obtain ⟨v15,e15,h15⟩:=dpE (hD 3 _ 15 rfl rfl (by kernel_rfl));obtain rfl:=h15;obtain ⟨v20,e20,h20⟩:=dpE (hD 8 _ 20 rfl rfl (by kernel_rfl));obtain rfl:=h20;go_simp;exact hK _ _ (Ext.refl _) rfl
  intro w9 hx;simp only [Vals];rintro u0 - u1 - u2 - u3 - u4 - u5 - u6 - u7 - u8 - u9 h9x;obtain rfl:u9=.bool true:=h9x;simp only [Act.put,List.setIfInBounds_toArray,List.set_cons_zero,List.set_cons_succ];replace HR:=kI (HR.o.ext hx);replace HO:=kI (HO.o.ext hx);replace A0:=kI (A0.o.ext hx);replace X:=kI (X.o.trans hx);clear hx;have E:=kI (md_arg (ss:=ss) h1 (.inr h9));clear h1 h9 q5 q55;obtain ⟨qA0,fA0,lA0⟩:=A0.o.q3;go_wp2_with fail;go_ret;exact ⟨ret_int E.o.symm,X.o⟩
 have q5:¬ (0:Int) < c:=by have:=HC1.o.2 h9;omega
 have q55:¬ c > 0:=q5;refine wp_region_each (mr2J An d c false) (by kernel_rfl) (by kernel_rfl) (by kernel_rfl) (fun _ _ _ _ h x=>mr2J_ext h x) ?_ ?_
 ·refine ⟨?_,?_,?_,?_,?_,?_,?_,?_,?_,?_,trivial⟩
  ·intro a W hW hB hD K hK;have b1:=hB 1 rfl;simp only [sB] at b1;go_simp;exact hK _ _ (Ext.refl _) rfl
  ·intro a W hW hB hD K hK;obtain ⟨v12,e12,h12⟩:=dpE (hD 0 _ 12 rfl rfl (by kernel_rfl));obtain rfl:=h12;go_simp;exact hK _ _ (Ext.refl _) rfl
  ·intro a W hW hB hD K hK;obtain ⟨v13,e13,h13⟩:=dpE (hD 1 _ 13 rfl rfl (by kernel_rfl));obtain rfl:=h13;have q9:=(A0.o.ext hW).cell;have l9:=(A0.o.ext hW).lt;go_simp;exact hK _ _ (Ext.refl _) (by rw [HN0.o];rfl)
  ·intro a W hW hB hD K hK;obtain ⟨v14,e14,h14⟩:=dpE (hD 2 _ 14 rfl rfl (by kernel_rfl));obtain rfl:=h14;go_simp;exact hK _ _ (Ext.refl _) rfl
  ·intro a W hW hB hD K hK;have b1:=hB 1 rfl;simp only [sB] at b1;obtain ⟨v15,e15,h15⟩:=dpE (hD 3 _ 15 rfl rfl (by kernel_rfl));obtain rfl:=h15;have z9:=getD_bool21 e15;go_simp;exact hK _ _ (Ext.refl _) rfl
  ·intro a W hW hB hD K hK;obtain ⟨v16,e16,h16⟩:=dpE (hD 4 _ 16 rfl rfl (by kernel_rfl));obtain rfl:=h16;obtain ⟨v15,e15,h15⟩:=dpE (hD 3 _ 15 rfl rfl (by kernel_rfl));obtain rfl:=h15;have q9:=(A0.o.ext hW).cell;have l9:=(A0.o.ext hW).lt;have z9:=getD_bool21 e15;go_simp;exact hK _ _ (Ext.refl _) ⟨_,_,_,_,rfl,HR.o.ext hW⟩
  ·intro a W hW hB hD K hK;obtain ⟨v15,e15,h15⟩:=dpE (hD 3 _ 15 rfl rfl (by kernel_rfl));obtain rfl:=h15;have z9:=getD_bool21 e15;go_simp;refine (refFromR_any 1 W (by omega) (by omega)).mono ?_;rintro e w9 ⟨⟨v,rfl,nn⟩,hx⟩;exact hK _ _ hx ⟨_,rfl,nn.rd⟩
  ·intro a W hW hB hD K hK;obtain ⟨v17,e17,h17⟩:=dpE (hD 5 _ 17 rfl rfl (by kernel_rfl));obtain ⟨d1,d2,d3,d4,rfl,dh⟩:=h17;obtain ⟨v18,e18,h18⟩:=dpE (hD 6 _ 18 rfl rfl (by kernel_rfl));obtain ⟨e1,rfl,eh⟩:=h18;obtain ⟨v15,e15,h15⟩:=dpE (hD 3 _ 15 rfl rfl (by kernel_rfl));obtain rfl:=h15;have z9:=getD_bool21 e15;go_simp;refine (HORD.o _ _ _ dh eh).mono ?_;rintro e w9 ⟨rfl,hx⟩;exact hK _ _ hx rfl
  ·intro a W hW hB hD K hK;obtain ⟨v19,e19,h19⟩:=dpE (hD 7 _ 19 rfl rfl (by kernel_rfl));obtain rfl:=h19;obtain ⟨v15,e15,h15⟩:=dpE (hD 3 _ 15 rfl rfl (by kernel_rfl));obtain rfl:=h15;have z9:=getD_bool21 e15;go_simp;exact hK _ _ (Ext.refl _) rfl
  ·intro a W hW hB hD K hK;obtain ⟨v15,e15,h15⟩:=dpE (hD 3 _ 15 rfl rfl (by kernel_rfl));obtain rfl:=h15;obtain ⟨v20,e20,h20⟩:=dpE (hD 8 _ 20 rfl rfl (by kernel_rfl));obtain rfl:=h20;go_simp;exact hK _ _ (Ext.refl _) rfl
 intro w9 hx;simp only [Vals];rintro u0 - u1 - u2 - u3 - u4 - u5 - u6 - u7 - u8 - u9 h9x;obtain rfl:u9=.bool false:=h9x;simp only [Act.put,List.setIfInBounds_toArray,List.set_cons_zero,List.set_cons_succ];replace HR:=kI (HR.o.ext hx);replace HO:=kI (HO.o.ext hx);replace A0:=kI (A0.o.ext hx);replace X:=kI (X.o.trans hx);clear hx;have h2:¬ (d.neg=true∨1 < qv d):=fun h=>h.elim HNN.o h9;clear q5 q55 HN0 HORD HC1 HNN;by_cases h3:ss.length=0
 ·have E:=kI (md_3 h1 h2 h3);have q6:((ss.length:Int) == 0)=true:=by simp [h3]
  clear h1 h2 h3 h9;obtain ⟨qA0,fA0,lA0⟩:=A0.o.q3;go_wp2_with fail;go_ret;exact ⟨ret_int E.o.symm,X.o⟩
 have q6:((ss.length:Int) == 0)=false:=beq_eq_false_iff_ne.2 (by omega);by_cases h5:200 < ss.length
 ·have E:=kI (md_4 h1 h2 h3 h5);have q7:(200:Int) < (ss.length:Int):=by omega
  clear h1 h2 h3 h5 h9;obtain ⟨qA0,fA0,lA0⟩:=A0.o.q3;go_wp2_with fail;go_ret;exact ⟨ret_int E.o.symm,X.o⟩
 clear h9;have q7:¬ (200:Int) < (ss.length:Int):=by omega
 have HE:=kI (fun (k:Nat) (hk:k < ss.length) g4 (c:Int) g5 g6=>md_st (k:=k) (c:=c) h1 h2 h3 h5 hk g4 g5 g6);have HI:=kI (md_ok h1 h2 h3 h5);clear h1 h2;obtain ⟨qA0,fA0,lA0⟩:=A0.o.q3;go_wp2_with fail;clear qA0 fA0 lA0;clear q6 q7;go_loopw [4] (fun i wr=>∃ k:Nat,k≤ss.length∧i=.int .i64 k∧(∀ j,j < k→stE ss.length (ss.getD j [])=0)∧Ext w9 wr) (fun i _=>ss.length - (intOf i).toNat)
 case atStart=>exact ⟨0,by omega,rfl,fun j hj=>by omega,Ext.refl w9⟩
 case round=>
  obtain ⟨wk,hwk⟩:=gN (wr);subst hwk;obtain ⟨k,hk,rfl,hok,hx⟩:=hrel;have OK:=kI hok;have XB:=kI hx;replace HO:=kI (HO.o.ext hx);replace A0:=kI (A0.o.ext hx);replace X:=kI (X.o.trans hx);clear hok hx;obtain ⟨qa0,fa0,la0⟩:=A0.o.q3;by_cases hlt:k < ss.length
  ·obtain ⟨b,off,ai,ci,rfl,z0,z1,z2⟩:=HO.o.at hlt;have hla:=HL2.o k;obtain ⟨ac,hac⟩:=gN (ss.getD k []);rw [← hac] at z1 z2 hla;have hal:ac.length≤9223372036854775807:=by obtain ⟨_,_,_,h⟩:=z2.shape;exact h
   have RA:=kI z2;have HAC:=kI hac;have HLA:=kI hla;have q1:(0:Int)≤(k:Int):=by omega
   have q2:(k:Int) < (ss.length:Int):=by omega
   clear z2 hac hla;by_cases g1:ac.length=0
   ·have E:=kI (HE.o k hlt OK.o 3 (by rw [← HAC.o];exact st_3 g1) (by decide));have q3:((ac.length:Int) == 0)=true:=by simp [g1]
    clear g1;go_wp2_with fail;go_ret;exact ⟨ret_int E.o.symm,X.o⟩
   have q3:((ac.length:Int) == 0)=false:=beq_eq_false_iff_ne.2 (by omega);by_cases g2:6 < ac.length
   ·have E:=kI (HE.o k hlt OK.o 4 (by rw [← HAC.o];exact st_4 g1 g2) (by decide));have q4:(6:Int) < (ac.length:Int):=by omega
    clear g1 g2;go_wp2_with fail;go_ret;exact ⟨ret_int E.o.symm,X.o⟩
   have q4:¬ (6:Int) < (ac.length:Int):=by omega
   go_wp2_with fail;clear q3 q4;go_loopw [5] (fun i wr=>∃ j:Nat,j≤ac.length∧i=.int .i64 j∧(∀ i,i < j→actE ss.length (ac.getD i dA)=0)∧Ext wk wr) (fun i _=>ac.length - (intOf i).toNat)
   case atStart=>exact ⟨0,by omega,rfl,fun j hj=>by omega,Ext.refl wk⟩
   case round=>
    obtain ⟨wj,hwj⟩:=gN (wr);subst hwj;obtain ⟨j,hj,rfl,hoa,hx⟩:=hrel;have OA:=kI hoa;have XK:=kI hx;replace HO:=kI (HO.o.ext hx);replace A0:=kI (A0.o.ext hx);replace RA:=kI (RA.o.ext hx);replace X:=kI (X.o.trans hx);clear hoa hx qa0 fa0 la0;obtain ⟨qb0,fb0,lb0⟩:=A0.o.q3;have z00:=Nat.lt_of_lt_of_le z0 XK.o.size;have z11:=(XK.o.cell (p:=⟨b,off+k,none⟩) z0).trans z1;by_cases hlj:j < ac.length
    ·obtain ⟨ba,oa,p1,e1,p2,e2,p3,e3,rfl,zz⟩:=RA.o.at hlj;have hrd:=zz.rd;obtain ⟨⟨y0,y1,y2,y3,-⟩,y4,-⟩:=zz;have hli:=HLA.o j;obtain ⟨x,hx9⟩:=gN (ac.getD j dA);rw [← hx9] at y1 y2 y3 y4 hrd hli;have hca:=fun W v (h:RdAct W v x)=>refAct_any v x ss.length W h hli;obtain ⟨c,hc⟩:=gN (actE ss.length x);rw [← hc] at hca;have HX9:=kI (hc.trans (congrArg (actE ss.length) hx9));have HCA:=kI hca;have RD:=kI hrd;have q5:(0:Int)≤(j:Int):=by omega
     have q6:(j:Int) < (ac.length:Int):=by omega
     clear hx9 hc hca hrd hli;go_wp2_with fail;clear qb0 fb0 lb0 z00 z11;have CA:Hid (ba < wj.heap.size∧wj.cell? ⟨ba,oa+j*4,none⟩=some (.bool x.cost.neg)∧wj.cell? ⟨ba,oa+j*4+1,none⟩=some (.slice p1 x.cost.num.length e1)∧wj.cell? ⟨ba,oa+j*4+2,none⟩=some (.slice p2 x.cost.den.length e2)∧wj.cell? ⟨ba,oa+j*4+3,none⟩=some (.slice p3 x.next.length e3)):=kI ⟨y0,y1,y2,y3,y4⟩;have CS:Hid (b < wj.heap.size∧wj.cell? ⟨b,off+k,none⟩=some (.slice (some ⟨ba,oa,none⟩) ac.length ci)):=kI ⟨Nat.lt_of_lt_of_le z0 XK.o.size,(XK.o.cell (p:=⟨b,off+k,none⟩) z0).trans z1⟩;clear y0 y1 y2 y3 y4;refine wp_region_each_tail 12 (mr3J An b off k ss.length c3 ac.length ba oa j (some ⟨ba,oa,none⟩) ci (.agg #[.bool x.cost.neg,.slice p1 x.cost.num.length e1,.slice p2 x.cost.den.length e2,.slice p3 x.next.length e3]) c) (by kernel_rfl) (by kernel_rfl) (by kernel_rfl) (fun _ _ _ _ h x=>mr3J_ext h x) ?_ ?_
     ·refine ⟨?_,?_,?_,?_,?_,?_,?_,?_,?_,?_,?_,?_,trivial⟩
      ·intro a W hW hB hD K hK;have b1:=hB 1 rfl;simp only [sB] at b1;go_simp;exact hK _ _ (Ext.refl _) rfl
      ·intro a W hW hB hD K hK;obtain ⟨v61,e61,h61⟩:=dpE (hD 0 _ 61 rfl rfl (by kernel_rfl));obtain rfl:=h61;have q9:=(A0.o.ext hW).cell;have l9:=(A0.o.ext hW).lt;go_simp;exact hK _ _ (Ext.refl _) rfl
      ·intro a W hW hB hD K hK;have b4:=hB 4 rfl;simp only [sB] at b4;go_simp;exact hK _ _ (Ext.refl _) rfl
      ·intro a W hW hB hD K hK;obtain ⟨v62,e62,h62⟩:=dpE (hD 1 _ 62 rfl rfl (by kernel_rfl));obtain rfl:=h62;obtain ⟨v63,e63,h63⟩:=dpE (hD 2 _ 63 rfl rfl (by kernel_rfl));obtain rfl:=h63;go_simp;exact hK _ _ (Ext.refl _) rfl
      ·intro a W hW hB hD K hK;obtain ⟨v64,e64,h64⟩:=dpE (hD 3 _ 64 rfl rfl (by kernel_rfl));obtain rfl:=h64;have m0:=(hW.cell (p:=⟨b,off+k,none⟩) CS.o.1).trans CS.o.2;have ml:=Nat.lt_of_lt_of_le CS.o.1 hW.size;go_simp;exact hK _ _ (Ext.refl _) rfl
      ·intro a W hW hB hD K hK;have b5:=hB 5 rfl;simp only [sB] at b5;go_simp;exact hK _ _ (Ext.refl _) rfl
      ·intro a W hW hB hD K hK;obtain ⟨v65,e65,h65⟩:=dpE (hD 4 _ 65 rfl rfl (by kernel_rfl));obtain rfl:=h65;obtain ⟨v66,e66,h66⟩:=dpE (hD 5 _ 66 rfl rfl (by kernel_rfl));obtain rfl:=h66;go_simp;exact hK _ _ (Ext.refl _) rfl
      ·intro a W hW hB hD K hK;obtain ⟨v67,e67,h67⟩:=dpE (hD 6 _ 67 rfl rfl (by kernel_rfl));obtain rfl:=h67;have m0:=(hW.cell (p:=⟨ba,oa+j*4,none⟩) CA.o.1).trans CA.o.2.1;have m1:=(hW.cell (p:=⟨ba,oa+j*4+1,none⟩) CA.o.1).trans CA.o.2.2.1;have m2:=(hW.cell (p:=⟨ba,oa+j*4+2,none⟩) CA.o.1).trans CA.o.2.2.2.1;have m3:=(hW.cell (p:=⟨ba,oa+j*4+3,none⟩) CA.o.1).trans CA.o.2.2.2.2;have ml:=Nat.lt_of_lt_of_le CA.o.1 hW.size;go_simp;exact hK _ _ (Ext.refl _) rfl
      ·intro a W hW hB hD K hK;have b1:=hB 1 rfl;simp only [sB] at b1;go_simp;exact hK _ _ (Ext.refl _) rfl
      ·intro a W hW hB hD K hK;obtain ⟨v69,e69,h69⟩:=dpE (hD 8 _ 69 rfl rfl (by kernel_rfl));obtain rfl:=h69;have q9:=(A0.o.ext hW).cell;have l9:=(A0.o.ext hW).lt;go_simp;exact hK _ _ (Ext.refl _) rfl
      ·intro a W hW hB hD K hK;obtain ⟨v70,e70,h70⟩:=dpE (hD 9 _ 70 rfl rfl (by kernel_rfl));obtain rfl:=h70;go_simp;exact hK _ _ (Ext.refl _) rfl
      ·intro a W hW hB hD K hK;obtain ⟨v68,e68,h68⟩:=dpE (hD 7 _ 68 rfl rfl (by kernel_rfl));obtain rfl:=h68;obtain ⟨v71,e71,h71⟩:=dpE (hD 10 _ 71 rfl rfl (by kernel_rfl));obtain rfl:=h71;go_simp;refine (HCA.o W _ (RD.o.ext hW)).mono ?_;rintro e w9 ⟨rfl,hx⟩;exact hK _ _ hx rfl
     intro wo hx;simp only [Vals,List.take_succ_cons,List.take_zero,List.drop_succ_cons,List.drop_zero];rintro u0 - u1 - u2 - u3 - u4 - u5 - u6 - u7 - u8 - u9 - u10 - u11 h11;obtain rfl:u11=.int .i64 c:=h11;simp only [Act.put,List.setIfInBounds_toArray,List.set_cons_zero,List.set_cons_succ];replace HO:=kI (HO.o.ext hx);replace A0:=kI (A0.o.ext hx);replace RA:=kI (RA.o.ext hx);replace RD:=kI (RD.o.ext hx);replace X:=kI (X.o.trans hx);replace XK:=kI (XK.o.trans hx);clear hx HCA CA CS;by_cases he:c=0
     rotate_left
     ·have E:=kI (HE.o k hlt OK.o c (by rw [← HAC.o];exact st_act g1 g2 hlj OA.o HX9.o.symm he) he);have q7:(c != 0)=true:=by simpa using he
      clear he;go_wp2_with fail;go_ret;exact ⟨ret_int E.o.symm,X.o⟩
     subst he;have hOA:∀ i,i < j+1→actE ss.length (ac.getD i dA)=0:=fun i hi=>by
      by_cases e:i=j
      ·rw [e];exact HX9.o.symm
      ·exact OA.o i (by omega)
     have OA2:=kI hOA;clear hOA;go_wp2_with fail;go_roundw
     case rel=>exact ⟨j+1,by omega,by go_num,OA2.o,XK.o⟩
     case measure=>simp [intOf];omega
    ·obtain rfl:j=ac.length:=by omega
     have q5:¬ (ac.length:Int) < (ac.length:Int):=by omega
     have hs:stE ss.length (ss.getD k [])=0:=by rw [← HAC.o];exact st_ok g1 g2 OA.o
     have hOK:∀ j,j < k+1→stE ss.length (ss.getD j [])=0:=fun i hi=>by
      by_cases e:i=k
      ·rw [e];exact hs
      ·exact OK.o i (by omega)
     have OK2:=kI hOK;have XBB:=kI (XB.o.trans XK.o);clear hs hOK g1 g2;go_wp2_with fail;go_roundw
     case rel=>exact ⟨k+1,by omega,by go_num,OK2.o,XBB.o⟩
     case measure=>simp [intOf];omega
  ·obtain rfl:k=ss.length:=by omega
   have q1:¬ (ss.length:Int) < (ss.length:Int):=by omega
   have E:=kI (HI.o OK.o);go_wp2_with fail;go_ret;exact ⟨ret_int E.o.symm,X.o⟩
end Go.Proofs.YtfflknbeidihoaaGreat
