/- Walks and lemmas. -/
import Derived.Test.YtnnjbaijcaiohaaGreatSzA14
import Derived.Test.YtnnjbaijcaiohaaGreatSzA8
import Derived.Test.YtnnjbaijcaiohaaGreatSzA13
import Derived.Test.YtnnjbaijcaiohaaGreatSzA7
set_option linter.unusedVariables false
set_option linter.unusedSimpArgs false
set_option maxRecDepth 100000
set_option maxHeartbeats 16000000
namespace Go.Proofs.YtnnjbaijcaiohaaGreat
open Go.RowKit
variable {a a0:Act} {listed:Array Bool} {T:Array Bool→World→Prop} {ops:Array Oper} {ps:Array Tmp} {args tmps:Array Value} {assign body:Code} {Q:Exit→Act→World→Prop} {F:Fence} {u:FrameMode} {f:FuncId} {c s:Int} {plan:List (List Int)} {ds:List Deferred} {l l1 l2 la lb lq:List Int} {rest:List Oper} {cs h vs xs:List Value} {An B C H L N b b0 bx c1 c2 cap d1 d2 fuel g i id j jn k m1 m2 n n1 n2 nf nn off xn y:Nat} {X:Nat→Prop} {oi om:Oper} {a1 a2 a3 xa:Option Addr} {P:Program} {R p p0 p1 p10 p11 p12 p13 p2 p3 p4 p5 p6 p7 p8 p9:Prop} {md:Region.Mode} {α:Type} {e t t1 t2 t3:TypeId} {lv v vb vr z:Value} {A W W' W0 w w' w0 w2 w3 w4 wB:World} {S S1 S2:World→Prop}
theorem uy {q:Rat} (h:small q):mS (rep q) 2000:=⟨Nat.le_trans h.1 ah,Nat.le_trans h.2 ah⟩
theorem aR {o:Option Value} {b:Bool} (h:o.getD undef=.bool b):o=some (.bool b):=by
 cases o with
 | none=>cases h
 | some v=>exact congrArg some h
def Mm (A:Nat) (j:Nat) (v:Value) (W:World):Prop:=
 match j with
 | 0=>v=.pointer (some ⟨A,0,none⟩)
 | 1=>v=.pointer (some ⟨A,0,none⟩)
 | 2=>v=.bool true
 | 3=>v=.bool true
 | 4=>True
 | 5=>True
 | 6=>True
 | 7=>True
 | 8=>True
 | 9=>v=.bool true
 | _=>True
theorem Fo {A:Nat} (h:Mm A j v W) (x:Ext W W'):Mm A j v W':=by
 match j,h with
 | 0,h=>exact h
 | 1,h=>exact h
 | 2,h=>exact h
 | 3,h=>exact h
 | 4,h=>exact h
 | 5,h=>exact h
 | 6,h=>exact h
 | 7,h=>exact h
 | 8,h=>exact h
 | 9,h=>exact h
 | _+10,_=>trivial
def IS (A:Nat) (s:RR) (c:Int) (bb:Bool) (j:Nat) (v:Value) (W:World):Prop:=
 match j with
 | 0=>v=.pointer (some ⟨A,0,none⟩)
 | 1=>v=.pointer (some ⟨A,0,none⟩)
 | 2=>v=.bool false
 | 3=>v=.bool false
 | 4=>v=.pointer (some ⟨A,0,none⟩)
 | 5=>∃ s1 s2 s3 s4,v=.agg #[.bool s.neg,.slice s1 s.num.length s2,.slice s3 s.den.length s4]∧bH W (.agg #[.bool s.neg,.slice s1 s.num.length s2,.slice s3 s.den.length s4]) s
 | 6=>∃ v',v=v'∧bH W v' (rep ((1:Int):Rat))
 | 7=>v=.int .i64 c
 | 8=>v=.bool bb
 | 9=>v=.bool bb
 | _=>True
theorem xD {A:Nat} {s:RR} {bb:Bool} (h:IS A s c bb j v W) (x:Ext W W'):IS A s c bb j v W':=by
 match j,h with
 | 0,h=>exact h
 | 1,h=>exact h
 | 2,h=>exact h
 | 3,h=>exact h
 | 4,h=>exact h
 | 5,⟨s1,s2,s3,s4,h1,h2⟩=>exact ⟨s1,s2,s3,s4,h1,h2.ext x⟩
 | 6,⟨v9,h1,h2⟩=>exact ⟨v9,h1,h2.ext x⟩
 | 7,h=>exact h
 | 8,h=>exact h
 | 9,h=>exact h
 | _+10,_=>trivial
def Mn (A b off k sn sc IT ba oa jj:Nat) (ai:Option Addr) (ci:Nat) (xv:Value) (c:Int) (j:Nat) (v:Value) (W:World):Prop:=
 match j with
 | 0=>v=.pointer (some ⟨A,3,none⟩)
 | 1=>v=.slice (some ⟨b,off,none⟩) sn sc
 | 2=>v=.int .i64 k
 | 3=>v=.pointer (some ⟨b,off+k,none⟩)
 | 4=>v=.slice ai IT ci
 | 5=>v=.int .i64 jj
 | 6=>v=.pointer (some ⟨ba,oa+jj*4,none⟩)
 | 7=>v=xv
 | 8=>v=.pointer (some ⟨A,3,none⟩)
 | 9=>v=.slice (some ⟨b,off,none⟩) sn sc
 | 10=>v=.int .i64 sn
 | 11=>v=.int .i64 c
 | _=>True
theorem Fp {A sn sc IT ba oa jj:Nat} {ai:Option Addr} {ci:Nat} {xv:Value} (h:Mn A b off k sn sc IT ba oa jj ai ci xv c j v W) (x:Ext W W'):Mn A b off k sn sc IT ba oa jj ai ci xv c j v W':=by
 match j,h with
 | 0,h=>exact h
 | 1,h=>exact h
 | 2,h=>exact h
 | 3,h=>exact h
 | 4,h=>exact h
 | 5,h=>exact h
 | 6,h=>exact h
 | 7,h=>exact h
 | 8,h=>exact h
 | 9,h=>exact h
 | 10,h=>exact h
 | 11,h=>exact h
 | _+12,_=>trivial
theorem jK (v:Value) (m:MD) (w:World) (h:dd w v m) (hl:eG m) :
  Calls Tryz.prog 67 #[v] w fun e w'=>e=.returned (.int .i64 (fS m))∧Ext w w':=by
 obtain ⟨d,ss⟩:=m;obtain ⟨a1,c1,a2,c2,a3,c3,rfl,hr,ho⟩:=h;obtain ⟨hl1,hl2⟩:=hl;unfold MD.act at hl2;dsimp only at hr ho hl1 hl2 ⊢;have hll:ss.length≤9223372036854775807:=by obtain ⟨_,_,_,h⟩:=ho.shape;exact h
 obtain ⟨HR,HO,jg,HL2⟩:=dW hr ho hl1 hl2;clear hr ho hl1 hl2;have bb0:=(af.new w #[.bool d.neg,.slice a1 d.num.length c1,.slice a2 d.den.length c2,.slice a3 ss.length c3] 28);have x0:Ext w (w.alloc (.cells #[.bool d.neg,.slice a1 d.num.length c1,.slice a2 d.den.length c2,.slice a3 ss.length c3] 28)):=((Ext.refl w).alloc _);have A0:=kI bb0;have X:=kI x0;clear x0 bb0;replace HR:=kI (HR.o.ext X.o);replace HO:=kI (HO.o.ext X.o);go_enter Tryz.func67,Tryz.ntmps67
 obtain ⟨aK,fA0,aJ⟩:=A0.o.q3;go_wp2_with fail;refine (cY _ d _ HR.o jg.o).mono ?_;rintro e w1 ⟨rfl,hx⟩;clear aK fA0 aJ;replace HR:=HR.x hx;replace HO:=HO.x hx;replace A0:=A0.x hx;replace X:=X.x hx;clear hx;by_cases h1:aE d=0
 rotate_left
 ·have E:=kI (PE (ss:=ss) h1);obtain ⟨c,hc⟩:=gN (aE d);rw [← hc] at E h1 ⊢;have q1:(c != 0)=true:=by simpa using h1
  clear h1 hc;go_wp2_with fail;go_ret;exact ⟨aV E.o.symm,X.o⟩
 rw [h1];obtain ⟨qd,UV⟩:=gN (qv d);have hdr:rep qd=d:=by rw [UV];exact zr jg.o h1
 have hsm:small qd:=by rw [UV];exact gG jg.o h1
 have hord:=fun W v1 v2 (f1:bH W v1 d) (f2:bH W v2 (rep ((1:Int):Rat)))=>kD v1 v2 qd ((1:Int):Rat) W (by rw [hdr];exact f1) f2 (uy hsm) (uy sZ);obtain ⟨c,hc⟩:=gN (et qd ((1:Int):Rat));rw [← hc] at hord;have hc1:(1 < qv d→0 < c)∧(¬ 1 < qv d→¬ 0 < c):=by
  rw [← UV,hc];rcases yS qd ((1:Int):Rat) with ⟨g,e⟩|⟨g,e⟩|⟨g,e⟩
  ·rw [e];exact ⟨fun h=>absurd h (sH g),fun _=>by decide⟩
  ·rw [e];exact ⟨fun h=>by rw [g] at h;exact absurd h Rat.lt_irrefl,fun _=>by decide⟩
  ·rw [e];exact ⟨fun _=>by decide,fun h=>absurd g h⟩
 have oS:=kI hord;have uL:=kI hc1;clear UV hdr hsm hord hc hc1;obtain ⟨aK,fA0,aJ⟩:=A0.o.q3;go_wp2_with fail;clear aK fA0 aJ;obtain ⟨wb,hwb⟩:=gN (w1);rw [← hwb] at HR HO A0 X ⊢;clear hwb;obtain ⟨An,hAn⟩:=gN (w.heap.size);rw [← hAn] at A0 ⊢;clear hAn;by_cases hn:d.neg=true
 ·have HN:=kI hn;clear hn;refine di (Mm An) ak ak ak (fun _ _ _ _ h x=>Fo h x) ?_ ?_
  ·refine ⟨?_,?_,?_,?_,?_,?_,?_,?_,?_,?_,trivial⟩
   ·intro a W hW hB hD K hK;have b1:=hB 1 rfl;simp only [sB] at b1;go_simp;exact hK _ _ (Ext.refl _) rfl
   ·intro a W hW hB hD K hK;obtain ⟨v12,e12,h12⟩:=aQ (hD 0 _ 12 rfl rfl ak);obtain rfl:=h12;go_simp;exact hK _ _ (Ext.refl _) rfl
   ·intro a W hW hB hD K hK;obtain ⟨v13,e13,h13⟩:=aQ (hD 1 _ 13 rfl rfl ak);obtain rfl:=h13;have q9:=(A0.o.ext hW).cell;have l9:=(A0.o.ext hW).lt;go_simp;exact hK _ _ (Ext.refl _) (by rw [HN.o];rfl)
   ·intro a W hW hB hD K hK;obtain ⟨v14,e14,zW⟩:=aQ (hD 2 _ 14 rfl rfl ak);obtain rfl:=zW;go_simp;exact hK _ _ (Ext.refl _) rfl
   ·intro a W hW hB hD K hK;obtain ⟨v15,e15,h15⟩:=aQ (hD 3 _ 15 rfl rfl ak);obtain rfl:=h15;have z9:=aR e15;go_simp;exact hK _ _ (Ext.refl _) trivial
   ·intro a W hW hB hD K hK;obtain ⟨v15,e15,h15⟩:=aQ (hD 3 _ 15 rfl rfl ak);obtain rfl:=h15;have z9:=aR e15;go_simp;exact hK _ _ (Ext.refl _) trivial
   ·intro a W hW hB hD K hK;obtain ⟨v15,e15,h15⟩:=aQ (hD 3 _ 15 rfl rfl ak);obtain rfl:=h15;have z9:=aR e15;go_simp;exact hK _ _ (Ext.refl _) trivial
   ·intro a W hW hB hD K hK;obtain ⟨v15,e15,h15⟩:=aQ (hD 3 _ 15 rfl rfl ak);obtain rfl:=h15;have z9:=aR e15;go_simp;exact hK _ _ (Ext.refl _) trivial
   ·intro a W hW hB hD K hK;obtain ⟨v15,e15,h15⟩:=aQ (hD 3 _ 15 rfl rfl ak);obtain rfl:=h15;have z9:=aR e15;go_simp;exact hK _ _ (Ext.refl _) trivial
   ·intro a W hW hB hD K hK;obtain ⟨v15,e15,h15⟩:=aQ (hD 3 _ 15 rfl rfl ak);obtain rfl:=h15;go_simp;exact hK _ _ (Ext.refl _) rfl
  intro w9 hx;simp only [dR];rintro u0 - u1 - u2 - u3 - u4 - u5 - u6 - u7 - u8 - u9 h9;obtain rfl:u9=.bool true:=h9;simp only [Act.put,List.setIfInBounds_toArray,List.set_cons_zero,List.set_cons_succ];replace HR:=HR.x hx;replace HO:=HO.x hx;replace A0:=A0.x hx;replace X:=X.x hx;clear hx;have E:=kI (yT (ss:=ss) h1 (.inl HN.o));clear h1 HN;obtain ⟨aK,fA0,aJ⟩:=A0.o.q3;go_wp2_with fail;go_ret;exact ⟨aV E.o.symm,X.o⟩
 have TV:=kI (show d.neg=false by simpa using hn);have J2:=kI hn;clear hn;by_cases h9:1 < qv d
 ·have q5:(0:Int) < c:=uL.o.1 h9;have Zf:c > 0:=q5;refine di (IS An d c true) ak ak ak (fun _ _ _ _ h x=>xD h x) ?_ ?_
  ·refine ⟨?_,?_,?_,?_,?_,?_,?_,?_,?_,?_,trivial⟩
   ·intro a W hW hB hD K hK;have b1:=hB 1 rfl;simp only [sB] at b1;go_simp;exact hK _ _ (Ext.refl _) rfl
   ·intro a W hW hB hD K hK;obtain ⟨v12,e12,h12⟩:=aQ (hD 0 _ 12 rfl rfl ak);obtain rfl:=h12;go_simp;exact hK _ _ (Ext.refl _) rfl
   ·intro a W hW hB hD K hK;obtain ⟨v13,e13,h13⟩:=aQ (hD 1 _ 13 rfl rfl ak);obtain rfl:=h13;have q9:=(A0.o.ext hW).cell;have l9:=(A0.o.ext hW).lt;go_simp;exact hK _ _ (Ext.refl _) (by rw [TV.o];rfl)
   ·intro a W hW hB hD K hK;obtain ⟨v14,e14,zW⟩:=aQ (hD 2 _ 14 rfl rfl ak);obtain rfl:=zW;go_simp;exact hK _ _ (Ext.refl _) rfl
   ·intro a W hW hB hD K hK;have b1:=hB 1 rfl;simp only [sB] at b1;obtain ⟨v15,e15,h15⟩:=aQ (hD 3 _ 15 rfl rfl ak);obtain rfl:=h15;have z9:=aR e15;go_simp;exact hK _ _ (Ext.refl _) rfl
   ·intro a W hW hB hD K hK;obtain ⟨v16,e16,h16⟩:=aQ (hD 4 _ 16 rfl rfl ak);obtain rfl:=h16;obtain ⟨v15,e15,h15⟩:=aQ (hD 3 _ 15 rfl rfl ak);obtain rfl:=h15;have q9:=(A0.o.ext hW).cell;have l9:=(A0.o.ext hW).lt;have z9:=aR e15;go_simp;exact hK _ _ (Ext.refl _) ⟨_,_,_,_,rfl,HR.o.ext hW⟩
   ·intro a W hW hB hD K hK;obtain ⟨v15,e15,h15⟩:=aQ (hD 3 _ 15 rfl rfl ak);obtain rfl:=h15;have z9:=aR e15;go_simp;refine (eI 1 W Z Z).mono ?_;rintro e w9 ⟨⟨v,rfl,nn⟩,hx⟩;exact hK _ _ hx ⟨_,rfl,nn.rd⟩
   ·intro a W hW hB hD K hK;obtain ⟨v17,e17,h17⟩:=aQ (hD 5 _ 17 rfl rfl ak);obtain ⟨d1,d2,d3,d4,rfl,dh⟩:=h17;obtain ⟨v18,e18,h18⟩:=aQ (hD 6 _ 18 rfl rfl ak);obtain ⟨e1,rfl,eh⟩:=h18;obtain ⟨v15,e15,h15⟩:=aQ (hD 3 _ 15 rfl rfl ak);obtain rfl:=h15;have z9:=aR e15;go_simp;refine (oS.o _ _ _ dh eh).mono ?_;rintro e w9 ⟨rfl,hx⟩;exact hK _ _ hx rfl
   ·intro a W hW hB hD K hK;obtain ⟨v19,e19,h19⟩:=aQ (hD 7 _ 19 rfl rfl ak);obtain rfl:=h19;obtain ⟨v15,e15,h15⟩:=aQ (hD 3 _ 15 rfl rfl ak);obtain rfl:=h15;have z9:=aR e15;go_simp;exact hK _ _ (Ext.refl _) rfl
   ·intro a W hW hB hD K hK;obtain ⟨v15,e15,h15⟩:=aQ (hD 3 _ 15 rfl rfl ak);obtain rfl:=h15;obtain ⟨v20,e20,h20⟩:=aQ (hD 8 _ 20 rfl rfl ak);obtain rfl:=h20;go_simp;exact hK _ _ (Ext.refl _) rfl
  intro w9 hx;simp only [dR];rintro u0 - u1 - u2 - u3 - u4 - u5 - u6 - u7 - u8 - u9 Zg;obtain rfl:u9=.bool true:=Zg;simp only [Act.put,List.setIfInBounds_toArray,List.set_cons_zero,List.set_cons_succ];replace HR:=HR.x hx;replace HO:=HO.x hx;replace A0:=A0.x hx;replace X:=X.x hx;clear hx;have E:=kI (yT (ss:=ss) h1 (.inr h9));clear h1 h9 q5 Zf;obtain ⟨aK,fA0,aJ⟩:=A0.o.q3;go_wp2_with fail;go_ret;exact ⟨aV E.o.symm,X.o⟩
 have q5:¬ (0:Int) < c:=by have:=uL.o.2 h9;omega
 have Zf:¬ c > 0:=q5;refine di (IS An d c false) ak ak ak (fun _ _ _ _ h x=>xD h x) ?_ ?_
 ·refine ⟨?_,?_,?_,?_,?_,?_,?_,?_,?_,?_,trivial⟩
  ·intro a W hW hB hD K hK;have b1:=hB 1 rfl;simp only [sB] at b1;go_simp;exact hK _ _ (Ext.refl _) rfl
  ·intro a W hW hB hD K hK;obtain ⟨v12,e12,h12⟩:=aQ (hD 0 _ 12 rfl rfl ak);obtain rfl:=h12;go_simp;exact hK _ _ (Ext.refl _) rfl
  ·intro a W hW hB hD K hK;obtain ⟨v13,e13,h13⟩:=aQ (hD 1 _ 13 rfl rfl ak);obtain rfl:=h13;have q9:=(A0.o.ext hW).cell;have l9:=(A0.o.ext hW).lt;go_simp;exact hK _ _ (Ext.refl _) (by rw [TV.o];rfl)
  ·intro a W hW hB hD K hK;obtain ⟨v14,e14,zW⟩:=aQ (hD 2 _ 14 rfl rfl ak);obtain rfl:=zW;go_simp;exact hK _ _ (Ext.refl _) rfl
  ·intro a W hW hB hD K hK;have b1:=hB 1 rfl;simp only [sB] at b1;obtain ⟨v15,e15,h15⟩:=aQ (hD 3 _ 15 rfl rfl ak);obtain rfl:=h15;have z9:=aR e15;go_simp;exact hK _ _ (Ext.refl _) rfl
  ·intro a W hW hB hD K hK;obtain ⟨v16,e16,h16⟩:=aQ (hD 4 _ 16 rfl rfl ak);obtain rfl:=h16;obtain ⟨v15,e15,h15⟩:=aQ (hD 3 _ 15 rfl rfl ak);obtain rfl:=h15;have q9:=(A0.o.ext hW).cell;have l9:=(A0.o.ext hW).lt;have z9:=aR e15;go_simp;exact hK _ _ (Ext.refl _) ⟨_,_,_,_,rfl,HR.o.ext hW⟩
  ·intro a W hW hB hD K hK;obtain ⟨v15,e15,h15⟩:=aQ (hD 3 _ 15 rfl rfl ak);obtain rfl:=h15;have z9:=aR e15;go_simp;refine (eI 1 W Z Z).mono ?_;rintro e w9 ⟨⟨v,rfl,nn⟩,hx⟩;exact hK _ _ hx ⟨_,rfl,nn.rd⟩
  ·intro a W hW hB hD K hK;obtain ⟨v17,e17,h17⟩:=aQ (hD 5 _ 17 rfl rfl ak);obtain ⟨d1,d2,d3,d4,rfl,dh⟩:=h17;obtain ⟨v18,e18,h18⟩:=aQ (hD 6 _ 18 rfl rfl ak);obtain ⟨e1,rfl,eh⟩:=h18;obtain ⟨v15,e15,h15⟩:=aQ (hD 3 _ 15 rfl rfl ak);obtain rfl:=h15;have z9:=aR e15;go_simp;refine (oS.o _ _ _ dh eh).mono ?_;rintro e w9 ⟨rfl,hx⟩;exact hK _ _ hx rfl
  ·intro a W hW hB hD K hK;obtain ⟨v19,e19,h19⟩:=aQ (hD 7 _ 19 rfl rfl ak);obtain rfl:=h19;obtain ⟨v15,e15,h15⟩:=aQ (hD 3 _ 15 rfl rfl ak);obtain rfl:=h15;have z9:=aR e15;go_simp;exact hK _ _ (Ext.refl _) rfl
  ·intro a W hW hB hD K hK;obtain ⟨v15,e15,h15⟩:=aQ (hD 3 _ 15 rfl rfl ak);obtain rfl:=h15;obtain ⟨v20,e20,h20⟩:=aQ (hD 8 _ 20 rfl rfl ak);obtain rfl:=h20;go_simp;exact hK _ _ (Ext.refl _) rfl
 intro w9 hx;simp only [dR];rintro u0 - u1 - u2 - u3 - u4 - u5 - u6 - u7 - u8 - u9 Zg;obtain rfl:u9=.bool false:=Zg;simp only [Act.put,List.setIfInBounds_toArray,List.set_cons_zero,List.set_cons_succ];replace HR:=HR.x hx;replace HO:=HO.x hx;replace A0:=A0.x hx;replace X:=X.x hx;clear hx;have h2:¬ (d.neg=true∨1 < qv d):=fun h=>h.elim J2.o h9;clear q5 Zf TV oS uL J2;by_cases h3:ss.length=0
 ·have E:=kI (QQ h1 h2 h3);have q6:((ss.length:Int) == 0)=true:=by simp [h3]
  clear h1 h2 h3 h9;obtain ⟨aK,fA0,aJ⟩:=A0.o.q3;go_wp2_with fail;go_ret;exact ⟨aV E.o.symm,X.o⟩
 have q6:((ss.length:Int) == 0)=false:=beq_eq_false_iff_ne.2 Z;by_cases h5:200 < ss.length
 ·have E:=kI (QR h1 h2 h3 h5);have q7:(200:Int) < (ss.length:Int):=by omega
  clear h1 h2 h3 h5 h9;obtain ⟨aK,fA0,aJ⟩:=A0.o.q3;go_wp2_with fail;go_ret;exact ⟨aV E.o.symm,X.o⟩
 clear h9;have q7:¬ (200:Int) < (ss.length:Int):=by omega
 have HE:=kI (fun (k:Nat) (hk:k < ss.length) g4 (c:Int) g5 g6=>Kb (k:=k) (c:=c) h1 h2 h3 h5 hk g4 g5 g6);have HI:=kI (Kc h1 h2 h3 h5);clear h1 h2;obtain ⟨aK,fA0,aJ⟩:=A0.o.q3;go_wp2_with fail;clear aK fA0 aJ;clear q6 q7;go_loopw [4] (fun i wr=>∃ k:Nat,k≤ss.length∧i=.int .i64 k∧(∀ j,j < k→qV ss.length (ss.getD j [])=0)∧Ext w9 wr) (fun i _=>ss.length - (intOf i).toNat)
 case atStart=>exact ⟨0,by omega,rfl,fun j hj=>by omega,Ext.refl w9⟩
 case round=>
  obtain ⟨wk,hwk⟩:=gN (wr);subst hwk;obtain ⟨k,hk,rfl,hok,hx⟩:=hrel;have OK:=kI hok;have XB:=kI hx;replace HO:=HO.x hx;replace A0:=A0.x hx;replace X:=X.x hx;clear hok hx;obtain ⟨qa0,fa0,la0⟩:=A0.o.q3;by_cases hlt:k < ss.length
  ·obtain ⟨b,off,ai,ci,rfl,z0,z1,z2⟩:=HO.o.at hlt;have hla:=HL2.o k;obtain ⟨ac,hac⟩:=gN (ss.getD k []);rw [← hac] at z1 z2 hla;have hal:ac.length≤9223372036854775807:=by obtain ⟨_,_,_,h⟩:=z2.shape;exact h
   obtain ⟨RA,iY,i5⟩:=cC z2 hac hla;have q1:(0:Int)≤(k:Int):=by omega
   have q2:(k:Int) < (ss.length:Int):=by omega
   clear z2 hac hla;by_cases g1:ac.length=0
   ·have E:=kI (HE.o k hlt OK.o 3 (by rw [← iY.o];exact Pt g1) ah);have q3:((ac.length:Int) == 0)=true:=by simp [g1]
    clear g1;go_wp2_with fail;go_ret;exact ⟨aV E.o.symm,X.o⟩
   have q3:((ac.length:Int) == 0)=false:=beq_eq_false_iff_ne.2 Z;by_cases g2:6 < ac.length
   ·have E:=kI (HE.o k hlt OK.o 4 (by rw [← iY.o];exact Ps g1 g2) ah);have q4:(6:Int) < (ac.length:Int):=by omega
    clear g1 g2;go_wp2_with fail;go_ret;exact ⟨aV E.o.symm,X.o⟩
   have q4:¬ (6:Int) < (ac.length:Int):=by omega
   go_wp2_with fail;clear q3 q4;go_loopw [5] (fun i wr=>∃ j:Nat,j≤ac.length∧i=.int .i64 j∧(∀ i,i < j→dZ ss.length (ac.getD i dA)=0)∧Ext wk wr) (fun i _=>ac.length - (intOf i).toNat)
   case atStart=>exact ⟨0,by omega,rfl,fun j hj=>by omega,Ext.refl wk⟩
   case round=>
    obtain ⟨wj,qZ⟩:=gN (wr);subst qZ;obtain ⟨j,hj,rfl,hoa,hx⟩:=hrel;have OA:=kI hoa;have XK:=kI hx;replace HO:=HO.x hx;replace A0:=A0.x hx;replace RA:=RA.x hx;replace X:=X.x hx;clear hoa hx qa0 fa0 la0;obtain ⟨qb0,fb0,UG⟩:=A0.o.q3;have z00:=Nat.lt_of_lt_of_le z0 XK.o.size;have z11:=(XK.o.cell (p:=⟨b,off+k,none⟩) z0).trans z1;by_cases hlj:j < ac.length
    ·obtain ⟨ba,oa,p1,e1,p2,e2,p3,e3,rfl,zz⟩:=RA.o.at hlj;have hrd:=zz.rd;obtain ⟨⟨y0,y1,y2,y3,-⟩,y4,-⟩:=zz;have Lu:=i5.o j;obtain ⟨x,eF⟩:=gN (ac.getD j dA);rw [← eF] at y1 y2 y3 y4 hrd Lu;have hca:=fun W v (h:ee W v x)=>zi v x ss.length W h Lu;obtain ⟨c,hc⟩:=gN (dZ ss.length x);rw [← hc] at hca;have Pi:=kI (hc.trans (congrArg (dZ ss.length) eF));have qW:=kI hca;have RD:=kI hrd;have q5:(0:Int)≤(j:Int):=by omega
     have q6:(j:Int) < (ac.length:Int):=by omega
     clear eF hc hca hrd Lu;go_wp2_with fail;clear qb0 fb0 UG z00 z11;have CA:Hid (ba < wj.heap.size∧wj.cell? ⟨ba,oa+j*4,none⟩=some (.bool x.cost.neg)∧wj.cell? ⟨ba,oa+j*4+1,none⟩=some (.slice p1 x.cost.num.length e1)∧wj.cell? ⟨ba,oa+j*4+2,none⟩=some (.slice p2 x.cost.den.length e2)∧wj.cell? ⟨ba,oa+j*4+3,none⟩=some (.slice p3 x.next.length e3)):=kI ⟨y0,y1,y2,y3,y4⟩;have CS:Hid (b < wj.heap.size∧wj.cell? ⟨b,off+k,none⟩=some (.slice (some ⟨ba,oa,none⟩) ac.length ci)):=kI ⟨Nat.lt_of_lt_of_le z0 XK.o.size,(XK.o.cell (p:=⟨b,off+k,none⟩) z0).trans z1⟩;clear y0 y1 y2 y3 y4;refine bE 12 (Mn An b off k ss.length c3 ac.length ba oa j (some ⟨ba,oa,none⟩) ci (.agg #[.bool x.cost.neg,.slice p1 x.cost.num.length e1,.slice p2 x.cost.den.length e2,.slice p3 x.next.length e3]) c) ak ak ak (fun _ _ _ _ h x=>Fp h x) ?_ ?_
     ·refine ⟨?_,?_,?_,?_,?_,?_,?_,?_,?_,?_,?_,?_,trivial⟩
      ·intro a W hW hB hD K hK;have b1:=hB 1 rfl;simp only [sB] at b1;go_simp;exact hK _ _ (Ext.refl _) rfl
      ·intro a W hW hB hD K hK;obtain ⟨v61,e61,h61⟩:=aQ (hD 0 _ 61 rfl rfl ak);obtain rfl:=h61;have q9:=(A0.o.ext hW).cell;have l9:=(A0.o.ext hW).lt;go_simp;exact hK _ _ (Ext.refl _) rfl
      ·intro a W hW hB hD K hK;have b4:=hB 4 rfl;simp only [sB] at b4;go_simp;exact hK _ _ (Ext.refl _) rfl
      ·intro a W hW hB hD K hK;obtain ⟨v62,e62,h62⟩:=aQ (hD 1 _ 62 rfl rfl ak);obtain rfl:=h62;obtain ⟨v63,e63,h63⟩:=aQ (hD 2 _ 63 rfl rfl ak);obtain rfl:=h63;go_simp;exact hK _ _ (Ext.refl _) rfl
      ·intro a W hW hB hD K hK;obtain ⟨v64,e64,h64⟩:=aQ (hD 3 _ 64 rfl rfl ak);obtain rfl:=h64;have m0:=(hW.cell (p:=⟨b,off+k,none⟩) CS.o.1).trans CS.o.2;have ml:=Nat.lt_of_lt_of_le CS.o.1 hW.size;go_simp;exact hK _ _ (Ext.refl _) rfl
      ·intro a W hW hB hD K hK;have b5:=hB 5 rfl;simp only [sB] at b5;go_simp;exact hK _ _ (Ext.refl _) rfl
      ·intro a W hW hB hD K hK;obtain ⟨v65,e65,h65⟩:=aQ (hD 4 _ 65 rfl rfl ak);obtain rfl:=h65;obtain ⟨v66,e66,h66⟩:=aQ (hD 5 _ 66 rfl rfl ak);obtain rfl:=h66;go_simp;exact hK _ _ (Ext.refl _) rfl
      ·intro a W hW hB hD K hK;obtain ⟨v67,e67,h67⟩:=aQ (hD 6 _ 67 rfl rfl ak);obtain rfl:=h67;have m0:=(hW.cell (p:=⟨ba,oa+j*4,none⟩) CA.o.1).trans CA.o.2.1;have m1:=(hW.cell (p:=⟨ba,oa+j*4+1,none⟩) CA.o.1).trans CA.o.2.2.1;have m2:=(hW.cell (p:=⟨ba,oa+j*4+2,none⟩) CA.o.1).trans CA.o.2.2.2.1;have m3:=(hW.cell (p:=⟨ba,oa+j*4+3,none⟩) CA.o.1).trans CA.o.2.2.2.2;have ml:=Nat.lt_of_lt_of_le CA.o.1 hW.size;go_simp;exact hK _ _ (Ext.refl _) rfl
      ·intro a W hW hB hD K hK;have b1:=hB 1 rfl;simp only [sB] at b1;go_simp;exact hK _ _ (Ext.refl _) rfl
      ·intro a W hW hB hD K hK;obtain ⟨v69,e69,h69⟩:=aQ (hD 8 _ 69 rfl rfl ak);obtain rfl:=h69;have q9:=(A0.o.ext hW).cell;have l9:=(A0.o.ext hW).lt;go_simp;exact hK _ _ (Ext.refl _) rfl
      ·intro a W hW hB hD K hK;obtain ⟨v70,e70,h70⟩:=aQ (hD 9 _ 70 rfl rfl ak);obtain rfl:=h70;go_simp;exact hK _ _ (Ext.refl _) rfl
      ·intro a W hW hB hD K hK;obtain ⟨v68,e68,h68⟩:=aQ (hD 7 _ 68 rfl rfl ak);obtain rfl:=h68;obtain ⟨v71,e71,h71⟩:=aQ (hD 10 _ 71 rfl rfl ak);obtain rfl:=h71;go_simp;refine (qW.o W _ (RD.o.ext hW)).mono ?_;rintro e w9 ⟨rfl,hx⟩;exact hK _ _ hx rfl
     intro wo hx;simp only [dR,List.take_succ_cons,List.take_zero,List.drop_succ_cons,List.drop_zero];rintro u0 - u1 - u2 - u3 - u4 - u5 - u6 - u7 - u8 - u9 - u10 - u11 h11;obtain rfl:u11=.int .i64 c:=h11;simp only [Act.put,List.setIfInBounds_toArray,List.set_cons_zero,List.set_cons_succ];replace HO:=HO.x hx;replace A0:=A0.x hx;replace RA:=RA.x hx;replace RD:=RD.x hx;replace X:=X.x hx;replace XK:=XK.x hx;clear hx qW CA CS;by_cases he:c=0
     rotate_left
     ·have E:=kI (HE.o k hlt OK.o c (by rw [← iY.o];exact Dj g1 g2 hlj OA.o Pi.o.symm he) he);have q7:(c != 0)=true:=by simpa using he
      clear he;go_wp2_with fail;go_ret;exact ⟨aV E.o.symm,X.o⟩
     subst he;have Ph:∀ i,i < j+1→dZ ss.length (ac.getD i dA)=0:=fun i hi=>by
      by_cases e:i=j
      ·rw [e];exact Pi.o.symm
      ·exact OA.o i Z
     have WG:=kI Ph;clear Ph;go_wp2_with fail;go_roundw
     case rel=>exact ⟨j+1,by omega,by go_num,WG.o,XK.o⟩
     case measure=>simp [intOf];omega
    ·obtain rfl:j=ac.length:=by omega
     have q5:¬ (ac.length:Int) < (ac.length:Int):=by omega
     have hs:qV ss.length (ss.getD k [])=0:=by rw [← iY.o];exact JP g1 g2 OA.o
     have oO:∀ j,j < k+1→qV ss.length (ss.getD j [])=0:=fun i hi=>by
      by_cases e:i=k
      ·rw [e];exact hs
      ·exact OK.o i Z
     have oP:=kI oO;have Wt:=kI (XB.o.trans XK.o);clear hs oO g1 g2;go_wp2_with fail;go_roundw
     case rel=>exact ⟨k+1,by omega,by go_num,oP.o,Wt.o⟩
     case measure=>simp [intOf];omega
  ·obtain rfl:k=ss.length:=by omega
   have q1:¬ (ss.length:Int) < (ss.length:Int):=by omega
   have E:=kI (HI.o OK.o);go_wp2_with fail;go_ret;exact ⟨aV E.o.symm,X.o⟩
theorem kE (v lv:Value) (m:MD) (l:List RR) (w:World) (h:dd w v m) (k:aT w lv l) (hl:eG m) :
  Calls Tryz.prog 126 #[v,lv] w fun e w'=>e=.returned (.int .i64 (cJ m l))∧Ext w w':=by
 have hck:=fun W v (h:dd W v m)=>jK v m W h hl;obtain ⟨la,lc,rfl,hlc,hlm,f,hf⟩:=k.get;have h':=h;obtain ⟨d,ss⟩:=m;obtain ⟨a1,c1,a2,c2,a3,c3,rfl,hr,ho⟩:=h';dsimp only at hr ho;have hll:ss.length≤9223372036854775807:=by obtain ⟨_,_,_,h⟩:=ho.shape;exact h
 have QT:l.length≤9223372036854775807:=Z
 have HM:=kI h;have gY:=kI hck;clear h hck k hf hr ho hl hlc hlm f;have bb:=af.new w #[.bool d.neg,.slice a1 d.num.length c1,.slice a2 d.den.length c2,.slice a3 ss.length c3] 28;have x0:Ext w (w.alloc (.cells #[.bool d.neg,.slice a1 d.num.length c1,.slice a2 d.den.length c2,.slice a3 ss.length c3] 28)):=(Ext.refl w).alloc _;have A0:=kI bb;have X:=kI x0;have HM:=HM.x x0;clear bb x0;have EQ:=kI (show cJ ⟨d,ss⟩ l=if fS ⟨d,ss⟩≠0 then fS ⟨d,ss⟩ else if l.length≠ss.length then 16 else 0 from rfl);obtain ⟨c,hc⟩:=gN (fS ⟨d,ss⟩);rw [← hc] at EQ gY;clear hc;go_enter Tryz.func126,Tryz.ntmps126
 exact jJj
theorem gU (v lv:Value) (m:MD) (l:List RR) (w:World) (h:dd w v m) (k:aT w lv l) (hl:eG m) :
  Calls Tryz.prog 63 #[v,lv] w fun e w'=>e=.returned (.int .i64 (cJ m l))∧Ext w w':=by
 have hck:=fun W v (h:dd W v m)=>jK v m W h hl;obtain ⟨la,lc,rfl,hlc,hlm,f,hf⟩:=k.get;have h':=h;obtain ⟨d,ss⟩:=m;obtain ⟨a1,c1,a2,c2,a3,c3,rfl,hr,ho⟩:=h';dsimp only at hr ho;have hll:ss.length≤9223372036854775807:=by obtain ⟨_,_,_,h⟩:=ho.shape;exact h
 have QT:l.length≤9223372036854775807:=Z
 have HM:=kI h;have gY:=kI hck;clear h hck k hf hr ho hl hlc hlm f;have bb:=af.new w #[.bool d.neg,.slice a1 d.num.length c1,.slice a2 d.den.length c2,.slice a3 ss.length c3] 28;have x0:Ext w (w.alloc (.cells #[.bool d.neg,.slice a1 d.num.length c1,.slice a2 d.den.length c2,.slice a3 ss.length c3] 28)):=(Ext.refl w).alloc _;have A0:=kI bb;have X:=kI x0;have HM:=HM.x x0;clear bb x0;have EQ:=kI (show cJ ⟨d,ss⟩ l=if fS ⟨d,ss⟩≠0 then fS ⟨d,ss⟩ else if l.length≠ss.length then 16 else 0 from rfl);obtain ⟨c,hc⟩:=gN (fS ⟨d,ss⟩);rw [← hc] at EQ gY;clear hc;go_enter Tryz.func63,Tryz.ntmps63
 exact jJj
theorem Sr {q:Rat} (h:(dv q).2=0):aE (dv q).1=0:=by
 unfold dv at h ⊢;by_cases hs:small q
 ·rw [if_pos hs];exact oF hs
 ·rw [if_neg hs] at h;cases h
theorem Cq {r:RR} (hl:bj r) (h:aE r=0):bL zR r=(r,0):=by
 unfold bL ng;rw [if_pos (lX ah h)];have e:qv zR+qv r=qv r:=by rw [show qv zR=0 from by rw [← vO,gd],Rat.zero_add]
 rw [e,zM (gG hl h),(fQ hl h).2.2]
theorem Cr (q:Rat):dv q=if (dv q).2=0 then ((dv q).1,0) else (zR,(dv q).2):=by
 unfold dv;split <;> rfl
theorem Cs (a b:RR):bL a b=if (bL a b).2=0 then ((bL a b).1,0) else (zR,(bL a b).2):=by
 unfold bL ng;by_cases hc:cK a b=0
 ·rw [if_pos hc];exact Cr _
 ·rw [if_neg hc,if_neg (show ¬ (zR,cK a b).2=0 from hc)]
theorem oM {r p:RR} (hl:bj r) (h:aE r=0):du zR [r,p]=bL r p:=by
 unfold du;rw [Cq hl h,if_pos rfl];unfold du;rw [Cs];by_cases e:(bL r p).2=0
 ·simp only [e,if_true];rfl
 ·simp only [e,if_false]
theorem xE (va vb:Value) (la lb:List RR) (w:World) (ha:aT w va la) (hb:aT w vb lb) (hla:bQ la) (hlb:bQ lb) :
  Calls Tryz.prog 172 #[va,vb] w fun e w'=>bG w w' e (i6 la lb)∧Ext w w':=by
 obtain ⟨aa,ca,rfl,hac,ham,f,hf⟩:=ha.get;obtain ⟨ab,cb,rfl,hbc,hbm,g,hg⟩:=hb.get;obtain ⟨HF,HG,i5,iX⟩:=dW hf hg hla hlb;clear ha hb hf hg hla hlb;have gla:(la.length:Int)≤9223372036854775807:=by omega
 have glb:(lb.length:Int)≤9223372036854775807:=by omega
 by_cases hlen:la.length=lb.length
 ·have hr0:i6 la lb=kN zR la lb:=if_pos hlen;have HR0:=kI hr0;clear hr0;have hlz:(la.length:Int)=(lb.length:Int):=by omega
  have q0:((la.length:Int) != (lb.length:Int))=false:=by simp [hlz]
  have HLEN:=kI hlen;clear hlen hlz;have bb0:=((af.new w #[.bool false,.slice none 0 0,.slice none 0 0] 25).alloc (.cells #[.bool false,.slice none 0 0,.slice none 0 0] 25));have bb1:=(af.new (w.alloc (.cells #[.bool false,.slice none 0 0,.slice none 0 0] 25)) #[.bool false,.slice none 0 0,.slice none 0 0] 25);rw [World.size_alloc] at bb1;have x0:Ext w ((w.alloc (.cells #[.bool false,.slice none 0 0,.slice none 0 0] 25)).alloc (.cells #[.bool false,.slice none 0 0,.slice none 0 0] 25)):=(((Ext.refl w).alloc _).alloc _);obtain ⟨A0,A1,X⟩:=cC bb0 bb1 x0;clear x0 bb0 bb1;have Z0:Hid (aO w ((w.alloc (.cells #[.bool false,.slice none 0 0,.slice none 0 0] 25)).alloc (.cells #[.bool false,.slice none 0 0,.slice none 0 0] 25)) (.agg #[.bool false,.slice none 0 0,.slice none 0 0]) zR):=kI (aO.zero _ _);go_enter Tryz.func172,Tryz.ntmps172
  go_wp2_with fail;go_loopw [7] (fun i wr=>∃ (k:Nat) (r:RR) (a1:Option Addr) (c1:Nat) (a2:Option Addr) (c2:Nat),k≤la.length∧i=.int .i64 k∧bj r∧aE r=0∧kN zR la lb=kN r (la.drop k) (lb.drop k)∧Ext w wr∧af wr w.heap.size #[.bool false,.slice none 0 0,.slice none 0 0] 25∧af wr (w.heap.size+1) #[.bool r.neg,.slice a1 r.num.length c1,.slice a2 r.den.length c2] 25∧aO w wr (.agg #[.bool r.neg,.slice a1 r.num.length c1,.slice a2 r.den.length c2]) r) (fun i _=>la.length - (intOf i).toNat)
  case atStart=>exact ⟨0,zR,none,0,none,0,Nat.zero_le _,rfl,bO,by decide,rfl,X.o,A0.o,A1.o,Z0.o⟩
  case round=>
   obtain ⟨k,r,a1,c1,a2,c2,hk,rfl,hrl,hrc,hsum,hx,hblk,hblk1,hnew⟩:=hrel;clear A0 A1 X Z0;obtain ⟨HS,X,A0,A1,NR,RL,RC⟩:=Ba hsum hx hblk hblk1 hnew hrl hrc;clear hsum hx hblk hblk1 hnew hrl hrc;by_cases hlt:k < la.length
   ·have hlt2:k < lb.length:=by have:=HLEN.o;omega
    obtain ⟨ba,oa,rfl,hba,x0,x1,x2,rx⟩:=HF.o k hlt;obtain ⟨bb,ob,rfl,hbb,y0,y1,y2,ry⟩:=HG.o k hlt2;have lx:=i5.o k hlt;have ly:=iX.o k hlt2;have hst:=sG (s:=r) hlt hlt2;rw [← HS.o] at hst;generalize la.getD k zR=x at x0 x1 x2 rx lx hst
    generalize lb.getD k zR=y at y0 y1 y2 ry ly hst
    generalize f k=fk at x0 x1 x2 rx
    generalize g k=gk at y0 y1 y2 ry
    obtain ⟨⟨p1,p2⟩,⟨p3,p4⟩⟩:=fk;obtain ⟨⟨g1,g2⟩,⟨g3,g4⟩⟩:=gk;dsimp only at x0 x1 x2 rx y0 y1 y2 ry;have EA:Hid (wg w ba (oa+k*3) x p1 p2 p3 p4):=kI ⟨hba,x0,x1,x2⟩;have EB:Hid (wg w bb (ob+k*3) y g1 g2 g3 g4):=kI ⟨hbb,y0,y1,y2⟩;have l1:ba < wr.heap.size:=Nat.lt_of_lt_of_le hba X.o.size;have l2:bb < wr.heap.size:=Nat.lt_of_lt_of_le hbb X.o.size;have RX:=kI (rx.ext X.o);have RY:=kI (ry.ext X.o);obtain ⟨LX,LY,HST⟩:=cC lx ly hst;have q1:(0:Int)≤(k:Int):=by omega
    have q2:(k:Int) < (la.length:Int):=by omega
    have q3:(k:Int) < (lb.length:Int):=by omega
    clear x0 x1 x2 rx lx y0 y1 y2 ry ly hst hba hbb q0;go_wp2_with fail;have X0:=X;refine wp_region_held_drew (S:=(fun W=>(W.cell? ⟨ba,oa+k*3,none⟩=some (.bool x.neg)∧W.cell? ⟨ba,oa+k*3+1,none⟩=some (.slice p1 x.num.length p2)∧W.cell? ⟨ba,oa+k*3+2,none⟩=some (.slice p3 x.den.length p4))∧(W.cell? ⟨bb,ob+k*3,none⟩=some (.bool y.neg)∧W.cell? ⟨bb,ob+k*3+1,none⟩=some (.slice g1 y.num.length g2)∧W.cell? ⟨bb,ob+k*3+2,none⟩=some (.slice g3 y.den.length g4)))) ak ?_ (fun hHeld=>?_)
    ·exact ⟨EA.o.c3 (by have x9:=X.o;exact eX),EB.o.c3 (by have x9:=X.o;exact eX)⟩
    refine tk 0 ?_;refine tk 1 ?_;refine tk 2 ?_;refine tk 3 ?_;refine tk 4 ?_;refine tk 5 ?_;refine tk 6 ?_;refine tk 7 ?_;refine dt [8,12] ?_;refine AllReadyH.cons rfl (fun K hK=>?_) (AllReadyH.cons rfl (fun K hK=>?_) AllReadyH.nil)
    ·go_simp;have XO:=X;refine (gK _ _ x y _ (RX.o.ext gM) (RY.o.ext gM) LX.o LY.o).mono ?_;rintro e w1 ⟨⟨v,rfl,nn⟩,hx⟩;have hx:=Ext.trans (show Ext wr _ from by first|exact Ext.refl _|exact (Ext.refl _).drew) hx;have A0:=A0.x hx;have A1:=A1.x hx;have NR:=NR.x hx;have RX:=RX.x hx;have RY:=RY.x hx;have X:=X.x hx;obtain ⟨m1,m2,m3,m4,rfl⟩:=nn.shape;have Nm:=kI nn.rd;have Om:=kI (nn.from ((show Ext w _ from by have x9:=XO.o;exact eX)));clear nn hx;(try go_wp2_with fail);refine hK.out _ _ ?_ (fun hHeld=>?_)
     ·exact ⟨EA.o.c3 (by have x9:=X.o;exact eX),EB.o.c3 (by have x9:=X.o;exact eX)⟩
     clear hK K;(try simp only [sP]);refine tk 9 ?_;refine tk 10 ?_;refine tk 11 ?_;refine dt [12] ?_;refine rc (fun K hK=>?_);go_simp;have hx:Ext w1 ((w1.alloc (.cells #[.bool false,.slice none 0 0,.slice none 0 0] 25))):=(Ext.refl _).alloc _;have bz:af ((w1.alloc (.cells #[.bool false,.slice none 0 0,.slice none 0 0] 25))) (w1.heap.size) #[.bool false,.slice none 0 0,.slice none 0 0] 25:=by have hh:=(af.new w1 #[.bool false,.slice none 0 0,.slice none 0 0] 25);(try simp only [World.size_alloc] at hh);exact hh
     obtain ⟨w2,wn⟩:=gN ((w1.alloc (.cells #[.bool false,.slice none 0 0,.slice none 0 0] 25)));rw [← wn] at hx bz ⊢;obtain ⟨dw,pT⟩:=gN (w1.heap.size);have oL:Hid (w.heap.size < dw):=kI KM;have zL:Hid (w.heap.size+1 < dw):=kI PF;have xW:Hid (w.heap.size≤dw):=kI KL;rw [← pT] at bz ⊢;have A0:=A0.x hx;have A1:=A1.x hx;have NR:=NR.x hx;have RX:=RX.x hx;have RY:=RY.x hx;have Nm:=Nm.x hx;have Om:=Om.x hx;have X:=X.x hx;have AP:=kI bz;clear hx bz wn pT;(try go_wp2_with fail);refine hK.out _ _ ?_ (fun hHeld=>?_)
     ·exact ⟨EA.o.c3 (by have x9:=X.o;exact eX),EB.o.c3 (by have x9:=X.o;exact eX)⟩
     clear hK K;(try simp only [sP]);obtain ⟨yh,yj,yk⟩:=AP.o.q3;refine dt [13] ?_;refine rc (fun K hK=>?_);go_simp;(try go_wp2_with fail);refine hK.out _ _ ?_ (fun hHeld=>?_)
     ·((try dsimp only);exact ⟨EA.o.c3 JG,EB.o.c3 JG⟩)
     clear hK K;(try simp only [sP]);refine tk 14 ?_;refine wpAnyH_done ak ?_ _;clear yh yj yk;have hne:w.heap.size≠dw:=Nat.ne_of_lt oL.o;have hne1:w.heap.size+1≠dw:=Nat.ne_of_lt zL.o;have hap:=AP.o.ep (.bool (mulR x y).1.neg) (.slice m1 (mulR x y).1.num.length m2) (.slice m3 (mulR x y).1.den.length m4);have hq0:=Om.o.cW AP.o ah (.bool (mulR x y).1.neg) (.slice m1 (mulR x y).1.num.length m2) (.slice m3 (mulR x y).1.den.length m4);have hq1:=NR.o.cW AP.o ah (.bool (mulR x y).1.neg) (.slice m1 (mulR x y).1.num.length m2) (.slice m3 (mulR x y).1.den.length m4);have hq2:=((A0.o.setOther (a:=⟨dw,0,none⟩) hne (.bool (mulR x y).1.neg)).setOther (a:=⟨dw,1,none⟩) hne (.slice m1 (mulR x y).1.num.length m2)).setOther (a:=⟨dw,2,none⟩) hne (.slice m3 (mulR x y).1.den.length m4);have hq3:=((A1.o.setOther (a:=⟨dw,0,none⟩) hne1 (.bool (mulR x y).1.neg)).setOther (a:=⟨dw,1,none⟩) hne1 (.slice m1 (mulR x y).1.num.length m2)).setOther (a:=⟨dw,2,none⟩) hne1 (.slice m3 (mulR x y).1.den.length m4);have hx6:Ext w (((w2.setCell ⟨dw,0,none⟩ (.bool (mulR x y).1.neg)).setCell ⟨dw,1,none⟩ (.slice m1 (mulR x y).1.num.length m2)).setCell ⟨dw,2,none⟩ (.slice m3 (mulR x y).1.den.length m4)):=(((X.o.set (p:=⟨dw,0,none⟩) xW.o _).set (p:=⟨dw,1,none⟩) xW.o _).set (p:=⟨dw,2,none⟩) xW.o _);obtain ⟨wz,hwz⟩:=gN ((((w2.setCell ⟨dw,0,none⟩ (.bool (mulR x y).1.neg)).setCell ⟨dw,1,none⟩ (.slice m1 (mulR x y).1.num.length m2)).setCell ⟨dw,2,none⟩ (.slice m3 (mulR x y).1.den.length m4)));rw [← hwz] at hap hq0 hq1 hq2 hq3 hx6 ⊢;clear hwz;obtain ⟨AP,Om,NR,A0,A1,X⟩:=od hap hq0 hq1 hq2 hq3 hx6;clear hap hq0 hq1 hq2 hq3 hx6;clear hne hne1;have PL:=kI (fg x y);obtain ⟨p,e,hp⟩:∃ p e,mulR x y=(p,e):=⟨_,_,rfl⟩;rw [hp] at HST AP Om PL ⊢;dsimp only at HST AP Om PL ⊢;clear hp;by_cases he:e=0
     ·subst he;obtain ⟨cT,cU,lA1⟩:=A1.o.q3;obtain ⟨yh,yj,yk⟩:=AP.o.q3;go_wp2_with fail;have XW:=X;refine (eu _ _ r p _ NR.o.rd Om.o.rd RL.o PL.o).mono ?_;rintro e w3 ⟨⟨vs,rfl,nn⟩,hx⟩;clear cT cU lA1 yh yj yk;have AP:=AP.x hx;have Om:=Om.x hx;have NR:=NR.x hx;have A0:=A0.x hx;have A1:=A1.x hx;have X:=X.x hx;obtain ⟨s1,s2,s3,s4,rfl⟩:=nn.shape;have NS:=kI (aO.from nn XW.o);have SL:=kI (dX r p);have SC:=kI (fun h=>hZ (a:=r) (b:=p) h);clear nn hx;have hst:=HST.o;rw [if_pos trivial,oM RL.o RC.o] at hst;obtain ⟨t,e,ht⟩:∃ t e,bL r p=(t,e):=⟨_,_,rfl⟩;rw [ht] at NS SL SC hst ⊢;dsimp only at hst NS SL SC ⊢;have HST:=kI hst;clear ht hst;by_cases he:e=0
      ·have TC:=kI (SC.o he);subst he;obtain ⟨cT,cU,lA1⟩:=A1.o.q3;go_wp2_with fail;clear cT cU lA1;have hne:w.heap.size≠w.heap.size+1:=by omega
       have hap:=A1.o.ep (.bool t.neg) (.slice s1 t.num.length s2) (.slice s3 t.den.length s4);have hq0:=NS.o.ib A1.o ah (.bool t.neg) (.slice s1 t.num.length s2) (.slice s3 t.den.length s4);have hq1:=((A0.o.setOther (a:=⟨w.heap.size+1,0,none⟩) hne (.bool t.neg)).setOther (a:=⟨w.heap.size+1,1,none⟩) hne (.slice s1 t.num.length s2)).setOther (a:=⟨w.heap.size+1,2,none⟩) hne (.slice s3 t.den.length s4);have hx6:Ext w (((w3.setCell ⟨w.heap.size+1,0,none⟩ (.bool t.neg)).setCell ⟨w.heap.size+1,1,none⟩ (.slice s1 t.num.length s2)).setCell ⟨w.heap.size+1,2,none⟩ (.slice s3 t.den.length s4)):=(((X.o.set (p:=⟨w.heap.size+1,0,none⟩) (Nat.le_succ _) _).set (p:=⟨w.heap.size+1,1,none⟩) (Nat.le_succ _) _).set (p:=⟨w.heap.size+1,2,none⟩) (Nat.le_succ _) _);obtain ⟨wy,hwz⟩:=gN ((((w3.setCell ⟨w.heap.size+1,0,none⟩ (.bool t.neg)).setCell ⟨w.heap.size+1,1,none⟩ (.slice s1 t.num.length s2)).setCell ⟨w.heap.size+1,2,none⟩ (.slice s3 t.den.length s4)));rw [← hwz] at hap hq0 hq1 hx6 ⊢;clear hwz;obtain ⟨A1,NS,A0,X⟩:=dW hap hq0 hq1 hx6;clear hap hq0 hq1 hx6;go_roundw
       case rel=>exact ⟨k+1,t,s1,s2,s3,s4,by omega,by go_num,SL.o,TC.o,by have:=HST.o;simpa using this,X.o,A0.o,A1.o,NS.o⟩
       case measure=>simp [intOf];omega
      ·have he2:(e != 0)=true:=by simpa using he
       have HE:=kI he;clear he;obtain ⟨aK,fA0,aJ⟩:=A0.o.q3;obtain ⟨cT,cU,lA1⟩:=A1.o.q3;go_wp2_with fail;clear aK fA0 aJ cT cU lA1;have hne:w.heap.size≠w.heap.size+1:=by omega
       have hx5:Ext w (((w3.setCell ⟨w.heap.size+1,0,none⟩ (.bool t.neg)).setCell ⟨w.heap.size+1,1,none⟩ (.slice s1 t.num.length s2)).setCell ⟨w.heap.size+1,2,none⟩ (.slice s3 t.den.length s4)):=(((X.o.set (p:=⟨w.heap.size+1,0,none⟩) (Nat.le_succ _) _).set (p:=⟨w.heap.size+1,1,none⟩) (Nat.le_succ _) _).set (p:=⟨w.heap.size+1,2,none⟩) (Nat.le_succ _) _);have C6:=((A0.o.setOther (a:=⟨w.heap.size+1,0,none⟩) hne (.bool t.neg)).setOther (a:=⟨w.heap.size+1,1,none⟩) hne (.slice s1 t.num.length s2)).setOther (a:=⟨w.heap.size+1,2,none⟩) hne (.slice s3 t.den.length s4);obtain ⟨W5,JH⟩:=gN ((((w3.setCell ⟨w.heap.size+1,0,none⟩ (.bool t.neg)).setCell ⟨w.heap.size+1,1,none⟩ (.slice s1 t.num.length s2)).setCell ⟨w.heap.size+1,2,none⟩ (.slice s3 t.den.length s4)));rw [← JH] at hx5 C6 ⊢;clear JH;have X:=kI hx5;have A0:=kI C6;clear hx5 C6 hne;have hb6:=A0.o.ep (.bool false) (.slice none 0 0) (.slice none 0 0);have hx6:Ext w (((W5.setCell ⟨w.heap.size,0,none⟩ (.bool false)).setCell ⟨w.heap.size,1,none⟩ (.slice none 0 0)).setCell ⟨w.heap.size,2,none⟩ (.slice none 0 0)):=(((X.o.set (p:=⟨w.heap.size,0,none⟩) (Nat.le_refl _) _).set (p:=⟨w.heap.size,1,none⟩) (Nat.le_refl _) _).set (p:=⟨w.heap.size,2,none⟩) (Nat.le_refl _) _);obtain ⟨W6,iS⟩:=gN ((((W5.setCell ⟨w.heap.size,0,none⟩ (.bool false)).setCell ⟨w.heap.size,1,none⟩ (.slice none 0 0)).setCell ⟨w.heap.size,2,none⟩ (.slice none 0 0)));rw [← iS] at hb6 hx6 ⊢;clear iS;have nD:=kI hx6;clear hx6;refine bodyPost_ret (v:=.tuple #[.agg #[.bool false,.slice none 0 0,.slice none 0 0],.int .i64 e]) Nv rfl ⟨bG.mk (l:=zR) (aO.zero _ _) ?_,nD.o⟩;rw [HR0.o];have h9:=HST.o;rw [if_neg HE.o] at h9;exact h9
     ·have he2:(e != 0)=true:=by simpa using he
      have HE:=kI he;clear he;obtain ⟨aK,fA0,aJ⟩:=A0.o.q3;go_wp2_with fail;clear aK fA0 aJ;have hb6:=A0.o.ep (.bool false) (.slice none 0 0) (.slice none 0 0);have hx6:Ext w (((wz.setCell ⟨w.heap.size,0,none⟩ (.bool false)).setCell ⟨w.heap.size,1,none⟩ (.slice none 0 0)).setCell ⟨w.heap.size,2,none⟩ (.slice none 0 0)):=(((X.o.set (p:=⟨w.heap.size,0,none⟩) (Nat.le_refl _) _).set (p:=⟨w.heap.size,1,none⟩) (Nat.le_refl _) _).set (p:=⟨w.heap.size,2,none⟩) (Nat.le_refl _) _);obtain ⟨W6,iS⟩:=gN ((((wz.setCell ⟨w.heap.size,0,none⟩ (.bool false)).setCell ⟨w.heap.size,1,none⟩ (.slice none 0 0)).setCell ⟨w.heap.size,2,none⟩ (.slice none 0 0)));rw [← iS] at hb6 hx6 ⊢;clear iS;have nD:=kI hx6;clear hx6;refine bodyPost_ret (v:=.tuple #[.agg #[.bool false,.slice none 0 0,.slice none 0 0],.int .i64 e]) Nv rfl ⟨bG.mk (l:=zR) (aO.zero _ _) ?_,nD.o⟩;rw [HR0.o];have h9:=HST.o;rw [if_neg HE.o] at h9;exact h9
    ·go_simp;have hx:Ext wr ((wr.alloc (.cells #[.bool false,.slice none 0 0,.slice none 0 0] 25)).drew):=((Ext.refl _).alloc _).drew;have bz:af ((wr.alloc (.cells #[.bool false,.slice none 0 0,.slice none 0 0] 25)).drew) (wr.heap.size) #[.bool false,.slice none 0 0,.slice none 0 0] 25:=by have hh:=(af.new wr #[.bool false,.slice none 0 0,.slice none 0 0] 25).drew;(try simp only [World.size_alloc] at hh);exact hh
     obtain ⟨w1,wu⟩:=gN ((wr.alloc (.cells #[.bool false,.slice none 0 0,.slice none 0 0] 25)).drew);rw [← wu] at hx bz ⊢;obtain ⟨dw,pT⟩:=gN (wr.heap.size);have oL:Hid (w.heap.size < dw):=kI KM;have zL:Hid (w.heap.size+1 < dw):=kI PF;have xW:Hid (w.heap.size≤dw):=kI KL;rw [← pT] at bz ⊢;have A0:=A0.x hx;have A1:=A1.x hx;have NR:=NR.x hx;have RX:=RX.x hx;have RY:=RY.x hx;have X:=X.x hx;have AP:=kI bz;clear hx bz wu pT;(try go_wp2_with fail);refine hK.out _ _ ?_ (fun hHeld=>?_)
     ·exact ⟨EA.o.c3 (by have x9:=X.o;exact eX),EB.o.c3 (by have x9:=X.o;exact eX)⟩
     clear hK K;(try simp only [sP]);have XO:=X;refine dt [8] ?_;refine rc (fun K hK=>?_);go_simp;refine (gK _ _ x y _ (RX.o.ext gM) (RY.o.ext gM) LX.o LY.o).mono ?_;rintro e w2 ⟨⟨v,rfl,nn⟩,hx⟩;have hx:=Ext.trans (show Ext w1 _ from by first|exact Ext.refl _|exact (Ext.refl _).drew) hx;have A0:=A0.x hx;have A1:=A1.x hx;have NR:=NR.x hx;have RX:=RX.x hx;have RY:=RY.x hx;have AP:=AP.x hx;have X:=X.x hx;obtain ⟨m1,m2,m3,m4,rfl⟩:=nn.shape;have Nm:=kI nn.rd;have Om:=kI (nn.from ((show Ext w _ from by have x9:=XO.o;exact eX)));clear nn hx;(try go_wp2_with fail);refine hK.out _ _ ?_ (fun hHeld=>?_)
     ·exact ⟨EA.o.c3 (by have x9:=X.o;exact eX),EB.o.c3 (by have x9:=X.o;exact eX)⟩
     clear hK K;(try simp only [sP]);refine tk 9 ?_;refine tk 10 ?_;refine tk 11 ?_;obtain ⟨yh,yj,yk⟩:=AP.o.q3;refine dt [13] ?_;refine rc (fun K hK=>?_);go_simp;(try go_wp2_with fail);refine hK.out _ _ ?_ (fun hHeld=>?_)
     ·((try dsimp only);exact ⟨EA.o.c3 JG,EB.o.c3 JG⟩)
     clear hK K;(try simp only [sP]);refine tk 14 ?_;refine wpAnyH_done ak ?_ _;clear yh yj yk;have hne:w.heap.size≠dw:=Nat.ne_of_lt oL.o;have hne1:w.heap.size+1≠dw:=Nat.ne_of_lt zL.o;have hap:=AP.o.ep (.bool (mulR x y).1.neg) (.slice m1 (mulR x y).1.num.length m2) (.slice m3 (mulR x y).1.den.length m4);have hq0:=Om.o.cW AP.o ah (.bool (mulR x y).1.neg) (.slice m1 (mulR x y).1.num.length m2) (.slice m3 (mulR x y).1.den.length m4);have hq1:=NR.o.cW AP.o ah (.bool (mulR x y).1.neg) (.slice m1 (mulR x y).1.num.length m2) (.slice m3 (mulR x y).1.den.length m4);have hq2:=((A0.o.setOther (a:=⟨dw,0,none⟩) hne (.bool (mulR x y).1.neg)).setOther (a:=⟨dw,1,none⟩) hne (.slice m1 (mulR x y).1.num.length m2)).setOther (a:=⟨dw,2,none⟩) hne (.slice m3 (mulR x y).1.den.length m4);have hq3:=((A1.o.setOther (a:=⟨dw,0,none⟩) hne1 (.bool (mulR x y).1.neg)).setOther (a:=⟨dw,1,none⟩) hne1 (.slice m1 (mulR x y).1.num.length m2)).setOther (a:=⟨dw,2,none⟩) hne1 (.slice m3 (mulR x y).1.den.length m4);have hx6:Ext w (((w2.setCell ⟨dw,0,none⟩ (.bool (mulR x y).1.neg)).setCell ⟨dw,1,none⟩ (.slice m1 (mulR x y).1.num.length m2)).setCell ⟨dw,2,none⟩ (.slice m3 (mulR x y).1.den.length m4)):=(((X.o.set (p:=⟨dw,0,none⟩) xW.o _).set (p:=⟨dw,1,none⟩) xW.o _).set (p:=⟨dw,2,none⟩) xW.o _);obtain ⟨wz,hwz⟩:=gN ((((w2.setCell ⟨dw,0,none⟩ (.bool (mulR x y).1.neg)).setCell ⟨dw,1,none⟩ (.slice m1 (mulR x y).1.num.length m2)).setCell ⟨dw,2,none⟩ (.slice m3 (mulR x y).1.den.length m4)));rw [← hwz] at hap hq0 hq1 hq2 hq3 hx6 ⊢;clear hwz;obtain ⟨AP,Om,NR,A0,A1,X⟩:=od hap hq0 hq1 hq2 hq3 hx6;clear hap hq0 hq1 hq2 hq3 hx6;clear hne hne1;have PL:=kI (fg x y);obtain ⟨p,e,hp⟩:∃ p e,mulR x y=(p,e):=⟨_,_,rfl⟩;rw [hp] at HST AP Om PL ⊢;dsimp only at HST AP Om PL ⊢;clear hp;by_cases he:e=0
     ·subst he;obtain ⟨cT,cU,lA1⟩:=A1.o.q3;obtain ⟨yh,yj,yk⟩:=AP.o.q3;go_wp2_with fail;have XW:=X;refine (eu _ _ r p _ NR.o.rd Om.o.rd RL.o PL.o).mono ?_;rintro e w3 ⟨⟨vs,rfl,nn⟩,hx⟩;clear cT cU lA1 yh yj yk;have AP:=AP.x hx;have Om:=Om.x hx;have NR:=NR.x hx;have A0:=A0.x hx;have A1:=A1.x hx;have X:=X.x hx;obtain ⟨s1,s2,s3,s4,rfl⟩:=nn.shape;have NS:=kI (aO.from nn XW.o);have SL:=kI (dX r p);have SC:=kI (fun h=>hZ (a:=r) (b:=p) h);clear nn hx;have hst:=HST.o;rw [if_pos trivial,oM RL.o RC.o] at hst;obtain ⟨t,e,ht⟩:∃ t e,bL r p=(t,e):=⟨_,_,rfl⟩;rw [ht] at NS SL SC hst ⊢;dsimp only at hst NS SL SC ⊢;have HST:=kI hst;clear ht hst;by_cases he:e=0
      ·have TC:=kI (SC.o he);subst he;obtain ⟨cT,cU,lA1⟩:=A1.o.q3;go_wp2_with fail;clear cT cU lA1;have hne:w.heap.size≠w.heap.size+1:=by omega
       have hap:=A1.o.ep (.bool t.neg) (.slice s1 t.num.length s2) (.slice s3 t.den.length s4);have hq0:=NS.o.ib A1.o ah (.bool t.neg) (.slice s1 t.num.length s2) (.slice s3 t.den.length s4);have hq1:=((A0.o.setOther (a:=⟨w.heap.size+1,0,none⟩) hne (.bool t.neg)).setOther (a:=⟨w.heap.size+1,1,none⟩) hne (.slice s1 t.num.length s2)).setOther (a:=⟨w.heap.size+1,2,none⟩) hne (.slice s3 t.den.length s4);have hx6:Ext w (((w3.setCell ⟨w.heap.size+1,0,none⟩ (.bool t.neg)).setCell ⟨w.heap.size+1,1,none⟩ (.slice s1 t.num.length s2)).setCell ⟨w.heap.size+1,2,none⟩ (.slice s3 t.den.length s4)):=(((X.o.set (p:=⟨w.heap.size+1,0,none⟩) (Nat.le_succ _) _).set (p:=⟨w.heap.size+1,1,none⟩) (Nat.le_succ _) _).set (p:=⟨w.heap.size+1,2,none⟩) (Nat.le_succ _) _);obtain ⟨wy,hwz⟩:=gN ((((w3.setCell ⟨w.heap.size+1,0,none⟩ (.bool t.neg)).setCell ⟨w.heap.size+1,1,none⟩ (.slice s1 t.num.length s2)).setCell ⟨w.heap.size+1,2,none⟩ (.slice s3 t.den.length s4)));rw [← hwz] at hap hq0 hq1 hx6 ⊢;clear hwz;obtain ⟨A1,NS,A0,X⟩:=dW hap hq0 hq1 hx6;clear hap hq0 hq1 hx6;go_roundw
       case rel=>exact ⟨k+1,t,s1,s2,s3,s4,by omega,by go_num,SL.o,TC.o,by have:=HST.o;simpa using this,X.o,A0.o,A1.o,NS.o⟩
       case measure=>simp [intOf];omega
      ·have he2:(e != 0)=true:=by simpa using he
       have HE:=kI he;clear he;obtain ⟨aK,fA0,aJ⟩:=A0.o.q3;obtain ⟨cT,cU,lA1⟩:=A1.o.q3;go_wp2_with fail;clear aK fA0 aJ cT cU lA1;have hne:w.heap.size≠w.heap.size+1:=by omega
       have hx5:Ext w (((w3.setCell ⟨w.heap.size+1,0,none⟩ (.bool t.neg)).setCell ⟨w.heap.size+1,1,none⟩ (.slice s1 t.num.length s2)).setCell ⟨w.heap.size+1,2,none⟩ (.slice s3 t.den.length s4)):=(((X.o.set (p:=⟨w.heap.size+1,0,none⟩) (Nat.le_succ _) _).set (p:=⟨w.heap.size+1,1,none⟩) (Nat.le_succ _) _).set (p:=⟨w.heap.size+1,2,none⟩) (Nat.le_succ _) _);have C6:=((A0.o.setOther (a:=⟨w.heap.size+1,0,none⟩) hne (.bool t.neg)).setOther (a:=⟨w.heap.size+1,1,none⟩) hne (.slice s1 t.num.length s2)).setOther (a:=⟨w.heap.size+1,2,none⟩) hne (.slice s3 t.den.length s4);obtain ⟨W5,JH⟩:=gN ((((w3.setCell ⟨w.heap.size+1,0,none⟩ (.bool t.neg)).setCell ⟨w.heap.size+1,1,none⟩ (.slice s1 t.num.length s2)).setCell ⟨w.heap.size+1,2,none⟩ (.slice s3 t.den.length s4)));rw [← JH] at hx5 C6 ⊢;clear JH;have X:=kI hx5;have A0:=kI C6;clear hx5 C6 hne;have hb6:=A0.o.ep (.bool false) (.slice none 0 0) (.slice none 0 0);have hx6:Ext w (((W5.setCell ⟨w.heap.size,0,none⟩ (.bool false)).setCell ⟨w.heap.size,1,none⟩ (.slice none 0 0)).setCell ⟨w.heap.size,2,none⟩ (.slice none 0 0)):=(((X.o.set (p:=⟨w.heap.size,0,none⟩) (Nat.le_refl _) _).set (p:=⟨w.heap.size,1,none⟩) (Nat.le_refl _) _).set (p:=⟨w.heap.size,2,none⟩) (Nat.le_refl _) _);obtain ⟨W6,iS⟩:=gN ((((W5.setCell ⟨w.heap.size,0,none⟩ (.bool false)).setCell ⟨w.heap.size,1,none⟩ (.slice none 0 0)).setCell ⟨w.heap.size,2,none⟩ (.slice none 0 0)));rw [← iS] at hb6 hx6 ⊢;clear iS;have nD:=kI hx6;clear hx6;refine bodyPost_ret (v:=.tuple #[.agg #[.bool false,.slice none 0 0,.slice none 0 0],.int .i64 e]) Nv rfl ⟨bG.mk (l:=zR) (aO.zero _ _) ?_,nD.o⟩;rw [HR0.o];have h9:=HST.o;rw [if_neg HE.o] at h9;exact h9
     ·have he2:(e != 0)=true:=by simpa using he
      have HE:=kI he;clear he;obtain ⟨aK,fA0,aJ⟩:=A0.o.q3;go_wp2_with fail;clear aK fA0 aJ;have hb6:=A0.o.ep (.bool false) (.slice none 0 0) (.slice none 0 0);have hx6:Ext w (((wz.setCell ⟨w.heap.size,0,none⟩ (.bool false)).setCell ⟨w.heap.size,1,none⟩ (.slice none 0 0)).setCell ⟨w.heap.size,2,none⟩ (.slice none 0 0)):=(((X.o.set (p:=⟨w.heap.size,0,none⟩) (Nat.le_refl _) _).set (p:=⟨w.heap.size,1,none⟩) (Nat.le_refl _) _).set (p:=⟨w.heap.size,2,none⟩) (Nat.le_refl _) _);obtain ⟨W6,iS⟩:=gN ((((wz.setCell ⟨w.heap.size,0,none⟩ (.bool false)).setCell ⟨w.heap.size,1,none⟩ (.slice none 0 0)).setCell ⟨w.heap.size,2,none⟩ (.slice none 0 0)));rw [← iS] at hb6 hx6 ⊢;clear iS;have nD:=kI hx6;clear hx6;refine bodyPost_ret (v:=.tuple #[.agg #[.bool false,.slice none 0 0,.slice none 0 0],.int .i64 e]) Nv rfl ⟨bG.mk (l:=zR) (aO.zero _ _) ?_,nD.o⟩;rw [HR0.o];have h9:=HST.o;rw [if_neg HE.o] at h9;exact h9
   ·obtain rfl:k=la.length:=by omega
    have q2:¬ (la.length:Int) < (la.length:Int):=by omega
    obtain ⟨aK,fA0,aJ⟩:=A0.o.q3;obtain ⟨cT,cU,lA1⟩:=A1.o.q3;go_wp2_with fail;clear aK fA0 aJ cT cU lA1;refine bodyPost_ret (v:=.tuple #[.agg #[.bool r.neg,.slice a1 r.num.length c1,.slice a2 r.den.length c2],.int .i64 0]) zEn rfl ⟨bG.mk (l:=r) ?_ ?_,?_⟩
    ·exact NR.o.ib A0.o ah _ _ _
    ·rw [HR0.o];have h9:=HS.o;rw [List.drop_of_length_le (Nat.le_refl _)] at h9;rw [h9];exact oY _ _
    ·exact ((X.o.set (p:=⟨w.heap.size,0,none⟩) (Nat.le_refl _) _).set (p:=⟨w.heap.size,1,none⟩) (Nat.le_refl _) _).set (p:=⟨w.heap.size,2,none⟩) (Nat.le_refl _) _
 ·have hr0:i6 la lb=(zR,16):=if_neg hlen;have HR0:=kI hr0;clear hr0;have q0:((la.length:Int) != (lb.length:Int))=true:=by simp;omega
  have bb0:=(af.new w #[.bool false,.slice none 0 0,.slice none 0 0] 25);have x0:Ext w (w.alloc (.cells #[.bool false,.slice none 0 0,.slice none 0 0] 25)):=((Ext.refl w).alloc _);have A0:=kI bb0;have X:=kI x0;clear x0 bb0;go_enter Tryz.func172,Tryz.ntmps172
  obtain ⟨aK,fA0,aJ⟩:=A0.o.q3;go_wp2_with fail;clear aK fA0 aJ;refine bodyPost_ret (v:=.tuple #[.agg #[.bool false,.slice none 0 0,.slice none 0 0],.int .i64 16]) zEn rfl ⟨bG.mk (l:=zR) (aO.zero _ _) HR0.o,X.o⟩
end Go.Proofs.YtnnjbaijcaiohaaGreat
