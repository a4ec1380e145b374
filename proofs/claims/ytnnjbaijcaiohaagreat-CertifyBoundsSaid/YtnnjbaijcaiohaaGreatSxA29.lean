/- Walks and lemmas. -/
import Derived.Test.YtnnjbaijcaiohaaGreatSxA28
import Derived.Test.YtnnjbaijcaiohaaGreatSxA10
import Derived.Test.YtnnjbaijcaiohaaGreatSxA27
set_option linter.unusedVariables false
set_option linter.unusedSimpArgs false
set_option maxRecDepth 100000
set_option maxHeartbeats 16000000
namespace Go.Proofs.YtnnjbaijcaiohaaGreat
open Go.RowKit
def fs (l:List Int):List Int:=if l=[] then lim 1 else l
theorem xi (l:List Int):nv (fs l)=eu l:=by unfold fs eu;split <;> first|exact aB 1|rfl
theorem JT {l:List Int} (h:bh l) (hz:cD l) (hn:l.length≤128):bh (fs l)∧cD (fs l)∧(fs l).length≤128:=by
 unfold fs;split
 ·exact ⟨aK 1,aP 1,by decide⟩
 ·exact ⟨h,hz,hn⟩
theorem pN {a b c:Nat} {x y z:Nat} (ha:a < 4294967296 ^ x) (hb:b < 4294967296 ^ y) (hc:c < 4294967296 ^ z):a*b*c < 4294967296 ^ (x+y+z):=by
 rw [Nat.pow_add,Nat.pow_add];exact Nat.mul_lt_mul'' (Nat.mul_lt_mul'' ha hb) hc
structure N8 (l:List Int):Prop where
 lm:bh l
 z:cD l
 n:l.length≤128
theorem N8.lt {l:List Int} (h:N8 l):nv l < 4294967296 ^ 128:=Nat.lt_of_lt_of_le (bQ h.lm) (gP h.n)
theorem No {l:List Int} (h:N8 l):mulS (lim 1) l=(lim (nv l),0):=by
 have e:=nH (l1:=lim 1) (l2:=l) (by decide) (aP 1) (Nat.le_trans h.n (by decide)) h.z (by rw [aB,Nat.one_mul];exact gB h.lt (by decide));rw [aB,Nat.one_mul] at e;exact e
theorem Np {l1 l2:List Int} (h1:N8 l1) (h2:N8 l2):mulS (lim (nv l1)) l2=(lim (nv l1*nv l2),0):=by
 rw [dm h1.lm h1.z];exact nH (Nat.le_trans h1.n (by decide)) h1.z (Nat.le_trans h2.n (by decide)) h2.z (gB (k:=128+128) (by rw [Nat.pow_add];exact Nat.mul_lt_mul'' h1.lt h2.lt) (by decide))
theorem Nq {l1 l2 l3:List Int} (h1:N8 l1) (h2:N8 l2) (h3:N8 l3):mulS (lim (nv l1*nv l2)) l3=(lim (nv l1*nv l2*nv l3),0):=by
 have b:nv l1*nv l2 < l6:=gB (k:=128+128) (by rw [Nat.pow_add];exact Nat.mul_lt_mul'' h1.lt h2.lt) (by decide);have e:=nH (l1:=lim (nv l1*nv l2)) (l2:=l3) (kS.2 b) (aP _) (Nat.le_trans h3.n (by decide)) h3.z (by rw [aB];exact gB (pN h1.lt h2.lt h3.lt) (by decide));rw [aB] at e;exact e
theorem Nr {a b:Nat} (ha:a < l6) (hb:b < l6):pX (lim a) (lim b)=(eG a b,0):=by
 rw [DY (kS.2 ha) (aP _) (kS.2 hb) (aP _),aB,aB]
theorem C5 {r:RR} (l:au r) (c:am r=0):N8 r.num∧N8 (fs r.den):=by
 obtain ⟨h1,h2,h3,h4,_⟩:=rW l c;obtain ⟨d1,d2,d3⟩:=JT l.2 h4 h2;exact ⟨⟨l.1,h3,h1⟩,⟨d1,d2,d3⟩⟩
theorem pO (v:Value) (r:RR) (w:World) (h:aX w v r) :
  Calls Tryz.prog 161 #[v] w fun e w'=>(∃ a c,e=.returned (.slice a (fs r.den).length c)∧aV .u32 w' (.slice a (fs r.den).length c) (fs r.den))∧Ext w w':=by
 obtain ⟨s1,s2,s3,s4,rfl⟩:=h.shape;obtain ⟨_,vd,e,_,hd⟩:=h;simp only [Value.agg.injEq] at e;have e2:=congrArg (fun a=>a[2]?) e;simp at e2;subst e2;have HD:=kI hd;clear hd e;obtain ⟨n,hn⟩:=gN (r.num.length);rw [← hn];clear hn;by_cases h0:r.den=[]
 ·have ed:fs r.den=lim 1:=if_pos h0;have e0:r.den.length=0:=by rw [h0];rfl
  rw [ed];rw [e0] at HD ⊢;clear h0 ed e0;have bb0:=(af.new w #[.bool r.neg,.slice s1 n s2,.slice s3 0 s4] 25);have x0:Ext w (w.alloc (.cells #[.bool r.neg,.slice s1 n s2,.slice s3 0 s4] 25)):=((Ext.refl w).alloc _);have A0:=kI bb0;have X:=kI x0;clear x0 bb0;go_enter Tryz.func161,Tryz.ntmps161
  replace HD:=kI (Rd.ext HD.o X.o);obtain ⟨aE,fA0,aC⟩:=A0.o.q3;go_wp2_with fail;clear aE fA0 aC;refine (kY 1 1 _ (by decide) rfl).mono ?_;rintro e w1 ⟨⟨v,rfl,nn⟩,hx⟩;obtain ⟨t1,t2,rfl⟩:=nn.shape;have NN:=kI nn.rd;replace X:=kI (X.o.trans hx);clear nn hx;go_wp2_with fail;go_ret;exact ⟨⟨_,_,rfl,NN.o⟩,X.o⟩
 ·have ed:fs r.den=r.den:=if_neg h0;rw [ed];obtain ⟨dl,hdl⟩:=gN (r.den.length);have q1:((dl:Int) == 0)=false:=by
   have:r.den.length≠0:=fun z=>h0 (List.length_eq_zero_iff.1 z);simp;omega
  rw [← hdl] at HD ⊢;clear h0 ed hdl;have bb0:=(af.new w #[.bool r.neg,.slice s1 n s2,.slice s3 dl s4] 25);have x0:Ext w (w.alloc (.cells #[.bool r.neg,.slice s1 n s2,.slice s3 dl s4] 25)):=((Ext.refl w).alloc _);have A0:=kI bb0;have X:=kI x0;clear x0 bb0;go_enter Tryz.func161,Tryz.ntmps161
  replace HD:=kI (Rd.ext HD.o X.o);obtain ⟨aE,fA0,aC⟩:=A0.o.q3;go_wp2_with fail;go_ret;exact ⟨⟨_,_,rfl,HD.o⟩,X.o⟩
theorem rG (g:Nat) (v1 v2 v3:Value) (l1 l2 l3:List Int) (w:World) (h:af w g #[v1,v2,v3] 23) (h1:aV .u32 w v1 l1) (h2:aV .u32 w v2 l2) (h3:aV .u32 w v3 l3) (k1:N8 l1) (k2:N8 l2) (k3:N8 l3) :
  Calls Tryz.prog 158 #[.slice (some ⟨g,0,none⟩) 3 3] w fun e w'=>(∃ v,e=.returned v∧bK w w' v (lim (nv l1*nv l2*nv l3)))∧Ext w w':=by
 have M1:=kI (No k1);have M2:=kI (Np k1 k2);have M3:=kI (Nq k1 k2 k3);obtain ⟨a,ha⟩:=gN (nv l1);obtain ⟨b,hb⟩:=gN (nv l1*nv l2);obtain ⟨c,hc⟩:=gN (nv l1*nv l2*nv l3);rw [← hc] at M3 ⊢;rw [← hb] at M2 M3;rw [← ha] at M1 M2;have A0:=kI h;have H1:=kI h1;have H2:=kI h2;have H3:=kI h3;have L1:=kI k1.lm;have L2:=kI k2.lm;have L3:=kI k3.lm;have X:Hid (Ext w w):=kI (Ext.refl w);clear h h1 h2 h3 k1 k2 k3 ha hb hc;go_enter Tryz.func158,Tryz.ntmps158
 go_wp2_with fail;refine (kY 1 1 _ (by decide) rfl).mono ?_;rintro e w1 ⟨⟨v,rfl,nn⟩,hx⟩;obtain ⟨p1,p2,rfl⟩:=nn.shape;have NP:=kI nn.rd;replace A0:=kI (A0.o.ext hx);replace H1:=kI (Rd.ext H1.o hx);replace H2:=kI (Rd.ext H2.o hx);replace H3:=kI (Rd.ext H3.o hx);replace X:=kI (X.o.trans hx);clear nn hx;go_wp2_with fail;refine wp_loop_rounds 4 ?_;rw [rounds_succ];obtain ⟨aE,fA0,aC⟩:=A0.o.q3;go_wp2_with fail;clear aE fA0 aC;have hmu:=kT _ _ _ _ _ NP.o H1.o (aK 1) L1.o;rw [M1.o] at hmu;refine hmu.mono ?_;rintro e w2 ⟨⟨v,rfl,nn⟩,hx⟩;clear hmu;obtain ⟨r01,r02,rfl⟩:=nn.shape;replace NP:=kI nn.rd;replace A0:=kI (A0.o.ext hx);replace H1:=kI (Rd.ext H1.o hx);replace H2:=kI (Rd.ext H2.o hx);replace H3:=kI (Rd.ext H3.o hx);replace X:=kI (X.o.trans hx);clear nn hx;go_wp2_with fail;rw [rounds_succ];obtain ⟨aE,fA0,aC⟩:=A0.o.q3;go_wp2_with fail;clear aE fA0 aC;have hmu:=kT _ _ _ _ _ NP.o H2.o (aK _) L2.o;rw [M2.o] at hmu;refine hmu.mono ?_;rintro e w3 ⟨⟨v,rfl,nn⟩,hx⟩;clear hmu;obtain ⟨r11,r12,rfl⟩:=nn.shape;replace NP:=kI nn.rd;replace A0:=kI (A0.o.ext hx);replace H1:=kI (Rd.ext H1.o hx);replace H2:=kI (Rd.ext H2.o hx);replace H3:=kI (Rd.ext H3.o hx);replace X:=kI (X.o.trans hx);clear nn hx;go_wp2_with fail;rw [rounds_succ];obtain ⟨aE,fA0,aC⟩:=A0.o.q3;go_wp2_with fail;clear aE fA0 aC;have hmu:=kT _ _ _ _ _ NP.o H3.o (aK _) L3.o;rw [M3.o] at hmu;refine hmu.mono ?_;rintro e w4 ⟨⟨v,rfl,nn⟩,hx⟩;clear hmu;have NV:=kI (nn.from X.o);obtain ⟨r21,r22,rfl⟩:=nn.shape;replace NP:=kI nn.rd;replace A0:=kI (A0.o.ext hx);replace H1:=kI (Rd.ext H1.o hx);replace H2:=kI (Rd.ext H2.o hx);replace H3:=kI (Rd.ext H3.o hx);replace X:=kI (X.o.trans hx);clear nn hx;go_wp2_with fail;rw [rounds_succ];go_wp2_with fail;go_ret;exact ⟨⟨_,rfl,NV.o⟩,X.o⟩
def Th (Ab:Nat) (b f d:RR) (a1 a2 a3 a4 a5 a6:Option Addr) (c1 c2 c3 c4 c5 c6:Nat) (y:Int) (j:Nat) (v:Value) (W:World):Prop:=
 match j with
 | 0=>v=.func (.func 158) #[] #[]
 | 1=>v=.pointer (some ⟨Ab,1,none⟩)
 | 2=>∃ a c,v=.slice a b.num.length c∧aV .u32 W (.slice a b.num.length c) b.num
 | 3=>v=.pointer (some ⟨Ab+1,1,none⟩)
 | 4=>∃ a c,v=.slice a f.num.length c∧aV .u32 W (.slice a f.num.length c) f.num
 | 5=>v=.func (.func 161) #[] #[]
 | 6=>v=.agg #[.bool d.neg,.slice a5 d.num.length c5,.slice a6 d.den.length c6]
 | 7=>∃ a c,v=.slice a (fs d.den).length c∧aV .u32 W (.slice a (fs d.den).length c) (fs d.den)
 | 8=>∃ zb y1 z1 y2 z2 y3 z3,v=.slice (some ⟨zb,0,none⟩) 3 3∧af W zb #[.slice y1 b.num.length z1,.slice y2 f.num.length z2,.slice y3 (fs d.den).length z3] 23∧aV .u32 W (.slice y1 b.num.length z1) b.num∧aV .u32 W (.slice y2 f.num.length z2) f.num∧aV .u32 W (.slice y3 (fs d.den).length z3) (fs d.den)
 | 9=>∃ a c,v=.slice a (lim (nv b.num*nv f.num*nv (fs d.den))).length c∧aV .u32 W (.slice a (lim (nv b.num*nv f.num*nv (fs d.den))).length c) (lim (nv b.num*nv f.num*nv (fs d.den)))
 | 10=>v=.func (.func 158) #[] #[]
 | 11=>v=.pointer (some ⟨Ab+1+1,1,none⟩)
 | 12=>∃ a c,v=.slice a d.num.length c∧aV .u32 W (.slice a d.num.length c) d.num
 | 13=>v=.func (.func 161) #[] #[]
 | 14=>v=.agg #[.bool false,.slice a1 b.num.length c1,.slice a2 b.den.length c2]
 | 15=>∃ a c,v=.slice a (fs b.den).length c∧aV .u32 W (.slice a (fs b.den).length c) (fs b.den)
 | 16=>v=.func (.func 161) #[] #[]
 | 17=>v=.agg #[.bool f.neg,.slice a3 f.num.length c3,.slice a4 f.den.length c4]
 | 18=>∃ a c,v=.slice a (fs f.den).length c∧aV .u32 W (.slice a (fs f.den).length c) (fs f.den)
 | 19=>∃ zb y1 z1 y2 z2 y3 z3,v=.slice (some ⟨zb,0,none⟩) 3 3∧af W zb #[.slice y1 d.num.length z1,.slice y2 (fs b.den).length z2,.slice y3 (fs f.den).length z3] 23∧aV .u32 W (.slice y1 d.num.length z1) d.num∧aV .u32 W (.slice y2 (fs b.den).length z2) (fs b.den)∧aV .u32 W (.slice y3 (fs f.den).length z3) (fs f.den)
 | 20=>∃ a c,v=.slice a (lim (nv d.num*nv (fs b.den)*nv (fs f.den))).length c∧aV .u32 W (.slice a (lim (nv d.num*nv (fs b.den)*nv (fs f.den))).length c) (lim (nv d.num*nv (fs b.den)*nv (fs f.den)))
 | 21=>v=.tuple #[.int .i64 y,.int .i64 0]
 | 22=>v=.tuple #[.int .i64 y,.int .i64 0]
 | 23=>v=.int .i64 y
 | 24=>v=.int .i64 0
 | _=>True
theorem F9 {Ab:Nat} {b f d:RR} {a1 a2 a3 a4 a5 a6:Option Addr} {c1 c2 c3 c4 c5 c6:Nat} {y:Int} {j:Nat} {v:Value} {W W':World} (h:Th Ab b f d a1 a2 a3 a4 a5 a6 c1 c2 c3 c4 c5 c6 y j v W) (xx:Ext W W'):Th Ab b f d a1 a2 a3 a4 a5 a6 c1 c2 c3 c4 c5 c6 y j v W':=by
 match j,h with
 | 0,h=>exact h
 | 1,h=>exact h
 | 2,⟨s1,s2,h0,h1⟩=>exact ⟨s1,s2,h0,Rd.ext h1 xx⟩
 | 3,h=>exact h
 | 4,⟨s1,s2,h0,h1⟩=>exact ⟨s1,s2,h0,Rd.ext h1 xx⟩
 | 5,h=>exact h
 | 6,h=>exact h
 | 7,⟨s1,s2,h0,h1⟩=>exact ⟨s1,s2,h0,Rd.ext h1 xx⟩
 | 8,⟨s1,s2,s3,s4,s5,s6,s7,h0,h1,h2,h3,h4⟩=>exact ⟨s1,s2,s3,s4,s5,s6,s7,h0,h1.ext xx,Rd.ext h2 xx,Rd.ext h3 xx,Rd.ext h4 xx⟩
 | 9,⟨s1,s2,h0,h1⟩=>exact ⟨s1,s2,h0,Rd.ext h1 xx⟩
 | 10,h=>exact h
 | 11,h=>exact h
 | 12,⟨s1,s2,h0,h1⟩=>exact ⟨s1,s2,h0,Rd.ext h1 xx⟩
 | 13,h=>exact h
 | 14,h=>exact h
 | 15,⟨s1,s2,h0,h1⟩=>exact ⟨s1,s2,h0,Rd.ext h1 xx⟩
 | 16,h=>exact h
 | 17,h=>exact h
 | 18,⟨s1,s2,h0,h1⟩=>exact ⟨s1,s2,h0,Rd.ext h1 xx⟩
 | 19,⟨s1,s2,s3,s4,s5,s6,s7,h0,h1,h2,h3,h4⟩=>exact ⟨s1,s2,s3,s4,s5,s6,s7,h0,h1.ext xx,Rd.ext h2 xx,Rd.ext h3 xx,Rd.ext h4 xx⟩
 | 20,⟨s1,s2,h0,h1⟩=>exact ⟨s1,s2,h0,Rd.ext h1 xx⟩
 | 21,h=>exact h
 | 22,h=>exact h
 | 23,h=>exact h
 | 24,h=>exact h
 | _+25,_=>trivial
theorem vg (vb vf vd:Value) (b f d:RR) (w:World) (hb:aX w vb b) (hf:aX w vf f) (hd:aX w vd d) (lb:au b) (lf:au f) (ld:au d) (cb:am b=0) (cf:am f=0) (cd:am d=0) :
  Calls Tryz.prog 113 #[vb,vf,vd] w fun e w'=>e=.returned (.bool (mE b f d))∧Ext w w':=by
 obtain ⟨nb,db⟩:=C5 lb cb;obtain ⟨nf,df⟩:=C5 lf cf;obtain ⟨nd,dd⟩:=C5 ld cd;have hcm:pX (lim (nv b.num*nv f.num*nv (fs d.den))) (lim (nv d.num*nv (fs b.den)*nv (fs f.den)))=(eG (nv b.num*nv f.num*nv (fs d.den)) (nv d.num*nv (fs b.den)*nv (fs f.den)),0):=Nr (gB (pN nb.lt nf.lt dd.lt) (by decide)) (gB (pN nd.lt db.lt df.lt) (by decide));have hcv:b.neg=false→mE b f d=decide (0≤eG (nv b.num*nv f.num*nv (fs d.den)) (nv d.num*nv (fs b.den)*nv (fs f.den))):=fun hn=>by
  unfold mE;rw [hn,if_neg (by decide),xi,xi,xi,Nat.mul_assoc (nv d.num)];unfold eG iR;by_cases h:nv d.num*(eu b.den*eu f.den)≤nv b.num*nv f.num*eu d.den
  ·rw [decide_eq_true h];symm
   refine decide_eq_true ?_;split
   ·omega
   ·split <;> decide
  ·rw [decide_eq_false h];symm
   refine decide_eq_false ?_;rw [if_pos (by omega)];decide
 have NB:=kI nb;have DB:=kI db;have NF:=kI nf;have DF:=kI df;have ND:=kI nd;have DD:=kI dd;have HB:=kI hb;have HF:=kI hf;have HD:=kI hd;obtain ⟨a1,c1,a2,c2,rfl⟩:=hb.shape;obtain ⟨a3,c3,a4,c4,rfl⟩:=hf.shape;obtain ⟨a5,c5,a6,c6,rfl⟩:=hd.shape;obtain ⟨y,hy⟩:=gN (eG (nv b.num*nv f.num*nv (fs d.den)) (nv d.num*nv (fs b.den)*nv (fs f.den)));rw [← hy] at hcm hcv;have HCM:=kI hcm;have Fu:=kI hcv;clear nb db nf df nd dd hb hf hd lb lf ld cb cf cd hcm hcv hy;by_cases hn:b.neg=true
 ·have E:=kI (show mE b f d=false from if_pos hn);have hb':=HB.o;rw [hn] at hb' ⊢;replace HB:=kI hb';clear hn hb' Fu;have bb0:=(((af.new w #[.bool true,.slice a1 b.num.length c1,.slice a2 b.den.length c2] 25).alloc (.cells #[.bool f.neg,.slice a3 f.num.length c3,.slice a4 f.den.length c4] 25)).alloc (.cells #[.bool d.neg,.slice a5 d.num.length c5,.slice a6 d.den.length c6] 25));have bb1:=((af.new (w.alloc (.cells #[.bool true,.slice a1 b.num.length c1,.slice a2 b.den.length c2] 25)) #[.bool f.neg,.slice a3 f.num.length c3,.slice a4 f.den.length c4] 25).alloc (.cells #[.bool d.neg,.slice a5 d.num.length c5,.slice a6 d.den.length c6] 25));have bb2:=(af.new ((w.alloc (.cells #[.bool true,.slice a1 b.num.length c1,.slice a2 b.den.length c2] 25)).alloc (.cells #[.bool f.neg,.slice a3 f.num.length c3,.slice a4 f.den.length c4] 25)) #[.bool d.neg,.slice a5 d.num.length c5,.slice a6 d.den.length c6] 25);rw [World.size_alloc] at bb1;rw [World.size_alloc,World.size_alloc] at bb2;have x0:Ext w (((w.alloc (.cells #[.bool true,.slice a1 b.num.length c1,.slice a2 b.den.length c2] 25)).alloc (.cells #[.bool f.neg,.slice a3 f.num.length c3,.slice a4 f.den.length c4] 25)).alloc (.cells #[.bool d.neg,.slice a5 d.num.length c5,.slice a6 d.den.length c6] 25)):=((((Ext.refl w).alloc _).alloc _).alloc _);have A0:=kI bb0;have A1:=kI bb1;have A2:=kI bb2;have X:=kI x0;clear x0 bb0 bb1 bb2;replace HB:=kI (HB.o.ext X.o);replace HF:=kI (HF.o.ext X.o);replace HD:=kI (HD.o.ext X.o);go_enter Tryz.func113,Tryz.ntmps113
  obtain ⟨aE,fA0,aC⟩:=A0.o.q3;obtain ⟨aQ,aR,lA1⟩:=A1.o.q3;obtain ⟨bB,bC,lA2⟩:=A2.o.q3;go_wp2_with fail;go_ret;exact ⟨by rw [E.o];rfl,X.o⟩
 ·replace hn:=Bool.eq_false_iff.2 hn;have E:=kI (Fu.o hn);have hb':=HB.o;rw [hn] at hb' ⊢;replace HB:=kI hb';clear hn hb' Fu;have bb0:=(((af.new w #[.bool false,.slice a1 b.num.length c1,.slice a2 b.den.length c2] 25).alloc (.cells #[.bool f.neg,.slice a3 f.num.length c3,.slice a4 f.den.length c4] 25)).alloc (.cells #[.bool d.neg,.slice a5 d.num.length c5,.slice a6 d.den.length c6] 25));have bb1:=((af.new (w.alloc (.cells #[.bool false,.slice a1 b.num.length c1,.slice a2 b.den.length c2] 25)) #[.bool f.neg,.slice a3 f.num.length c3,.slice a4 f.den.length c4] 25).alloc (.cells #[.bool d.neg,.slice a5 d.num.length c5,.slice a6 d.den.length c6] 25));have bb2:=(af.new ((w.alloc (.cells #[.bool false,.slice a1 b.num.length c1,.slice a2 b.den.length c2] 25)).alloc (.cells #[.bool f.neg,.slice a3 f.num.length c3,.slice a4 f.den.length c4] 25)) #[.bool d.neg,.slice a5 d.num.length c5,.slice a6 d.den.length c6] 25);rw [World.size_alloc] at bb1;rw [World.size_alloc,World.size_alloc] at bb2;have x0:Ext w (((w.alloc (.cells #[.bool false,.slice a1 b.num.length c1,.slice a2 b.den.length c2] 25)).alloc (.cells #[.bool f.neg,.slice a3 f.num.length c3,.slice a4 f.den.length c4] 25)).alloc (.cells #[.bool d.neg,.slice a5 d.num.length c5,.slice a6 d.den.length c6] 25)):=((((Ext.refl w).alloc _).alloc _).alloc _);have A0:=kI bb0;have A1:=kI bb1;have A2:=kI bb2;have X:=kI x0;clear x0 bb0 bb1 bb2;replace HB:=kI (HB.o.ext X.o);replace HF:=kI (HF.o.ext X.o);replace HD:=kI (HD.o.ext X.o);go_enter Tryz.func113,Tryz.ntmps113
  obtain ⟨aE,fA0,aC⟩:=A0.o.q3;obtain ⟨aQ,aR,lA1⟩:=A1.o.q3;obtain ⟨bB,bC,lA2⟩:=A2.o.q3;go_wp2_with fail;clear aE fA0 aC aQ aR lA1 bB bC lA2;obtain ⟨wo,hwo⟩:=gN ((((w.alloc (.cells #[.bool false,.slice a1 b.num.length c1,.slice a2 b.den.length c2] 25)).alloc (.cells #[.bool f.neg,.slice a3 f.num.length c3,.slice a4 f.den.length c4] 25)).alloc (.cells #[.bool d.neg,.slice a5 d.num.length c5,.slice a6 d.den.length c6] 25)));rw [← hwo] at A0 A1 A2 X HB HF HD ⊢;clear hwo;obtain ⟨_,_,eb,hb1,hb2⟩:=HB.o;obtain ⟨_,_,ef,hf1,hf2⟩:=HF.o;obtain ⟨_,_,ed,hd1,hd2⟩:=HD.o;simp only [Value.agg.injEq] at eb ef ed;have Gp:=congrArg (fun a=>a[1]?) eb;have Vv:=congrArg (fun a=>a[1]?) ef;have Vw:=congrArg (fun a=>a[1]?) ed;simp at Gp Vv Vw;subst Gp;subst Vv;subst Vw;have HB1:=kI hb1;have KG:=kI hf1;have HD1:=kI hd1;clear hb1 hb2 hf1 hf2 hd1 hd2 eb ef ed;refine dw 25 24 (Th w.heap.size b f d a1 a2 a3 a4 a5 a6 c1 c2 c3 c4 c5 c6 y) rfl (by kernel_rfl) (by kernel_rfl) (by kernel_rfl) (fun _ _ _ _ h x=>F9 h x) (fun _ _ d _ _ h=>by cases d <;> exact h) ?_ ?_ ?_
  ·refine ⟨?_,?_,?_,?_,?_,?_,?_,?_,?_,?_,?_,?_,?_,?_,?_,?_,?_,?_,?_,?_,?_,?_,?_,?_,?_,trivial⟩
   ·intro a W hW hB hD K hK;have b7:=hB 7 rfl;simp only [sB] at b7;go_simp;exact hK _ _ (Ext.refl _) rfl
   ·intro a W hW hB hD K hK;have b3:=hB 3 rfl;simp only [sB] at b3;go_simp;exact hK _ _ (Ext.refl _) rfl
   ·intro a W hW hB hD K hK;obtain ⟨v15,e15,h15⟩:=az (hD 1 _ 15 rfl rfl (by kernel_rfl));obtain rfl:=h15;have q9:=(A0.o.ext hW).cell;have l9:=(A0.o.ext hW).lt;go_simp;exact hK _ _ (Ext.refl _) ⟨_,_,rfl,Rd.ext HB1.o hW⟩
   ·intro a W hW hB hD K hK;have b4:=hB 4 rfl;simp only [sB] at b4;go_simp;exact hK _ _ (Ext.refl _) rfl
   ·intro a W hW hB hD K hK;obtain ⟨v17,e17,h17⟩:=az (hD 3 _ 17 rfl rfl (by kernel_rfl));obtain rfl:=h17;have q9:=(A1.o.ext hW).cell;have l9:=(A1.o.ext hW).lt;go_simp;exact hK _ _ (Ext.refl _) ⟨_,_,rfl,Rd.ext KG.o hW⟩
   ·intro a W hW hB hD K hK;have b8:=hB 8 rfl;simp only [sB] at b8;go_simp;exact hK _ _ (Ext.refl _) rfl
   ·intro a W hW hB hD K hK;have b5:=hB 5 rfl;simp only [sB] at b5;have q9:=(A2.o.ext hW).cell;have l9:=(A2.o.ext hW).lt;go_simp;exact hK _ _ (Ext.refl _) rfl
   ·intro a W hW hB hD K hK;obtain ⟨v19,e19,h19⟩:=az (hD 5 _ 19 rfl rfl (by kernel_rfl));obtain rfl:=h19;obtain ⟨v20,e20,h20⟩:=az (hD 6 _ 20 rfl rfl (by kernel_rfl));obtain rfl:=h20;go_simp;refine (pO _ _ W (HD.o.ext hW)).mono ?_;rintro e w9 ⟨⟨s1,s2,rfl,hd⟩,hx⟩;exact hK _ _ hx ⟨_,_,rfl,hd⟩
   ·intro a W hW hB hD K hK;obtain ⟨v16,e16,h16⟩:=az (hD 2 _ 16 rfl rfl (by kernel_rfl));obtain ⟨Vx,Vy,rfl,Ns⟩:=h16;obtain ⟨v18,e18,h18⟩:=az (hD 4 _ 18 rfl rfl (by kernel_rfl));obtain ⟨y21,y22,rfl,Nt⟩:=h18;obtain ⟨v21,e21,h21⟩:=az (hD 7 _ 21 rfl rfl (by kernel_rfl));obtain ⟨y31,y32,rfl,Ti⟩:=h21;go_simp;exact hK _ _ ((Ext.refl _).alloc _) ⟨_,_,_,_,_,_,_,rfl,af.new _ _ _,Rd.ext Ns ((Ext.refl _).alloc _),Rd.ext Nt ((Ext.refl _).alloc _),Rd.ext Ti ((Ext.refl _).alloc _)⟩
   ·intro a W hW hB hD K hK;obtain ⟨v14,e14,Gv⟩:=az (hD 0 _ 14 rfl rfl (by kernel_rfl));obtain rfl:=Gv;obtain ⟨v22,e22,h22⟩:=az (hD 8 _ 22 rfl rfl (by kernel_rfl));obtain ⟨zb,z1,z2,z3,z4,z5,z6,rfl,Tj,Tk,Tl,Tm⟩:=h22;go_simp;refine (rG _ _ _ _ _ _ _ W Tj Tk Tl Tm NB.o NF.o DD.o).mono ?_;rintro e w9 ⟨⟨v,rfl,nn⟩,hx⟩;obtain ⟨r1,r2,rfl⟩:=nn.shape;exact hK _ _ hx ⟨_,_,rfl,nn.rd⟩
   ·intro a W hW hB hD K hK;have b7:=hB 7 rfl;simp only [sB] at b7;go_simp;exact hK _ _ (Ext.refl _) rfl
   ·intro a W hW hB hD K hK;have b5:=hB 5 rfl;simp only [sB] at b5;go_simp;exact hK _ _ (Ext.refl _) rfl
   ·intro a W hW hB hD K hK;obtain ⟨v25,e25,Bd⟩:=az (hD 11 _ 25 rfl rfl (by kernel_rfl));obtain rfl:=Bd;have q9:=(A2.o.ext hW).cell;have l9:=(A2.o.ext hW).lt;go_simp;exact hK _ _ (Ext.refl _) ⟨_,_,rfl,Rd.ext HD1.o hW⟩
   ·intro a W hW hB hD K hK;have b8:=hB 8 rfl;simp only [sB] at b8;go_simp;exact hK _ _ (Ext.refl _) rfl
   ·intro a W hW hB hD K hK;have b3:=hB 3 rfl;simp only [sB] at b3;have q9:=(A0.o.ext hW).cell;have l9:=(A0.o.ext hW).lt;go_simp;exact hK _ _ (Ext.refl _) rfl
   ·intro a W hW hB hD K hK;obtain ⟨v27,e27,h27⟩:=az (hD 13 _ 27 rfl rfl (by kernel_rfl));obtain rfl:=h27;obtain ⟨v28,e28,h28⟩:=az (hD 14 _ 28 rfl rfl (by kernel_rfl));obtain rfl:=h28;go_simp;refine (pO _ _ W (HB.o.ext hW)).mono ?_;rintro e w9 ⟨⟨s1,s2,rfl,hd⟩,hx⟩;exact hK _ _ hx ⟨_,_,rfl,hd⟩
   ·intro a W hW hB hD K hK;have b8:=hB 8 rfl;simp only [sB] at b8;go_simp;exact hK _ _ (Ext.refl _) rfl
   ·intro a W hW hB hD K hK;have b4:=hB 4 rfl;simp only [sB] at b4;have q9:=(A1.o.ext hW).cell;have l9:=(A1.o.ext hW).lt;go_simp;exact hK _ _ (Ext.refl _) rfl
   ·intro a W hW hB hD K hK;obtain ⟨v30,e30,h30⟩:=az (hD 16 _ 30 rfl rfl (by kernel_rfl));obtain rfl:=h30;obtain ⟨v31,e31,h31⟩:=az (hD 17 _ 31 rfl rfl (by kernel_rfl));obtain rfl:=h31;go_simp;refine (pO _ _ W (HF.o.ext hW)).mono ?_;rintro e w9 ⟨⟨s1,s2,rfl,hd⟩,hx⟩;exact hK _ _ hx ⟨_,_,rfl,hd⟩
   ·intro a W hW hB hD K hK;obtain ⟨v26,e26,zx⟩:=az (hD 12 _ 26 rfl rfl (by kernel_rfl));obtain ⟨Vx,Vy,rfl,Ns⟩:=zx;obtain ⟨v29,e29,BT⟩:=az (hD 15 _ 29 rfl rfl (by kernel_rfl));obtain ⟨y21,y22,rfl,Nt⟩:=BT;obtain ⟨v32,e32,h32⟩:=az (hD 18 _ 32 rfl rfl (by kernel_rfl));obtain ⟨y31,y32,rfl,Ti⟩:=h32;go_simp;exact hK _ _ ((Ext.refl _).alloc _) ⟨_,_,_,_,_,_,_,rfl,af.new _ _ _,Rd.ext Ns ((Ext.refl _).alloc _),Rd.ext Nt ((Ext.refl _).alloc _),Rd.ext Ti ((Ext.refl _).alloc _)⟩
   ·intro a W hW hB hD K hK;obtain ⟨v24,e24,qS⟩:=az (hD 10 _ 24 rfl rfl (by kernel_rfl));obtain rfl:=qS;obtain ⟨v33,e33,Fb⟩:=az (hD 19 _ 33 rfl rfl (by kernel_rfl));obtain ⟨zb,z1,z2,z3,z4,z5,z6,rfl,Tj,Tk,Tl,Tm⟩:=Fb;go_simp;refine (rG _ _ _ _ _ _ _ W Tj Tk Tl Tm ND.o DB.o DF.o).mono ?_;rintro e w9 ⟨⟨v,rfl,nn⟩,hx⟩;obtain ⟨r1,r2,rfl⟩:=nn.shape;exact hK _ _ hx ⟨_,_,rfl,nn.rd⟩
   ·intro a W hW hB hD K hK;obtain ⟨v23,e23,h23⟩:=az (hD 9 _ 23 rfl rfl (by kernel_rfl));obtain ⟨Vx,Vy,rfl,Ns⟩:=h23;obtain ⟨v34,e34,IS⟩:=az (hD 20 _ 34 rfl rfl (by kernel_rfl));obtain ⟨y21,y22,rfl,Nt⟩:=IS;go_simp;have hc:=Aw _ _ _ _ W Ns Nt (aK _) (aK _);rw [HCM.o] at hc;refine hc.mono ?_;rintro e w9 ⟨rfl,hx⟩;exact hK _ _ hx rfl
   ·intro a W hW hB hD K hK;obtain ⟨v35,e35,h35⟩:=az (hD 21 _ 35 rfl rfl (by kernel_rfl));obtain rfl:=h35;go_simp;exact hK _ _ (Ext.refl _) rfl
   ·intro a W hW hB hD K hK;obtain ⟨v13,e13,h13⟩:=az (hD 22 _ 13 rfl rfl (by kernel_rfl));obtain rfl:=h13;go_simp;exact hK _ _ (Ext.refl _) rfl
   ·intro a W hW hB hD K hK;obtain ⟨v13,e13,h13⟩:=az (hD 22 _ 13 rfl rfl (by kernel_rfl));obtain rfl:=h13;go_simp;exact hK _ _ (Ext.refl _) rfl
  ·intro a W hW hB hD;have h13:=hD 22 _ 13 rfl rfl (by kernel_rfl);obtain ⟨v13,e13⟩:∃ x,a.tmps.getD 13 undef=x:=⟨_,rfl⟩;rw [e13] at h13;obtain rfl:=h13;exact ⟨.int .i64 0,fun w9=>iC e13 rfl rfl w9,rfl⟩
  intro w7 hx;simp only [cX,List.take_succ_cons,List.take_zero,List.drop_succ_cons,List.drop_zero];rintro u0 - u1 - u2 - u3 - u4 - u5 - u6 - u7 - u8 - u9 - u10 - u11 - u12 - u13 - u14 - u15 - u16 - Ot - Ou - RF - u20 - u21 - u22 - u23 h23 u24 qS;obtain rfl:u23=.int .i64 y:=h23;obtain rfl:u24=.int .i64 0:=qS;simp only [Act.put,List.setIfInBounds_toArray,List.set_cons_zero,List.set_cons_succ];replace X:=kI (X.o.trans hx);clear hx;go_wp2_with fail;go_ret;exact ⟨by rw [E.o];rfl,X.o⟩
theorem C6 (v1 v2:Value) (l1 l2:List Int) (w:World) (h1:aV .i64 w v1 l1) (h2:aV .i64 w v2 l2) :
  Calls Tryz.prog 112 #[v1,v2] w fun e w'=>e=.returned (.bool (decide (l1=l2)))∧Ext w w':=by
 obtain ⟨a1,c1,rfl,hc1,hm1,hr1⟩:=h1.get;obtain ⟨a2,c2,rfl,hc2,hm2,hr2⟩:=h2.get;clear h1 h2;by_cases hlen:l1.length=l2.length
 ·have H1:=kI hr1;clear hr1;have H2:=kI hr2;clear hr2;rw [← hlen];rw [← hlen] at H2 hc2;have HL:=kI hlen;clear hlen;go_enter Tryz.func112,Tryz.ntmps112
  go_wp2
  go_loopw [5,13] (fun _ i wr=>∃ k:Nat,k≤l1.length∧i=.int .i64 k∧l1.take k=l2.take k∧∃ n,wr=w.drewN n)
   (fun _ i _=>l1.length - (intOf i).toNat)
  case atStart=>exact ⟨0,Nat.zero_le _,rfl,rfl,0,rfl⟩
  case round=>
   obtain ⟨k,hk,rfl,htake,n,rfl⟩:=hrel;have HT:=kI htake;clear htake;by_cases hlt:k < l1.length
   ·obtain ⟨b1,o1,rfl,hb1,hx1⟩:=H1.o k hlt;obtain ⟨b2,o2,rfl,hb2,hx2⟩:=H2.o k hlt;go_wp2_with fail;go_quiet (fail)
    go_wp2
    ·have hne:(l1[k] != l2[k]?.getD 0)=true:=by assumption
     go_ret;refine ⟨cI ?_,((Ext.refl w).drewN _).drewN _⟩;rw [eq_comm,decide_eq_false_iff_not];rintro rfl;simp [hlt] at hne
    ·have he:(l1[k] != l2[k]?.getD 0)=false:=by assumption
     have hlt2:k < l2.length:=HL.o ▸ hlt;go_roundw
     case rel=>exact ⟨k+1,by omega,by go_num,ip HT.o hlt hlt2 (by simpa [hlt2] using he),_,rfl⟩
     case measure=>simp [intOf];omega
   ·go_wp2
    go_ret;refine ⟨cI ?_,(Ext.refl w).drewN _⟩;have:=HT.o;rw [List.take_of_length_le (by omega),List.take_of_length_le (by have:=HL.o;omega)] at this;simp [this]
 ·have hb:(l1.length != l2.length)=true:=by simpa using hlen
  go_enter Tryz.func112,Tryz.ntmps112
  go_wp2
  go_ret;refine ⟨cI ?_,Ext.refl w⟩;rw [eq_comm,decide_eq_false_iff_not];rintro rfl;exact hlen rfl
theorem JU {m:MD} {V:List RR} {P:List Int} {R B:RR} {k:Int}  (h:fL m=k) (hk:k≠0):ff m (V,P,R,B)=k:=by
 unfold ff;dsimp only;rw [if_pos (by rw [h];exact hk)];exact h
theorem JV {m:MD} {V:List RR} {P:List Int} {R B:RR} (h1:fL m=0) (h:V.length≠m.states.length):ff m (V,P,R,B)=16:=by
 unfold ff;dsimp only;rw [if_neg (fun z=>z h1)];rw [if_pos h]
theorem JW {m:MD} {V:List RR} {P:List Int} {R B:RR} {k:Int} (h1:fL m=0) (h2:V.length=m.states.length) (h:kD m P=k) (hk:k≠0):ff m (V,P,R,B)=k:=by
 unfold ff;dsimp only;rw [if_neg (fun z=>z h1)];rw [if_neg (fun z=>z h2)];rw [if_pos (by rw [h];exact hk)];exact h
theorem JX {m:MD} {V:List RR} {P:List Int} {R B:RR} {k:Int} (h1:fL m=0) (h2:V.length=m.states.length) (h3:kD m P=0) (h:am R=k) (hk:k≠0):ff m (V,P,R,B)=k:=by
 unfold ff;dsimp only;rw [if_neg (fun z=>z h1)];rw [if_neg (fun z=>z h2)];rw [if_neg (fun z=>z h3)];rw [if_pos (by rw [h];exact hk)];exact h
theorem JY {m:MD} {V:List RR} {P:List Int} {R B:RR} {k:Int} (h1:fL m=0) (h2:V.length=m.states.length) (h3:kD m P=0) (h4:am R=0) (h:am B=k) (hk:k≠0):ff m (V,P,R,B)=k:=by
 unfold ff;dsimp only;rw [if_neg (fun z=>z h1)];rw [if_neg (fun z=>z h2)];rw [if_neg (fun z=>z h3)];rw [if_neg (fun z=>z h4)];rw [if_pos (by rw [h];exact hk)];exact h
theorem JZ {m:MD} {V:List RR} {P:List Int} {R B:RR} {k:Int} (h1:fL m=0) (h2:V.length=m.states.length) (h3:kD m P=0) (h4:am R=0) (h5:am B=0) (h:(ah m V).2.2=k) (hk:k≠0):ff m (V,P,R,B)=k:=by
 unfold ff;dsimp only;rw [if_neg (fun z=>z h1)];rw [if_neg (fun z=>z h2)];rw [if_neg (fun z=>z h3)];rw [if_neg (fun z=>z h4)];rw [if_neg (fun z=>z h5)];rw [if_pos (by rw [h];exact hk)];exact h
theorem C7 {m:MD} {V x:List RR} {P g:List Int} {R B:RR} (h1:fL m=0) (h2:V.length=m.states.length) (h3:kD m P=0) (h4:am R=0) (h5:am B=0) (h6:ah m V=(x,g,0)) (h:(bg V x).2≠0∨g≠P):ff m (V,P,R,B)=15:=by
 unfold ff;dsimp only;rw [if_neg (fun z=>z h1)];rw [if_neg (fun z=>z h2)];rw [if_neg (fun z=>z h3)];rw [if_neg (fun z=>z h4)];rw [if_neg (fun z=>z h5)];rw [h6,if_neg (fun z=>z rfl)];dsimp only;rw [if_pos h]
theorem J0 {m:MD} {V x:List RR} {P g:List Int} {R B d:RR} (h1:fL m=0) (h2:V.length=m.states.length) (h3:kD m P=0) (h4:am R=0) (h5:am B=0) (h6:ah m V=(x,g,0)) (h7:bg V x=(d,0)) (h8:g=P) (h:(cj d R).1≠0):ff m (V,P,R,B)=15:=by
 unfold ff;dsimp only;rw [if_neg (fun z=>z h1)];rw [if_neg (fun z=>z h2)];rw [if_neg (fun z=>z h3)];rw [if_neg (fun z=>z h4)];rw [if_neg (fun z=>z h5)];rw [h6,if_neg (fun z=>z rfl)];dsimp only;rw [h7,if_neg (by rintro (z|z);exact z rfl;exact z h8)];dsimp only;rw [if_pos h]
theorem Ka {m:MD} {V x:List RR} {P g:List Int} {R B d:RR} {k:Int} (h1:fL m=0) (h2:V.length=m.states.length) (h3:kD m P=0) (h4:am R=0) (h5:am B=0) (h6:ah m V=(x,g,0)) (h7:bg V x=(d,0)) (h8:g=P) (h9:(cj d R).1=0) (h:(gx m).2=k) (hk:k≠0):ff m (V,P,R,B)=k:=by
 unfold ff;dsimp only;rw [if_neg (fun z=>z h1)];rw [if_neg (fun z=>z h2)];rw [if_neg (fun z=>z h3)];rw [if_neg (fun z=>z h4)];rw [if_neg (fun z=>z h5)];rw [h6,if_neg (fun z=>z rfl)];dsimp only;rw [h7,if_neg (by rintro (z|z);exact z rfl;exact z h8)];dsimp only;rw [if_neg (fun z=>z h9),if_pos (by rw [h];exact hk)];exact h
theorem Ga {m:MD} {V x:List RR} {P g:List Int} {R B d f:RR} (h1:fL m=0) (h2:V.length=m.states.length) (h3:kD m P=0) (h4:am R=0) (h5:am B=0) (h6:ah m V=(x,g,0)) (h7:bg V x=(d,0)) (h8:g=P) (h9:(cj d R).1=0) (h:gx m=(f,0)):ff m (V,P,R,B)=if mE B f d=true then 0 else 15:=by
 unfold ff;dsimp only;rw [if_neg (fun z=>z h1)];rw [if_neg (fun z=>z h2)];rw [if_neg (fun z=>z h3)];rw [if_neg (fun z=>z h4)];rw [if_neg (fun z=>z h5)];rw [h6,if_neg (fun z=>z rfl)];dsimp only;rw [h7,if_neg (by rintro (z|z);exact z rfl;exact z h8)];dsimp only;rw [if_neg (fun z=>z h9),h,if_neg (fun z=>z rfl)]
def Gb (Nb f:Nat) (r:RR) (q1 q3:Option Addr) (q2 q4:Nat) (c:Int) (j:Nat) (v:Value) (W:World):Prop:=
 match j with
 | 0=>v=.pointer (some ⟨Nb,f,none⟩)
 | 1=>v=.agg #[.bool r.neg,.slice q1 r.num.length q2,.slice q3 r.den.length q4]
 | 2=>v=.pointer (some ⟨Nb,f,none⟩)
 | 3=>v=.agg #[.bool r.neg,.slice q1 r.num.length q2,.slice q3 r.den.length q4]
 | 4=>v=.int .i64 c
 | 5=>c=0
 | _=>True
theorem vh {Nb f:Nat} {r:RR} {q1 q3:Option Addr} {q2 q4:Nat} {c:Int} {j:Nat} {v:Value} {W W':World} (h:Gb Nb f r q1 q3 q2 q4 c j v W) (xx:Ext W W'):Gb Nb f r q1 q3 q2 q4 c j v W':=by
 match j,h with
 | 0,h=>exact h
 | 1,h=>exact h
 | 2,h=>exact h
 | 3,h=>exact h
 | 4,h=>exact h
 | 5,h9=>exact h9
 | _+6,_=>trivial
def xj (MV:Value) (Nb:Nat) (B:RR) (t1 t3:Option Addr) (t2 t4:Nat) (d:RR) (q1 q3:Option Addr) (q2 q4:Nat) (f:RR) (fc:Int) (j:Nat) (v:Value) (W:World):Prop:=
 match j with
 | 0=>v=.pointer (some ⟨Nb,5,none⟩)
 | 1=>v=.agg #[.bool B.neg,.slice t1 B.num.length t2,.slice t3 B.den.length t4]
 | 2=>v=MV
 | 3=>fc=0∧∃ z1 z2 z3 z4,v=.agg #[.bool f.neg,.slice z1 f.num.length z2,.slice z3 f.den.length z4]∧aX W (.agg #[.bool f.neg,.slice z1 f.num.length z2,.slice z3 f.den.length z4]) f
 | 4=>v=.agg #[.bool d.neg,.slice q1 d.num.length q2,.slice q3 d.den.length q4]
 | 5=>fc=0∧v=.bool (mE B f d)
 | 6=>fc=0∧v=.bool (!mE B f d)
 | _=>True
theorem xk {MV:Value} {Nb:Nat} {B:RR} {t1 t3:Option Addr} {t2 t4:Nat} {d:RR} {q1 q3:Option Addr} {q2 q4:Nat} {f:RR} {fc:Int} {j:Nat} {v:Value} {W W':World} (h:xj MV Nb B t1 t3 t2 t4 d q1 q3 q2 q4 f fc j v W) (xx:Ext W W'):xj MV Nb B t1 t3 t2 t4 d q1 q3 q2 q4 f fc j v W':=by
 match j,h with
 | 0,h=>exact h
 | 1,h=>exact h
 | 2,h=>exact h
 | 3,⟨h9,z1,z2,z3,z4,h0,h1⟩=>exact ⟨h9,z1,z2,z3,z4,h0,h1.ext xx⟩
 | 4,h=>exact h
 | 5,h9=>exact h9
 | 6,h9=>exact h9
 | _+7,_=>trivial
theorem C8 (mv cv:Value) (m:MD) (c:pS) (w:World) (hm:eK w mv m) (hlm:iO m) (hc:Dm w cv c) (lV:bY c.1) (lR:au c.2.2.1) (lB:au c.2.2.2) :
  Calls Tryz.prog 47 #[mv,cv] w fun e w'=>e=.returned (.int .i64 (ff m c))∧Ext w w':=by
 have qe:=kI (fun W mv (h:eK W mv m)=>iI mv m W h hlm);have M0:=kI (fun W mv pv (p:List Int) (h:eK W mv m) (k:aV .i64 W pv p)=>mR mv pv m p W h k);have EN:=kI (fun W mv vv (l:List RR) (h:eK W mv m) (k:ct W vv l) (h2:bY l)=>iF mv vv m l W h k hlm h2);have ME:=kI (fun W mv (h:eK W mv m)=>pD mv m W h hlm);have HM:=kI hm;have HC:=kI hc;obtain ⟨m1,n1,m2,n2,m3,n3,rfl,-,-⟩:=hm;obtain ⟨V,P,R,B⟩:=c;obtain ⟨a1,c1,a2,c2,s1,s2,s3,s4,t1,t2,t3,t4,rfl,hV,hP,hR,hB⟩:=hc;dsimp only at hV hP hR hB lV lR lB ⊢;have HV:=kI hV;have HP:=kI hP;have HR:=kI hR;have HB:=kI hB;have LV:=kI lV;have LR:=kI lR;have LB:=kI lB;clear hlm hV hP hR hB lV lR lB HC;have bb0:=(((af.new w #[.bool m.ag.neg,.slice m1 m.ag.num.length n1,.slice m2 m.ag.den.length n2,.slice m3 m.states.length n3] 28).alloc (.cells #[.slice a1 V.length c1,.slice a2 P.length c2,.bool R.neg,.slice s1 R.num.length s2,.slice s3 R.den.length s4,.bool B.neg,.slice t1 B.num.length t2,.slice t3 B.den.length t4] 67)).alloc (.cells #[.int .i64 0] 37));have bb1:=((af.new (w.alloc (.cells #[.bool m.ag.neg,.slice m1 m.ag.num.length n1,.slice m2 m.ag.den.length n2,.slice m3 m.states.length n3] 28)) #[.slice a1 V.length c1,.slice a2 P.length c2,.bool R.neg,.slice s1 R.num.length s2,.slice s3 R.den.length s4,.bool B.neg,.slice t1 B.num.length t2,.slice t3 B.den.length t4] 67).alloc (.cells #[.int .i64 0] 37));have bb2:=(af.new ((w.alloc (.cells #[.bool m.ag.neg,.slice m1 m.ag.num.length n1,.slice m2 m.ag.den.length n2,.slice m3 m.states.length n3] 28)).alloc (.cells #[.slice a1 V.length c1,.slice a2 P.length c2,.bool R.neg,.slice s1 R.num.length s2,.slice s3 R.den.length s4,.bool B.neg,.slice t1 B.num.length t2,.slice t3 B.den.length t4] 67)) #[.int .i64 0] 37);rw [World.size_alloc] at bb1;rw [World.size_alloc,World.size_alloc] at bb2;have x0:Ext w (((w.alloc (.cells #[.bool m.ag.neg,.slice m1 m.ag.num.length n1,.slice m2 m.ag.den.length n2,.slice m3 m.states.length n3] 28)).alloc (.cells #[.slice a1 V.length c1,.slice a2 P.length c2,.bool R.neg,.slice s1 R.num.length s2,.slice s3 R.den.length s4,.bool B.neg,.slice t1 B.num.length t2,.slice t3 B.den.length t4] 67)).alloc (.cells #[.int .i64 0] 37)):=((((Ext.refl w).alloc _).alloc _).alloc _)
 have A0:=kI bb0;have A1:=kI bb1;have A2:=kI bb2;have X:=kI x0;clear x0 bb0 bb1 bb2;have Dl:=HM;have Ai:=HV;have MU:=HP;have HR0:=HR;have HB0:=HB;replace HM:=kI (HM.o.ext X.o);replace HV:=kI (HV.o.ext X.o);replace HP:=kI (Rd.ext HP.o X.o);replace HR:=kI (HR.o.ext X.o);replace HB:=kI (HB.o.ext X.o);have hmf:∀ (fn:Fn) (first cap:Array Value) (w:World),(Instr.makeFunc fn first cap).run Tryz.prog w=.ok (.func fn first cap) w:=fun _ _ _ _=>rfl;go_enter_defers Tryz.func47,Tryz.ntmps47
 obtain ⟨aE,fA0,aC⟩:=A0.o.q3;obtain ⟨aQ,aR,lA1⟩:=A1.o.q3;obtain ⟨bB,bC,lA2⟩:=A2.o.q3;go_wp2_with fail;clear hmf;refine (qe.o _ _ HM.o).mono ?_;rintro e w1 ⟨rfl,hx⟩;clear aE fA0 aC aQ aR lA1 bB bC lA2;replace A0:=kI (A0.o.ext hx);replace A1:=kI (A1.o.ext hx);replace A2:=kI (A2.o.ext hx);replace HM:=kI (HM.o.ext hx);replace HV:=kI (HV.o.ext hx);replace HP:=kI (Rd.ext HP.o hx);replace HR:=kI (HR.o.ext hx);replace HB:=kI (HB.o.ext hx);replace X:=kI (X.o.trans hx);clear hx qe;obtain ⟨k1,hc1⟩:=gN (fL m);rw [← hc1];by_cases h1:k1=0
 rotate_left
 ·have E:=kI (JU (V:=V) (P:=P) (R:=R) (B:=B) hc1.symm h1);have q1:(k1 != 0)=true:=by simpa using h1
  have H1:=kI h1;clear hc1 h1;obtain ⟨aQ,aR,lA1⟩:=A1.o.q3;obtain ⟨bB,bC,lA2⟩:=A2.o.q3;go_wp2_with fail;clear aQ aR lA1 bB bC lA2;obtain ⟨wr,hwe⟩:=gN ((w1.setCell ⟨w.heap.size+1+1,0,none⟩ (.int .i64 k1)));have ha0:af wr (w.heap.size) #[.bool m.ag.neg,.slice m1 m.ag.num.length n1,.slice m2 m.ag.den.length n2,.slice m3 m.states.length n3] 28:=by rw [hwe];exact A0.o.setOther (a:=⟨w.heap.size+1+1,0,none⟩) (by dsimp only;omega) _
  have ha1:af wr (w.heap.size+1) #[.slice a1 V.length c1,.slice a2 P.length c2,.bool R.neg,.slice s1 R.num.length s2,.slice s3 R.den.length s4,.bool B.neg,.slice t1 B.num.length t2,.slice t3 B.den.length t4] 67:=by rw [hwe];exact A1.o.setOther (a:=⟨w.heap.size+1+1,0,none⟩) (by dsimp only;omega) _
  have ha2:af wr (w.heap.size+1+1) #[.int .i64 k1] 37:=by rw [hwe];have:=A2.o.set 0 (.int .i64 k1);simpa using this
  have hxr:Ext w wr:=by rw [hwe];exact X.o.set (p:=⟨w.heap.size+1+1,0,none⟩) (by dsimp only;omega) _
  rw [← hwe];clear hwe;replace A0:=kI ha0;replace A1:=kI ha1;replace A2:=kI ha2;replace X:=kI hxr;clear ha0 ha1 ha2 hxr;refine leaves_cons (f:=110) (args:=#[.pointer (some ⟨w.heap.size+1+1,0,none⟩)]) (by simp) (by simp [go_sem]) ?_;refine (cU (w.heap.size+1+1) k1 H1.o _ A2.o).mono ?_;rintro e u' w'' ⟨rfl,rfl,rfl⟩;obtain ⟨wf,hwf⟩:=gN ((wr.setCell ⟨w.heap.size+1+1,0,none⟩ (.int .i64 k1)));have hfe:af wf (w.heap.size+1+1) #[.int .i64 k1] 37:=by
   have:=(A2.o).set 0 (.int .i64 k1);rw [hwf];simpa using this
  have cp:Ext w wf:=by rw [hwf];exact X.o.set (p:=⟨w.heap.size+1+1,0,none⟩) (by dsimp only;omega) _
  rw [← hwf];clear hwf;have d5:=kI cp;have ke:=hfe.cell 0;simp only [List.getElem?_toArray,List.getElem?_cons_zero] at ke;clear hfe cp;simp [Leaves,settle,results,Tryz.results47,go_sem,aY,ke];exact ⟨by rw [E.o],d5.o.drew⟩
 subst h1;have H1:=kI hc1.symm;have lu:=kI (mV H1.o).1;clear hc1;obtain ⟨n,hn⟩:=gN (m.states.length);obtain ⟨vl,hvl⟩:=gN (V.length);obtain ⟨pl,hpl⟩:=gN (P.length);have HN:=kI hn;have Nd:=kI hvl;have mJ:=kI hpl;rw [← hn] at A0 HM Dl;rw [← hvl] at A1 HV Ai;rw [← hpl] at A1 HP MU;clear hn hvl hpl;by_cases h2:vl=n
 rotate_left
 ·have E:=kI (JV (V:=V) (P:=P) (R:=R) (B:=B) H1.o (by rw [← Nd.o,← HN.o];exact h2));have q1:((vl:Int) != (n:Int))=true:=by simp;omega
  clear h2;obtain ⟨aE,fA0,aC⟩:=A0.o.q3;obtain ⟨aQ,aR,lA1⟩:=A1.o.q3;obtain ⟨bB,bC,lA2⟩:=A2.o.q3;go_wp2_with fail;clear aE fA0 aC aQ aR lA1 bB bC lA2;obtain ⟨wr,hwe⟩:=gN ((w1.setCell ⟨w.heap.size+1+1,0,none⟩ (.int .i64 16)));have ha0:af wr (w.heap.size) #[.bool m.ag.neg,.slice m1 m.ag.num.length n1,.slice m2 m.ag.den.length n2,.slice m3 n n3] 28:=by rw [hwe];exact A0.o.setOther (a:=⟨w.heap.size+1+1,0,none⟩) (by dsimp only;omega) _
  have ha1:af wr (w.heap.size+1) #[.slice a1 vl c1,.slice a2 pl c2,.bool R.neg,.slice s1 R.num.length s2,.slice s3 R.den.length s4,.bool B.neg,.slice t1 B.num.length t2,.slice t3 B.den.length t4] 67:=by rw [hwe];exact A1.o.setOther (a:=⟨w.heap.size+1+1,0,none⟩) (by dsimp only;omega) _
  have ha2:af wr (w.heap.size+1+1) #[.int .i64 16] 37:=by rw [hwe];have:=A2.o.set 0 (.int .i64 16);simpa using this
  have hxr:Ext w wr:=by rw [hwe];exact X.o.set (p:=⟨w.heap.size+1+1,0,none⟩) (by dsimp only;omega) _
  rw [← hwe];clear hwe;replace A0:=kI ha0;replace A1:=kI ha1;replace A2:=kI ha2;replace X:=kI hxr;clear ha0 ha1 ha2 hxr;refine leaves_cons (f:=110) (args:=#[.pointer (some ⟨w.heap.size+1+1,0,none⟩)]) (by simp) (by simp [go_sem]) ?_;refine (cU (w.heap.size+1+1) 16 (by decide) _ A2.o).mono ?_;rintro e u' w'' ⟨rfl,rfl,rfl⟩;obtain ⟨wf,hwf⟩:=gN ((wr.setCell ⟨w.heap.size+1+1,0,none⟩ (.int .i64 16)));have hfe:af wf (w.heap.size+1+1) #[.int .i64 16] 37:=by
   have:=(A2.o).set 0 (.int .i64 16);rw [hwf];simpa using this
  have cp:Ext w wf:=by rw [hwf];exact X.o.set (p:=⟨w.heap.size+1+1,0,none⟩) (by dsimp only;omega) _
  rw [← hwf];clear hwf;have d5:=kI cp;have ke:=hfe.cell 0;simp only [List.getElem?_toArray,List.getElem?_cons_zero] at ke;clear hfe cp;simp [Leaves,settle,results,Tryz.results47,go_sem,aY,ke];exact ⟨by rw [E.o],d5.o.drew⟩
 subst h2;have H2:=kI (show V.length=m.states.length from by rw [← Nd.o,← HN.o]);obtain ⟨aE,fA0,aC⟩:=A0.o.q3;obtain ⟨aQ,aR,lA1⟩:=A1.o.q3;obtain ⟨bB,bC,lA2⟩:=A2.o.q3;go_wp2_with fail;refine (M0.o _ _ _ P HM.o HP.o).mono ?_;rintro e w2 ⟨rfl,hx⟩;clear aE fA0 aC aQ aR lA1 bB bC lA2;replace A0:=kI (A0.o.ext hx);replace A1:=kI (A1.o.ext hx);replace A2:=kI (A2.o.ext hx);replace HM:=kI (HM.o.ext hx);replace HV:=kI (HV.o.ext hx);replace HP:=kI (Rd.ext HP.o hx);replace HR:=kI (HR.o.ext hx);replace HB:=kI (HB.o.ext hx);replace X:=kI (X.o.trans hx);clear hx M0;obtain ⟨k3,hc3⟩:=gN (kD m P);rw [← hc3];by_cases h3:k3=0
 rotate_left
 ·have E:=kI (JW (R:=R) (B:=B) H1.o H2.o hc3.symm h3);have q1:(k3 != 0)=true:=by simpa using h3
  have H3:=kI h3;clear hc3 h3;obtain ⟨aQ,aR,lA1⟩:=A1.o.q3;obtain ⟨bB,bC,lA2⟩:=A2.o.q3;go_wp2_with fail;clear aQ aR lA1 bB bC lA2;obtain ⟨wr,hwe⟩:=gN ((w2.setCell ⟨w.heap.size+1+1,0,none⟩ (.int .i64 k3)));have ha0:af wr (w.heap.size) #[.bool m.ag.neg,.slice m1 m.ag.num.length n1,.slice m2 m.ag.den.length n2,.slice m3 vl n3] 28:=by rw [hwe];exact A0.o.setOther (a:=⟨w.heap.size+1+1,0,none⟩) (by dsimp only;omega) _
  have ha1:af wr (w.heap.size+1) #[.slice a1 vl c1,.slice a2 pl c2,.bool R.neg,.slice s1 R.num.length s2,.slice s3 R.den.length s4,.bool B.neg,.slice t1 B.num.length t2,.slice t3 B.den.length t4] 67:=by rw [hwe];exact A1.o.setOther (a:=⟨w.heap.size+1+1,0,none⟩) (by dsimp only;omega) _
  have ha2:af wr (w.heap.size+1+1) #[.int .i64 k3] 37:=by rw [hwe];have:=A2.o.set 0 (.int .i64 k3);simpa using this
  have hxr:Ext w wr:=by rw [hwe];exact X.o.set (p:=⟨w.heap.size+1+1,0,none⟩) (by dsimp only;omega) _
  rw [← hwe];clear hwe;replace A0:=kI ha0;replace A1:=kI ha1;replace A2:=kI ha2;replace X:=kI hxr;clear ha0 ha1 ha2 hxr;refine leaves_cons (f:=110) (args:=#[.pointer (some ⟨w.heap.size+1+1,0,none⟩)]) (by simp) (by simp [go_sem]) ?_;refine (cU (w.heap.size+1+1) k3 H3.o _ A2.o).mono ?_;rintro e u' w'' ⟨rfl,rfl,rfl⟩;obtain ⟨wf,hwf⟩:=gN ((wr.setCell ⟨w.heap.size+1+1,0,none⟩ (.int .i64 k3)));have hfe:af wf (w.heap.size+1+1) #[.int .i64 k3] 37:=by
   have:=(A2.o).set 0 (.int .i64 k3);rw [hwf];simpa using this
  have cp:Ext w wf:=by rw [hwf];exact X.o.set (p:=⟨w.heap.size+1+1,0,none⟩) (by dsimp only;omega) _
  rw [← hwf];clear hwf;have d5:=kI cp;have ke:=hfe.cell 0;simp only [List.getElem?_toArray,List.getElem?_cons_zero] at ke;clear hfe cp;simp [Leaves,settle,results,Tryz.results47,go_sem,aY,ke];exact ⟨by rw [E.o],d5.o.drew⟩
 subst h3;have H3:=kI hc3.symm;clear hc3;obtain ⟨aE,fA0,aC⟩:=A0.o.q3;obtain ⟨aQ,aR,lA1⟩:=A1.o.q3;obtain ⟨bB,bC,lA2⟩:=A2.o.q3;go_wp2_with fail;clear aE fA0 aC aQ aR lA1 bB bC lA2;obtain ⟨k4,hk4⟩:=gN (am R);have O6:=kI hk4;clear hk4;refine fo (Gb (w.heap.size+1) 2 R s1 s3 s2 s4 k4) (by kernel_rfl) (by kernel_rfl) (by kernel_rfl) (fun _ _ _ _ h x=>vh h x) ?_ ?_
 ·refine ⟨?_,?_,?_,?_,?_,?_,trivial⟩
  ·intro a W hW Z hB hD K hK;have aJ:=kI Z;clear Z;have b3:=hB 3 rfl;simp only [sB] at b3;go_simp;exact hK _ _ (Ext.refl _) rfl
  ·intro a W hW Z hB hD K hK;have aJ:=kI Z;clear Z;obtain ⟨v32,e32,h32⟩:=az (hD 0 _ 32 rfl rfl (by kernel_rfl));obtain rfl:=h32;have q9:=(A1.o.ext hW).cell;have l9:=(A1.o.ext hW).lt;go_simp;exact hK _ _ (Ext.refl _) rfl
  ·intro a W hW Z hB hD K hK;have aJ:=kI Z;clear Z;have b3:=hB 3 rfl;simp only [sB] at b3;go_simp;exact hK _ _ (Ext.refl _) rfl
  ·intro a W hW Z hB hD K hK;have aJ:=kI Z;clear Z;obtain ⟨v34,e34,IS⟩:=az (hD 2 _ 34 rfl rfl (by kernel_rfl));obtain rfl:=IS;have q9:=(A1.o.ext hW).cell;have l9:=(A1.o.ext hW).lt;go_simp;exact hK _ _ (Ext.refl _) rfl
  ·intro a W hW Z hB hD K hK;have aJ:=kI Z;clear Z;obtain ⟨v35,e35,h35⟩:=az (hD 3 _ 35 rfl rfl (by kernel_rfl));obtain rfl:=h35;go_simp;have hck:=dS _ R W (HR.o.ext hW) LR.o;rw [← O6.o] at hck;refine hck.mono ?_;rintro e w9 ⟨rfl,hx⟩;exact hK _ _ hx rfl
  ·intro a W hW Z hB hD K hK;have aJ:=kI Z;clear Z;obtain ⟨v33,e33,Fb⟩:=az (hD 1 _ 33 rfl rfl (by kernel_rfl));obtain rfl:=Fb;obtain ⟨v36,e36,MG⟩:=az (hD 4 _ 36 rfl rfl (by kernel_rfl));obtain rfl:=MG;go_simp;by_cases hpe:k4=0
   ·subst hpe;refine (bI _ _ _ _ _ _ _ W).mono ?_;rintro e w9 ⟨rfl,hx⟩;exact hK _ _ hx rfl
   ·refine (bp _ _ _ _ _ _ _ _ rfl hpe W).mono ?_;rintro e w9 ⟨rfl,hx⟩;(try simp +zetaDelta only [Exit.then,Exit.inBlock]);show Leaves _ _ a.tmps _ a.defers _ _;rw [aJ.o];have b4:=hB 4 rfl;simp only [sB] at b4;have E:=kI (JX (B:=B) H1.o H2.o H3.o O6.o.symm hpe);have Fv:=kI hpe;replace A2:=kI (A2.o.ext (hW.trans hx));replace X:=kI (X.o.trans (hW.trans hx));have H4:=kI b4;clear hW hx hB hD hK b4;refine leaves_cons (f:=110) (args:=#[.pointer (some ⟨w.heap.size+1+1,0,none⟩)]) (by simp) (by simp [go_sem]) ?_;refine (gK (w.heap.size+1+1) k4 0 Fv.o [] _ A2.o).mono ?_;rintro e u' w'' ⟨rfl,rfl,rfl⟩;obtain ⟨wf,hwf⟩:=gN ((w9.setCell ⟨w.heap.size+1+1,0,none⟩ (.int .i64 k4)));have hfe:af wf (w.heap.size+1+1) #[.int .i64 k4] 37:=by
     have:=(A2.o).set 0 (.int .i64 k4);rw [hwf];simpa using this
    have cp:Ext w wf:=by rw [hwf];exact X.o.set (p:=⟨w.heap.size+1+1,0,none⟩) (by dsimp only;omega) _
    rw [← hwf];clear hwf;have d5:=kI cp;have ke:=hfe.cell 0;simp only [List.getElem?_toArray,List.getElem?_cons_zero] at ke;clear hfe cp;simp [Leaves,settle,results,Tryz.results47,go_sem,aY,ke,H4.o];exact ⟨by rw [E.o],d5.o.drew⟩
 intro wa hx;simp only [cX,List.take_succ_cons,List.take_zero,List.drop_succ_cons,List.drop_zero];rintro u0 - u1 - u2 - u3 - u4 - u5 h5;obtain rfl:k4=0:=h5;simp only [Act.put,List.setIfInBounds_toArray,List.set_cons_zero,List.set_cons_succ];have H4:=kI O6.o.symm;clear O6;replace A0:=kI (A0.o.ext hx);replace A1:=kI (A1.o.ext hx);replace A2:=kI (A2.o.ext hx);replace HM:=kI (HM.o.ext hx);replace HV:=kI (HV.o.ext hx);replace HP:=kI (Rd.ext HP.o hx);replace HR:=kI (HR.o.ext hx);replace HB:=kI (HB.o.ext hx);replace X:=kI (X.o.trans hx);clear hx;obtain ⟨aE,fA0,aC⟩:=A0.o.q3;obtain ⟨aQ,aR,lA1⟩:=A1.o.q3;obtain ⟨bB,bC,lA2⟩:=A2.o.q3;go_wp2_with fail;clear aE fA0 aC aQ aR lA1 bB bC lA2;obtain ⟨k5,hk5⟩:=gN (am B);have Pa:=kI hk5;clear hk5;refine fo (Gb (w.heap.size+1) 5 B t1 t3 t2 t4 k5) (by kernel_rfl) (by kernel_rfl) (by kernel_rfl) (fun _ _ _ _ h x=>vh h x) ?_ ?_
 ·refine ⟨?_,?_,?_,?_,?_,?_,trivial⟩
  ·intro a W hW Z hB hD K hK;have aJ:=kI Z;clear Z;have b3:=hB 3 rfl;simp only [sB] at b3;go_simp;exact hK _ _ (Ext.refl _) rfl
  ·intro a W hW Z hB hD K hK;have aJ:=kI Z;clear Z;obtain ⟨v38,e38,h38⟩:=az (hD 0 _ 38 rfl rfl (by kernel_rfl));obtain rfl:=h38;have q9:=(A1.o.ext hW).cell;have l9:=(A1.o.ext hW).lt;go_simp;exact hK _ _ (Ext.refl _) rfl
  ·intro a W hW Z hB hD K hK;have aJ:=kI Z;clear Z;have b3:=hB 3 rfl;simp only [sB] at b3;go_simp;exact hK _ _ (Ext.refl _) rfl
  ·intro a W hW Z hB hD K hK;have aJ:=kI Z;clear Z;obtain ⟨v40,e40,RC⟩:=az (hD 2 _ 40 rfl rfl (by kernel_rfl));obtain rfl:=RC;have q9:=(A1.o.ext hW).cell;have l9:=(A1.o.ext hW).lt;go_simp;exact hK _ _ (Ext.refl _) rfl
  ·intro a W hW Z hB hD K hK;have aJ:=kI Z;clear Z;obtain ⟨v41,e41,RE⟩:=az (hD 3 _ 41 rfl rfl (by kernel_rfl));obtain rfl:=RE;go_simp;have hck:=dS _ B W (HB.o.ext hW) LB.o;rw [← Pa.o] at hck;refine hck.mono ?_;rintro e w9 ⟨rfl,hx⟩;exact hK _ _ hx rfl
  ·intro a W hW Z hB hD K hK;have aJ:=kI Z;clear Z;obtain ⟨v39,e39,MH⟩:=az (hD 1 _ 39 rfl rfl (by kernel_rfl));obtain rfl:=MH;obtain ⟨v42,e42,h42⟩:=az (hD 4 _ 42 rfl rfl (by kernel_rfl));obtain rfl:=h42;go_simp;by_cases hpe:k5=0
   ·subst hpe;refine (bI _ _ _ _ _ _ _ W).mono ?_;rintro e w9 ⟨rfl,hx⟩;exact hK _ _ hx rfl
   ·refine (bp _ _ _ _ _ _ _ _ rfl hpe W).mono ?_;rintro e w9 ⟨rfl,hx⟩;(try simp +zetaDelta only [Exit.then,Exit.inBlock]);show Leaves _ _ a.tmps _ a.defers _ _;rw [aJ.o];have b4:=hB 4 rfl;simp only [sB] at b4;have E:=kI (JY H1.o H2.o H3.o H4.o Pa.o.symm hpe);have Fv:=kI hpe;replace A2:=kI (A2.o.ext (hW.trans hx));replace X:=kI (X.o.trans (hW.trans hx));have H4:=kI b4;clear hW hx hB hD hK b4;refine leaves_cons (f:=110) (args:=#[.pointer (some ⟨w.heap.size+1+1,0,none⟩)]) (by simp) (by simp [go_sem]) ?_;refine (gK (w.heap.size+1+1) k5 0 Fv.o [] _ A2.o).mono ?_;rintro e u' w'' ⟨rfl,rfl,rfl⟩;obtain ⟨wf,hwf⟩:=gN ((w9.setCell ⟨w.heap.size+1+1,0,none⟩ (.int .i64 k5)));have hfe:af wf (w.heap.size+1+1) #[.int .i64 k5] 37:=by
     have:=(A2.o).set 0 (.int .i64 k5);rw [hwf];simpa using this
    have cp:Ext w wf:=by rw [hwf];exact X.o.set (p:=⟨w.heap.size+1+1,0,none⟩) (by dsimp only;omega) _
    rw [← hwf];clear hwf;have d5:=kI cp;have ke:=hfe.cell 0;simp only [List.getElem?_toArray,List.getElem?_cons_zero] at ke;clear hfe cp;simp [Leaves,settle,results,Tryz.results47,go_sem,aY,ke,H4.o];exact ⟨by rw [E.o],d5.o.drew⟩
 intro wb hx;simp only [cX,List.take_succ_cons,List.take_zero,List.drop_succ_cons,List.drop_zero];rintro u0 - u1 - u2 - u3 - u4 - u5 h5;obtain rfl:k5=0:=h5;simp only [Act.put,List.setIfInBounds_toArray,List.set_cons_zero,List.set_cons_succ];have H5:=kI Pa.o.symm;clear Pa;replace A0:=kI (A0.o.ext hx);replace A1:=kI (A1.o.ext hx);replace A2:=kI (A2.o.ext hx);replace HM:=kI (HM.o.ext hx);replace HV:=kI (HV.o.ext hx);replace HP:=kI (Rd.ext HP.o hx);replace HR:=kI (HR.o.ext hx);replace HB:=kI (HB.o.ext hx);replace X:=kI (X.o.trans hx);clear hx;obtain ⟨aE,fA0,aC⟩:=A0.o.q3;obtain ⟨aQ,aR,lA1⟩:=A1.o.q3;obtain ⟨bB,bC,lA2⟩:=A2.o.q3;go_wp2_with fail;have XV:=kI X.o.size;refine (EN.o _ _ _ V HM.o HV.o LV.o).mono ?_;rintro e w3 ⟨he,hx⟩;clear aE fA0 aC aQ aR lA1 bB bC lA2;replace A0:=kI (A0.o.ext hx);replace A1:=kI (A1.o.ext hx);replace A2:=kI (A2.o.ext hx);replace HM:=kI (HM.o.ext hx);replace HV:=kI (HV.o.ext hx);replace HP:=kI (Rd.ext HP.o hx);replace HR:=kI (HR.o.ext hx);replace HB:=kI (HB.o.ext hx);replace X:=kI (X.o.trans hx);clear hx EN;obtain ⟨nv,gv,rfl,on,og⟩:=he;obtain ⟨x,g,k6,hB⟩:∃ a b c,ah m V=(a,b,c):=⟨_,_,_,rfl⟩;rw [hB] at on og ⊢;dsimp only at on og ⊢;have mY:=kI hB;obtain ⟨xa,xc,rfl⟩:=on.shape;obtain ⟨ga,gc,rfl⟩:=og.shape;have ON:=kI (on.mono XV.o);have OP:=kI (og.mono XV.o);clear on og hB;obtain ⟨aE,fA0,aC⟩:=A0.o.q3;obtain ⟨aQ,aR,lA1⟩:=A1.o.q3;obtain ⟨bB,bC,lA2⟩:=A2.o.q3;go_wp2_with fail;clear aE fA0 aC aQ aR lA1 bB bC lA2;obtain ⟨wc,hwe⟩:=gN ((w3.setCell ⟨w.heap.size+1+1,0,none⟩ (.int .i64 k6)));have ha0:af wc (w.heap.size) #[.bool m.ag.neg,.slice m1 m.ag.num.length n1,.slice m2 m.ag.den.length n2,.slice m3 vl n3] 28:=by rw [hwe];exact A0.o.setOther (a:=⟨w.heap.size+1+1,0,none⟩) (by dsimp only;omega) _
 have ha1:af wc (w.heap.size+1) #[.slice a1 vl c1,.slice a2 pl c2,.bool R.neg,.slice s1 R.num.length s2,.slice s3 R.den.length s4,.bool B.neg,.slice t1 B.num.length t2,.slice t3 B.den.length t4] 67:=by rw [hwe];exact A1.o.setOther (a:=⟨w.heap.size+1+1,0,none⟩) (by dsimp only;omega) _
 have ha2:af wc (w.heap.size+1+1) #[.int .i64 k6] 37:=by rw [hwe];have:=A2.o.set 0 (.int .i64 k6);simpa using this
 have hxr:Ext w wc:=by rw [hwe];exact X.o.set (p:=⟨w.heap.size+1+1,0,none⟩) (by dsimp only;omega) _
 have hk0:bT w.heap.size wc (.slice xa x.length xc) x:=by rw [hwe];exact ON.o.keeps (ak A2.o 0 (.int .i64 k6)) (by decide) (by decide)
 have hk1:cS w.heap.size wc (.slice ga g.length gc) g:=by rw [hwe];exact OP.o.keeps (ak A2.o 0 (.int .i64 k6)) (by decide)
 rw [← hwe];clear hwe;replace A0:=kI ha0;replace A1:=kI ha1;replace A2:=kI ha2;replace X:=kI hxr;clear ha0 ha1 ha2 hxr;replace ON:=kI hk0;clear hk0;replace OP:=kI hk1;clear hk1;replace HM:=kI (Dl.o.ext X.o);replace HV:=kI (Ai.o.ext X.o);replace HP:=kI (Rd.ext MU.o X.o);replace HR:=kI (HR0.o.ext X.o);replace HB:=kI (HB0.o.ext X.o);by_cases h6:k6=0
 rotate_left
 ·have Vz:=kI h6;have E:=kI (JZ H1.o H2.o H3.o H4.o H5.o (by rw [mY.o]) h6);clear h6;refine (bp _ _ _ _ _ _ _ _ rfl Vz.o _).mono ?_;rintro e Ss ⟨rfl,hx⟩;replace A2:=kI (A2.o.ext hx);replace X:=kI (X.o.trans hx);clear hx;refine leaves_cons (f:=110) (args:=#[.pointer (some ⟨w.heap.size+1+1,0,none⟩)]) (by simp) (by simp [go_sem]) ?_;refine (gK (w.heap.size+1+1) k6 k6 Vz.o [] _ A2.o).mono ?_;rintro e u' w'' ⟨rfl,rfl,rfl⟩;obtain ⟨wf,hwf⟩:=gN ((Ss.setCell ⟨w.heap.size+1+1,0,none⟩ (.int .i64 k6)));have hfe:af wf (w.heap.size+1+1) #[.int .i64 k6] 37:=by
   have:=(A2.o).set 0 (.int .i64 k6);rw [hwf];simpa using this
  have cp:Ext w wf:=by rw [hwf];exact X.o.set (p:=⟨w.heap.size+1+1,0,none⟩) (by dsimp only;omega) _
  rw [← hwf];clear hwf;have d5:=kI cp;have ke:=hfe.cell 0;simp only [List.getElem?_toArray,List.getElem?_cons_zero] at ke;clear hfe cp;simp [Leaves,settle,results,Tryz.results47,go_sem,aY,ke];exact ⟨by rw [E.o],d5.o.drew⟩
 subst h6;have hb0:=lO (m:=m) (vs:=V) (by rw [mY.o]);rw [mY.o] at hb0;dsimp only at hb0;obtain ⟨l1,l2,l3,l4⟩:=hb0;have L3:=kI l3;have Nu:=kI (show V.length≤1000000 from by rw [H2.o];have:=(bu lu.o).2.2.1;omega);clear l1 l2 l3 l4;refine (bI _ _ _ _ _ _ _ _).mono ?_;rintro e Vo ⟨rfl,hx⟩;replace A0:=kI (A0.o.ext hx);replace A1:=kI (A1.o.ext hx);replace A2:=kI (A2.o.ext hx);replace HM:=kI (HM.o.ext hx);replace HV:=kI (HV.o.ext hx);replace HP:=kI (Rd.ext HP.o hx);replace HR:=kI (HR.o.ext hx);replace HB:=kI (HB.o.ext hx);replace X:=kI (X.o.trans hx);replace ON:=kI (ON.o.ext' hx);replace OP:=kI (OP.o.ext' hx);clear hx;obtain ⟨aE,fA0,aC⟩:=A0.o.q3;obtain ⟨aQ,aR,lA1⟩:=A1.o.q3;obtain ⟨bB,bC,lA2⟩:=A2.o.q3;go_wp2_with fail;have XV:=kI X.o.size;refine (pC _ _ V x _ HV.o ON.o.rd LV.o L3.o Nu.o).mono ?_;rintro e Pb ⟨he,hx⟩;clear aE fA0 aC aQ aR lA1 bB bC lA2;replace A0:=kI (A0.o.ext hx);replace A1:=kI (A1.o.ext hx);replace A2:=kI (A2.o.ext hx);replace HM:=kI (HM.o.ext hx);replace HV:=kI (HV.o.ext hx);replace HP:=kI (Rd.ext HP.o hx);replace HR:=kI (HR.o.ext hx);replace HB:=kI (HB.o.ext hx);replace X:=kI (X.o.trans hx);replace ON:=kI (ON.o.ext' hx);replace OP:=kI (OP.o.ext' hx);clear hx;obtain ⟨d,k7,hD⟩:∃ a b,bg V x=(a,b):=⟨_,_,rfl⟩;have ld:=lP V x;rw [hD] at he ld;obtain ⟨d1,d2,d3,d4,rfl,hel⟩:=he;dsimp only at hel ld ⊢;have HD:=kI hD;have EL:=kI (dg.mono hel XV.o);have LD:=kI ld;clear hel hD ON ld XV;by_cases h7:k7=0
 rotate_left
 ·have E:=kI (C7 H1.o H2.o H3.o H4.o H5.o mY.o (.inl (by rw [HD.o];exact h7)));have q1:(k7 != 0)=true:=by simpa using h7
  clear h7;obtain ⟨aE,fA0,aC⟩:=A0.o.q3;obtain ⟨aQ,aR,lA1⟩:=A1.o.q3;obtain ⟨bB,bC,lA2⟩:=A2.o.q3;go_wp2_with fail;clear aE fA0 aC aQ aR lA1 bB bC lA2;obtain ⟨wr,hwe⟩:=gN (((Pb.setCell ⟨w.heap.size+1+1,0,none⟩ (.int .i64 k7)).setCell ⟨w.heap.size+1+1,0,none⟩ (.int .i64 15)).alloc (.cells #[.bool d.neg,.slice d1 d.num.length d2,.slice d3 d.den.length d4] 25));have ha2:af wr (w.heap.size+1+1) #[.int .i64 15] 37:=by rw [hwe];have:=((A2.o.set 0 (.int .i64 k7)).set 0 (.int .i64 15)).alloc (.cells #[.bool d.neg,.slice d1 d.num.length d2,.slice d3 d.den.length d4] 25);simpa using this
  have hxr:Ext w wr:=by rw [hwe];exact ((X.o.set (p:=⟨w.heap.size+1+1,0,none⟩) (by dsimp only;omega) _).set (p:=⟨w.heap.size+1+1,0,none⟩) (by dsimp only;omega) _).alloc _
  rw [← hwe];clear hwe;replace A2:=kI ha2;replace X:=kI hxr;clear ha2 hxr;refine leaves_cons (f:=110) (args:=#[.pointer (some ⟨w.heap.size+1+1,0,none⟩)]) (by simp) (by simp [go_sem]) ?_;refine (cU (w.heap.size+1+1) 15 (by decide) _ A2.o).mono ?_;rintro e u' w'' ⟨rfl,rfl,rfl⟩;obtain ⟨wf,hwf⟩:=gN ((wr.setCell ⟨w.heap.size+1+1,0,none⟩ (.int .i64 15)));have hfe:af wf (w.heap.size+1+1) #[.int .i64 15] 37:=by
   have:=(A2.o).set 0 (.int .i64 15);rw [hwf];simpa using this
  have cp:Ext w wf:=by rw [hwf];exact X.o.set (p:=⟨w.heap.size+1+1,0,none⟩) (by dsimp only;omega) _
  rw [← hwf];clear hwf;have d5:=kI cp;have ke:=hfe.cell 0;simp only [List.getElem?_toArray,List.getElem?_cons_zero] at ke;clear hfe cp;simp [Leaves,settle,results,Tryz.results47,go_sem,aY,ke];exact ⟨by rw [E.o],d5.o.drew⟩
 subst h7;obtain ⟨aE,fA0,aC⟩:=A0.o.q3;obtain ⟨aQ,aR,lA1⟩:=A1.o.q3;obtain ⟨bB,bC,lA2⟩:=A2.o.q3;go_wp2_with fail;clear aE fA0 aC aQ aR lA1 bB bC lA2;obtain ⟨we,hwe⟩:=gN ((Pb.setCell ⟨w.heap.size+1+1,0,none⟩ (.int .i64 0)).alloc (.cells #[.bool d.neg,.slice d1 d.num.length d2,.slice d3 d.den.length d4] 25));obtain ⟨sn,hsn⟩:=gN (Pb.heap.size);have ha0:af we (w.heap.size) #[.bool m.ag.neg,.slice m1 m.ag.num.length n1,.slice m2 m.ag.den.length n2,.slice m3 vl n3] 28:=by rw [hwe];exact (A0.o.setOther (a:=⟨w.heap.size+1+1,0,none⟩) (by dsimp only;omega) _).alloc _
 have ha1:af we (w.heap.size+1) #[.slice a1 vl c1,.slice a2 pl c2,.bool R.neg,.slice s1 R.num.length s2,.slice s3 R.den.length s4,.bool B.neg,.slice t1 B.num.length t2,.slice t3 B.den.length t4] 67:=by rw [hwe];exact (A1.o.setOther (a:=⟨w.heap.size+1+1,0,none⟩) (by dsimp only;omega) _).alloc _
 have ha2:af we (w.heap.size+1+1) #[.int .i64 0] 37:=by rw [hwe];have:=(A2.o.set 0 (.int .i64 0)).alloc (.cells #[.bool d.neg,.slice d1 d.num.length d2,.slice d3 d.den.length d4] 25);simpa using this
 have hxr:Ext w we:=by rw [hwe];exact (X.o.set (p:=⟨w.heap.size+1+1,0,none⟩) (by dsimp only;omega) _).alloc _
 have bd:af we sn #[.bool d.neg,.slice d1 d.num.length d2,.slice d3 d.den.length d4] 25:=by rw [hwe,hsn];have:=af.new (Pb.setCell ⟨w.heap.size+1+1,0,none⟩ (.int .i64 0)) #[.bool d.neg,.slice d1 d.num.length d2,.slice d3 d.den.length d4] 25;simpa using this
 have hsz:w.heap.size+3≤sn:=by
  have:=A2.o.lt;omega
 have hk0:cS w.heap.size we (.slice ga g.length gc) g:=by rw [hwe];exact (OP.o.keeps (ak A2.o 0 (.int .i64 0)) (by decide)).ext' ((Ext.refl _).alloc _)
 have hk1:dg w.heap.size we [.bool d.neg,.slice d1 d.num.length d2,.slice d3 d.den.length d4] d:=by rw [hwe];exact (dg.keeps (by decide) _ _ _ _ EL.o (ak A2.o 0 (.int .i64 0))).ext ((Ext.refl _).alloc _)
 rw [← hwe,← hsn];clear hwe hsn;replace A0:=kI ha0;replace A1:=kI ha1;replace A2:=kI ha2;replace X:=kI hxr;have BD:=kI bd;have Md:=kI hsz;clear ha0 ha1 ha2 hxr bd hsz;replace OP:=kI hk0;clear hk0;replace EL:=kI hk1;clear hk1;replace HM:=kI (Dl.o.ext X.o);replace HV:=kI (Ai.o.ext X.o);replace HP:=kI (Rd.ext MU.o X.o);replace HR:=kI (HR0.o.ext X.o);replace HB:=kI (HB0.o.ext X.o);refine (C6 _ _ g P _ OP.o.yz HP.o).mono ?_;rintro e w63 ⟨rfl,hx⟩;replace A0:=kI (A0.o.ext hx);replace A1:=kI (A1.o.ext hx);replace A2:=kI (A2.o.ext hx);replace HM:=kI (HM.o.ext hx);replace HV:=kI (HV.o.ext hx);replace HP:=kI (Rd.ext HP.o hx);replace HR:=kI (HR.o.ext hx);replace HB:=kI (HB.o.ext hx);replace EL:=kI (EL.o.ext hx);replace BD:=kI (BD.o.ext hx);replace X:=kI (X.o.trans hx);replace OP:=kI (OP.o.ext' hx);clear hx;obtain ⟨eb,heb⟩:=gN (decide (g=P));rw [← heb];cases eb
 ·have E:=kI (C7 H1.o H2.o H3.o H4.o H5.o mY.o (.inr (of_decide_eq_false heb.symm)));clear heb;obtain ⟨aQ,aR,lA1⟩:=A1.o.q3;obtain ⟨bB,bC,lA2⟩:=A2.o.q3;go_wp2_with fail;clear aQ aR lA1 bB bC lA2;obtain ⟨wr,hwe⟩:=gN ((w63.setCell ⟨w.heap.size+1+1,0,none⟩ (.int .i64 15)));have ha0:af wr (w.heap.size) #[.bool m.ag.neg,.slice m1 m.ag.num.length n1,.slice m2 m.ag.den.length n2,.slice m3 vl n3] 28:=by rw [hwe];exact A0.o.setOther (a:=⟨w.heap.size+1+1,0,none⟩) (by dsimp only;omega) _
  have ha1:af wr (w.heap.size+1) #[.slice a1 vl c1,.slice a2 pl c2,.bool R.neg,.slice s1 R.num.length s2,.slice s3 R.den.length s4,.bool B.neg,.slice t1 B.num.length t2,.slice t3 B.den.length t4] 67:=by rw [hwe];exact A1.o.setOther (a:=⟨w.heap.size+1+1,0,none⟩) (by dsimp only;omega) _
  have ha2:af wr (w.heap.size+1+1) #[.int .i64 15] 37:=by rw [hwe];have:=A2.o.set 0 (.int .i64 15);simpa using this
  have hxr:Ext w wr:=by rw [hwe];exact X.o.set (p:=⟨w.heap.size+1+1,0,none⟩) (by dsimp only;omega) _
  rw [← hwe];clear hwe;replace A0:=kI ha0;replace A1:=kI ha1;replace A2:=kI ha2;replace X:=kI hxr;clear ha0 ha1 ha2 hxr;refine leaves_cons (f:=110) (args:=#[.pointer (some ⟨w.heap.size+1+1,0,none⟩)]) (by simp) (by simp [go_sem]) ?_;refine (cU (w.heap.size+1+1) 15 (by decide) _ A2.o).mono ?_;rintro e u' w'' ⟨rfl,rfl,rfl⟩;obtain ⟨wf,hwf⟩:=gN ((wr.setCell ⟨w.heap.size+1+1,0,none⟩ (.int .i64 15)));have hfe:af wf (w.heap.size+1+1) #[.int .i64 15] 37:=by
   have:=(A2.o).set 0 (.int .i64 15);rw [hwf];simpa using this
  have cp:Ext w wf:=by rw [hwf];exact X.o.set (p:=⟨w.heap.size+1+1,0,none⟩) (by dsimp only;omega) _
  rw [← hwf];clear hwf;have d5:=kI cp;have ke:=hfe.cell 0;simp only [List.getElem?_toArray,List.getElem?_cons_zero] at ke;clear hfe cp;simp [Leaves,settle,results,Tryz.results47,go_sem,aY,ke];exact ⟨by rw [E.o],d5.o.drew⟩
 ·have H8:=kI (of_decide_eq_true heb.symm);clear heb;obtain ⟨aQ,aR,lA1⟩:=A1.o.q3;obtain ⟨bB,bC,lA2⟩:=A2.o.q3;obtain ⟨Ip,Iq,Ir⟩:=BD.o.q3;go_wp2_with fail;clear aQ aR lA1 bB bC lA2 Ip Iq Ir;obtain ⟨y,ye,hC⟩:∃ y f,cj d R=(y,f):=⟨_,_,rfl⟩;have HC:=kI hC;have hcm:=fZ _ _ d R _ EL.o.rd HR.o LD.o LR.o;rw [hC] at hcm;clear hC;refine hcm.mono ?_;rintro e w70 ⟨rfl,hx⟩;clear hcm;replace A0:=kI (A0.o.ext hx);replace A1:=kI (A1.o.ext hx);replace A2:=kI (A2.o.ext hx);replace HM:=kI (HM.o.ext hx);replace HV:=kI (HV.o.ext hx);replace HP:=kI (Rd.ext HP.o hx);replace HR:=kI (HR.o.ext hx);replace HB:=kI (HB.o.ext hx);replace EL:=kI (EL.o.ext hx);replace BD:=kI (BD.o.ext hx);replace X:=kI (X.o.trans hx);replace OP:=kI (OP.o.ext' hx);clear hx;by_cases h9:y=0
  rotate_left
  ·have E:=kI (J0 H1.o H2.o H3.o H4.o H5.o mY.o HD.o H8.o (by rw [HC.o];exact h9));have q1:(y != 0)=true:=by simpa using h9
   clear h9;obtain ⟨aQ,aR,lA1⟩:=A1.o.q3;obtain ⟨bB,bC,lA2⟩:=A2.o.q3;go_wp2_with fail;clear aQ aR lA1 bB bC lA2;obtain ⟨wr,hwe⟩:=gN ((w70.setCell ⟨w.heap.size+1+1,0,none⟩ (.int .i64 15)));have ha0:af wr (w.heap.size) #[.bool m.ag.neg,.slice m1 m.ag.num.length n1,.slice m2 m.ag.den.length n2,.slice m3 vl n3] 28:=by rw [hwe];exact A0.o.setOther (a:=⟨w.heap.size+1+1,0,none⟩) (by dsimp only;omega) _
   have ha1:af wr (w.heap.size+1) #[.slice a1 vl c1,.slice a2 pl c2,.bool R.neg,.slice s1 R.num.length s2,.slice s3 R.den.length s4,.bool B.neg,.slice t1 B.num.length t2,.slice t3 B.den.length t4] 67:=by rw [hwe];exact A1.o.setOther (a:=⟨w.heap.size+1+1,0,none⟩) (by dsimp only;omega) _
   have ha2:af wr (w.heap.size+1+1) #[.int .i64 15] 37:=by rw [hwe];have:=A2.o.set 0 (.int .i64 15);simpa using this
   have hxr:Ext w wr:=by rw [hwe];exact X.o.set (p:=⟨w.heap.size+1+1,0,none⟩) (by dsimp only;omega) _
   rw [← hwe];clear hwe;replace A0:=kI ha0;replace A1:=kI ha1;replace A2:=kI ha2;replace X:=kI hxr;clear ha0 ha1 ha2 hxr;refine leaves_cons (f:=110) (args:=#[.pointer (some ⟨w.heap.size+1+1,0,none⟩)]) (by simp) (by simp [go_sem]) ?_;refine (cU (w.heap.size+1+1) 15 (by decide) _ A2.o).mono ?_;rintro e u' w'' ⟨rfl,rfl,rfl⟩;obtain ⟨wf,hwf⟩:=gN ((wr.setCell ⟨w.heap.size+1+1,0,none⟩ (.int .i64 15)));have hfe:af wf (w.heap.size+1+1) #[.int .i64 15] 37:=by
    have:=(A2.o).set 0 (.int .i64 15);rw [hwf];simpa using this
   have cp:Ext w wf:=by rw [hwf];exact X.o.set (p:=⟨w.heap.size+1+1,0,none⟩) (by dsimp only;omega) _
   rw [← hwf];clear hwf;have d5:=kI cp;have ke:=hfe.cell 0;simp only [List.getElem?_toArray,List.getElem?_cons_zero] at ke;clear hfe cp;simp [Leaves,settle,results,Tryz.results47,go_sem,aY,ke];exact ⟨by rw [E.o],d5.o.drew⟩
  subst h9;have H9:=kI (show (cj d R).1=0 from by rw [HC.o]);obtain ⟨aQ,aR,lA1⟩:=A1.o.q3;obtain ⟨bB,bC,lA2⟩:=A2.o.q3;go_wp2_with fail;clear aQ aR lA1 bB bC lA2;obtain ⟨f,fc,hF⟩:∃ a b,gx m=(a,b):=⟨_,_,rfl⟩;have HF:=kI hF;have DV:=kI (io HD.o);have Nv:fc=0→au f∧am f=0:=fun z=>by
   subst z;obtain ⟨a,b⟩:=mV H1.o;obtain ⟨_,_,f3,f4,_⟩:=yv (yt a b) hF;exact ⟨f4,f3⟩
  have HFO:=kI Nv;clear hF Nv;refine fo (xj (.agg #[.bool m.ag.neg,.slice m1 m.ag.num.length n1,.slice m2 m.ag.den.length n2,.slice m3 vl n3]) (w.heap.size+1) B t1 t3 t2 t4 d d1 d3 d2 d4 f fc) (by kernel_rfl) (by kernel_rfl) (by kernel_rfl) (fun _ _ _ _ h x=>xk h x) ?_ ?_
  ·refine ⟨?_,?_,?_,?_,?_,?_,?_,trivial⟩
   ·intro a W hW Z hB hD K hK;have aJ:=kI Z;clear Z;have b3:=hB 3 rfl;simp only [sB] at b3;go_simp;exact hK _ _ (Ext.refl _) rfl
   ·intro a W hW Z hB hD K hK;have aJ:=kI Z;clear Z;obtain ⟨v80,YC,h80⟩:=az (hD 0 _ 80 rfl rfl (by kernel_rfl));obtain rfl:=h80;have q9:=(A1.o.ext hW).cell;have l9:=(A1.o.ext hW).lt;go_simp;exact hK _ _ (Ext.refl _) rfl
   ·intro a W hW Z hB hD K hK;have aJ:=kI Z;clear Z;have b2:=hB 2 rfl;simp only [sB] at b2;have q9:=(A0.o.ext hW).cell;have l9:=(A0.o.ext hW).lt;go_simp;exact hK _ _ (Ext.refl _) rfl
   ·intro a W hW Z hB hD K hK;have aJ:=kI Z;clear Z;obtain ⟨v82,UP,MR⟩:=az (hD 2 _ 82 rfl rfl (by kernel_rfl));obtain rfl:=MR;go_simp;have hfa:=ME.o W _ (HM.o.ext hW);rw [HF.o] at hfa;refine hfa.mono ?_;rintro e w9 ⟨he,hx⟩;by_cases hf:fc=0
    ·subst hf;obtain ⟨z1,z2,z3,z4,rfl,hel⟩:=he.oW;exact hK _ _ hx ⟨rfl,_,_,_,_,rfl,hel.rd⟩
    ·obtain rfl:=he.oX hf;(try simp +zetaDelta only [Exit.then,Exit.inBlock]);show Leaves _ _ a.tmps _ a.defers _ _;rw [aJ.o];have b4:=hB 4 rfl;simp only [sB] at b4;have E:=kI (Ka H1.o H2.o H3.o H4.o H5.o mY.o HD.o H8.o H9.o (by rw [HF.o]) hf);have Fv:=kI hf;replace A2:=kI (A2.o.ext (hW.trans hx));replace X:=kI (X.o.trans (hW.trans hx));have H4:=kI b4;clear hW hx hB hD hK b4;refine leaves_cons (f:=110) (args:=#[.pointer (some ⟨w.heap.size+1+1,0,none⟩)]) (by simp) (by simp [go_sem]) ?_;refine (gK (w.heap.size+1+1) fc 0 Fv.o [] _ A2.o).mono ?_;rintro e u' w'' ⟨rfl,rfl,rfl⟩;obtain ⟨wf,hwf⟩:=gN ((w9.setCell ⟨w.heap.size+1+1,0,none⟩ (.int .i64 fc)));have hfe:af wf (w.heap.size+1+1) #[.int .i64 fc] 37:=by
      have:=(A2.o).set 0 (.int .i64 fc);rw [hwf];simpa using this
     have cp:Ext w wf:=by rw [hwf];exact X.o.set (p:=⟨w.heap.size+1+1,0,none⟩) (by dsimp only;omega) _
     rw [← hwf];clear hwf;have d5:=kI cp;have ke:=hfe.cell 0;simp only [List.getElem?_toArray,List.getElem?_cons_zero] at ke;clear hfe cp;simp [Leaves,settle,results,Tryz.results47,go_sem,aY,ke,H4.o];exact ⟨by rw [E.o],d5.o.drew⟩
   ·intro a W hW Z hB hD K hK;have aJ:=kI Z;clear Z;have b9:=hB 9 rfl;simp only [sB] at b9;have q9:=(BD.o.ext hW).cell;have l9:=(BD.o.ext hW).lt;go_simp;exact hK _ _ (Ext.refl _) rfl
   ·intro a W hW Z hB hD K hK;have aJ:=kI Z;clear Z;obtain ⟨v81,YD,RP⟩:=az (hD 1 _ 81 rfl rfl (by kernel_rfl));obtain rfl:=RP;obtain ⟨v83,YE,RT⟩:=az (hD 3 _ 83 rfl rfl (by kernel_rfl));obtain ⟨hf0,x91,eZ,x93,fb,rfl,xh⟩:=RT;obtain ⟨v84,YF,h84⟩:=az (hD 4 _ 84 rfl rfl (by kernel_rfl));obtain rfl:=h84;go_simp;obtain ⟨lf,cf⟩:=HFO.o hf0;refine (vg _ _ _ B f d W (HB.o.ext hW) xh (EL.o.ext hW).rd LB.o lf LD.o H5.o cf DV.o.chk).mono ?_;rintro e w9 ⟨rfl,hx⟩;exact hK _ _ hx ⟨hf0,rfl⟩
   ·intro a W hW Z hB hD K hK;have aJ:=kI Z;clear Z;obtain ⟨v85,e85,h85⟩:=az (hD 5 _ 85 rfl rfl (by kernel_rfl));obtain ⟨hf0,rfl⟩:=h85;go_simp;exact hK _ _ (Ext.refl _) ⟨hf0,rfl⟩
  intro w7 hx;simp only [cX,List.take_succ_cons,List.take_zero,List.drop_succ_cons,List.drop_zero];rintro u0 - u1 - u2 - u3 - u4 - u5 - u6 h6;obtain ⟨hf0,rfl⟩:=h6;subst hf0;simp only [Act.put,List.setIfInBounds_toArray,List.set_cons_zero,List.set_cons_succ];replace A0:=kI (A0.o.ext hx);replace A1:=kI (A1.o.ext hx);replace A2:=kI (A2.o.ext hx);replace HM:=kI (HM.o.ext hx);replace HV:=kI (HV.o.ext hx);replace HP:=kI (Rd.ext HP.o hx);replace HR:=kI (HR.o.ext hx);replace HB:=kI (HB.o.ext hx);replace EL:=kI (EL.o.ext hx);replace BD:=kI (BD.o.ext hx);replace X:=kI (X.o.trans hx);clear hx;have hE:=Ga H1.o H2.o H3.o H4.o H5.o mY.o HD.o H8.o H9.o HF.o;obtain ⟨b,hb⟩:=gN (mE B f d);rw [← hb] at hE ⊢;clear hb;cases b
  ·have E:=kI (hE.trans (if_neg (by decide)));clear hE;obtain ⟨aQ,aR,lA1⟩:=A1.o.q3;obtain ⟨bB,bC,lA2⟩:=A2.o.q3;go_wp2_with fail;clear aQ aR lA1 bB bC lA2;obtain ⟨wr,hwe⟩:=gN ((w7.setCell ⟨w.heap.size+1+1,0,none⟩ (.int .i64 15)));have ha0:af wr (w.heap.size) #[.bool m.ag.neg,.slice m1 m.ag.num.length n1,.slice m2 m.ag.den.length n2,.slice m3 vl n3] 28:=by rw [hwe];exact A0.o.setOther (a:=⟨w.heap.size+1+1,0,none⟩) (by dsimp only;omega) _
   have ha1:af wr (w.heap.size+1) #[.slice a1 vl c1,.slice a2 pl c2,.bool R.neg,.slice s1 R.num.length s2,.slice s3 R.den.length s4,.bool B.neg,.slice t1 B.num.length t2,.slice t3 B.den.length t4] 67:=by rw [hwe];exact A1.o.setOther (a:=⟨w.heap.size+1+1,0,none⟩) (by dsimp only;omega) _
   have ha2:af wr (w.heap.size+1+1) #[.int .i64 15] 37:=by rw [hwe];have:=A2.o.set 0 (.int .i64 15);simpa using this
   have hxr:Ext w wr:=by rw [hwe];exact X.o.set (p:=⟨w.heap.size+1+1,0,none⟩) (by dsimp only;omega) _
   rw [← hwe];clear hwe;replace A0:=kI ha0;replace A1:=kI ha1;replace A2:=kI ha2;replace X:=kI hxr;clear ha0 ha1 ha2 hxr;refine leaves_cons (f:=110) (args:=#[.pointer (some ⟨w.heap.size+1+1,0,none⟩)]) (by simp) (by simp [go_sem]) ?_;refine (cU (w.heap.size+1+1) 15 (by decide) _ A2.o).mono ?_;rintro e u' w'' ⟨rfl,rfl,rfl⟩;obtain ⟨wf,hwf⟩:=gN ((wr.setCell ⟨w.heap.size+1+1,0,none⟩ (.int .i64 15)));have hfe:af wf (w.heap.size+1+1) #[.int .i64 15] 37:=by
    have:=(A2.o).set 0 (.int .i64 15);rw [hwf];simpa using this
   have cp:Ext w wf:=by rw [hwf];exact X.o.set (p:=⟨w.heap.size+1+1,0,none⟩) (by dsimp only;omega) _
   rw [← hwf];clear hwf;have d5:=kI cp;have ke:=hfe.cell 0;simp only [List.getElem?_toArray,List.getElem?_cons_zero] at ke;clear hfe cp;simp [Leaves,settle,results,Tryz.results47,go_sem,aY,ke];exact ⟨by rw [E.o],d5.o.drew⟩
  ·have E:=kI (hE.trans (if_pos rfl));clear hE;obtain ⟨aQ,aR,lA1⟩:=A1.o.q3;obtain ⟨bB,bC,lA2⟩:=A2.o.q3;go_wp2_with fail;clear aQ aR lA1 bB bC lA2;obtain ⟨wr,hwe⟩:=gN ((w7.setCell ⟨w.heap.size+1+1,0,none⟩ (.int .i64 0)));have ha0:af wr (w.heap.size) #[.bool m.ag.neg,.slice m1 m.ag.num.length n1,.slice m2 m.ag.den.length n2,.slice m3 vl n3] 28:=by rw [hwe];exact A0.o.setOther (a:=⟨w.heap.size+1+1,0,none⟩) (by dsimp only;omega) _
   have ha1:af wr (w.heap.size+1) #[.slice a1 vl c1,.slice a2 pl c2,.bool R.neg,.slice s1 R.num.length s2,.slice s3 R.den.length s4,.bool B.neg,.slice t1 B.num.length t2,.slice t3 B.den.length t4] 67:=by rw [hwe];exact A1.o.setOther (a:=⟨w.heap.size+1+1,0,none⟩) (by dsimp only;omega) _
   have ha2:af wr (w.heap.size+1+1) #[.int .i64 0] 37:=by rw [hwe];have:=A2.o.set 0 (.int .i64 0);simpa using this
   have hxr:Ext w wr:=by rw [hwe];exact X.o.set (p:=⟨w.heap.size+1+1,0,none⟩) (by dsimp only;omega) _
   rw [← hwe];clear hwe;replace A0:=kI ha0;replace A1:=kI ha1;replace A2:=kI ha2;replace X:=kI hxr;clear ha0 ha1 ha2 hxr;refine leaves_cons (f:=110) (args:=#[.pointer (some ⟨w.heap.size+1+1,0,none⟩)]) (by simp) (by simp [go_sem]) ?_;refine (uI (w.heap.size+1+1) _ A2.o).mono ?_;rintro e u' w'' ⟨rfl,rfl,rfl⟩;obtain ⟨wf,hwf⟩:=gN ((wr.setCell ⟨w.heap.size+1+1,0,none⟩ (.int .i64 0)));have hfe:af wf (w.heap.size+1+1) #[.int .i64 0] 37:=by
    have:=(A2.o).set 0 (.int .i64 0);rw [hwf];simpa using this
   have cp:Ext w wf:=by rw [hwf];exact X.o.set (p:=⟨w.heap.size+1+1,0,none⟩) (by dsimp only;omega) _
   rw [← hwf];clear hwf;have d5:=kI cp;have ke:=hfe.cell 0;simp only [List.getElem?_toArray,List.getElem?_cons_zero] at ke;clear hfe cp;simp [Leaves,settle,results,Tryz.results47,go_sem,aY,ke];exact ⟨by rw [E.o],d5.o.drew⟩
end Go.Proofs.YtnnjbaijcaiohaaGreat
