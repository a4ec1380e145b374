/- Lemmas and walks. Conditions: as stated. -/
import Derived.Test.YtfflknbeidihoaaGreatSuUnP
import Derived.Test.YtfflknbeidihoaaGreatSuRatSc
set_option linter.unusedVariables false
set_option linter.unusedSimpArgs false
set_option maxRecDepth 100000
set_option maxHeartbeats 16000000
namespace Go.Proofs.YtfflknbeidihoaaGreat
open Go.RowKit
theorem lenS {q:Rat} (h:small q):lenR (rep q) 2000:=⟨Nat.le_trans h.1 (by decide),Nat.le_trans h.2 (by decide)⟩
def bstA (row:List RR) (a:Nat):RR:=if a=0 then zR else row.getD (bestK row a) zR
theorem bstA_succ {row:List RR} {a:Nat}:bstA row (a+1)=if a=0∨qv (row.getD a zR) < qv (bstA row a) then row.getD a zR else bstA row a:=by
 unfold bstA;rw [if_neg (Nat.succ_ne_zero a),bestK_succ];by_cases h0:a=0
 ·subst h0;rw [if_pos (Or.inl rfl)];split <;> rfl
 ·rw [if_neg h0];by_cases h1:qv (row.getD a zR) < qv (row.getD (bestK row a) zR)
  ·rw [if_pos h1,if_pos (Or.inr h1)]
  ·rw [if_neg h1,if_neg (fun h=>Or.elim h h0 h1)]
theorem sumB_set {W:World} {b:Nat} {r s:RR} (h:SumB W b 25 r) {a1:Option Addr} {c1:Nat} {a2:Option Addr} {c2:Nat} (hs:RdR W (.agg #[.bool s.neg,.slice a1 s.num.length c1,.slice a2 s.den.length c2]) s) :
  SumB (((W.setCell ⟨b,0,none⟩ (.bool s.neg)).setCell ⟨b,1,none⟩ (.slice a1 s.num.length c1)).setCell ⟨b,2,none⟩ (.slice a2 s.den.length c2)) b 25 s:=h.put hs
theorem ext_set3 {w0 W:World} {b:Nat} {x y z:Value} (h:Ext w0 W) (hb:w0.heap.size≤b):Ext w0 (((W.setCell ⟨b,0,none⟩ x).setCell ⟨b,1,none⟩ y).setCell ⟨b,2,none⟩ z):=ext_put3 (o:=0) h hb
def lsJ (xb ob off i xn:Nat) (xa:Option Addr) (xc:Nat) (av:Option Addr) (vn cv:Nat) (kk:Int) (jn tn:Nat) (s p l t u:RR) (m:MD) (m1:Option Addr) (n1:Nat) (m2:Option Addr) (n2:Nat) (m3:Option Addr) (n3:Nat) (j:Nat) (v:Value) (W:World):Prop:=
 match j with
 | 0=>∃ s1 s2 s3 s4,v=.agg #[.bool s.neg,.slice s1 s.num.length s2,.slice s3 s.den.length s4]∧RdR W (.agg #[.bool s.neg,.slice s1 s.num.length s2,.slice s3 s.den.length s4]) s
 | 1=>v=.pointer (some ⟨xb,3,none⟩)
 | 2=>v=.slice xa xn xc
 | 3=>v=.int .i64 i
 | 4=>v=.pointer (some ⟨ob,off+i*4,none⟩)
 | 5=>v=.pointer (some ⟨ob,off+i*4+1,none⟩)
 | 6=>∃ s1 s2 s3 s4,v=.agg #[.bool p.neg,.slice s1 p.num.length s2,.slice s3 p.den.length s4]∧RdR W (.agg #[.bool p.neg,.slice s1 p.num.length s2,.slice s3 p.den.length s4]) p
 | 7=>v=.agg #[.bool m.disc.neg,.slice m1 m.disc.num.length n1,.slice m2 m.disc.den.length n2,.slice m3 m.states.length n3]
 | 8=>v=.slice av vn cv
 | 9=>v=.int .i64 kk
 | 10=>v=.int .i64 jn
 | 11=>v=.pointer (some ⟨xb,3,none⟩)
 | 12=>v=.slice xa xn xc
 | 13=>v=.int .i64 i
 | 14=>v=.pointer (some ⟨ob,off+i*4,none⟩)
 | 15=>v=.pointer (some ⟨ob,off+i*4,none⟩)
 | 16=>v=.int .i64 (tn:Nat)
 | 17=>∃ s1 s2 s3 s4,v=.agg #[.bool l.neg,.slice s1 l.num.length s2,.slice s3 l.den.length s4]∧RdR W (.agg #[.bool l.neg,.slice s1 l.num.length s2,.slice s3 l.den.length s4]) l
 | 18=>∃ s1 s2 s3 s4,v=.agg #[.bool t.neg,.slice s1 t.num.length s2,.slice s3 t.den.length s4]∧RdR W (.agg #[.bool t.neg,.slice s1 t.num.length s2,.slice s3 t.den.length s4]) t
 | 19=>∃ s1 s2 s3 s4,v=.agg #[.bool u.neg,.slice s1 u.num.length s2,.slice s3 u.den.length s4]∧RdR W (.agg #[.bool u.neg,.slice s1 u.num.length s2,.slice s3 u.den.length s4]) u
 | _=>True
theorem lsJ_ext {xb ob off i xn:Nat} {xa:Option Addr} {xc:Nat} {av:Option Addr} {vn cv:Nat} {kk:Int} {jn tn:Nat} {s p l t u:RR} {m:MD} {m1:Option Addr} {n1:Nat} {m2:Option Addr} {n2:Nat} {m3:Option Addr} {n3:Nat} {j:Nat} {v:Value} {W W':World} (h:lsJ xb ob off i xn xa xc av vn cv kk jn tn s p l t u m m1 n1 m2 n2 m3 n3 j v W) (x:Ext W W'):lsJ xb ob off i xn xa xc av vn cv kk jn tn s p l t u m m1 n1 m2 n2 m3 n3 j v W':=by
 match j,h with
 | 0,⟨s1,s2,s3,s4,h1,h2⟩=>exact ⟨s1,s2,s3,s4,h1,h2.ext x⟩
 | 1,h=>exact h
 | 2,h=>exact h
 | 3,h=>exact h
 | 4,h=>exact h
 | 5,h=>exact h
 | 6,⟨s1,s2,s3,s4,h1,h2⟩=>exact ⟨s1,s2,s3,s4,h1,h2.ext x⟩
 | 7,h=>exact h
 | 8,h=>exact h
 | 9,h=>exact h
 | 10,h=>exact h
 | 11,h=>exact h
 | 12,h=>exact h
 | 13,h=>exact h
 | 14,h=>exact h
 | 15,h=>exact h
 | 16,h=>exact h
 | 17,⟨s1,s2,s3,s4,h1,h2⟩=>exact ⟨s1,s2,s3,s4,h1,h2.ext x⟩
 | 18,⟨s1,s2,s3,s4,h1,h2⟩=>exact ⟨s1,s2,s3,s4,h1,h2.ext x⟩
 | 19,⟨s1,s2,s3,s4,h1,h2⟩=>exact ⟨s1,s2,s3,s4,h1,h2.ext x⟩
 | _+20,_=>trivial
def lsK (xb an:Nat) (c d s t u:RR) (B:Nat) (j:Nat) (v:Value) (W:World):Prop:=
 match j with
 | 0=>v=.pointer (some ⟨xb,0,none⟩)
 | 1=>∃ s1 s2 s3 s4,v=.agg #[.bool c.neg,.slice s1 c.num.length s2,.slice s3 c.den.length s4]∧RdR W (.agg #[.bool c.neg,.slice s1 c.num.length s2,.slice s3 c.den.length s4]) c
 | 2=>v=.pointer (some ⟨an,0,none⟩)
 | 3=>∃ s1 s2 s3 s4,v=.agg #[.bool d.neg,.slice s1 d.num.length s2,.slice s3 d.den.length s4]∧RdR W (.agg #[.bool d.neg,.slice s1 d.num.length s2,.slice s3 d.den.length s4]) d
 | 4=>∃ s1 s2 s3 s4,v=.agg #[.bool s.neg,.slice s1 s.num.length s2,.slice s3 s.den.length s4]∧RdR W (.agg #[.bool s.neg,.slice s1 s.num.length s2,.slice s3 s.den.length s4]) s
 | 5=>∃ s1 s2 s3 s4,v=.agg #[.bool t.neg,.slice s1 t.num.length s2,.slice s3 t.den.length s4]∧RdR W (.agg #[.bool t.neg,.slice s1 t.num.length s2,.slice s3 t.den.length s4]) t
 | 6=>∃ s1 s2 s3 s4,v=.agg #[.bool u.neg,.slice s1 u.num.length s2,.slice s3 u.den.length s4]∧RdR W (.agg #[.bool u.neg,.slice s1 u.num.length s2,.slice s3 u.den.length s4]) u
 | 7=>∃ b,v=.pointer (some ⟨b,0,none⟩)∧B≤b∧Blk W b #[.bool false,.slice none 0 0,.slice none 0 0] 25
 | _=>True
theorem lsK_ext {xb an:Nat} {c d s t u:RR} {B:Nat} {j:Nat} {v:Value} {W W':World} (h:lsK xb an c d s t u B j v W) (x:Ext W W'):lsK xb an c d s t u B j v W':=by
 match j,h with
 | 0,h=>exact h
 | 1,⟨s1,s2,s3,s4,h1,h2⟩=>exact ⟨s1,s2,s3,s4,h1,h2.ext x⟩
 | 2,h=>exact h
 | 3,⟨s1,s2,s3,s4,h1,h2⟩=>exact ⟨s1,s2,s3,s4,h1,h2.ext x⟩
 | 4,⟨s1,s2,s3,s4,h1,h2⟩=>exact ⟨s1,s2,s3,s4,h1,h2.ext x⟩
 | 5,⟨s1,s2,s3,s4,h1,h2⟩=>exact ⟨s1,s2,s3,s4,h1,h2.ext x⟩
 | 6,⟨s1,s2,s3,s4,h1,h2⟩=>exact ⟨s1,s2,s3,s4,h1,h2.ext x⟩
 | 7,⟨b,h0,h1,h2⟩=>exact ⟨b,h0,h1,h2.ext x⟩
 | _+8,_=>trivial
theorem least0_any (mv vv:Value) (m:MD) (v:List RR) (s:Nat) (w:World) (hm:RdM w mv m) (hv:RdRs w vv v) (hs:s < v.length) :
  Calls Tryz.prog 28 #[mv,vv,.int .i64 0,.int .i64 (s:Nat)] w fun e w'=>(∃ z,e=.returned z∧RdR w' z (v.getD s zR))∧Ext w w':=by
 obtain ⟨m1,n1,m2,n2,m3,n3,rfl,-,-⟩:=hm;obtain ⟨av,cv,rfl,hc,hcm,f,hr⟩:=hv.get;obtain ⟨b,off,rfl,hb,x0,x1,x2,hrd⟩:=hr s hs;obtain ⟨r,hrr⟩:=gN (v.getD s zR)
 obtain ⟨ff,hff⟩:=gN (f s)
 rw [← hff,← hrr] at x1 x2 hrd;rw [← hrr] at x0 ⊢;obtain ⟨⟨p1,d1⟩,⟨p2,d2⟩⟩:=ff;dsimp only at x1 x2 hrd;have CR:=kI hrd;have CC:=kI (show b < w.heap.size∧w.cell? ⟨b,off+s*3,none⟩=some (.bool r.neg)∧w.cell? ⟨b,off+s*3+1,none⟩=some (.slice p1 r.num.length d1)∧w.cell? ⟨b,off+s*3+2,none⟩=some (.slice p2 r.den.length d2) from ⟨hb,x0,x1,x2⟩);have q1:(0:Int)≤(s:Int):=by omega
 have q2:(s:Int) < (v.length:Int):=by omega
 clear hv hr hb x0 x1 x2 hrd hrr hff hc;have bb0:=((Blk.new w #[.bool m.disc.neg,.slice m1 m.disc.num.length n1,.slice m2 m.disc.den.length n2,.slice m3 m.states.length n3] 28).alloc (.cells #[.bool false,.slice none 0 0,.slice none 0 0] 25));have bb1:=(Blk.new (w.alloc (.cells #[.bool m.disc.neg,.slice m1 m.disc.num.length n1,.slice m2 m.disc.den.length n2,.slice m3 m.states.length n3] 28)) #[.bool false,.slice none 0 0,.slice none 0 0] 25);rw [World.size_alloc] at bb1;have x0:Ext w ((w.alloc (.cells #[.bool m.disc.neg,.slice m1 m.disc.num.length n1,.slice m2 m.disc.den.length n2,.slice m3 m.states.length n3] 28)).alloc (.cells #[.bool false,.slice none 0 0,.slice none 0 0] 25)):=(((Ext.refl w).alloc _).alloc _);have A0:=kI bb0;have A1:=kI bb1;have X:=kI x0;clear x0 bb0 bb1;go_enter Tryz.func28,Tryz.ntmps28
 have y0:=(X.o.cell (p:=⟨b,off+s*3,none⟩) CC.o.1).trans CC.o.2.1;have y1:=(X.o.cell (p:=⟨b,off+s*3+1,none⟩) CC.o.1).trans CC.o.2.2.1;have y2:=(X.o.cell (p:=⟨b,off+s*3+2,none⟩) CC.o.1).trans CC.o.2.2.2;have yl:=Nat.lt_of_lt_of_le CC.o.1 X.o.size;obtain ⟨qA1,fA1,lA1⟩:=A1.o.q3;go_wp2_with fail;clear qA1 fA1 lA1;refine bodyPost_ret (v:=.agg #[.bool r.neg,.slice p1 r.num.length d1,.slice p2 r.den.length d2]) (by simp only [results,Tryz.results28];go_simp) rfl ⟨⟨_,rfl,CR.o.ext (((Ext.refl _).alloc _).alloc _)⟩,((Ext.refl _).alloc _).alloc _⟩
theorem leastS_any (mv vv:Value) (m:MD) (v:List RR) (j:Nat) (kk:Int) (s:Nat) (w:World) (hkk:kk=(j:Int)+1) (hj:j≤1000) (hm:RdM w mv m) (hv:RdRs w vv v) (hs:s < m.states.length) (hlm:LimM m) (hlv:LimL v) (hE:stgE m v (j+1)=0)
  (ih:∀ (t:Nat) (W:World),t < m.states.length→RdM W mv m→RdRs W vv v→Calls Tryz.prog 28 #[mv,vv,.int .i64 (j:Nat),.int .i64 (t:Nat)] W fun e w'=>(∃ z,e=.returned z∧RdR w' z ((stgV m v j).getD t zR))∧Ext W w') :
  Calls Tryz.prog 28 #[mv,vv,.int .i64 kk,.int .i64 (s:Nat)] w fun e w'=>(∃ z,e=.returned z∧RdR w' z ((stgV m v (j+1)).getD s zR))∧Ext w w':=by
 have HM:=kI hm;have HV:=kI hv;have HLM:=kI hlm;have hvl:LimL (stgV m v j):=stgV_lim hlv j;obtain ⟨hmv,hst,hsc⟩:=stg_at hE hs;have hmd:=(mv_valid hmv).1;have hvlen:=(mv_valid hmv).2;obtain ⟨V,hV⟩:=gN (stgV m v j)
 rw [← hV] at hvl hst hsc ih hvlen;rw [hst];have IH:=kI ih;have HVL:=kI hvl;have HSC:=kI hsc;have HMD:=kI hmd;have HVN:=kI hvlen;obtain ⟨m1,n1,m2,n2,m3,n3,rfl,hmdd,hms⟩:=hm;obtain ⟨gb,go',g1,gc,rfl,hgb⟩:=hms.at hs;have DD:=kI hmdd;have GS:=kI hgb;obtain ⟨av,cv,rfl,-,-,-⟩:=hv.get;obtain ⟨ac,hac⟩:=gN (m.states.getD s [])
 rw [← hac] at GS;have hstv:=(st_valid ((md_valid hmd).2.2.2 s hs));rw [← hac] at hstv;have HAC:=kI hac;have HSTV:=kI hstv;obtain ⟨row,hrow⟩:=gN (rowS m V (m.states.getD s []))
 rw [← hrow];obtain ⟨fv,hfv⟩:=gN (row.getD (bestI row) zR)
 rw [← hfv];have HFV:=kI hfv;clear hfv;have HROW:=kI hrow;have hk1:wrap64 (kk - 1)=(j:Int):=by rw [hkk];unfold wrap64;omega
 have hk0:(kk == 0)=false:=by rw [hkk];simp;omega
 have HK1:=kI hk1;have HSS:=kI hs;have q1:(0:Int)≤(s:Int):=by omega
 have q2:(s:Int) < (m.states.length:Int):=by omega
 have hss8:=(md_valid hmd).2.2.1;clear hv hlv hvl hst hsc ih hmd hmdd hms hgb hV hac hstv hrow hkk hk1 hvlen hmv hlm hE hs;have bb0:=((Blk.new w #[.bool m.disc.neg,.slice m1 m.disc.num.length n1,.slice m2 m.disc.den.length n2,.slice (some ⟨gb,go',none⟩) m.states.length n3] 28).alloc (.cells #[.bool false,.slice none 0 0,.slice none 0 0] 25));have bb1:=(Blk.new (w.alloc (.cells #[.bool m.disc.neg,.slice m1 m.disc.num.length n1,.slice m2 m.disc.den.length n2,.slice (some ⟨gb,go',none⟩) m.states.length n3] 28)) #[.bool false,.slice none 0 0,.slice none 0 0] 25);rw [World.size_alloc] at bb1;have x0:Ext w ((w.alloc (.cells #[.bool m.disc.neg,.slice m1 m.disc.num.length n1,.slice m2 m.disc.den.length n2,.slice (some ⟨gb,go',none⟩) m.states.length n3] 28)).alloc (.cells #[.bool false,.slice none 0 0,.slice none 0 0] 25)):=(((Ext.refl w).alloc _).alloc _);have A0:=kI bb0;have A1:=kI bb1;have X:=kI x0;clear x0 bb0 bb1;go_enter Tryz.func28,Tryz.ntmps28
 go_wp2_with fail;obtain ⟨w1,hw1⟩:=gN (((w.alloc (.cells #[.bool m.disc.neg,.slice m1 m.disc.num.length n1,.slice m2 m.disc.den.length n2,.slice (some ⟨gb,go',none⟩) m.states.length n3] 28)).alloc (.cells #[.bool false,.slice none 0 0,.slice none 0 0] 25)))
 rw [← hw1] at A0 A1 X ⊢;obtain ⟨an,han⟩:=gN (w.heap.size)
 rw [← han] at A0 A1 ⊢;have AN:=kI han;have hsz:w1.heap.size=an+1+1:=by rw [hw1,World.size_alloc,World.size_alloc,han]
 clear hw1 han;obtain ⟨bb,hbb⟩:=gN (an+1+1)
 have hx:Ext w1 (w1.alloc (.cells #[.bool false,.slice none 0 0,.slice none 0 0] 25)):=(Ext.refl w1).alloc _;have hz0:SumB (w1.alloc (.cells #[.bool false,.slice none 0 0,.slice none 0 0] 25)) bb 25 (bstA row 0):=⟨none,0,none,0,by rw [hbb,← hsz];exact Blk.new _ _ _,(NewR.zero w1 (w1.alloc (.cells #[.bool false,.slice none 0 0,.slice none 0 0] 25))).rd⟩;obtain ⟨w2,hw2⟩:=gN (w1.alloc (.cells #[.bool false,.slice none 0 0,.slice none 0 0] 25))
 rw [← hw2] at hz0 hx ⊢;rw [← hbb];have SB0:=kI hz0;have X2:=kI hx;have BB:Hid (bb=w1.heap.size):=kI (hbb.trans hsz.symm);clear hz0 hx hw2 hbb hk0 hsz;go_loopw [10] (fun i wr=>∃ a:Nat,a≤ac.length∧i=.int .i64 a∧SumB wr bb 25 (bstA row a)∧Ext w1 wr) (fun i _=>ac.length - (intOf i).toNat)
 case atStart=>exact ⟨0,Nat.zero_le _,rfl,SB0.o,X2.o⟩
 case round=>
  clear SB0 X2;obtain ⟨wk,hwk⟩:=gN (wr)
  subst hwk;obtain ⟨a,ha,rfl,hsb,hxk⟩:=hrel;have XK:=kI hxk;have SB:=kI hsb;have ak:=A0.o.ext hxk;have AK:=kI ak;have a0:=ak.cell;have a1:=ak.free;have a2:=ak.lt;have gk:=GS.o.ext (X.o.trans hxk);have GK:=kI gk;have s1:=gk.1;have s2:=gk.2.1;have s3:ac.length≤6:=HSTV.o.2.1;clear hxk hsb ak gk;by_cases hlt:a < ac.length
  ·obtain ⟨xb0,xo,p1,d1,p2,d2,p3,d3,rfl,hxa⟩:=GK.o.2.2.at hlt;have hact:ac.getD a dA=m.act s a:=by rw [HAC.o];rfl
   have hav:=md_act HMD.o HSS.o (a:=a) (by rw [← HAC.o];exact hlt);have hsc:=HSC.o a (by rw [← HAC.o];exact hlt);have hra:row.getD a zR=(scoreS m V (m.act s a)).1:=by rw [HROW.o,rowS_at (by rw [← HAC.o];exact hlt)];rfl
   have hlx:=HLM.o.2 s a;rw [hact] at hxa;obtain ⟨x,hx⟩:=gN (m.act s a)
   rw [← hx] at hxa hav hsc hra hlx;have HAV:=kI hav;have HS2:=kI (score_small hsc);have HRA:=kI hra;have HLX:=kI hlx;obtain ⟨⟨x0,x1,x2,x3,xr⟩,x4,xo5⟩:=hxa;have XR:=kI xr;have XO:=kI xo5;have q3:(a:Int) < (ac.length:Int):=by omega
   have q4:(0:Int)≤(a:Int):=by omega
   have hxn:x.next.length≤64:=(act_valid hav).2.2.1;have HXN:=kI hxn;clear hav hsc hra hlx hx hact xr xo5 hxn;go_wp2_with fail;clear a0 a1 a2 x0 x1 x2 x3 x4 s1 s2 q3 q4;obtain ⟨xb,hxb⟩:=gN (wk.heap.size)
   have bx0:=Blk.new wk #[.bool x.cost.neg,.slice p1 x.cost.num.length d1,.slice p2 x.cost.den.length d2,.slice p3 x.next.length d3] 62;have hx:Ext wk (wk.alloc (.cells #[.bool x.cost.neg,.slice p1 x.cost.num.length d1,.slice p2 x.cost.den.length d2,.slice p3 x.next.length d3] 62)):=(Ext.refl wk).alloc _;obtain ⟨wx,hwx⟩:=gN (wk.alloc (.cells #[.bool x.cost.neg,.slice p1 x.cost.num.length d1,.slice p2 x.cost.den.length d2,.slice p3 x.next.length d3] 62))
   rw [← hwx,← hxb] at bx0;rw [← hwx] at hx ⊢;rw [← hxb];have XB:=kI bx0;have XX:=kI (XK.o.trans hx);have SBx:=kI (SB.o.ext hx);have XRx:=kI (XR.o.ext hx);have XOx:=kI (XO.o.ext hx);have AX:=kI (AK.o.ext hx);have hsx:wx.heap.size=xb+1:=by rw [hwx,World.size_alloc,hxb]
   clear bx0 hxb hwx hx XK SB XR XO AK GK;obtain ⟨sb,hsb⟩:=gN (xb+1)
   have hx:Ext wx (wx.alloc (.cells #[.bool false,.slice none 0 0,.slice none 0 0] 25)):=(Ext.refl wx).alloc _;have hz0:SumB (wx.alloc (.cells #[.bool false,.slice none 0 0,.slice none 0 0] 25)) sb 25 (rep (pqF (prs x.next) (vls V x.next) 0)):=by rw [pqF_zero,rep_zero];exact ⟨none,0,none,0,by rw [hsb,← hsx];exact Blk.new _ _ _,(NewR.zero wx (wx.alloc (.cells #[.bool false,.slice none 0 0,.slice none 0 0] 25))).rd⟩
   obtain ⟨wy,hwy⟩:=gN (wx.alloc (.cells #[.bool false,.slice none 0 0,.slice none 0 0] 25))
   rw [← hwy] at hz0 hx ⊢;rw [← hsb];have SS0:=kI hz0;have XY:=kI hx;have SBN:Hid (sb=wx.heap.size):=kI (hsb.trans hsx.symm);clear hz0 hx hwy hsb hsx;go_loopw [13] (fun i wq=>∃ n:Nat,n≤x.next.length∧i=.int .i64 n∧SumB wq sb 25 (rep (pqF (prs x.next) (vls V x.next) n))∧Ext wx wq) (fun i _=>x.next.length - (intOf i).toNat)
   case atStart=>exact ⟨0,Nat.zero_le _,rfl,SS0.o,XY.o⟩
   case round=>
    clear SS0 XY;obtain ⟨wi,hwi⟩:=gN (wr)
    subst hwi;obtain ⟨i,hi,rfl,hsb,hxi⟩:=hrel;have XI:=kI hxi;have SI:=kI hsb;have xk:=XB.o.ext hxi;have XBI:=kI xk;have a0:=xk.cell;have a1:=xk.free;have a2:=xk.lt;have s4:=HXN.o;clear hxi hsb xk;by_cases hli:i < x.next.length
    ·have q3:(i:Int) < (x.next.length:Int):=by omega
     go_wp2_with fail;clear a0 a1 a2;obtain ⟨ob,oo,o1,e1,o2,e2,rfl,hoa⟩:=XOx.o.at hli;obtain ⟨k1,k2,k3,k4⟩:=HS2.o.2.1 i hli;have kv:=out_valid ((act_valid HAV.o).2.2.2.1 i hli);have hlo:=HLX.o.2 i;obtain ⟨yo,hyo⟩:=gN (x.next.getD i dO)
     rw [← hyo] at hoa k1 k2 k3 k4 kv hlo;obtain ⟨tn,htn⟩:∃ t:Nat,yo.1=(t:Int):=⟨yo.1.toNat,by omega⟩
     have htl:tn < m.states.length:=by have:=kv.2.1;omega
     have hto9:yo.1.toNat=tn:=by rw [htn];rfl
     rw [hto9] at k1 k3 k4;obtain ⟨tq,p⟩:=yo;dsimp only at htn hoa k1 k2 k3 k4 kv hlo;subst htn;obtain ⟨l,hl⟩:=gN (V.getD tn zR)
     have hll:LimR l:=by rw [hl];exact HVL.o tn (by rw [HVN.o];exact htl)
     rw [← hl] at k1 k3 k4;have hih:=fun W (h:RdM W _ m) (g:RdRs W _ v)=>IH.o tn W htl h g
     rw [← hl] at hih;obtain ⟨sq,hsq⟩:=gN (pqF (prs x.next) (vls V x.next) i)
     have hsm:=HS2.o.1 i hi;have hsm2:=HS2.o.1 (i+1) hli;rw [k4] at hsm2;rw [← hsq] at hsm hsm2 k4;have hsi:=SI.o;rw [← hsq] at hsi;have hprod:=fun W v1 v2 (f1:RdR W v1 p) (f2:RdR W v2 l)=>refProduct6_any v1 v2 (qv p) (qv l) W (by rw [rep_of hlo k2];exact f1) (by rw [rep_of hll k3];exact f2) (lenS (valid_small hlo k2)) (lenS (valid_small hll k3))
     have hsum:=fun W v1 v2 (f1:RdR W v1 (rep sq)) (f2:RdR W v2 (rep (qv p*qv l)))=>refSum6_any v1 v2 sq (qv p*qv l) W f1 f2 (lenS hsm) (lenS k1)
     rw [← k4] at hsum;have hnx:SumB wi sb 25 (rep sq):=hsi;obtain ⟨nu,hnu⟩:=gN (rep (pqF (prs x.next) (vls V x.next) (i+1)))
     obtain ⟨pt,hpt⟩:=gN (rep (qv p*qv l))
     obtain ⟨sm,hsm9⟩:=gN (rep sq)
     rw [← hnu,← hpt,← hsm9] at hsum;rw [← hpt] at hprod;rw [← hsm9] at hnx;have HPR:=kI hprod;have HSU:=kI hsum;have HIH:=kI hih;have NX:=kI hnx;have NU:=kI hnu;have OA:=kI hoa;have q4:(0:Int)≤(i:Int):=by omega
     clear k1 k2 k3 k4 kv hlo hl hll hih hsm hsm2 hsi hprod hsum hnx hnu hpt hsm9 hsq hyo hto9 hoa;obtain ⟨z1,z2,z3,z4,hz1,hz2⟩:=NX.o;have SBK:=kI hz1;have SBR:=kI hz2;clear hz1 hz2;refine wp_region_each_tail 20 (lsJ xb ob oo i x.next.length (some ⟨ob,oo,none⟩) d3 av v.length cv kk j tn sm p l pt nu m m1 n1 m2 n2 (some ⟨gb,go',none⟩) n3) (by kernel_rfl) (by kernel_rfl) (by kernel_rfl) (fun _ _ _ _ h x=>lsJ_ext h x) ?_ ?_
     ·refine ⟨?_,?_,?_,?_,?_,?_,?_,?_,?_,?_,?_,?_,?_,?_,?_,?_,?_,?_,?_,?_,trivial⟩
      ·intro a W hW hB hD K hK;have b12:=hB 12 rfl;simp only [sB] at b12;have q9:=(SBK.o.ext hW).cell;have l9:=(SBK.o.ext hW).lt;go_simp;exact hK _ _ (Ext.refl _) ⟨_,_,_,_,rfl,SBR.o.ext hW⟩
      ·intro a W hW hB hD K hK;have b11:=hB 11 rfl;simp only [sB] at b11;go_simp;exact hK _ _ (Ext.refl _) rfl
      ·intro a W hW hB hD K hK;obtain ⟨v48,e48,h48⟩:=dpE (hD 1 _ 48 rfl rfl (by kernel_rfl));obtain rfl:=h48;have q9:=(XBI.o.ext hW).cell;have l9:=(XBI.o.ext hW).lt;go_simp;exact hK _ _ (Ext.refl _) rfl
      ·intro a W hW hB hD K hK;have b13:=hB 13 rfl;simp only [sB] at b13;go_simp;exact hK _ _ (Ext.refl _) rfl
      ·intro a W hW hB hD K hK;obtain ⟨v49,e49,h49⟩:=dpE (hD 2 _ 49 rfl rfl (by kernel_rfl));obtain rfl:=h49;obtain ⟨v50,e50,h50⟩:=dpE (hD 3 _ 50 rfl rfl (by kernel_rfl));obtain rfl:=h50;go_simp;exact hK _ _ (Ext.refl _) rfl
      ·intro a W hW hB hD K hK;obtain ⟨v51,e51,h51⟩:=dpE (hD 4 _ 51 rfl rfl (by kernel_rfl));obtain rfl:=h51;go_simp;exact hK _ _ (Ext.refl _) rfl
      ·intro a W hW hB hD K hK;obtain ⟨v52,e52,h52⟩:=dpE (hD 5 _ 52 rfl rfl (by kernel_rfl));obtain rfl:=h52;have oa:=OA.o.ext (XI.o.trans hW);obtain ⟨m9,m0,m1',m2',m3',mr⟩:=oa;go_simp;exact hK _ _ (Ext.refl _) ⟨_,_,_,_,rfl,mr⟩
      ·intro a W hW hB hD K hK;have b4:=hB 4 rfl;simp only [sB] at b4;have q9:=(AX.o.ext (XI.o.trans hW)).cell;have l9:=(AX.o.ext (XI.o.trans hW)).lt;go_simp;exact hK _ _ (Ext.refl _) rfl
      ·intro a W hW hB hD K hK;have b1:=hB 1 rfl;simp only [sB] at b1;go_simp;exact hK _ _ (Ext.refl _) rfl
      ·intro a W hW hB hD K hK;have b2:=hB 2 rfl;simp only [sB] at b2;go_simp;exact hK _ _ (Ext.refl _) rfl
      ·intro a W hW hB hD K hK;obtain ⟨v56,e56,h56⟩:=dpE (hD 9 _ 56 rfl rfl (by kernel_rfl));obtain rfl:=h56;go_simp;exact hK _ _ (Ext.refl _) (show Value.int .i64 (IntKind.i64.wrap (kk - 1))=.int .i64 (j:Int) by have h:=HK1.o;unfold wrap64 at h;rw [IntKind.wrap_i64,h])
      ·intro a W hW hB hD K hK;have b11:=hB 11 rfl;simp only [sB] at b11;go_simp;exact hK _ _ (Ext.refl _) rfl
      ·intro a W hW hB hD K hK;obtain ⟨v58,e58,h58⟩:=dpE (hD 11 _ 58 rfl rfl (by kernel_rfl));obtain rfl:=h58;have q9:=(XBI.o.ext hW).cell;have l9:=(XBI.o.ext hW).lt;go_simp;exact hK _ _ (Ext.refl _) rfl
      ·intro a W hW hB hD K hK;have b13:=hB 13 rfl;simp only [sB] at b13;go_simp;exact hK _ _ (Ext.refl _) rfl
      ·intro a W hW hB hD K hK;obtain ⟨v59,e59,h59⟩:=dpE (hD 12 _ 59 rfl rfl (by kernel_rfl));obtain rfl:=h59;obtain ⟨v60,e60,h60⟩:=dpE (hD 13 _ 60 rfl rfl (by kernel_rfl));obtain rfl:=h60;go_simp;exact hK _ _ (Ext.refl _) rfl
      ·intro a W hW hB hD K hK;obtain ⟨v61,e61,h61⟩:=dpE (hD 14 _ 61 rfl rfl (by kernel_rfl));obtain rfl:=h61;go_simp;exact hK _ _ (Ext.refl _) rfl
      ·intro a W hW hB hD K hK;obtain ⟨v62,e62,h62⟩:=dpE (hD 15 _ 62 rfl rfl (by kernel_rfl));obtain rfl:=h62;have oa:=OA.o.ext (XI.o.trans hW);obtain ⟨m9,m0,m1',m2',m3',mr⟩:=oa;go_simp;exact hK _ _ (Ext.refl _) rfl
      ·intro a W hW hB hD K hK;obtain ⟨v54,e54,h54⟩:=dpE (hD 7 _ 54 rfl rfl (by kernel_rfl));obtain rfl:=h54;obtain ⟨v55,e55,h55⟩:=dpE (hD 8 _ 55 rfl rfl (by kernel_rfl));obtain rfl:=h55;obtain ⟨v57,e57,h57⟩:=dpE (hD 10 _ 57 rfl rfl (by kernel_rfl));obtain rfl:=h57;obtain ⟨v63,e63,h63⟩:=dpE (hD 16 _ 63 rfl rfl (by kernel_rfl));obtain rfl:=h63;go_simp;refine (HIH.o W (HM.o.ext (X.o.trans (XX.o.trans (XI.o.trans hW)))) (HV.o.ext (X.o.trans (XX.o.trans (XI.o.trans hW))))).mono ?_;rintro e w9 ⟨⟨z,rfl,hz⟩,hx⟩;obtain ⟨y1,y2,y3,y4,rfl⟩:=hz.shape;exact hK _ _ hx ⟨_,_,_,_,rfl,hz⟩
      ·intro a W hW hB hD K hK;obtain ⟨v53,e53,h53⟩:=dpE (hD 6 _ 53 rfl rfl (by kernel_rfl));obtain ⟨d1,d2,d3,d4,rfl,dh⟩:=h53;obtain ⟨v64,e64,h64⟩:=dpE (hD 17 _ 64 rfl rfl (by kernel_rfl));obtain ⟨e1,e2,e3,e4,rfl,eh⟩:=h64;go_simp;refine (HPR.o _ _ _ dh eh).mono ?_;rintro e w9 ⟨⟨z,rfl,nn⟩,hx⟩;obtain ⟨y1,y2,y3,y4,rfl⟩:=nn.shape;exact hK _ _ hx ⟨_,_,_,_,rfl,nn.rd⟩
      ·intro a W hW hB hD K hK;obtain ⟨v47,e47,h47⟩:=dpE (hD 0 _ 47 rfl rfl (by kernel_rfl));obtain ⟨d1,d2,d3,d4,rfl,dh⟩:=h47;obtain ⟨v65,e65,h65⟩:=dpE (hD 18 _ 65 rfl rfl (by kernel_rfl));obtain ⟨e1,e2,e3,e4,rfl,eh⟩:=h65;go_simp;refine (HSU.o _ _ _ dh eh).mono ?_;rintro e w9 ⟨⟨z,rfl,nn⟩,hx⟩;obtain ⟨y1,y2,y3,y4,rfl⟩:=nn.shape;exact hK _ _ hx ⟨_,_,_,_,rfl,nn.rd⟩
     intro w5 hx;simp only [Vals,List.take_succ_cons,List.take_zero,List.drop_succ_cons,List.drop_zero];rintro u0 - u1 - u2 - u3 - u4 - u5 - u6 - u7 - u8 - u9 - u10 - u11 - u12 - u13 - u14 - u15 - u16 - u17 - u18 - u19 h19;obtain ⟨t1,t2,t3,t4,rfl,ht⟩:=h19;simp only [Act.put,List.setIfInBounds_toArray,List.set_cons_zero,List.set_cons_succ];have S5:=kI (NX.o.ext hx);have K5:=kI (SBK.o.ext hx);have HT:=kI ht;replace XI:=kI (XI.o.trans hx);clear hx ht SBK SBR NX XBI OA HIH HPR HSU SI;have b0:=K5.o.cell;have b1:=K5.o.free;have b2:=K5.o.lt;go_wp2_with fail;clear b0 b1 b2;have hsb:=sumB_set S5.o HT.o;have hxx:=ext_set3 (x:=.bool nu.neg) (y:=.slice t1 nu.num.length t2) (z:=.slice t3 nu.den.length t4) (b:=sb) XI.o (Nat.le_of_eq SBN.o.symm);have hnu:=NU.o;go_roundw
     case rel=>exact ⟨i+1,hli,by go_num,by rw [← hnu];exact hsb,hxx⟩
     case measure=>simp [intOf];omega
    ·obtain rfl:i=x.next.length:=by omega
     have q3:¬ ((x.next.length:Int) < (x.next.length:Int)):=by omega
     go_wp2_with fail;clear a0 a1 a2 s4;obtain ⟨k1,k2,k3,k4,k5,k6⟩:=HS2.o;have hlc:LimR x.cost:=HLX.o.1;have hdc:chkR m.disc=0:=(md_valid HMD.o).1;have hld:=HLM.o.1;have hsm:=k1 _ (Nat.le_refl _);obtain ⟨sq,hsq⟩:=gN (pqF (prs x.next) (vls V x.next) x.next.length)
     rw [← hsq] at k4 k5 k6 hsm;have hsi:=SI.o;rw [← hsq] at hsi;have hprod:=fun W v1 v2 (f1:RdR W v1 m.disc) (f2:RdR W v2 (rep sq))=>refProduct6_any v1 v2 (qv m.disc) sq W (by rw [rep_of hld hdc];exact f1) f2 (lenS (valid_small hld hdc)) (lenS hsm)
     have hsum:=fun W v1 v2 (f1:RdR W v1 x.cost) (f2:RdR W v2 (rep (qv m.disc*sq)))=>refSum6_any v1 v2 (qv x.cost) (qv m.disc*sq) W (by rw [rep_of hlc k3];exact f1) f2 (lenS (valid_small hlc k3)) (lenS k4)
     obtain ⟨yq,hyq⟩:=gN (qv x.cost+qv m.disc*sq)
     rw [← hyq] at hsum k5 k6;have hry:row.getD a zR=rep yq:=HRA.o.trans k6;obtain ⟨nu,hnu⟩:=gN (rep yq)
     obtain ⟨pt,hpt⟩:=gN (rep (qv m.disc*sq))
     obtain ⟨sm,hsm9⟩:=gN (rep sq)
     rw [← hnu,← hpt] at hsum;rw [← hpt,← hsm9] at hprod;rw [← hsm9] at hsi;have HPR:=kI hprod;have HSU:=kI hsum;have NU:=kI hnu;have HRY:=kI hry;have K5:=kI k5;obtain ⟨z1,z2,z3,z4,hz1,hz2⟩:=hsi;have SBK:=kI hz1;have SBR:=kI hz2;clear k1 k2 k3 k4 k5 k6 hlc hdc hld hsm hprod hsum hyq hnu hpt hsm9 hz1 hz2 hsq hry;obtain ⟨wq,hwq⟩:=gN (wi)
     have EQ:=kI hwq;clear hwq;refine wp_region_each_tail 8 (lsK xb an x.cost m.disc sm pt nu wi.heap.size) (by kernel_rfl) (by kernel_rfl) (by kernel_rfl) (fun _ _ _ _ h x=>lsK_ext h x) ?_ ?_
     ·refine ⟨?_,?_,?_,?_,?_,?_,?_,?_,trivial⟩
      ·intro a W hW hB hD K hK;have b11:=hB 11 rfl;simp only [sB] at b11;go_simp;exact hK _ _ (Ext.refl _) rfl
      ·intro a W hW hB hD K hK;obtain ⟨v67,e67,h67⟩:=dpE (hD 0 _ 67 rfl rfl (by kernel_rfl));obtain rfl:=h67;have q9:=(XBI.o.ext hW).cell;have l9:=(XBI.o.ext hW).lt;go_simp;exact hK _ _ (Ext.refl _) ⟨_,_,_,_,rfl,XRx.o.ext (XI.o.trans hW)⟩
      ·intro a W hW hB hD K hK;have b4:=hB 4 rfl;simp only [sB] at b4;go_simp;exact hK _ _ (Ext.refl _) rfl
      ·intro a W hW hB hD K hK;obtain ⟨v69,e69,h69⟩:=dpE (hD 2 _ 69 rfl rfl (by kernel_rfl));obtain rfl:=h69;have q9:=(AX.o.ext (XI.o.trans hW)).cell;have l9:=(AX.o.ext (XI.o.trans hW)).lt;go_simp;exact hK _ _ (Ext.refl _) ⟨_,_,_,_,rfl,DD.o.ext (X.o.trans (XX.o.trans (XI.o.trans hW)))⟩
      ·intro a W hW hB hD K hK;have b12:=hB 12 rfl;simp only [sB] at b12;have q9:=(SBK.o.ext hW).cell;have l9:=(SBK.o.ext hW).lt;go_simp;exact hK _ _ (Ext.refl _) ⟨_,_,_,_,rfl,SBR.o.ext hW⟩
      ·intro a W hW hB hD K hK;obtain ⟨v70,e70,h70⟩:=dpE (hD 3 _ 70 rfl rfl (by kernel_rfl));obtain ⟨d1,d2,d3,d4,rfl,dh⟩:=h70;obtain ⟨v71,e71,h71⟩:=dpE (hD 4 _ 71 rfl rfl (by kernel_rfl));obtain ⟨e1,e2,e3,e4,rfl,eh⟩:=h71;go_simp;refine (HPR.o _ _ _ dh eh).mono ?_;rintro e w9 ⟨⟨z,rfl,nn⟩,hx⟩;obtain ⟨y1,y2,y3,y4,rfl⟩:=nn.shape;exact hK _ _ hx ⟨_,_,_,_,rfl,nn.rd⟩
      ·intro a W hW hB hD K hK;obtain ⟨v68,e68,h68⟩:=dpE (hD 1 _ 68 rfl rfl (by kernel_rfl));obtain ⟨d1,d2,d3,d4,rfl,dh⟩:=h68;obtain ⟨v72,e72,h72⟩:=dpE (hD 5 _ 72 rfl rfl (by kernel_rfl));obtain ⟨e1,e2,e3,e4,rfl,eh⟩:=h72;go_simp;refine (HSU.o _ _ _ dh eh).mono ?_;rintro e w9 ⟨⟨z,rfl,nn⟩,hx⟩;obtain ⟨y1,y2,y3,y4,rfl⟩:=nn.shape;exact hK _ _ hx ⟨_,_,_,_,rfl,nn.rd⟩
      ·intro a W hW hB hD K hK;go_simp;exact hK _ _ ((Ext.refl _).alloc _) ⟨_,rfl,hW.size,Blk.new _ _ _⟩
     intro w5 hx;simp only [Vals,List.take_succ_cons,List.take_zero,List.drop_succ_cons,List.drop_zero];rintro u0 - u1 - u2 - u3 - u4 - u5 - u6 h6 u7 h7;obtain ⟨t1,t2,t3,t4,rfl,ht⟩:=h6;obtain ⟨yb,rfl,hyb,hbb⟩:=h7;simp only [Act.put,List.setIfInBounds_toArray,List.set_cons_zero,List.set_cons_succ];have S5:=kI (SBx.o.ext (XI.o.trans hx));have HT:=kI ht;have YB:=kI hbb;have HYB:=kI hyb;have X5:=kI (XX.o.trans (XI.o.trans hx));have YLT:=kI (Nat.lt_of_lt_of_le (show bb < wx.heap.size from by obtain ⟨_,_,_,_,h,_⟩:=SBx.o;exact h.lt) (Nat.le_trans XI.o.size hyb));clear hx ht hbb hyb SBK SBR XBI HPR HSU SI SBx EQ XI XB XRx XOx AX XX;by_cases h0:a=0
     ·have b0:=YB.o.cell;have b1:=YB.o.free;have b2:=YB.o.lt;obtain ⟨z1,z2,z3,z4,hz1,hz2⟩:=S5.o;have c0:=hz1.cell;have c1:=hz1.free;have c2:=hz1.lt;have n7:=Nat.ne_of_lt YLT.o;have q5:((a:Int) == 0)=true:=by rw [h0];rfl
      clear hz1 hz2;go_wp2_with fail;clear b0 b1 b2 c0 c1 c2 n7;have hbs:bstA row (a+1)=nu:=by rw [bstA_succ,if_pos (Or.inl h0)];exact HRY.o.trans NU.o.symm
      have hbo:=(show SumB w5 yb 25 zR from ⟨none,0,none,0,YB.o,(NewR.zero w5 w5).rd⟩);obtain ⟨c9,hp9⟩:=hbo.put3 (q:=nu.neg) (a1:=t1) (n1:=nu.num.length) (c1:=t2) (a2:=t3) (n2:=nu.den.length) (c2:=t4) (o:=0);have hsb:=sumB_set (hp9.sum S5.o (Nat.ne_of_lt YLT.o)) (hp9.rdR HT.o);have hxx:=ext_set3 (x:=.bool nu.neg) (y:=.slice t1 nu.num.length t2) (z:=.slice t3 nu.den.length t4) (b:=bb) (ext_set3 (x:=.bool nu.neg) (y:=.slice t1 nu.num.length t2) (z:=.slice t3 nu.den.length t4) (b:=yb) X5.o (Nat.le_trans (Nat.le_of_eq BB.o.symm) (Nat.le_of_lt YLT.o))) (Nat.le_of_eq BB.o.symm);go_roundw
      case rel=>exact ⟨a+1,hlt,by go_num,by rw [hbs];exact hsb,hxx⟩
      case measure=>simp [intOf];omega
     ·obtain ⟨bq,hbq,hbs9⟩:∃ bq,bstA row a=rep bq∧small bq:=by
       have hb:=bestK_lt (l:=row) (show 0 < a by omega);have hkey:∀ i,i < ac.length→row.getD i zR=(scoreS m V (m.act s i)).1:=fun i hi=>by rw [HROW.o,rowS_at (by rw [← HAC.o];exact hi)];rfl
       have e1:=hkey (bestK row a) (by omega);have e2:=score_small (HSC.o (bestK row a) (by rw [← HAC.o];omega));exact ⟨_,by unfold bstA;rw [if_neg h0,e1];exact e2.2.2.2.2.2,e2.2.2.2.2.1⟩
      obtain ⟨bs,hbs8⟩:=gN (rep bq)
      rw [← hbs8] at hbq;rw [hbq] at S5;have hord:=fun W v1 v2 (f1:RdR W v1 nu) (f2:RdR W v2 bs)=>refOrder6_any v1 v2 yq bq W (by rw [← NU.o];exact f1) (by rw [← hbs8];exact f2) (lenS K5.o) (lenS hbs9)
      have HORD:=kI hord;have HBQ:=kI hbq;have HB8:=kI hbs8;clear hord hbq hbs8 hbs9;have b0:=YB.o.cell;have b1:=YB.o.free;have b2:=YB.o.lt;obtain ⟨z1,z2,z3,z4,hz1,hz2⟩:=S5.o;have c0:=hz1.cell;have c1:=hz1.free;have c2:=hz1.lt;have n7:=Nat.ne_of_lt YLT.o;have q5:((a:Int) == 0)=false:=by simp;omega
      go_wp2_with fail;have hbo:=(show SumB w5 yb 25 zR from ⟨none,0,none,0,YB.o,(NewR.zero w5 w5).rd⟩);obtain ⟨c9,hp9⟩:=hbo.put3 (q:=nu.neg) (a1:=t1) (n1:=nu.num.length) (c1:=t2) (a2:=t3) (n2:=nu.den.length) (c2:=t4) (o:=0);have hyb:=sumB_set hbo HT.o;have hrn:=hp9.rdR HT.o;have hs6:=hp9.sum S5.o (Nat.ne_of_lt YLT.o);have hrb:=hp9.rdR hz2;have hx6:=ext_set3 (x:=.bool nu.neg) (y:=.slice t1 nu.num.length t2) (z:=.slice t3 nu.den.length t4) (b:=yb) X5.o (Nat.le_trans (Nat.le_of_eq BB.o.symm) (Nat.le_of_lt YLT.o));obtain ⟨w6,hw6⟩:=gN ((((w5.setCell ⟨yb,0,none⟩ (.bool nu.neg)).setCell ⟨yb,1,none⟩ (.slice t1 nu.num.length t2)).setCell ⟨yb,2,none⟩ (.slice t3 nu.den.length t4)))
      have hbk:Blk w6 bb #[.bool bs.neg,.slice z1 bs.num.length z2,.slice z3 bs.den.length z4] 25:=by rw [hw6];exact Put3.blk hz1 (Nat.ne_of_lt YLT.o)
      have hyk:Blk w6 yb #[.bool nu.neg,.slice t1 nu.num.length t2,.slice t3 nu.den.length t4] 25:=by rw [hw6];exact YB.o.all3 _ _ _
      replace hrn:RdR w6 (.agg #[.bool nu.neg,.slice t1 nu.num.length t2,.slice t3 nu.den.length t4]) nu:=by rw [hw6];exact hrn
      replace hrb:RdR w6 (.agg #[.bool bs.neg,.slice z1 bs.num.length z2,.slice z3 bs.den.length z4]) bs:=by rw [hw6];exact hrb
      replace hs6:SumB w6 bb 25 bs:=by rw [hw6];exact hs6
      replace hx6:Ext w1 w6:=by rw [hw6];exact hx6
      rw [← hw6];have RN:=kI hrn;have RB:=kI hrb;have S6:=kI hs6;have X6:=kI hx6;have BK:=kI hbk;have YK:=kI hyk;clear b0 b1 b2 c0 c1 c2 n7 hbo hp9 hyb hrn hs6 hrb hx6 hw6 hbk hyk hz1 hz2 S5 X5 YB HT;refine (HORD.o _ _ _ RN.o RB.o).mono ?_;rintro e w7 ⟨rfl,hx⟩;replace RN:=kI (RN.o.ext hx);replace S6:=kI (S6.o.ext hx);replace X6:=kI (X6.o.trans hx);replace BK:=kI (BK.o.ext hx);replace YK:=kI (YK.o.ext hx);clear hx RB HORD q5;have hcv:qv (row.getD a zR)=yq:=by rw [HRY.o,qv_rep]
      have hcb:qv (bstA row a)=bq:=by rw [HBQ.o,HB8.o,qv_rep]
      by_cases hlt9:yq < bq
      ·rw [cmpQ_lt hlt9];have b0:=YK.o.cell;have b1:=YK.o.free;have b2:=YK.o.lt;have c0:=BK.o.cell;have c1:=BK.o.free;have c2:=BK.o.lt;have n7:=Nat.ne_of_lt YLT.o;go_wp2_with fail;clear b0 b1 b2 c0 c1 c2 n7;have hbs:bstA row (a+1)=nu:=by rw [bstA_succ,if_pos (Or.inr (by rw [hcv,hcb];exact hlt9))];exact HRY.o.trans NU.o.symm
       have hsb:=sumB_set S6.o RN.o;have hxx:=ext_set3 (x:=.bool nu.neg) (y:=.slice t1 nu.num.length t2) (z:=.slice t3 nu.den.length t4) (b:=bb) X6.o (Nat.le_of_eq BB.o.symm);go_roundw
       case rel=>exact ⟨a+1,hlt,by go_num,by rw [hbs];exact hsb,hxx⟩
       case measure=>simp [intOf];omega
      ·have hc0:0≤cmpQ yq bq:=by
        rcases cmpQ_cases yq bq with ⟨g,_⟩|⟨_,e⟩|⟨_,e⟩
        ·exact absurd g hlt9
        ·rw [e];decide
        ·rw [e];decide
       obtain ⟨cc,hcc⟩:=gN (cmpQ yq bq)
       rw [← hcc] at hc0 ⊢;have q6:¬ (cc < 0):=by omega
       clear hcc hc0;go_wp2_with fail;have hbs:bstA row (a+1)=bs:=by rw [bstA_succ,if_neg (fun h=>h.elim h0 (fun h=>hlt9 (by rw [hcv,hcb] at h;exact h)))];exact HBQ.o
       go_roundw
       case rel=>exact ⟨a+1,hlt,by go_num,by rw [hbs];exact S6.o,X6.o⟩
       case measure=>simp [intOf];omega
  ·obtain rfl:a=ac.length:=by omega
   have q3:¬ ((ac.length:Int) < (ac.length:Int)):=by omega
   obtain ⟨z1,z2,z3,z4,hz1,hz2⟩:=SB.o;have SBK:=kI hz1;have SBR:=kI hz2;have c0:=hz1.cell;have c1:=hz1.free;have c2:=hz1.lt;have RK:=kI (A1.o.ext XK.o);have r0:=RK.o.cell;have r1:=RK.o.free;have r2:=RK.o.lt;have n7:an+1≠bb:=by have:=A1.o.lt;have:=BB.o;omega
   clear hz1 hz2;go_wp2_with fail;clear c0 c1 c2 r0 r1 r2 n7;have hrow:bstA row ac.length=fv:=by
    rw [HFV.o];have hl:row.length=ac.length:=by rw [HROW.o,rowS_len,HAC.o]
    unfold bstA bestI;rw [if_neg HSTV.o.1,hl]
   obtain ⟨r,hr⟩:=gN (bstA row ac.length)
   rw [← hrow,← hr];rw [← hr] at SBK SBR;have hz0:SumB wk (an+1) 25 zR:=⟨none,0,none,0,RK.o,(NewR.zero wk wk).rd⟩;obtain ⟨c9,hp9⟩:=hz0.put3 (q:=r.neg) (a1:=z1) (n1:=r.num.length) (c1:=z2) (a2:=z3) (n2:=r.den.length) (c2:=z4) (o:=0);have hrd:=hp9.rdR SBR.o;have hxx:=ext_set3 (x:=.bool r.neg) (y:=.slice z1 r.num.length z2) (z:=.slice z3 r.den.length z4) (b:=an+1) (X.o.trans XK.o) (by have:=AN.o;omega);have hb6:=RK.o.all3 (.bool r.neg) (.slice z1 r.num.length z2) (.slice z3 r.den.length z4);obtain ⟨W6,hW6⟩:=gN ((((wk.setCell ⟨an+1,0,none⟩ (.bool r.neg)).setCell ⟨an+1,1,none⟩ (.slice z1 r.num.length z2)).setCell ⟨an+1,2,none⟩ (.slice z3 r.den.length z4)))
   have hrd':RdR W6 (.agg #[.bool r.neg,.slice z1 r.num.length z2,.slice z3 r.den.length z4]) r:=by rw [hW6];exact hrd
   rw [← hW6] at hb6 hxx ⊢;clear hW6 hrd hp9 hz0;have HRD:=kI hrd';have HXX:=kI hxx;clear hrd' hxx;refine bodyPost_ret (v:=.agg #[.bool r.neg,.slice z1 r.num.length z2,.slice z3 r.den.length z4]) (by have k1:=hb6.cell;have k2:=hb6.free;have k3:=hb6.lt;clear hb6;simp only [results,Tryz.results28];go_simp) rfl ⟨⟨_,rfl,HRD.o⟩,HXX.o⟩
theorem least22_any (mv vv:Value) (m:MD) (v:List RR) (hlm:LimM m) (hlv:LimL v):∀ (k:Nat),k≤1000→v.length=m.states.length→stgE m v k=0→∀ (s:Nat) (w:World),s < m.states.length→RdM w mv m→RdRs w vv v→
  Calls Tryz.prog 28 #[mv,vv,.int .i64 (k:Nat),.int .i64 (s:Nat)] w fun e w'=>(∃ z,e=.returned z∧RdR w' z ((stgV m v k).getD s zR))∧Ext w w'
 | 0,_,hl,_,s,w,hs,hm,hv=>least0_any mv vv m v s w hm hv (by rw [hl];exact hs)
 | j+1,hk,hl,hE,s,w,hs,hm,hv=>leastS_any mv vv m v j _ s w (by simp) (by omega) hm hv hs hlm hlv hE (fun t W ht hm hv=>least22_any mv vv m v hlm hlv j (by omega) hl (stgE_pred hE) t W ht hm hv)
end Go.Proofs.YtfflknbeidihoaaGreat
