/- Walks and lemmas. -/
import Derived.Test.YtnnjbaijcaiohaaGreatSxA13
import Derived.Test.YtnnjbaijcaiohaaGreatSxA16
import Derived.Test.YtnnjbaijcaiohaaGreatSxA10
import Derived.Test.YtnnjbaijcaiohaaGreatSxA18
import Derived.Test.YtnnjbaijcaiohaaGreatSxA20
import Derived.Test.YtnnjbaijcaiohaaGreatSxA22
import Derived.Test.YtnnjbaijcaiohaaGreatSxA17
set_option linter.unusedVariables false
set_option linter.unusedSimpArgs false
set_option maxRecDepth 100000
set_option maxHeartbeats 16000000
namespace Go.Proofs.YtnnjbaijcaiohaaGreat
open Go.RowKit
def fE (r:RR):RR:=⟨false,r.num,r.den⟩
def mX (a b:List RR) (k:Nat):List RR:=zR :: (List.range k).map fun i=>fE (bR (a.getD i zR) (b.getD i zR)).1
def il (l:List RR):Nat→Nat
 | 0=>0
 | k+1=>if qv (l.getD (il l k) zR) < qv (l.getD k zR) then k else il l k
def Cr (a b:List RR):Int:=bF (fun i=>(bR (a.getD i zR) (b.getD i zR)).2) a.length
def bg (a b:List RR):RR × Int:=
 if a.length≠b.length then (zR,16) else if Cr a b≠0 then (zR,Cr a b) else ((mX a b a.length).getD (il (mX a b a.length) (a.length+1)) zR,0)
theorem gJ (a b:List RR) (k:Nat):(mX a b k).length=k+1:=by simp [mX]
theorem Cs (a b:List RR) (k:Nat):mX a b (k+1)=mX a b k ++ [fE (bR (a.getD k zR) (b.getD k zR)).1]:=by unfold mX;rw [List.range_succ,List.map_append];rfl
theorem pB {a b:List RR} {k i:Nat} (h:i < k):(mX a b k).getD (i+1) zR=fE (bR (a.getD i zR) (b.getD i zR)).1:=by
 unfold mX;rw [List.getD_cons_succ,List.getD_eq_getElem?_getD,List.getElem?_map,List.getElem?_range h];rfl
theorem Ct {r:RR} (h:au r):au (fE r):=h
theorem Cu {r:RR} (h:am r=0):am (fE r)=0:=by
 obtain ⟨b,n,d⟩:=r;unfold fE;unfold am at h ⊢;dsimp only at h ⊢;by_cases h1:128 < n.length∨128 < d.length
 ·rw [if_pos h1] at h;cases h
 ·rw [if_neg h1] at h ⊢;by_cases h2:dH n≠0∨dH d≠0∨d=[1]∨(n=[]∧(b=true∨d≠[]))
  ·rw [if_pos h2] at h;cases h
  ·rw [if_neg h2] at h;rw [if_neg (fun z=>h2 (by
    rcases z with z|z|z|⟨z1,z|z⟩
    ·exact .inl z
    ·exact .inr (.inl z)
    ·exact .inr (.inr (.inl z))
    ·cases z
    ·exact .inr (.inr (.inr ⟨z1,.inr z⟩))))]
   exact h
theorem ym (a b:List RR) (k:Nat):bY (mX a b k):=fun i hi=>by
 rw [gJ] at hi;cases i with
 | zero=>exact aM
 | succ i=>rw [pB (by omega)];exact Ct (jv _ _)
theorem yp {a b:List RR} {k:Nat} (h:∀ i,i < k→(bR (a.getD i zR) (b.getD i zR)).2=0):∀ i,i < (mX a b k).length→am ((mX a b k).getD i zR)=0:=fun i hi=>by
 rw [gJ] at hi;cases i with
 | zero=>rfl
 | succ i=>rw [pB (by omega)];exact Cu (jy (h i (by omega))).2
theorem I9 {a b:List RR} (h:a.length≠b.length):bg a b=(zR,16):=if_pos h
theorem Ja {a b:List RR} (h:a.length=b.length) {k:Nat} {c:Int} (hk:k < a.length) (h0:∀ i,i < k→(bR (a.getD i zR) (b.getD i zR)).2=0) (h1:(bR (a.getD k zR) (b.getD k zR)).2=c) (hc:c≠0):bg a b=(zR,c):=by
 have e:Cr a b=c:=(dv (f:=fun i=>(bR (a.getD i zR) (b.getD i zR)).2) h0 (by rw [h1];exact hc) hk).trans h1;unfold bg;rw [if_neg (fun z=>z h),e,if_pos hc]
theorem Jb {a b:List RR} (h:a.length=b.length) (h0:∀ i,i < a.length→(bR (a.getD i zR) (b.getD i zR)).2=0):bg a b=((mX a b a.length).getD (il (mX a b a.length) (a.length+1)) zR,0):=by
 have e:Cr a b=0:=bE h0;unfold bg;rw [if_neg (fun z=>z h),e,if_neg (fun z=>z rfl)]
theorem zI (va vb:Value) (ra rb:RR) (w:World) (ha:aX w va ra) (hb:aX w vb rb) (la:au ra) (lb:au rb) :
  Calls Tryz.prog 153 #[va,vb] w fun e w'=>e=.returned (.bool (ug rb ra))∧Ext w w':=by
 have hcm:=fun W (x:Ext w W)=>kj vb va rb ra W (hb.ext x) (ha.ext x) lb la;obtain ⟨q,hq⟩:=gN (ug rb ra);rw [← hq] at hcm ⊢;obtain ⟨a1,a2,a3,a4,rfl⟩:=ha.shape;obtain ⟨b1,b2,b3,b4,rfl⟩:=hb.shape;have HC:=kI hcm;have X0:=kI (((Ext.refl w).alloc (.cells #[.bool ra.neg,.slice a1 ra.num.length a2,.slice a3 ra.den.length a4] 25)).alloc (.cells #[.bool rb.neg,.slice b1 rb.num.length b2,.slice b3 rb.den.length b4] 25));clear hcm hq ha hb la lb;go_enter Tryz.func153,Tryz.ntmps153
 go_wp2_with fail;refine (HC.o _ X0.o).mono ?_;rintro e w1 ⟨rfl,hx⟩;have X1:=kI (X0.o.trans hx);clear hx;go_wp2_with fail;go_ret;exact ⟨rfl,X1.o⟩
theorem lN {l:List RR}:∀ {k:Nat},0 < k→il l k < k
 | 0,h=>by omega
 | k+1,_=>by
  unfold il;split
  ·omega
  ·rcases Nat.eq_zero_or_pos k with h0|h0
   ·subst h0;exact Nat.zero_lt_one
   ·have:=lN (l:=l) h0;omega
theorem Fg (l:List RR) (k n:Nat) (h:k≤n) (hn:0 < n):il l k < n:=by
 rcases Nat.eq_zero_or_pos k with h0|h0
 ·subst h0;exact hn
 ·have:=lN (l:=l) h0;omega
theorem zJ (v:Value) (l:List RR) (w:World) (h:ct w v l) (hl:bY l) (hv:∀ i,i < l.length→am (l.getD i zR)=0) :
  Calls Tryz.prog 147 #[v,.func (.func 153) #[] #[]] w fun e w'=>e=.returned (.int .i64 (il l l.length))∧Ext w w':=by
 obtain ⟨a,c,rfl,hc,hm,_⟩:=h.get;have hll:l.length≤9223372036854775807:=by omega
 have HR:=kI h;have HL:=kI hl;have HV:=kI hv;clear h hl hv hc hm;have X:=kI (Ext.refl w);go_enter Tryz.func147,Tryz.ntmps147
 go_wp2_with fail;go_loopw [5,9] (fun b i wr=>∃ k:Nat,k≤l.length∧i=.int .i64 k∧b=.int .i64 (il l k)∧Ext w wr) (fun _ i _=>l.length - (intOf i).toNat)
 case atStart=>exact ⟨0,by omega,rfl,rfl,Ext.refl _⟩
 case round=>
  obtain ⟨wk,hwk⟩:=gN (wr);subst hwk;obtain ⟨k,hk,rfl,rfl,hx⟩:=hrel;have XK:=kI hx;have HW:=kI (HR.o.ext hx);clear hx;by_cases hlt:k < l.length
  ·have hb:=Fg l k l.length hk (by omega);have hst:il l (k+1)=if qv (l.getD (il l k) zR) < qv (l.getD k zR) then k else il l k:=rfl;obtain ⟨j,hj⟩:=gN (il l k);rw [← hj] at hb hst ⊢;obtain ⟨b,off,a1,c1,a2,c2,ea,z0,z1,z2,z3,z4⟩:=HW.o.at hlt;obtain ⟨b',off',a3,c3,a4,c4,eb,y0,y1,y2,y3,y4⟩:=HW.o.at hb;rw [ea] at eb;injection eb with eb
   injection eb with Gp LJ
   subst Gp;subst LJ;subst ea;have hl1:=HL.o k;have hl2:=HL.o j;have hlo:=xZ (HV.o j hb) (HV.o k hlt);obtain ⟨r,hr⟩:=gN (l.getD k zR);obtain ⟨s,hs⟩:=gN (l.getD j zR);rw [← hr] at z1 z2 z3 z4 hl1 hlo hst;rw [← hs] at y1 y2 y3 y4 hl2 hlo hst;have NR:=kI z4;have NS:=kI y4;have H1:=kI hl1;have H2:=kI hl2;have EF:=kI hlo;have HST:=kI hst;have HJ:=kI hj;have q1:(0:Int)≤(k:Int):=by omega
   have q2:(k:Int) < (l.length:Int):=by omega
   have q3:(0:Int)≤(j:Int):=by omega
   have q4:(j:Int) < (l.length:Int):=by omega
   clear z4 y4 hl1 hl2 hlo hst hr hs hj;go_wp2_with fail;refine eC 9 (by kernel_rfl) (by kernel_rfl) ?_;simp only [List.take_succ_cons,List.take_zero,List.drop_succ_cons,List.drop_zero];(repeat (go_big_quiet_step (fail)))
   refine wpQuiet_nil ?_;rintro w1 ⟨⟨_,hx1⟩,rfl⟩;(try dsimp only);replace XK:=kI (XK.o.trans hx1);clear z0 z1 z2 z3 y0 y1 y2 y3 HW;go_wp2_with fail;refine (zI _ _ r s w1 (NR.o.ext hx1) (NS.o.ext hx1) (H1.o hlt) (H2.o hb)).mono ?_;rintro e w2 ⟨rfl,hx⟩;replace XK:=kI (XK.o.trans hx);clear hx hx1;obtain ⟨q,hq⟩:=gN (ug s r);have HQ:=kI hq;rw [← hq];clear hq;cases q
   ·go_wp2_with fail;go_roundw
    case rel=>
     have hn:¬ qv s < qv r:=of_decide_eq_false (EF.o.symm.trans HQ.o.symm);exact ⟨k+1,by omega,by go_num,by rw [HST.o,if_neg hn],XK.o⟩
    case measure=>simp [intOf];omega
   ·go_wp2_with fail;go_roundw
    case rel=>
     have hn:qv s < qv r:=of_decide_eq_true (EF.o.symm.trans HQ.o.symm);exact ⟨k+1,by omega,by go_num,by rw [HST.o,if_pos hn],XK.o⟩
    case measure=>simp [intOf];omega
  ·obtain rfl:k=l.length:=by omega
   have q1:¬ (l.length:Int) < (l.length:Int):=by omega
   go_wp2_with fail;go_ret;exact ⟨rfl,XK.o⟩
def zK (w w':World) (e:Ending) (r:RR × Int):Prop:=∃ s1 s2 s3 s4,e=.returned (.tuple #[.agg #[.bool r.1.neg,.slice s1 r.1.num.length s2,.slice s3 r.1.den.length s4],.int .i64 r.2])∧dg w.heap.size w' [.bool r.1.neg,.slice s1 r.1.num.length s2,.slice s3 r.1.den.length s4] r.1
theorem zK.mk {w w':World} {s1 s3:Option Addr} {s2 s4:Nat} {l:RR} {x:Int} {r:RR × Int} (h:dg w.heap.size w' [.bool l.neg,.slice s1 l.num.length s2,.slice s3 l.den.length s4] l) (e:r=(l,x)):zK w w' (.returned (.tuple #[.agg #[.bool l.neg,.slice s1 l.num.length s2,.slice s3 l.den.length s4],.int .i64 x])) r:=by subst e;exact ⟨_,_,_,_,rfl,h⟩
theorem dg.zero (B:Nat) (w:World):dg B w [.bool zR.neg,.slice none zR.num.length 0,.slice none zR.den.length 0] zR:=⟨none,0,none,0,rfl,nM _ _,nM _ _⟩
theorem dg.abs {B:Nat} {w:World} {r:RR} {s1 s3:Option Addr} {s2 s4:Nat} (h:dg B w [.bool r.neg,.slice s1 r.num.length s2,.slice s3 r.den.length s4] r):dg B w [.bool (fE r).neg,.slice s1 (fE r).num.length s2,.slice s3 (fE r).den.length s4] (fE r):=by
 obtain ⟨a1,c1,a2,c2,e,h1,h2⟩:=h;simp only [List.cons.injEq,Value.slice.injEq,and_true,true_and] at e;obtain ⟨⟨rfl,rfl⟩,rfl,rfl⟩:=e;exact ⟨_,_,_,_,rfl,h1,h2⟩
theorem bT.one {B:Nat} {w:World} {g:Nat} {r:RR} {s1 s3:Option Addr} {s2 s4:Nat} (hb:af w g #[.bool r.neg,.slice s1 r.num.length s2,.slice s3 r.den.length s4] 25) (hB:B≤g) (h:dg B w [.bool r.neg,.slice s1 r.num.length s2,.slice s3 r.den.length s4] r):bT B w (.slice (some ⟨g,0,none⟩) 1 1) [r]:=by
 refine ⟨[[.bool r.neg,.slice s1 r.num.length s2,.slice s3 r.den.length s4]],⟨rfl,.inr ⟨g,1,_,rfl,hB,hb,Nat.le_refl _,by unfold maxLen;omega,rfl,rfl⟩⟩,rfl,(fun x hx=>by rw [List.mem_singleton.1 hx];rfl),fun i x hi=>?_⟩;cases i with
 | zero=>exact ⟨_,rfl,by injection hi with hi;subst hi;exact h⟩
 | succ i=>simp at hi
def Jc (pa:Option Addr) (na ca:Nat) (pb:Option Addr) (nb cb k:Nat) (xa oa xb ob:Nat) (xr yr:RR) (a1:Option Addr) (a2:Nat) (a3:Option Addr) (a4:Nat) (b1:Option Addr) (b2:Nat) (b3:Option Addr) (b4:Nat) (d:RR) (c:Int) (B C:Nat) (j:Nat) (v:Value) (W:World):Prop:=
 match j with
 | 0=>v=.slice pa na ca
 | 1=>v=.int .i64 (k:Nat)
 | 2=>v=.pointer (some ⟨xa,oa+k*3,none⟩)
 | 3=>v=.agg #[.bool xr.neg,.slice a1 xr.num.length a2,.slice a3 xr.den.length a4]
 | 4=>v=.slice pb nb cb
 | 5=>v=.int .i64 (k:Nat)
 | 6=>v=.pointer (some ⟨xb,ob+k*3,none⟩)
 | 7=>v=.agg #[.bool yr.neg,.slice b1 yr.num.length b2,.slice b3 yr.den.length b4]
 | 8=>∃ s1 s2 s3 s4,v=.tuple #[.agg #[.bool d.neg,.slice s1 d.num.length s2,.slice s3 d.den.length s4],.int .i64 c]∧cA B W (.slice s1 d.num.length s2) d.num∧cA B W (.slice s3 d.den.length s4) d.den
 | 9=>∃ s1 s2 s3 s4,v=.tuple #[.agg #[.bool d.neg,.slice s1 d.num.length s2,.slice s3 d.den.length s4],.int .i64 c]∧cA B W (.slice s1 d.num.length s2) d.num∧cA B W (.slice s3 d.den.length s4) d.den
 | 10=>∃ s1 s2 s3 s4,v=.agg #[.bool d.neg,.slice s1 d.num.length s2,.slice s3 d.den.length s4]∧cA B W (.slice s1 d.num.length s2) d.num∧cA B W (.slice s3 d.den.length s4) d.den
 | 11=>v=.int .i64 c
 | 12=>∃ y,v=.pointer (some ⟨y,0,none⟩)∧C≤y∧af W y #[.bool false,.slice none 0 0,.slice none 0 0] 25
 | _=>True
theorem Cv {pa:Option Addr} {na ca:Nat} {pb:Option Addr} {nb cb k:Nat} {xa oa xb ob:Nat} {xr yr:RR} {a1:Option Addr} {a2:Nat} {a3:Option Addr} {a4:Nat} {b1:Option Addr} {b2:Nat} {b3:Option Addr} {b4:Nat} {d:RR} {c:Int} {B C:Nat} {j:Nat} {v:Value} {W W':World} (h:Jc pa na ca pb nb cb k xa oa xb ob xr yr a1 a2 a3 a4 b1 b2 b3 b4 d c B C j v W) (xx:Ext W W'):Jc pa na ca pb nb cb k xa oa xb ob xr yr a1 a2 a3 a4 b1 b2 b3 b4 d c B C j v W':=by
 match j,h with
 | 0,h=>exact h
 | 1,h=>exact h
 | 2,h=>exact h
 | 3,h=>exact h
 | 4,h=>exact h
 | 5,h=>exact h
 | 6,h=>exact h
 | 7,h=>exact h
 | 8,⟨s1,s2,s3,s4,h0,h1,h2⟩=>exact ⟨s1,s2,s3,s4,h0,h1.ext xx,h2.ext xx⟩
 | 9,⟨s1,s2,s3,s4,h0,h1,h2⟩=>exact ⟨s1,s2,s3,s4,h0,h1.ext xx,h2.ext xx⟩
 | 10,⟨s1,s2,s3,s4,h0,h1,h2⟩=>exact ⟨s1,s2,s3,s4,h0,h1.ext xx,h2.ext xx⟩
 | 11,h=>exact h
 | 12,⟨y,h0,h1,h2⟩=>exact ⟨y,h0,h1,h2.ext xx⟩
 | _+13,_=>trivial
theorem pC (va vb:Value) (a b:List RR) (w:World) (ha:ct w va a) (hb:ct w vb b) (hla:bY a) (hlb:bY b) (h6:a.length≤1000000) :
  Calls Tryz.prog 107 #[va,vb] w fun e w'=>zK w w' e (bg a b)∧Ext w w':=by
 obtain ⟨pa,ca,rfl,hca,hma,-⟩:=ha.get;obtain ⟨pb,cb,rfl,hcb,hmb,-⟩:=hb.get;have HA:=kI ha;have HB:=kI hb;have Db:=kI hla;have tf:=kI hlb;have H6:=kI h6;have Zk:=HA;have HB0:=HB;have hal:a.length≤9223372036854775807:=by omega
 have hbl:b.length≤9223372036854775807:=by omega
 clear ha hb hla hlb hca hma hcb hmb;have bb0:=(af.new w #[.bool false,.slice none 0 0,.slice none 0 0] 25);have x0:Ext w (w.alloc (.cells #[.bool false,.slice none 0 0,.slice none 0 0] 25)):=((Ext.refl w).alloc _);have A0:=kI bb0;have X:=kI x0;clear x0 bb0;clear HA HB h6;by_cases hn:a.length=b.length
 rotate_left
 ·have q1:((a.length:Int) != (b.length:Int))=true:=bne_iff_ne.2 (by omega);have E:=kI (I9 hn);clear hn;go_enter Tryz.func107,Tryz.ntmps107
  obtain ⟨aE,fA0,aC⟩:=A0.o.q3;go_wp2_with fail;refine bodyPost_ret (v:=.tuple #[.agg #[.bool false,.slice none 0 0,.slice none 0 0],.int .i64 16]) (by simp only [results,Tryz.results107];go_simp) rfl ?_;exact ⟨zK.mk (dg.zero _ _) E.o,X.o⟩
 have q1:((a.length:Int) != (b.length:Int))=false:=bne_eq_false_iff_eq.2 (by omega);go_enter Tryz.func107,Tryz.ntmps107
 obtain ⟨aE,fA0,aC⟩:=A0.o.q3;go_wp2_with fail;clear aE fA0 aC;have b1:=af.new (w.alloc (.cells #[.bool false,.slice none 0 0,.slice none 0 0] 25)) #[.bool false,.slice none 0 0,.slice none 0 0] 25;rw [World.size_alloc] at b1;have hx:Ext (w.alloc (.cells #[.bool false,.slice none 0 0,.slice none 0 0] 25)) ((w.alloc (.cells #[.bool false,.slice none 0 0,.slice none 0 0] 25)).alloc (.cells #[.bool false,.slice none 0 0,.slice none 0 0] 25)):=(Ext.refl _).alloc _;obtain ⟨wl,hwl⟩:=gN ((w.alloc (.cells #[.bool false,.slice none 0 0,.slice none 0 0] 25)).alloc (.cells #[.bool false,.slice none 0 0,.slice none 0 0] 25));rw [← hwl] at b1 hx ⊢;have hone:bT (w.heap.size+1) wl (.slice (some ⟨w.heap.size+1,0,none⟩) 1 1) [zR]:=bT.one (s1:=none) (s2:=0) (s3:=none) (s4:=0) b1 (Nat.le_refl _) (dg.zero _ _);replace A0:=kI (A0.o.ext hx);replace X:=kI (X.o.trans hx);have ON:=kI hone;have HN:=kI hn;have AN:=kI (show w.heap.size < wl.heap.size from A0.o.lt);clear b1 hx hwl hone hn;go_loopw [20,6] (fun i lv wr=>∃ k:Nat,k≤a.length∧i=.int .i64 (k:Nat)∧(∀ i,i < k→(bR (a.getD i zR) (b.getD i zR)).2=0)∧bT (w.heap.size+1) wr lv (mX a b k)∧af wr w.heap.size #[.bool false,.slice none 0 0,.slice none 0 0] 25∧Ext w wr) (fun i _ _=>a.length - (intOf i).toNat)
 case atStart=>exact ⟨0,Nat.zero_le _,rfl,fun i h=>absurd h (Nat.not_lt_zero _),ON.o,A0.o,X.o⟩
 case round=>
  obtain ⟨wi,hwi⟩:=gN (wr);subst hwi;clear ON A0 X;obtain ⟨k,hk,rfl,hok,how,ha0,hx⟩:=hrel;have OK:=kI hok;have OW:=kI how;have A0:=kI ha0;have X:=kI hx;have HA:=kI (Zk.o.ext hx);have HB:=kI (HB0.o.ext hx);have HK:=kI hk;obtain ⟨la,lc,rfl⟩:=how.shape;rw [gJ] at OW ⊢;clear hok how ha0 hx hk;by_cases hlt:k < a.length
  ·have dQ:=kI hlt;have q1:(0:Int)≤(k:Int):=by omega
   have q2:(k:Int) < (a.length:Int):=by omega
   have q4:(k:Int) < (b.length:Int):=by have:=HN.o;omega
   obtain ⟨xa,oa,a1,a2,a3,a4,rfl,x0,x1,x2,x3,x4⟩:=HA.o.at hlt;obtain ⟨xb,ob,b1,b2,b3,b4,rfl,y0,y1,y2,y3,y4⟩:=HB.o.at (i:=k) (by rw [← HN.o];exact hlt);have hxl:=Db.o k hlt;have hyl:=tf.o k (by rw [← HN.o];exact hlt);obtain ⟨xr,hxr⟩:=gN (a.getD k zR);obtain ⟨yr,Gz⟩:=gN (b.getD k zR);rw [← hxr] at x1 x2 x3 x4 hxl;rw [← Gz] at y1 y2 y3 y4 hyl;have KF:=kI hxr;have M6:=kI Gz;obtain ⟨R,hR⟩:=gN (bR xr yr);have HR:=kI hR;obtain ⟨d,c⟩:=R;have hsub:∀ W,Ext wi W→Calls Tryz.prog 57 #[.agg #[.bool xr.neg,.slice a1 xr.num.length a2,.slice a3 xr.den.length a4],.agg #[.bool yr.neg,.slice b1 yr.num.length b2,.slice b3 yr.den.length b4]] W fun e w'=>bO W w' e (d,c)∧Ext W w':=fun W hW=>by
    have h:=gZ _ _ xr yr W (x4.ext hW) (y4.ext hW) hxl hyl;rw [← hR] at h;exact h
   have U8:=kI hsub;have U9:=kI (show w.heap.size+1≤wi.heap.size from A0.o.lt);have XS:=kI (And.intro x0 (And.intro x1 (And.intro x2 x3)));have YS:=kI (And.intro y0 (And.intro y1 (And.intro y2 y3)));clear hxl hyl hxr Gz hR hsub x0 x1 x2 x3 x4 y0 y1 y2 y3 y4;go_wp2_with fail;refine dw 13 11 (Jc (some ⟨xa,oa,none⟩) a.length ca (some ⟨xb,ob,none⟩) b.length cb k xa oa xb ob xr yr a1 a2 a3 a4 b1 b2 b3 b4 d c (w.heap.size+1) wi.heap.size) rfl (by kernel_rfl) (by kernel_rfl) (by kernel_rfl) (fun _ _ _ _ h x=>Cv h x) (fun _ _ d _ _ h=>by cases d <;> exact h) ?_ ?_ ?_
   ·refine ⟨?_,?_,?_,?_,?_,?_,?_,?_,?_,?_,?_,?_,?_,trivial⟩
    ·intro a W hW hB hD K hK;have b0:=hB 0 rfl;simp only [sB] at b0;go_simp;exact hK _ _ (Ext.refl _) rfl
    ·intro a W hW hB hD K hK;have b7:=hB 7 rfl;simp only [sB] at b7;go_simp;exact hK _ _ (Ext.refl _) rfl
    ·intro a W hW hB hD K hK;obtain ⟨v24,e24,qS⟩:=az (hD 0 _ 24 rfl rfl (by kernel_rfl));obtain rfl:=qS;obtain ⟨v25,e25,Bd⟩:=az (hD 1 _ 25 rfl rfl (by kernel_rfl));obtain rfl:=Bd;go_simp;exact hK _ _ (Ext.refl _) rfl
    ·intro a W hW hB hD K hK;obtain ⟨v26,e26,zx⟩:=az (hD 2 _ 26 rfl rfl (by kernel_rfl));obtain rfl:=zx;have m0:=(hW.cell (p:=⟨xa,oa+k*3,none⟩) XS.o.1).trans XS.o.2.1;have m1:=(hW.cell (p:=⟨xa,oa+k*3+1,none⟩) XS.o.1).trans XS.o.2.2.1;have m2:=(hW.cell (p:=⟨xa,oa+k*3+2,none⟩) XS.o.1).trans XS.o.2.2.2;have ml:=Nat.lt_of_lt_of_le XS.o.1 hW.size;go_simp;exact hK _ _ (Ext.refl _) rfl
    ·intro a W hW hB hD K hK;have b1:=hB 1 rfl;simp only [sB] at b1;go_simp;exact hK _ _ (Ext.refl _) rfl
    ·intro a W hW hB hD K hK;have b7:=hB 7 rfl;simp only [sB] at b7;go_simp;exact hK _ _ (Ext.refl _) rfl
    ·intro a W hW hB hD K hK;obtain ⟨v28,e28,h28⟩:=az (hD 4 _ 28 rfl rfl (by kernel_rfl));obtain rfl:=h28;obtain ⟨v29,e29,BT⟩:=az (hD 5 _ 29 rfl rfl (by kernel_rfl));obtain rfl:=BT;go_simp;exact hK _ _ (Ext.refl _) rfl
    ·intro a W hW hB hD K hK;obtain ⟨v30,e30,h30⟩:=az (hD 6 _ 30 rfl rfl (by kernel_rfl));obtain rfl:=h30;have m0:=(hW.cell (p:=⟨xb,ob+k*3,none⟩) YS.o.1).trans YS.o.2.1;have m1:=(hW.cell (p:=⟨xb,ob+k*3+1,none⟩) YS.o.1).trans YS.o.2.2.1;have m2:=(hW.cell (p:=⟨xb,ob+k*3+2,none⟩) YS.o.1).trans YS.o.2.2.2;have ml:=Nat.lt_of_lt_of_le YS.o.1 hW.size;go_simp;exact hK _ _ (Ext.refl _) rfl
    ·intro a W hW hB hD K hK;obtain ⟨v27,e27,h27⟩:=az (hD 3 _ 27 rfl rfl (by kernel_rfl));obtain rfl:=h27;obtain ⟨v31,e31,h31⟩:=az (hD 7 _ 31 rfl rfl (by kernel_rfl));obtain rfl:=h31;go_simp;refine (U8.o W hW).mono ?_;rintro e w9 ⟨⟨v,rfl,nn⟩,hx⟩;obtain ⟨t1,t2,t3,t4,rfl⟩:=nn.shape;obtain ⟨hs1,hs2⟩:=nn.sf (B:=w.heap.size+1) (Nat.le_trans U9.o hW.size);exact hK _ _ hx ⟨_,_,_,_,rfl,hs1,hs2⟩
    ·intro a W hW hB hD K hK;obtain ⟨v32,e32,h32⟩:=az (hD 8 _ 32 rfl rfl (by kernel_rfl));obtain ⟨x91,eZ,x93,fb,rfl,xq,M8⟩:=h32;go_simp;exact hK _ _ (Ext.refl _) ⟨_,_,_,_,rfl,xq,M8⟩
    ·intro a W hW hB hD K hK;obtain ⟨v23,e23,h23⟩:=az (hD 9 _ 23 rfl rfl (by kernel_rfl));obtain ⟨x91,eZ,x93,fb,rfl,xq,M8⟩:=h23;go_simp;exact hK _ _ (Ext.refl _) ⟨_,_,_,_,rfl,xq,M8⟩
    ·intro a W hW hB hD K hK;obtain ⟨v23,e23,h23⟩:=az (hD 9 _ 23 rfl rfl (by kernel_rfl));obtain ⟨x91,eZ,x93,fb,rfl,xq,M8⟩:=h23;go_simp;exact hK _ _ (Ext.refl _) rfl
    ·intro a W hW hB hD K hK;go_simp;exact hK _ _ ((Ext.refl _).alloc _) ⟨_,rfl,hW.size,af.new _ _ _⟩
   ·intro a W hW hB hD;have h23:=hD 9 _ 23 rfl rfl (by kernel_rfl);obtain ⟨v23,e23⟩:∃ x,a.tmps.getD 23 undef=x:=⟨_,rfl⟩;rw [e23] at h23;obtain ⟨x91,eZ,x93,fb,rfl,xq,M8⟩:=h23;exact ⟨.int .i64 c,fun w9=>iC e23 rfl rfl w9,rfl⟩
   intro w7 hx;simp only [cX,List.take_succ_cons,List.take_zero,List.drop_succ_cons,List.drop_zero];rintro u0 - u1 - u2 - u3 - u4 - u5 - u6 - u7 - u8 - u9 - u10 h10 u11 h11 u12 h12;obtain ⟨r1,r2,r3,r4,rfl,S1,S2⟩:=h10;obtain rfl:=h11;obtain ⟨Y,rfl,hY,BY⟩:=h12;simp only [Act.put,List.setIfInBounds_toArray,List.set_cons_zero,List.set_cons_succ];have X7:=kI (show Ext w w7 from X.o.trans hx);have O7:=kI (OW.o.ext' hx);have A7:=kI (A0.o.ext hx);have Vd:=kI hx;have YI:=kI hY;have YL:=kI (show w.heap.size≤Y∧w.heap.size≠Y from ⟨Nat.le_trans X.o.size hY,by have:=A0.o.lt;omega⟩);have Dk:=kI BY;have Zl:=kI S1;have Zm:=kI S2;clear hx hY BY S1 S2 XS YS U8;by_cases hc:c=0
   rotate_left
   ·have q3:(c != 0)=true:=by simpa using hc
    have E:=kI (Ja HN.o dQ.o OK.o (c:=c) (by rw [← KF.o,← M6.o,← HR.o]) hc);clear hc;have b0:=Dk.o.cell;have b1':=Dk.o.free;have b2':=Dk.o.lt;have b3':=A7.o.cell;have b4':=A7.o.free;have b5':=A7.o.lt;have b6':=YL.o.2;go_wp2_with fail;refine bodyPost_ret (v:=.tuple #[.agg #[.bool false,.slice none 0 0,.slice none 0 0],.int .i64 c]) (by simp only [results,Tryz.results107];go_simp) rfl ?_;exact ⟨zK.mk (dg.zero _ _) E.o,by have:=YL.o.1;exact Below.setCell (Below.setCell (Below.setCell (Below.setCell (Below.setCell (Below.setCell X7.o (by dsimp only;omega) _) (by dsimp only;omega) _) (by dsimp only;omega) _) (by dsimp only;omega) _) (by dsimp only;omega) _) (by dsimp only;omega) _⟩
   subst hc;have b0:=Dk.o.cell;have b1':=Dk.o.free;have b2':=Dk.o.lt;have Si:=kI (dg.abs (show dg (w.heap.size+1) w7 [.bool d.neg,.slice r1 d.num.length r2,.slice r3 d.den.length r4] d from ⟨_,_,_,_,rfl,Zl.o,Zm.o⟩));have ER:=kI hal;have Aj:=kI (gJ a b k);have hxi:=Vd.o;have hyi:=YI.o;have hsz:w.heap.size≤wi.heap.size:=X.o.size;go_wp2_with (at_builtin;(go_loud (refine gD (El:=dg (w.heap.size+1)) (l:=mX a b k) _ rfl _ _ 29 rfl (w.heap.size+1) 25 (.agg #[.bool false,.slice none 0 0,.slice none 0 0]) 3 56 Tryz.underlying29 Tryz.fU rfl (by decide) (dg.keeps (by decide)) _ (OW.o.ext' (by have k9:=hyi;exact Below.setCell (Below.setCell (Below.setCell (Below.setCell hxi (by dsimp only;omega) _) (by dsimp only;omega) _) (by dsimp only;omega) _) (by dsimp only;omega) _)) (by first|rfl|(rw [Aj.o];rfl)) [.bool (fE d).neg,.slice r1 (fE d).num.length r2,.slice r3 (fE d).den.length r4] rfl (by simp [Value.oneCell']) (fE d) ?hel (by first|rfl|(simp only [World.size_setCell];rfl)) ?h63 ?hby ?hB ?_)))
   case hel=>exact dg.keeps (by decide) _ _ _ _ Si.o ((((ak Dk.o 0 (.bool d.neg)).trans (ak (Dk.o.set 0 (.bool d.neg)) 1 (.slice r1 d.num.length r2))).trans (ak ((Dk.o.set 0 (.bool d.neg)).set 1 (.slice r1 d.num.length r2)) 2 (.slice r3 d.den.length r4))).trans (ak (((Dk.o.set 0 (.bool d.neg)).set 1 (.slice r1 d.num.length r2)).set 2 (.slice r3 d.den.length r4)) 0 (.bool false)))
   case h63=>rw [Aj.o];have:=H6.o;have:=dQ.o;omega
   case hby=>rw [Aj.o];have:=H6.o;have:=dQ.o;omega
   case hB=>simp only [World.size_setCell];have:=U9.o;have:=Vd.o.size;omega
   intro g cap w9 hown hk;obtain ⟨W8,OE⟩:=gN ((((w7.setCell ⟨Y,0,none⟩ (.bool d.neg)).setCell ⟨Y,1,none⟩ (.slice r1 d.num.length r2)).setCell ⟨Y,2,none⟩ (.slice r3 d.den.length r4)).setCell ⟨Y,0,none⟩ (.bool false));have a8:af W8 w.heap.size #[.bool false,.slice none 0 0,.slice none 0 0] 25:=by rw [OE];exact (((A7.o.setOther (a:=⟨Y,0,none⟩) (by have:=YL.o;dsimp only;omega) _).setOther (a:=⟨Y,1,none⟩) (by have:=YL.o;dsimp only;omega) _).setOther (a:=⟨Y,2,none⟩) (by have:=YL.o;dsimp only;omega) _).setOther (a:=⟨Y,0,none⟩) (by have:=YL.o;dsimp only;omega) _
   have x8:Ext w W8:=by rw [OE];exact Below.setCell (Below.setCell (Below.setCell (Below.setCell X7.o (by have:=YL.o;dsimp only;omega) _) (by have:=YL.o;dsimp only;omega) _) (by have:=YL.o;dsimp only;omega) _) (by have:=YL.o;dsimp only;omega) _
   have s8:w.heap.size+1≤W8.heap.size:=a8.lt;rw [← OE] at hk;have f1:af w9 w.heap.size #[.bool false,.slice none 0 0,.slice none 0 0] 25:=(hk.block _ a8.lt (.inl (by omega))).trans a8;have f2:Ext w w9:=Below.trans x8 ((hk.below s8).mono (Nat.le_succ _));have f3:bT (w.heap.size+1) w9 (.slice (some ⟨g,0,none⟩) (k+1+1) cap) (mX a b (k+1)):=by
    rw [Aj.o] at hown;rw [Cs,← KF.o,← M6.o,← HR.o];exact hown
   have f4:∀ i,i < k+1→(bR (a.getD i zR) (b.getD i zR)).2=0:=fun i hi=>by
    by_cases e:i=k
    ·rw [e,← KF.o,← M6.o,← HR.o]
    ·exact OK.o i (by omega)
   have F1:=kI f1;have F2:=kI f2;have F3:=kI f3;have F4:=kI f4;rw [Aj.o];clear hown hk OE a8 x8 s8 f1 f2 f3 f4 b0 b1' b2';go_wp2_with fail;go_roundw
   case rel=>exact ⟨k+1,dQ.o,by go_num,F4.o,F3.o,F1.o,F2.o⟩
   case measure=>first|(simp [intOf];done)|(simp [intOf];omega)
  ·obtain rfl:a.length=k:=by have:=HK.o;omega
   have q1:¬ ((a.length:Int) < (b.length:Int)):=by have:=HN.o;omega
   have Aj:=kI (gJ a b a.length);clear hlt;obtain ⟨L,hL⟩:=gN (mX a b a.length);have HL:=kI hL;have hlm:bY L:=by rw [hL];exact ym _ _ _
   have hch:∀ i,i < L.length→am (L.getD i zR)=0:=by rw [hL];exact yp OK.o
   have hln:L.length=a.length+1:=by rw [hL];exact gJ _ _ _
   rw [← hL] at OW;have wg:=kI hlm;have Kh:=kI hch;have Sj:=kI hln;have E:=kI (Jb HN.o OK.o);clear hL hlm hch hln Aj;go_wp2_with fail;refine (zJ _ L wi OW.o.rd wg.o Kh.o).mono ?_;rintro e w5 ⟨rfl,hx⟩;obtain ⟨j,hj⟩:=gN (il L L.length);rw [← hj];have hjl:j < L.length:=by rw [hj];exact lN (by rw [Sj.o];exact Nat.succ_pos _)
   have JL:=kI hjl;have O5:=kI (OW.o.ext' hx);have A5:=kI (A0.o.ext hx);have X5:=kI (X.o.trans hx);have E5:Hid (bg a b=(L.getD j zR,0)):=kI (by rw [E.o,← HL.o,hj,Sj.o]);clear hx hj;obtain ⟨g5,n5,c5,s1,s2,s3,s4,Sk,y0,y1,y2,y3,hel⟩:=O5.o.Xw hjl;injection Sk with Sk Zn Zo
   subst Sk;clear Zn Zo;obtain ⟨R,hR⟩:=gN (L.getD j zR);rw [← hR] at y1 y2 y3 hel E5;have q3:(0:Int)≤(j:Int):=by omega
   have q4:(j:Int) < ((a.length+1:Nat):Int):=by have:=Sj.o;omega
   have Zp:=kI hel;clear hel hR hjl;have b0:=A5.o.cell;have b1':=A5.o.free;have b2':=A5.o.lt;go_wp2_with fail;refine bodyPost_ret (v:=.tuple #[.agg #[.bool R.neg,.slice s1 R.num.length s2,.slice s3 R.den.length s4],.int .i64 0]) (by simp only [results,Tryz.results107];go_simp) rfl ?_;refine ⟨zK.mk (dg.mono (dg.keeps (by decide) _ _ _ _ Zp.o (((ak A5.o 0 (.bool R.neg)).trans (ak (A5.o.set 0 (.bool R.neg)) 1 (.slice s1 R.num.length s2))).trans (ak ((A5.o.set 0 (.bool R.neg)).set 1 (.slice s1 R.num.length s2)) 2 (.slice s3 R.den.length s4)))) (Nat.le_succ _)) E5.o,?_⟩;exact Below.setCell (Below.setCell (Below.setCell X5.o (Nat.le_refl _) _) (Nat.le_refl _) _) (Nat.le_refl _) _
end Go.Proofs.YtnnjbaijcaiohaaGreat
