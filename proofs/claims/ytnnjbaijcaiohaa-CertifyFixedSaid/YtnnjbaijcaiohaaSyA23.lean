/- Walks and lemmas. -/
import Derived.Test.YtnnjbaijcaiohaaSyA14
import Derived.Test.YtnnjbaijcaiohaaSyA16
import Derived.Test.YtnnjbaijcaiohaaSyA10
import Derived.Test.YtnnjbaijcaiohaaSyA18
import Derived.Test.YtnnjbaijcaiohaaSyA20
import Derived.Test.YtnnjbaijcaiohaaSyA22
import Derived.Test.YtnnjbaijcaiohaaSyA17
set_option linter.unusedVariables false
set_option linter.unusedSimpArgs false
set_option maxRecDepth 100000
set_option maxHeartbeats 16000000
namespace Go.Proofs.Ytnnjbaijcaiohaa
open Go.RowKit
def absD (r:RR):RR:=⟨false,r.num,r.den⟩
def dsL (a b:List RR) (k:Nat):List RR:=zR :: (List.range k).map fun i=>absD (subR (a.getD i zR) (b.getD i zR)).1
def mstK (l:List RR):Nat→Nat
 | 0=>0
 | k+1=>if qv (l.getD (mstK l k) zR) < qv (l.getD k zR) then k else mstK l k
def disE (a b:List RR):Int:=frstE (fun i=>(subR (a.getD i zR) (b.getD i zR)).2) a.length
def distS (a b:List RR):RR × Int:=
 if a.length≠b.length then (zR,16) else if disE a b≠0 then (zR,disE a b) else ((dsL a b a.length).getD (mstK (dsL a b a.length) (a.length+1)) zR,0)
theorem dsL_len (a b:List RR) (k:Nat):(dsL a b k).length=k+1:=by simp [dsL]
theorem dsL_succ (a b:List RR) (k:Nat):dsL a b (k+1)=dsL a b k ++ [absD (subR (a.getD k zR) (b.getD k zR)).1]:=by unfold dsL;rw [List.range_succ,List.map_append];rfl
theorem dsL_at {a b:List RR} {k i:Nat} (h:i < k):(dsL a b k).getD (i+1) zR=absD (subR (a.getD i zR) (b.getD i zR)).1:=by
 unfold dsL;rw [List.getD_cons_succ,List.getD_eq_getElem?_getD,List.getElem?_map,List.getElem?_range h];rfl
theorem absD_lim {r:RR} (h:LimR r):LimR (absD r):=h
theorem absD_chk {r:RR} (h:chkR r=0):chkR (absD r)=0:=by
 obtain ⟨b,n,d⟩:=r;unfold absD;unfold chkR at h ⊢;dsimp only at h ⊢;by_cases h1:128 < n.length∨128 < d.length
 ·rw [if_pos h1] at h;cases h
 ·rw [if_neg h1] at h ⊢;by_cases h2:chkE n≠0∨chkE d≠0∨d=[1]∨(n=[]∧(b=true∨d≠[]))
  ·rw [if_pos h2] at h;cases h
  ·rw [if_neg h2] at h;rw [if_neg (fun z=>h2 (by
    rcases z with z|z|z|⟨z1,z|z⟩
    ·exact .inl z
    ·exact .inr (.inl z)
    ·exact .inr (.inr (.inl z))
    ·cases z
    ·exact .inr (.inr (.inr ⟨z1,.inr z⟩))))]
   exact h
theorem dsL_lim (a b:List RR) (k:Nat):LimL (dsL a b k):=fun i hi=>by
 rw [dsL_len] at hi;cases i with
 | zero=>exact zR_lim
 | succ i=>rw [dsL_at (by omega)];exact absD_lim (subR_lim _ _)
theorem dsL_chk {a b:List RR} {k:Nat} (h:∀ i,i < k→(subR (a.getD i zR) (b.getD i zR)).2=0):∀ i,i < (dsL a b k).length→chkR ((dsL a b k).getD i zR)=0:=fun i hi=>by
 rw [dsL_len] at hi;cases i with
 | zero=>rfl
 | succ i=>rw [dsL_at (by omega)];exact absD_chk (subR_val (h i (by omega))).2
theorem dist_1 {a b:List RR} (h:a.length≠b.length):distS a b=(zR,16):=if_pos h
theorem dist_2 {a b:List RR} (h:a.length=b.length) {k:Nat} {c:Int} (hk:k < a.length) (h0:∀ i,i < k→(subR (a.getD i zR) (b.getD i zR)).2=0) (h1:(subR (a.getD k zR) (b.getD k zR)).2=c) (hc:c≠0):distS a b=(zR,c):=by
 have e:disE a b=c:=(frstE_at (f:=fun i=>(subR (a.getD i zR) (b.getD i zR)).2) h0 (by rw [h1];exact hc) hk).trans h1;unfold distS;rw [if_neg (fun z=>z h),e,if_pos hc]
theorem dist_3 {a b:List RR} (h:a.length=b.length) (h0:∀ i,i < a.length→(subR (a.getD i zR) (b.getD i zR)).2=0):distS a b=((dsL a b a.length).getD (mstK (dsL a b a.length) (a.length+1)) zR,0):=by
 have e:disE a b=0:=frstE_zero h0;unfold distS;rw [if_neg (fun z=>z h),e,if_neg (fun z=>z rfl)]
theorem dist1_any (va vb:Value) (ra rb:RR) (w:World) (ha:RdR w va ra) (hb:RdR w vb rb) (la:LimR ra) (lb:LimR rb) :
  Calls Try.prog 64 #[va,vb] w fun e w'=>e=.returned (.bool (lssR rb ra))∧Ext w w':=by
 have hcm:=fun W (x:Ext w W)=>mdsmaller_any vb va rb ra W (hb.ext x) (ha.ext x) lb la;obtain ⟨q,hq⟩:=gN (lssR rb ra);rw [← hq] at hcm ⊢;obtain ⟨a1,a2,a3,a4,rfl⟩:=ha.shape;obtain ⟨b1,b2,b3,b4,rfl⟩:=hb.shape;have HC:=kI hcm;have X0:=kI (((Ext.refl w).alloc (.cells #[.bool ra.neg,.slice a1 ra.num.length a2,.slice a3 ra.den.length a4] 25)).alloc (.cells #[.bool rb.neg,.slice b1 rb.num.length b2,.slice b3 rb.den.length b4] 25));clear hcm hq ha hb la lb;go_enter Try.func64,Try.ntmps64
 go_wp2_with fail;refine (HC.o _ X0.o).mono ?_;rintro e w1 ⟨rfl,hx⟩;have X1:=kI (X0.o.trans hx);clear hx;go_wp2_with fail;go_ret;exact ⟨rfl,X1.o⟩
theorem mstK_lt {l:List RR}:∀ {k:Nat},0 < k→mstK l k < k
 | 0,h=>by omega
 | k+1,_=>by
  unfold mstK;split
  ·omega
  ·rcases Nat.eq_zero_or_pos k with h0|h0
   ·subst h0;exact Nat.zero_lt_one
   ·have:=mstK_lt (l:=l) h0;omega
theorem mstK_le (l:List RR) (k n:Nat) (h:k≤n) (hn:0 < n):mstK l k < n:=by
 rcases Nat.eq_zero_or_pos k with h0|h0
 ·subst h0;exact hn
 ·have:=mstK_lt (l:=l) h0;omega
theorem mostd_any (v:Value) (l:List RR) (w:World) (h:RdRs w v l) (hl:LimL l) (hv:∀ i,i < l.length→chkR (l.getD i zR)=0) :
  Calls Try.prog 25 #[v,.func (.func 64) #[] #[]] w fun e w'=>e=.returned (.int .i64 (mstK l l.length))∧Ext w w':=by
 obtain ⟨a,c,rfl,hc,hm,_⟩:=h.get;have hll:l.length≤9223372036854775807:=by omega
 have HR:=kI h;have HL:=kI hl;have HV:=kI hv;clear h hl hv hc hm;have X:=kI (Ext.refl w);go_enter Try.func25,Try.ntmps25
 go_wp2_with fail;go_loopw [5,9] (fun b i wr=>∃ k:Nat,k≤l.length∧i=.int .i64 k∧b=.int .i64 (mstK l k)∧Ext w wr) (fun _ i _=>l.length - (intOf i).toNat)
 case atStart=>exact ⟨0,by omega,rfl,rfl,Ext.refl _⟩
 case round=>
  obtain ⟨wk,hwk⟩:=gN (wr);subst hwk;obtain ⟨k,hk,rfl,rfl,hx⟩:=hrel;have XK:=kI hx;have HW:=kI (HR.o.ext hx);clear hx;by_cases hlt:k < l.length
  ·have hb:=mstK_le l k l.length hk (by omega);have hst:mstK l (k+1)=if qv (l.getD (mstK l k) zR) < qv (l.getD k zR) then k else mstK l k:=rfl;obtain ⟨j,hj⟩:=gN (mstK l k);rw [← hj] at hb hst ⊢;obtain ⟨b,off,a1,c1,a2,c2,ea,z0,z1,z2,z3,z4⟩:=HW.o.at hlt;obtain ⟨b',off',a3,c3,a4,c4,eb,y0,y1,y2,y3,y4⟩:=HW.o.at hb;rw [ea] at eb;injection eb with eb
   injection eb with eb1 eb2
   subst eb1;subst eb2;subst ea;have hl1:=HL.o k;have hl2:=HL.o j;have hlo:=lssR_ok (HV.o j hb) (HV.o k hlt);obtain ⟨r,hr⟩:=gN (l.getD k zR);obtain ⟨s,hs⟩:=gN (l.getD j zR);rw [← hr] at z1 z2 z3 z4 hl1 hlo hst;rw [← hs] at y1 y2 y3 y4 hl2 hlo hst;have NR:=kI z4;have NS:=kI y4;have H1:=kI hl1;have H2:=kI hl2;have HLO:=kI hlo;have HST:=kI hst;have HJ:=kI hj;have q1:(0:Int)≤(k:Int):=by omega
   have q2:(k:Int) < (l.length:Int):=by omega
   have q3:(0:Int)≤(j:Int):=by omega
   have q4:(j:Int) < (l.length:Int):=by omega
   clear z4 y4 hl1 hl2 hlo hst hr hs hj;go_wp2_with fail;refine wp_region_quietE_tail 9 (by kernel_rfl) (by kernel_rfl) ?_;simp only [List.take_succ_cons,List.take_zero,List.drop_succ_cons,List.drop_zero];(repeat (go_big_quiet_step (fail)))
   refine wpQuiet_nil ?_;rintro w1 ⟨⟨_,hx1⟩,rfl⟩;(try dsimp only);replace XK:=kI (XK.o.trans hx1);clear z0 z1 z2 z3 y0 y1 y2 y3 HW;go_wp2_with fail;refine (dist1_any _ _ r s w1 (NR.o.ext hx1) (NS.o.ext hx1) (H1.o hlt) (H2.o hb)).mono ?_;rintro e w2 ⟨rfl,hx⟩;replace XK:=kI (XK.o.trans hx);clear hx hx1;obtain ⟨q,hq⟩:=gN (lssR s r);have HQ:=kI hq;rw [← hq];clear hq;cases q
   ·go_wp2_with fail;go_roundw
    case rel=>
     have hn:¬ qv s < qv r:=of_decide_eq_false (HLO.o.symm.trans HQ.o.symm);exact ⟨k+1,by omega,by go_num,by rw [HST.o,if_neg hn],XK.o⟩
    case measure=>simp [intOf];omega
   ·go_wp2_with fail;go_roundw
    case rel=>
     have hn:qv s < qv r:=of_decide_eq_true (HLO.o.symm.trans HQ.o.symm);exact ⟨k+1,by omega,by go_num,by rw [HST.o,if_pos hn],XK.o⟩
    case measure=>simp [intOf];omega
  ·obtain rfl:k=l.length:=by omega
   have q1:¬ (l.length:Int) < (l.length:Int):=by omega
   go_wp2_with fail;go_ret;exact ⟨rfl,XK.o⟩
def ResD (w w':World) (e:Ending) (r:RR × Int):Prop:=∃ s1 s2 s3 s4,e=.returned (.tuple #[.agg #[.bool r.1.neg,.slice s1 r.1.num.length s2,.slice s3 r.1.den.length s4],.int .i64 r.2])∧ElN w.heap.size w' [.bool r.1.neg,.slice s1 r.1.num.length s2,.slice s3 r.1.den.length s4] r.1
theorem ResD.mk {w w':World} {s1 s3:Option Addr} {s2 s4:Nat} {l:RR} {x:Int} {r:RR × Int} (h:ElN w.heap.size w' [.bool l.neg,.slice s1 l.num.length s2,.slice s3 l.den.length s4] l) (e:r=(l,x)):ResD w w' (.returned (.tuple #[.agg #[.bool l.neg,.slice s1 l.num.length s2,.slice s3 l.den.length s4],.int .i64 x])) r:=by subst e;exact ⟨_,_,_,_,rfl,h⟩
theorem ElN.zero (B:Nat) (w:World):ElN B w [.bool zR.neg,.slice none zR.num.length 0,.slice none zR.den.length 0] zR:=⟨none,0,none,0,rfl,sfW_nil _ _,sfW_nil _ _⟩
theorem ElN.abs {B:Nat} {w:World} {r:RR} {s1 s3:Option Addr} {s2 s4:Nat} (h:ElN B w [.bool r.neg,.slice s1 r.num.length s2,.slice s3 r.den.length s4] r):ElN B w [.bool (absD r).neg,.slice s1 (absD r).num.length s2,.slice s3 (absD r).den.length s4] (absD r):=by
 obtain ⟨a1,c1,a2,c2,e,h1,h2⟩:=h;simp only [List.cons.injEq,Value.slice.injEq,and_true,true_and] at e;obtain ⟨⟨rfl,rfl⟩,rfl,rfl⟩:=e;exact ⟨_,_,_,_,rfl,h1,h2⟩
theorem OwN.one {B:Nat} {w:World} {g:Nat} {r:RR} {s1 s3:Option Addr} {s2 s4:Nat} (hb:Blk w g #[.bool r.neg,.slice s1 r.num.length s2,.slice s3 r.den.length s4] 25) (hB:B≤g) (h:ElN B w [.bool r.neg,.slice s1 r.num.length s2,.slice s3 r.den.length s4] r):OwN B w (.slice (some ⟨g,0,none⟩) 1 1) [r]:=by
 refine ⟨[[.bool r.neg,.slice s1 r.num.length s2,.slice s3 r.den.length s4]],⟨rfl,.inr ⟨g,1,_,rfl,hB,hb,Nat.le_refl _,by unfold maxLen;omega,rfl,rfl⟩⟩,rfl,(fun x hx=>by rw [List.mem_singleton.1 hx];rfl),fun i x hi=>?_⟩;cases i with
 | zero=>exact ⟨_,rfl,by injection hi with hi;subst hi;exact h⟩
 | succ i=>simp at hi
def ceDJ (pa:Option Addr) (na ca:Nat) (pb:Option Addr) (nb cb k:Nat) (xa oa xb ob:Nat) (xr yr:RR) (a1:Option Addr) (a2:Nat) (a3:Option Addr) (a4:Nat) (b1:Option Addr) (b2:Nat) (b3:Option Addr) (b4:Nat) (d:RR) (c:Int) (B C:Nat) (j:Nat) (v:Value) (W:World):Prop:=
 match j with
 | 0=>v=.slice pa na ca
 | 1=>v=.int .i64 (k:Nat)
 | 2=>v=.pointer (some ⟨xa,oa+k*3,none⟩)
 | 3=>v=.agg #[.bool xr.neg,.slice a1 xr.num.length a2,.slice a3 xr.den.length a4]
 | 4=>v=.slice pb nb cb
 | 5=>v=.int .i64 (k:Nat)
 | 6=>v=.pointer (some ⟨xb,ob+k*3,none⟩)
 | 7=>v=.agg #[.bool yr.neg,.slice b1 yr.num.length b2,.slice b3 yr.den.length b4]
 | 8=>∃ s1 s2 s3 s4,v=.tuple #[.agg #[.bool d.neg,.slice s1 d.num.length s2,.slice s3 d.den.length s4],.int .i64 c]∧SfW B W (.slice s1 d.num.length s2) d.num∧SfW B W (.slice s3 d.den.length s4) d.den
 | 9=>∃ s1 s2 s3 s4,v=.tuple #[.agg #[.bool d.neg,.slice s1 d.num.length s2,.slice s3 d.den.length s4],.int .i64 c]∧SfW B W (.slice s1 d.num.length s2) d.num∧SfW B W (.slice s3 d.den.length s4) d.den
 | 10=>∃ s1 s2 s3 s4,v=.agg #[.bool d.neg,.slice s1 d.num.length s2,.slice s3 d.den.length s4]∧SfW B W (.slice s1 d.num.length s2) d.num∧SfW B W (.slice s3 d.den.length s4) d.den
 | 11=>v=.int .i64 c
 | 12=>∃ y,v=.pointer (some ⟨y,0,none⟩)∧C≤y∧Blk W y #[.bool false,.slice none 0 0,.slice none 0 0] 25
 | _=>True
theorem ceDJ_ext {pa:Option Addr} {na ca:Nat} {pb:Option Addr} {nb cb k:Nat} {xa oa xb ob:Nat} {xr yr:RR} {a1:Option Addr} {a2:Nat} {a3:Option Addr} {a4:Nat} {b1:Option Addr} {b2:Nat} {b3:Option Addr} {b4:Nat} {d:RR} {c:Int} {B C:Nat} {j:Nat} {v:Value} {W W':World} (h:ceDJ pa na ca pb nb cb k xa oa xb ob xr yr a1 a2 a3 a4 b1 b2 b3 b4 d c B C j v W) (xx:Ext W W'):ceDJ pa na ca pb nb cb k xa oa xb ob xr yr a1 a2 a3 a4 b1 b2 b3 b4 d c B C j v W':=by
 match j,h with
 | 0,h=>exact h
 | 1,h=>exact h
 | 2,h=>exact h
 | 3,h=>exact h
 | 4,h=>exact h
 | 5,h=>exact h
 | 6,h=>exact h
 | 7,h=>exact h
 | 8,⟨s1,s2,s3,s4,h0,h1,h2⟩=>exact ⟨s1,s2,s3,s4,h0,h1.ext xx,h2.ext xx⟩
 | 9,⟨s1,s2,s3,s4,h0,h1,h2⟩=>exact ⟨s1,s2,s3,s4,h0,h1.ext xx,h2.ext xx⟩
 | 10,⟨s1,s2,s3,s4,h0,h1,h2⟩=>exact ⟨s1,s2,s3,s4,h0,h1.ext xx,h2.ext xx⟩
 | 11,h=>exact h
 | 12,⟨y,h0,h1,h2⟩=>exact ⟨y,h0,h1,h2.ext xx⟩
 | _+13,_=>trivial
theorem dist_any (va vb:Value) (a b:List RR) (w:World) (ha:RdRs w va a) (hb:RdRs w vb b) (hla:LimL a) (hlb:LimL b) (h6:a.length≤1000000) :
  Calls Try.prog 39 #[va,vb] w fun e w'=>ResD w w' e (distS a b)∧Ext w w':=by
 obtain ⟨pa,ca,rfl,hca,hma,-⟩:=ha.get;obtain ⟨pb,cb,rfl,hcb,hmb,-⟩:=hb.get;have HA:=kI ha;have HB:=kI hb;have HLA:=kI hla;have HLB:=kI hlb;have H6:=kI h6;have HA0:=HA;have HB0:=HB;have hal:a.length≤9223372036854775807:=by omega
 have hbl:b.length≤9223372036854775807:=by omega
 clear ha hb hla hlb hca hma hcb hmb;have bb0:=(Blk.new w #[.bool false,.slice none 0 0,.slice none 0 0] 25);have x0:Ext w (w.alloc (.cells #[.bool false,.slice none 0 0,.slice none 0 0] 25)):=((Ext.refl w).alloc _);have A0:=kI bb0;have X:=kI x0;clear x0 bb0;clear HA HB h6;by_cases hn:a.length=b.length
 rotate_left
 ·have q1:((a.length:Int) != (b.length:Int))=true:=bne_iff_ne.2 (by omega);have E:=kI (dist_1 hn);clear hn;go_enter Try.func39,Try.ntmps39
  obtain ⟨qA0,fA0,lA0⟩:=A0.o.q3;go_wp2_with fail;refine bodyPost_ret (v:=.tuple #[.agg #[.bool false,.slice none 0 0,.slice none 0 0],.int .i64 16]) (by simp only [results,Try.results39];go_simp) rfl ?_;exact ⟨ResD.mk (ElN.zero _ _) E.o,X.o⟩
 have q1:((a.length:Int) != (b.length:Int))=false:=bne_eq_false_iff_eq.2 (by omega);go_enter Try.func39,Try.ntmps39
 obtain ⟨qA0,fA0,lA0⟩:=A0.o.q3;go_wp2_with fail;clear qA0 fA0 lA0;have b1:=Blk.new (w.alloc (.cells #[.bool false,.slice none 0 0,.slice none 0 0] 25)) #[.bool false,.slice none 0 0,.slice none 0 0] 25;rw [World.size_alloc] at b1;have hx:Ext (w.alloc (.cells #[.bool false,.slice none 0 0,.slice none 0 0] 25)) ((w.alloc (.cells #[.bool false,.slice none 0 0,.slice none 0 0] 25)).alloc (.cells #[.bool false,.slice none 0 0,.slice none 0 0] 25)):=(Ext.refl _).alloc _;obtain ⟨wl,hwl⟩:=gN ((w.alloc (.cells #[.bool false,.slice none 0 0,.slice none 0 0] 25)).alloc (.cells #[.bool false,.slice none 0 0,.slice none 0 0] 25));rw [← hwl] at b1 hx ⊢;have hone:OwN (w.heap.size+1) wl (.slice (some ⟨w.heap.size+1,0,none⟩) 1 1) [zR]:=OwN.one (s1:=none) (s2:=0) (s3:=none) (s4:=0) b1 (Nat.le_refl _) (ElN.zero _ _);replace A0:=kI (A0.o.ext hx);replace X:=kI (X.o.trans hx);have ON:=kI hone;have HN:=kI hn;have AN:=kI (show w.heap.size < wl.heap.size from A0.o.lt);clear b1 hx hwl hone hn;go_loopw [20,6] (fun i lv wr=>∃ k:Nat,k≤a.length∧i=.int .i64 (k:Nat)∧(∀ i,i < k→(subR (a.getD i zR) (b.getD i zR)).2=0)∧OwN (w.heap.size+1) wr lv (dsL a b k)∧Blk wr w.heap.size #[.bool false,.slice none 0 0,.slice none 0 0] 25∧Ext w wr) (fun i _ _=>a.length - (intOf i).toNat)
 case atStart=>exact ⟨0,Nat.zero_le _,rfl,fun i h=>absurd h (Nat.not_lt_zero _),ON.o,A0.o,X.o⟩
 case round=>
  obtain ⟨wi,hwi⟩:=gN (wr);subst hwi;clear ON A0 X;obtain ⟨k,hk,rfl,hok,how,ha0,hx⟩:=hrel;have OK:=kI hok;have OW:=kI how;have A0:=kI ha0;have X:=kI hx;have HA:=kI (HA0.o.ext hx);have HB:=kI (HB0.o.ext hx);have HK:=kI hk;obtain ⟨la,lc,rfl⟩:=how.shape;rw [dsL_len] at OW ⊢;clear hok how ha0 hx hk;by_cases hlt:k < a.length
  ·have HLT:=kI hlt;have q1:(0:Int)≤(k:Int):=by omega
   have q2:(k:Int) < (a.length:Int):=by omega
   have q4:(k:Int) < (b.length:Int):=by have:=HN.o;omega
   obtain ⟨xa,oa,a1,a2,a3,a4,rfl,x0,x1,x2,x3,x4⟩:=HA.o.at hlt;obtain ⟨xb,ob,b1,b2,b3,b4,rfl,y0,y1,y2,y3,y4⟩:=HB.o.at (i:=k) (by rw [← HN.o];exact hlt);have hxl:=HLA.o k hlt;have hyl:=HLB.o k (by rw [← HN.o];exact hlt);obtain ⟨xr,hxr⟩:=gN (a.getD k zR);obtain ⟨yr,hyr⟩:=gN (b.getD k zR);rw [← hxr] at x1 x2 x3 x4 hxl;rw [← hyr] at y1 y2 y3 y4 hyl;have HXR:=kI hxr;have HYR:=kI hyr;obtain ⟨R,hR⟩:=gN (subR xr yr);have HR:=kI hR;obtain ⟨d,c⟩:=R;have hsub:∀ W,Ext wi W→Calls Try.prog 44 #[.agg #[.bool xr.neg,.slice a1 xr.num.length a2,.slice a3 xr.den.length a4],.agg #[.bool yr.neg,.slice b1 yr.num.length b2,.slice b3 yr.den.length b4]] W fun e w'=>ResR W w' e (d,c)∧Ext W w':=fun W hW=>by
    have h:=subR_any _ _ xr yr W (x4.ext hW) (y4.ext hW) hxl hyl;rw [← hR] at h;exact h
   have HSU:=kI hsub;have XS1:=kI (show w.heap.size+1≤wi.heap.size from A0.o.lt);have XS:=kI (And.intro x0 (And.intro x1 (And.intro x2 x3)));have YS:=kI (And.intro y0 (And.intro y1 (And.intro y2 y3)));clear hxl hyl hxr hyr hR hsub x0 x1 x2 x3 x4 y0 y1 y2 y3 y4;go_wp2_with fail;refine wp_region_each_float 13 11 (ceDJ (some ⟨xa,oa,none⟩) a.length ca (some ⟨xb,ob,none⟩) b.length cb k xa oa xb ob xr yr a1 a2 a3 a4 b1 b2 b3 b4 d c (w.heap.size+1) wi.heap.size) rfl (by kernel_rfl) (by kernel_rfl) (by kernel_rfl) (fun _ _ _ _ h x=>ceDJ_ext h x) (fun _ _ d _ _ h=>by cases d <;> exact h) ?_ ?_ ?_
   ·refine ⟨?_,?_,?_,?_,?_,?_,?_,?_,?_,?_,?_,?_,?_,trivial⟩
    ·intro a W hW hB hD K hK;have b0:=hB 0 rfl;simp only [sB] at b0;go_simp;exact hK _ _ (Ext.refl _) rfl
    ·intro a W hW hB hD K hK;have b7:=hB 7 rfl;simp only [sB] at b7;go_simp;exact hK _ _ (Ext.refl _) rfl
    ·intro a W hW hB hD K hK;obtain ⟨v24,e24,h24⟩:=dpE (hD 0 _ 24 rfl rfl (by kernel_rfl));obtain rfl:=h24;obtain ⟨v25,e25,h25⟩:=dpE (hD 1 _ 25 rfl rfl (by kernel_rfl));obtain rfl:=h25;go_simp;exact hK _ _ (Ext.refl _) rfl
    ·intro a W hW hB hD K hK;obtain ⟨v26,e26,h26⟩:=dpE (hD 2 _ 26 rfl rfl (by kernel_rfl));obtain rfl:=h26;have m0:=(hW.cell (p:=⟨xa,oa+k*3,none⟩) XS.o.1).trans XS.o.2.1;have m1:=(hW.cell (p:=⟨xa,oa+k*3+1,none⟩) XS.o.1).trans XS.o.2.2.1;have m2:=(hW.cell (p:=⟨xa,oa+k*3+2,none⟩) XS.o.1).trans XS.o.2.2.2;have ml:=Nat.lt_of_lt_of_le XS.o.1 hW.size;go_simp;exact hK _ _ (Ext.refl _) rfl
    ·intro a W hW hB hD K hK;have b1:=hB 1 rfl;simp only [sB] at b1;go_simp;exact hK _ _ (Ext.refl _) rfl
    ·intro a W hW hB hD K hK;have b7:=hB 7 rfl;simp only [sB] at b7;go_simp;exact hK _ _ (Ext.refl _) rfl
    ·intro a W hW hB hD K hK;obtain ⟨v28,e28,h28⟩:=dpE (hD 4 _ 28 rfl rfl (by kernel_rfl));obtain rfl:=h28;obtain ⟨v29,e29,h29⟩:=dpE (hD 5 _ 29 rfl rfl (by kernel_rfl));obtain rfl:=h29;go_simp;exact hK _ _ (Ext.refl _) rfl
    ·intro a W hW hB hD K hK;obtain ⟨v30,e30,h30⟩:=dpE (hD 6 _ 30 rfl rfl (by kernel_rfl));obtain rfl:=h30;have m0:=(hW.cell (p:=⟨xb,ob+k*3,none⟩) YS.o.1).trans YS.o.2.1;have m1:=(hW.cell (p:=⟨xb,ob+k*3+1,none⟩) YS.o.1).trans YS.o.2.2.1;have m2:=(hW.cell (p:=⟨xb,ob+k*3+2,none⟩) YS.o.1).trans YS.o.2.2.2;have ml:=Nat.lt_of_lt_of_le YS.o.1 hW.size;go_simp;exact hK _ _ (Ext.refl _) rfl
    ·intro a W hW hB hD K hK;obtain ⟨v27,e27,h27⟩:=dpE (hD 3 _ 27 rfl rfl (by kernel_rfl));obtain rfl:=h27;obtain ⟨v31,e31,h31⟩:=dpE (hD 7 _ 31 rfl rfl (by kernel_rfl));obtain rfl:=h31;go_simp;refine (HSU.o W hW).mono ?_;rintro e w9 ⟨⟨v,rfl,nn⟩,hx⟩;obtain ⟨t1,t2,t3,t4,rfl⟩:=nn.shape;obtain ⟨hs1,hs2⟩:=nn.sf (B:=w.heap.size+1) (Nat.le_trans XS1.o hW.size);exact hK _ _ hx ⟨_,_,_,_,rfl,hs1,hs2⟩
    ·intro a W hW hB hD K hK;obtain ⟨v32,e32,h32⟩:=dpE (hD 8 _ 32 rfl rfl (by kernel_rfl));obtain ⟨x91,x92,x93,x94,rfl,xq,xr9⟩:=h32;go_simp;exact hK _ _ (Ext.refl _) ⟨_,_,_,_,rfl,xq,xr9⟩
    ·intro a W hW hB hD K hK;obtain ⟨v23,e23,h23⟩:=dpE (hD 9 _ 23 rfl rfl (by kernel_rfl));obtain ⟨x91,x92,x93,x94,rfl,xq,xr9⟩:=h23;go_simp;exact hK _ _ (Ext.refl _) ⟨_,_,_,_,rfl,xq,xr9⟩
    ·intro a W hW hB hD K hK;obtain ⟨v23,e23,h23⟩:=dpE (hD 9 _ 23 rfl rfl (by kernel_rfl));obtain ⟨x91,x92,x93,x94,rfl,xq,xr9⟩:=h23;go_simp;exact hK _ _ (Ext.refl _) rfl
    ·intro a W hW hB hD K hK;go_simp;exact hK _ _ ((Ext.refl _).alloc _) ⟨_,rfl,hW.size,Blk.new _ _ _⟩
   ·intro a W hW hB hD;have h23:=hD 9 _ 23 rfl rfl (by kernel_rfl);obtain ⟨v23,e23⟩:∃ x,a.tmps.getD 23 undef=x:=⟨_,rfl⟩;rw [e23] at h23;obtain ⟨x91,x92,x93,x94,rfl,xq,xr9⟩:=h23;exact ⟨.int .i64 c,fun w9=>run_extract9 e23 rfl rfl w9,rfl⟩
   intro w7 hx;simp only [Vals,List.take_succ_cons,List.take_zero,List.drop_succ_cons,List.drop_zero];rintro u0 - u1 - u2 - u3 - u4 - u5 - u6 - u7 - u8 - u9 - u10 h10 u11 h11 u12 h12;obtain ⟨r1,r2,r3,r4,rfl,S1,S2⟩:=h10;obtain rfl:=h11;obtain ⟨Y,rfl,hY,BY⟩:=h12;simp only [Act.put,List.setIfInBounds_toArray,List.set_cons_zero,List.set_cons_succ];have X7:=kI (show Ext w w7 from X.o.trans hx);have O7:=kI (OW.o.ext' hx);have A7:=kI (A0.o.ext hx);have XI7:=kI hx;have YI:=kI hY;have YL:=kI (show w.heap.size≤Y∧w.heap.size≠Y from ⟨Nat.le_trans X.o.size hY,by have:=A0.o.lt;omega⟩);have BYH:=kI BY;have SS1:=kI S1;have SS2:=kI S2;clear hx hY BY S1 S2 XS YS HSU;by_cases hc:c=0
   rotate_left
   ·have q3:(c != 0)=true:=by simpa using hc
    have E:=kI (dist_2 HN.o HLT.o OK.o (c:=c) (by rw [← HXR.o,← HYR.o,← HR.o]) hc);clear hc;have b0:=BYH.o.cell;have b1':=BYH.o.free;have b2':=BYH.o.lt;have b3':=A7.o.cell;have b4':=A7.o.free;have b5':=A7.o.lt;have b6':=YL.o.2;go_wp2_with fail;refine bodyPost_ret (v:=.tuple #[.agg #[.bool false,.slice none 0 0,.slice none 0 0],.int .i64 c]) (by simp only [results,Try.results39];go_simp) rfl ?_;exact ⟨ResD.mk (ElN.zero _ _) E.o,by have:=YL.o.1;exact Below.setCell (Below.setCell (Below.setCell (Below.setCell (Below.setCell (Below.setCell X7.o (by dsimp only;omega) _) (by dsimp only;omega) _) (by dsimp only;omega) _) (by dsimp only;omega) _) (by dsimp only;omega) _) (by dsimp only;omega) _⟩
   subst hc;have b0:=BYH.o.cell;have b1':=BYH.o.free;have b2':=BYH.o.lt;have HEL:=kI (ElN.abs (show ElN (w.heap.size+1) w7 [.bool d.neg,.slice r1 d.num.length r2,.slice r3 d.den.length r4] d from ⟨_,_,_,_,rfl,SS1.o,SS2.o⟩));have HAL:=kI hal;have HLN:=kI (dsL_len a b k);have hxi:=XI7.o;have hyi:=YI.o;have hsz:w.heap.size≤wi.heap.size:=X.o.size;go_wp2_with (at_builtin;(go_loud (refine wpList_append_row (El:=ElN (w.heap.size+1)) (l:=dsL a b k) _ rfl _ _ 32 rfl (w.heap.size+1) 25 (.agg #[.bool false,.slice none 0 0,.slice none 0 0]) 3 56 Try.underlying32 Try.infoR rfl (by decide) (ElN.keeps (by decide)) _ (OW.o.ext' (by have k9:=hyi;exact Below.setCell (Below.setCell (Below.setCell (Below.setCell hxi (by dsimp only;omega) _) (by dsimp only;omega) _) (by dsimp only;omega) _) (by dsimp only;omega) _)) (by first|rfl|(rw [HLN.o];rfl)) [.bool (absD d).neg,.slice r1 (absD d).num.length r2,.slice r3 (absD d).den.length r4] rfl (by simp [Value.oneCell']) (absD d) ?hel (by first|rfl|(simp only [World.size_setCell];rfl)) ?h63 ?hby ?hB ?_)))
   case hel=>exact ElN.keeps (by decide) _ _ _ _ HEL.o ((((keepsR BYH.o 0 (.bool d.neg)).trans (keepsR (BYH.o.set 0 (.bool d.neg)) 1 (.slice r1 d.num.length r2))).trans (keepsR ((BYH.o.set 0 (.bool d.neg)).set 1 (.slice r1 d.num.length r2)) 2 (.slice r3 d.den.length r4))).trans (keepsR (((BYH.o.set 0 (.bool d.neg)).set 1 (.slice r1 d.num.length r2)).set 2 (.slice r3 d.den.length r4)) 0 (.bool false)))
   case h63=>rw [HLN.o];have:=H6.o;have:=HLT.o;omega
   case hby=>rw [HLN.o];have:=H6.o;have:=HLT.o;omega
   case hB=>simp only [World.size_setCell];have:=XS1.o;have:=XI7.o.size;omega
   intro g cap w9 hown hk;obtain ⟨W8,hW8⟩:=gN ((((w7.setCell ⟨Y,0,none⟩ (.bool d.neg)).setCell ⟨Y,1,none⟩ (.slice r1 d.num.length r2)).setCell ⟨Y,2,none⟩ (.slice r3 d.den.length r4)).setCell ⟨Y,0,none⟩ (.bool false));have a8:Blk W8 w.heap.size #[.bool false,.slice none 0 0,.slice none 0 0] 25:=by rw [hW8];exact (((A7.o.setOther (a:=⟨Y,0,none⟩) (by have:=YL.o;dsimp only;omega) _).setOther (a:=⟨Y,1,none⟩) (by have:=YL.o;dsimp only;omega) _).setOther (a:=⟨Y,2,none⟩) (by have:=YL.o;dsimp only;omega) _).setOther (a:=⟨Y,0,none⟩) (by have:=YL.o;dsimp only;omega) _
   have x8:Ext w W8:=by rw [hW8];exact Below.setCell (Below.setCell (Below.setCell (Below.setCell X7.o (by have:=YL.o;dsimp only;omega) _) (by have:=YL.o;dsimp only;omega) _) (by have:=YL.o;dsimp only;omega) _) (by have:=YL.o;dsimp only;omega) _
   have s8:w.heap.size+1≤W8.heap.size:=a8.lt;rw [← hW8] at hk;have f1:Blk w9 w.heap.size #[.bool false,.slice none 0 0,.slice none 0 0] 25:=(hk.block _ a8.lt (.inl (by omega))).trans a8;have f2:Ext w w9:=Below.trans x8 ((hk.below s8).mono (Nat.le_succ _));have f3:OwN (w.heap.size+1) w9 (.slice (some ⟨g,0,none⟩) (k+1+1) cap) (dsL a b (k+1)):=by
    rw [HLN.o] at hown;rw [dsL_succ,← HXR.o,← HYR.o,← HR.o];exact hown
   have f4:∀ i,i < k+1→(subR (a.getD i zR) (b.getD i zR)).2=0:=fun i hi=>by
    by_cases e:i=k
    ·rw [e,← HXR.o,← HYR.o,← HR.o]
    ·exact OK.o i (by omega)
   have F1:=kI f1;have F2:=kI f2;have F3:=kI f3;have F4:=kI f4;rw [HLN.o];clear hown hk hW8 a8 x8 s8 f1 f2 f3 f4 b0 b1' b2';go_wp2_with fail;go_roundw
   case rel=>exact ⟨k+1,HLT.o,by go_num,F4.o,F3.o,F1.o,F2.o⟩
   case measure=>first|(simp [intOf];done)|(simp [intOf];omega)
  ·obtain rfl:a.length=k:=by have:=HK.o;omega
   have q1:¬ ((a.length:Int) < (b.length:Int)):=by have:=HN.o;omega
   have HLN:=kI (dsL_len a b a.length);clear hlt;obtain ⟨L,hL⟩:=gN (dsL a b a.length);have HL:=kI hL;have hlm:LimL L:=by rw [hL];exact dsL_lim _ _ _
   have hch:∀ i,i < L.length→chkR (L.getD i zR)=0:=by rw [hL];exact dsL_chk OK.o
   have hln:L.length=a.length+1:=by rw [hL];exact dsL_len _ _ _
   rw [← hL] at OW;have HLM:=kI hlm;have HCH:=kI hch;have HLL:=kI hln;have E:=kI (dist_3 HN.o OK.o);clear hL hlm hch hln HLN;go_wp2_with fail;refine (mostd_any _ L wi OW.o.rd HLM.o HCH.o).mono ?_;rintro e w5 ⟨rfl,hx⟩;obtain ⟨j,hj⟩:=gN (mstK L L.length);rw [← hj];have hjl:j < L.length:=by rw [hj];exact mstK_lt (by rw [HLL.o];exact Nat.succ_pos _)
   have JL:=kI hjl;have O5:=kI (OW.o.ext' hx);have A5:=kI (A0.o.ext hx);have X5:=kI (X.o.trans hx);have E5:Hid (distS a b=(L.getD j zR,0)):=kI (by rw [E.o,← HL.o,hj,HLL.o]);clear hx hj;obtain ⟨g5,n5,c5,s1,s2,s3,s4,eq5,y0,y1,y2,y3,hel⟩:=O5.o.atS hjl;injection eq5 with eq5 en5 ec5
   subst eq5;clear en5 ec5;obtain ⟨R,hR⟩:=gN (L.getD j zR);rw [← hR] at y1 y2 y3 hel E5;have q3:(0:Int)≤(j:Int):=by omega
   have q4:(j:Int) < ((a.length+1:Nat):Int):=by have:=HLL.o;omega
   have EL5:=kI hel;clear hel hR hjl;have b0:=A5.o.cell;have b1':=A5.o.free;have b2':=A5.o.lt;go_wp2_with fail;refine bodyPost_ret (v:=.tuple #[.agg #[.bool R.neg,.slice s1 R.num.length s2,.slice s3 R.den.length s4],.int .i64 0]) (by simp only [results,Try.results39];go_simp) rfl ?_;refine ⟨ResD.mk (ElN.mono (ElN.keeps (by decide) _ _ _ _ EL5.o (((keepsR A5.o 0 (.bool R.neg)).trans (keepsR (A5.o.set 0 (.bool R.neg)) 1 (.slice s1 R.num.length s2))).trans (keepsR ((A5.o.set 0 (.bool R.neg)).set 1 (.slice s1 R.num.length s2)) 2 (.slice s3 R.den.length s4)))) (Nat.le_succ _)) E5.o,?_⟩;exact Below.setCell (Below.setCell (Below.setCell X5.o (Nat.le_refl _) _) (Nat.le_refl _) _) (Nat.le_refl _) _
end Go.Proofs.Ytnnjbaijcaiohaa
