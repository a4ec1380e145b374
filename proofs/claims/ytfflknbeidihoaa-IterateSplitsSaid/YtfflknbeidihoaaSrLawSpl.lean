/- Lemmas and walks of this claim. Conditions: as each states. -/
import Derived.Test.YtfflknbeidihoaaSrAw22
import Derived.Test.YtfflknbeidihoaaSrLong22b
import Derived.Test.YtfflknbeidihoaaSrScP
import Derived.Test.YtfflknbeidihoaaSrCutP
set_option linter.unusedVariables false
set_option linter.unusedSimpArgs false
namespace Go.Proofs.Ytfflknbeidihoaa
open Go.RowKit
abbrev SpG:=List (List RR)
abbrev SpQ:=List (List Int)
def spJ (pa:Option Addr) (hc n b1 o1 ja kb:Nat) (a1:Option Addr) (c1 nv:Nat) (g2:SpG) (q2:SpQ) (m:MD) (m1:Option Addr) (n1:Nat) (m2:Option Addr) (n2:Nat) (m3:Option Addr) (n3:Nat) (j:Nat) (v:Value) (W:World):Prop:=
 match j with
 | 0=>v=.agg #[.bool m.disc.neg,.slice m1 m.disc.num.length n1,.slice m2 m.disc.den.length n2,.slice m3 m.states.length n3]
 | 1=>v=.slice pa n hc
 | 2=>v=.int .i64 ja
 | 3=>v=.pointer (some ⟨b1,o1+ja,none⟩)
 | 4=>v=.slice a1 nv c1
 | 5=>v=.int .i64 kb
 | 6=>∃ x1 x2 x3 x4,v=.tuple #[.slice x1 g2.length x2,.slice x3 q2.length x4,.int .i64 0]∧RdGR W (.slice x1 g2.length x2) g2∧RdPl W (.slice x3 q2.length x4) q2
 | 7=>∃ x1 x2 x3 x4,v=.tuple #[.slice x1 g2.length x2,.slice x3 q2.length x4,.int .i64 0]∧RdGR W (.slice x1 g2.length x2) g2∧RdPl W (.slice x3 q2.length x4) q2
 | 8=>∃ x1 x2,v=.slice x1 g2.length x2∧RdGR W (.slice x1 g2.length x2) g2
 | 9=>∃ x1 x2,v=.slice x1 q2.length x2∧RdPl W (.slice x1 q2.length x2) q2
 | 10=>v=.int .i64 0
 | _=>True
theorem spJ_ext {pa:Option Addr} {hc n b1 o1 ja kb:Nat} {a1:Option Addr} {c1 nv:Nat} {g2:SpG} {q2:SpQ} {m:MD} {m1:Option Addr} {n1:Nat} {m2:Option Addr} {n2:Nat} {m3:Option Addr} {n3:Nat} {j:Nat} {v:Value} {W W':World} (h:spJ pa hc n b1 o1 ja kb a1 c1 nv g2 q2 m m1 n1 m2 n2 m3 n3 j v W) (x:Ext W W'):spJ pa hc n b1 o1 ja kb a1 c1 nv g2 q2 m m1 n1 m2 n2 m3 n3 j v W':=by
 match j,h with
 | 0,h=>exact h
 | 1,h=>exact h
 | 2,h=>exact h
 | 3,h=>exact h
 | 4,h=>exact h
 | 5,h=>exact h
 | 6,⟨x1,x2,x3,x4,h1,h2,h3⟩=>exact ⟨x1,x2,x3,x4,h1,h2.ext x,h3.ext x⟩
 | 7,⟨x1,x2,x3,x4,h1,h2,h3⟩=>exact ⟨x1,x2,x3,x4,h1,h2.ext x,h3.ext x⟩
 | 8,⟨x1,x2,h1,h2⟩=>exact ⟨x1,x2,h1,h2.ext x⟩
 | 9,⟨x1,x2,h1,h2⟩=>exact ⟨x1,x2,h1,h2.ext x⟩
 | 10,h=>exact h
 | _+11,_=>trivial
def spK (av:Option Addr) (cv nv:Nat) (pa pb:Option Addr) (pc cn pn sn sc:Nat) (hf:List RR) (m:MD) (m1:Option Addr) (n1:Nat) (m2:Option Addr) (n2:Nat) (m3:Option Addr) (n3:Nat) (j:Nat) (v:Value) (W:World):Prop:=
 match j with
 | 0=>v=.agg #[.bool m.disc.neg,.slice m1 m.disc.num.length n1,.slice m2 m.disc.den.length n2,.slice m3 m.states.length n3]
 | 1=>v=.slice av nv cv
 | 2=>v=.slice pa pn pc
 | 3=>v=.int .i64 cn
 | 4=>v=.slice pb sn sc
 | 5=>∃ x1 x2,v=.tuple #[.slice x1 hf.length x2,.int .i64 0]∧RdRs W (.slice x1 hf.length x2) hf
 | 6=>∃ x1 x2,v=.tuple #[.slice x1 hf.length x2,.int .i64 0]∧RdRs W (.slice x1 hf.length x2) hf
 | 7=>∃ x1 x2,v=.slice x1 hf.length x2∧RdRs W (.slice x1 hf.length x2) hf
 | 8=>v=.int .i64 0
 | _=>True
theorem spK_ext {av:Option Addr} {cv nv:Nat} {pa pb:Option Addr} {pc cn pn sn sc:Nat} {hf:List RR} {m:MD} {m1:Option Addr} {n1:Nat} {m2:Option Addr} {n2:Nat} {m3:Option Addr} {n3:Nat} {j:Nat} {v:Value} {W W':World} (h:spK av cv nv pa pb pc cn pn sn sc hf m m1 n1 m2 n2 m3 n3 j v W) (x:Ext W W'):spK av cv nv pa pb pc cn pn sn sc hf m m1 n1 m2 n2 m3 n3 j v W':=by
 match j,h with
 | 0,h=>exact h
 | 1,h=>exact h
 | 2,h=>exact h
 | 3,h=>exact h
 | 4,h=>exact h
 | 5,⟨x1,x2,h1,h2⟩=>exact ⟨x1,x2,h1,h2.ext x⟩
 | 6,⟨x1,x2,h1,h2⟩=>exact ⟨x1,x2,h1,h2.ext x⟩
 | 7,⟨x1,x2,h1,h2⟩=>exact ⟨x1,x2,h1,h2.ext x⟩
 | 8,h=>exact h
 | _+9,_=>trivial
theorem lenStg {m:MD} {v:List RR} {n:Nat} (h:LenL v) (hs:stgE m v n=0) {j:Nat} (hj:j≤n):LenL (stgV m v j):=by
 by_cases h0:j=0
 ·subst h0;exact h
 ·have ha:stgE m v j=0:=frstE_zero (fun i hi=>stgE_at hs (by omega))
  exact fun i hi=>chkR_len (stgV_chk ha (by omega) i hi)
theorem stg_rows {m:MD} {v:List RR} {k:Nat} {g:List (List RR)} {q:List (List Int)} (h:(g,q,(0:Int))=stagesS m v (k:Int)):q.length≤24∧∀ i,i < q.length→(q.getD i []).length≤200:=by
 obtain ⟨h1,h2,h3,h4⟩:=stages_ok (m:=m) (v:=v) (k:=(k:Int)) (by rw [← h])
 have h5:=stages_mk h1 h2 h3 h4
 rw [Int.toNat_natCast] at h4 h5
 rw [← h] at h5
 injection h5 with e1 e2
 injection e2 with e2 e3
 subst e2
 refine ⟨by simp;omega,fun i hi=>?_⟩
 rw [List.length_map,List.length_range] at hi
 rw [List.getD_eq_getElem?_getD,List.getElem?_map,List.getElem?_range hi]
 show (backupS m (stgV m v i)).2.1.length≤200
 rw [(backup_ok (stgE_at h4 hi)).2.2.2,bkA_len]
 exact (md_valid (mv_valid h1).1).2.2.1
theorem wpList_append_plG (w0:World) {W:World} {ops:Array Oper} {rest:List Oper} {o:Oper} {a:Act} {Q:Exit→Act→World→Prop} (hw:Region.wanted o (yielded ops a.tmps)=true) (s x:Operand)
  (ho:o.op=.call { callee:=.builtin .append,args:=#[s,x],argTypes:=#[30,30] }) (v vx:Value) (p q:List (List Int)) (hs:a.eval s=v) (hx:a.eval x=vx)
  (hp:OwPl w0.heap.size W v p) (hq:RdPl w0 vx q) (he:Ext w0 W) (hpn:p.length≤1000000) (hqn:q.length≤1000000)
  (h:∀ v' w',RdPl w' v' (p ++ q)→Ext w0 w'→wpList Try.prog ops Q rest (a.put o.dst v') w'):wpList Try.prog ops Q (o :: rest) a W:=by
 obtain ⟨v',w',hrun,hr,hx2⟩:=run_append_pl w0 W o.type v vx p q hp hq he hpn hqn
 simp only [wpList,hw]
 refine .inl ?_
 unfold Oper.wp
 simp [execOp,ho,resolve,invoke,builtin,hs,hx,hrun,Result.andThen]
 exact h _ _ hr hx2
theorem slice_dropP {w:World} {pa:Option Addr} {pc:Nat} {p:List (List Int)} (h:RdPl w (.slice pa p.length pc) p) {k:Nat} (hk:k≤p.length) :
  ∃ pb cb,(∀ W,(Instr.slice 30 (.slice pa p.length pc) (some (.int .i64 (k:Int))) none none).run Try.prog W=.ok (.slice pb (p.length - k) cb) W)∧RdPl w (.slice pb (p.length - k) cb) (p.drop k):=by
 obtain ⟨a',cap,e,hc,hm,hr⟩:=h
 injection e with e1 e2 e3
 subst e1;subst e3
 have h0:(0:Int)≤(k:Int):=Int.natCast_nonneg _
 have hk1:(k:Int)≤((p.length:Nat):Int):=by omega
 by_cases e:pc=k
 ·have hpk:p.length=k:=by omega
  refine ⟨pa,0,fun W=>?_,?_⟩
  ·subst e
   rw [hpk]
   go_simp
   done
  ·rw [hpk,Nat.sub_self,List.drop_of_length_le (by omega)]
   exact ⟨pa,0,rfl,Nat.le_refl _,by omega,fun i hi=>by cases hi⟩
 ·cases pa with
  | none=>
   have h2:p=[]:=by
    cases p with
    | nil=>rfl
    | cons x xs=>obtain ⟨b,off,ai,ci,f1,_⟩:=hr 0 (by simp);cases f1
   subst h2
   obtain rfl:k=0:=by simpa using hk
   exact ⟨none,pc,fun W=>(by go_simp;done),⟨none,pc,rfl,Nat.zero_le _,hm,fun i hi=>by cases hi⟩⟩
  | some ad=>
   by_cases h2:p=[]
   ·subst h2
    obtain rfl:k=0:=by simpa using hk
    exact ⟨some (ad.add 0),pc,fun W=>(by go_simp;done),⟨_,pc,rfl,Nat.zero_le _,hm,fun i hi=>by cases hi⟩⟩
   ·obtain ⟨b,off,ai,ci,f1,-,-,-⟩:=hr 0 (List.length_pos_iff.2 h2)
    injection f1 with f1
    subst f1
    exact ⟨some ⟨b,off+k,none⟩,pc - k,fun W=>(by go_simp;done),RdPl.drop ⟨_,_,rfl,hc,hm,hr⟩ hk⟩
theorem slice_takeP {w:World} {pa:Option Addr} {pc:Nat} {p:List (List Int)} (h:RdPl w (.slice pa p.length pc) p) {k:Nat} (hk:k≤p.length) :
  ∃ pb,(∀ W,(Instr.slice 30 (.slice pa p.length pc) none (some (.int .i64 (k:Int))) none).run Try.prog W=.ok (.slice pb k pc) W)∧RdPl w (.slice pb k pc) (p.take k):=by
 obtain ⟨a',cap,e,hc,hm,hr⟩:=h
 injection e with e1 e2 e3
 subst e1;subst e3
 have h0:(0:Int)≤(k:Int):=Int.natCast_nonneg _
 have hk1:(k:Int)≤(pc:Int):=by omega
 cases pa with
 | none=>
  have h2:p=[]:=by
   cases p with
   | nil=>rfl
   | cons x xs=>obtain ⟨b,off,ai,ci,f1,_⟩:=hr 0 (by simp);cases f1
  subst h2
  obtain rfl:k=0:=by simpa using hk
  exact ⟨none,fun W=>(by go_simp;done),⟨none,pc,rfl,Nat.zero_le _,hm,fun i hi=>by cases hi⟩⟩
 | some ad=>
  by_cases h2:p=[]
  ·subst h2
   obtain rfl:k=0:=by simpa using hk
   by_cases e:pc=0
   ·subst e
    exact ⟨some ad,fun W=>(by go_simp;done),⟨_,0,rfl,Nat.zero_le _,hm,fun i hi=>by cases hi⟩⟩
   ·exact ⟨some (ad.add 0),fun W=>(by go_simp;done),⟨_,pc,rfl,Nat.zero_le _,hm,fun i hi=>by cases hi⟩⟩
  ·obtain ⟨b,off,ai,ci,f1,-,-,-⟩:=hr 0 (List.length_pos_iff.2 h2)
   injection f1 with f1
   subst f1
   have h3:=List.length_pos_iff.2 h2
   have h4:pc≠0:=by omega
   exact ⟨some ⟨b,off,none⟩,fun W=>(by go_simp;done),RdPl.take ⟨_,_,rfl,hc,hm,hr⟩ hk⟩
theorem wrapS1 {a n:Nat} (h:n=a+1) (ha:a≤3):wrap64 ((a:Int)+1)=(n:Int):=by subst h;unfold wrap64;omega
set_option maxRecDepth 100000 in
set_option maxHeartbeats 8000000 in
theorem splL_any (mv vv pv:Value) (j k:Int) (m:MD) (vals:List RR) (plan:List (List Int)) (w:World) (hm:RdM w mv m) (hv:RdRs w vv vals) (hp:RdPl w pv plan) (hlm:LimM m) (hlv:LimL vals) (hj:0≤j∧j≤255) (hk:0≤k∧k≤255) :
  Calls Try.prog 3 #[mv,vv,.int .u8 j,.int .u8 k,pv] w fun e w'=>e=.returned (.bool true)∧Ext w w':=by
 have hst:=fun W mv vv (v:List RR) (k:Int) (h:RdM W mv m) (g:RdRs W vv v) (hlv:LimL v) (hln:LenL v)=>stagesI_any mv vv m v k W h g hlm hlv hln
 have hpl:=fun W mv vv pv (v:List RR) (p:List (List Int)) (h:RdM W mv m) (k:RdRs W vv v) (g:RdPl W pv p) (hlv:LimL v) (hln:LenL v)=>planI_any mv vv pv m v p W h k g hlm hlv hln
 unfold ResG at hst
 unfold ResN at hpl
 have HST:=kI hst;have HPN:=kI hpl
 have HM:=kI hm;have HV:=kI hv;have HP:=kI hp;have HLV:=kI hlv
 obtain ⟨m1,n1,m2,n2,m3,n3,rfl,-,-⟩:=hm
 obtain ⟨av,cv,rfl,-,-,-⟩:=hv.get
 obtain ⟨pa,pc,rfl,hpn⟩:=hp.shape
 clear hv hp hst hpl hlm hlv
 obtain ⟨ja,hja,hja3⟩:∃ a:Nat,j.tmod 4=(a:Int)∧a≤3:=⟨(j.tmod 4).toNat,by have:=Int.tmod_nonneg 4 hj.1;omega,by have:=Int.tmod_lt_of_pos j (show (0:Int) < 4 by decide);omega⟩
 obtain ⟨kb,hkb,hkb3⟩:∃ a:Nat,k.tmod 4=(a:Int)∧a≤3:=⟨(k.tmod 4).toNat,by have:=Int.tmod_nonneg 4 hk.1;omega,by have:=Int.tmod_lt_of_pos k (show (0:Int) < 4 by decide);omega⟩
 have hwa:wrap64 ((ja:Int)+(kb:Int))=((ja+kb:Nat):Int):=by unfold wrap64;omega
 have hua:IntKind.u8.wrap (ja:Int)=(ja:Int):=by simp [IntKind.wrap,IntKind.signed,IntKind.bits];omega
 have hub:IntKind.u8.wrap (kb:Int)=(kb:Int):=by simp [IntKind.wrap,IntKind.signed,IntKind.bits];omega
 have hva:wrap64 (ja:Int)=(ja:Int):=by unfold wrap64;omega
 have hvb:wrap64 (kb:Int)=(kb:Int):=by unfold wrap64;omega
 have JA:=kI hja3;have KB:=kI hkb3
 clear hj hk
 have bb0:=(Blk.new w #[.bool m.disc.neg,.slice m1 m.disc.num.length n1,.slice m2 m.disc.den.length n2,.slice m3 m.states.length n3] 28)
 have x0:Ext w (w.alloc (.cells #[.bool m.disc.neg,.slice m1 m.disc.num.length n1,.slice m2 m.disc.den.length n2,.slice m3 m.states.length n3] 28)):=((Ext.refl w).alloc _)
 have A0:=kI bb0;have X:=kI x0
 clear x0 bb0
 go_enter Try.func3,Try.ntmps3
 have qA0:=A0.o.cell;have fA0:=A0.o.free;have lA0:=A0.o.lt
 go_wp2_with fail
 refine (long22_any _ _ _ m vals _ plan _ (HM.o.ext X.o) (HV.o.ext X.o) (HP.o.ext X.o)).mono ?_
 rintro e w1 ⟨⟨r,rfl,hr⟩,hx⟩
 clear qA0 fA0 lA0
 replace A0:=kI (A0.o.ext hx);replace X:=kI (X.o.trans hx)
 have HR:=kI hr
 clear hx hr
 cases r
 rotate_left
 ·go_wp2_with fail
  refine (awake22_any _).mono ?_
  rintro e w2 ⟨rfl,hx⟩
  replace A0:=kI (A0.o.ext hx);replace X:=kI (X.o.trans hx)
  clear hx
  go_wp2_with fail
  go_ret
  exact ⟨rfl,X.o⟩
 obtain ⟨-,hln,h30,-⟩:=HR.o rfl
 clear HR
 have HL:=kI hln;have H30:=kI h30
 clear hln h30
 go_wp2_with fail
 refine (awake22_any _).mono ?_
 rintro e w2 ⟨rfl,hx⟩
 replace A0:=kI (A0.o.ext hx);replace X:=kI (X.o.trans hx)
 clear hx
 have qA0:=A0.o.cell;have fA0:=A0.o.free;have lA0:=A0.o.lt
 go_wp2_with fail
 obtain ⟨st,hst0⟩:∃ s,s=stagesS m vals ((ja+kb:Nat):Int):=⟨_,rfl⟩
 rw [show ((ja:Int)+(kb:Int))=((ja+kb:Nat):Int) by omega]
 have hs1:=HST.o w2 _ _ vals ((ja+kb:Nat):Int) (HM.o.ext X.o) (HV.o.ext X.o) HLV.o HL.o
 rw [← hst0] at hs1
 obtain ⟨g,q,c⟩:=st
 dsimp only at hs1
 have HS0:=kI hst0
 clear hst0
 refine hs1.mono ?_
 rintro e w3 ⟨⟨v,p,rfl,ov,op⟩,hx⟩
 clear hs1
 clear qA0 fA0 lA0
 replace A0:=kI (A0.o.ext hx);replace X:=kI (X.o.trans hx)
 obtain ⟨ga,gc,rfl⟩:=ov.shape
 obtain ⟨qa,qc,rfl⟩:=op.shape
 have GR:=kI ov.rd;have QR:=kI op.rdP
 clear ov op hx
 by_cases hc:c=0
 rotate_left
 ·have hb:=stages_bad (m:=m) (v:=vals) (k:=((ja+kb:Nat):Int)) (by rw [← HS0.o];exact hc)
  rw [← HS0.o] at hb
  obtain ⟨rfl,rfl⟩:=hb
  have q3:(c != 0)=true:=bne_iff_ne.2 hc
  clear hc hwa hua hub hva hvb hja hkb
  simp only [List.length_nil]
  go_wp2_with fail
  go_ret
  exact ⟨rfl,X.o⟩
 have hsp:=splits_law (m:=m) (v:=vals) (a:=ja) (b:=kb) (by rw [← HS0.o];exact hc)
 have hq0:=stages_ok (m:=m) (v:=vals) (k:=((ja+kb:Nat):Int)) (by rw [← HS0.o];exact hc)
 rw [← HS0.o] at hsp
 dsimp only at hsp
 subst hc
 clear HS0
 have HSP:=kI hsp;have HQ0:=kI hq0
 clear hsp hq0
 have qA0:=A0.o.cell;have fA0:=A0.o.free;have lA0:=A0.o.lt
 go_wp2_with fail
 obtain ⟨st,hst0⟩:∃ s,s=stagesS m vals (ja:Int):=⟨_,rfl⟩
 have hs1:=HST.o w3 _ _ vals (ja:Int) (HM.o.ext X.o) (HV.o.ext X.o) HLV.o HL.o
 have hsp:=HSP.o
 rw [← hst0] at hs1 hsp
 obtain ⟨g1,q1,c1⟩:=st
 dsimp only at hs1 hsp
 obtain ⟨rfl,hsp⟩:=hsp
 have HS1:=kI hst0
 replace HSP:=kI hsp
 clear hst0 hsp
 refine hs1.mono ?_
 rintro e w4 ⟨⟨v,p,rfl,ov,op⟩,hx⟩
 clear hs1
 clear qA0 fA0 lA0
 replace A0:=kI (A0.o.ext hx);replace GR:=kI (GR.o.ext hx);replace QR:=kI (QR.o.ext hx);replace X:=kI (X.o.trans hx)
 obtain ⟨ha,hc,rfl⟩:=ov.shape
 obtain ⟨ra,rc,rfl⟩:=op.shape
 have G1:=kI ov.rd;have Q1:=kI op.rdP
 clear ov op hx
 obtain ⟨gl,hgl⟩:∃ n,n=g.length:=⟨_,rfl⟩
 obtain ⟨gl1,hgl1⟩:∃ n,n=g1.length:=⟨_,rfl⟩
 obtain ⟨s2,s3,s4,s5,s6,s7,s8⟩:=HSP.o
 have hw1:(gl1:Int)=(ja:Int)+1:=congrArg Int.ofNat (hgl1.trans s4)
 have hw2:(gl:Int)=(ja:Int)+(kb:Int)+1:=congrArg Int.ofNat (hgl.trans s3)
 rw [← hgl,← hgl1]
 rw [← hgl] at s3;rw [← hgl1] at s4
 have GL:=kI hgl;have GL1:=kI hgl1
 have S3:=kI s3;have S4:=kI s4
 clear s2 s3 s4 s5 s6 s7 s8 hgl hgl1
 go_wp2_with fail
 obtain ⟨st,hst0⟩:∃ s,s=stagesS m (stgV m vals ja) (kb:Int):=⟨_,rfl⟩
 have hsp:=HSP.o
 rw [← hst0] at hsp
 obtain ⟨g2,q2,c2⟩:=st
 dsimp only at hsp
 obtain ⟨rfl,-,-,s5,s6,s7,s8⟩:=hsp
 obtain ⟨va,hva9⟩:∃ v,v=stgV m vals ja:=⟨_,rfl⟩
 have hmv:=(HQ0.o.1)
 have hse:=HQ0.o.2.2.2
 rw [← hva9] at s5 hst0
 have hvn:LenL va:=by rw [hva9];exact lenStg (n:=ja+kb) HL.o (by have:=HQ0.o.2.2.2;rwa [Int.toNat_natCast] at this) (Nat.le_add_right _ _)
 have HLN:=kI hvn
 clear hvn
 have HVA:=kI hva9;have HS2:=kI hst0;have S6:=kI s6;have S7:=kI s7;have S8:=kI s8
 have hal:LimL va:=by rw [hva9];exact stgV_lim HLV.o ja
 have HAL:=kI hal
 have hgat:=G1.o
 obtain ⟨b1,o1,a1,c1,e1,t10,t11,t12⟩:=hgat.at (i:=ja) (by rw [← GL1.o,S4.o];exact Nat.lt_succ_self _)
 subst e1
 rw [s5] at t11 t12
 have T1:Hid (b1 < w4.heap.size∧w4.cell? ⟨b1,o1+ja,none⟩=some (.slice a1 va.length c1)∧RdRs w4 (.slice a1 va.length c1) va):=kI ⟨t10,t11,t12⟩
 clear hmv hse s5 s6 s7 s8 hst0 hal hgat t10 t11 t12 hva9 HSP
 clear hw1 hw2
 have hlt:(ja:Int) < (gl1:Int):=by have:=S4.o;omega
 have hj0:(0:Int)≤(ja:Int):=by omega
 have X00:=X
 obtain ⟨wB,hwB⟩:∃ W,W=w4:=⟨_,rfl⟩
 subst hwB
 have X:=kI (Ext.refl wB)
 refine wp_region_each_float2 11 9 10 (spJ (some ⟨b1,o1,none⟩) hc gl1 b1 o1 ja kb a1 c1 va.length g2 q2 m m1 n1 m2 n2 m3 n3) rfl rfl rfl (by kernel_rfl) (by kernel_rfl) (by kernel_rfl) (fun _ _ _ _ h x=>spJ_ext h x) (fun _ _ d _ _ h=>by cases d <;> exact h) ?_ ?_ ?_ ?_
 ·refine ⟨?_,?_,?_,?_,?_,?_,?_,?_,?_,?_,?_,trivial⟩
  ·intro a W hW hB hD K hK
   have b5:=hB 5 rfl
   simp only [Array.getD_eq_getD_getElem?,List.getElem?_toArray,List.getElem?_cons_succ,List.getElem?_cons_zero,Option.getD_some] at b5
   have q9:=(A0.o.ext (X.o.trans hW)).cell;have l9:=(A0.o.ext (X.o.trans hW)).lt
   go_simp
   exact hK _ _ (Ext.refl _) rfl
  ·intro a W hW hB hD K hK
   have b16:=hB 16 rfl
   simp only [Array.getD_eq_getD_getElem?,List.getElem?_toArray,List.getElem?_cons_succ,List.getElem?_cons_zero,Option.getD_some] at b16
   go_simp
   exact hK _ _ (Ext.refl _) rfl
  ·intro a W hW hB hD K hK
   have b11:=hB 11 rfl
   simp only [Array.getD_eq_getD_getElem?,List.getElem?_toArray,List.getElem?_cons_succ,List.getElem?_cons_zero,Option.getD_some] at b11
   go_simp
   exact hK _ _ (Ext.refl _) rfl
  ·intro a W hW hB hD K hK
   obtain ⟨v93,e93⟩:∃ x,a.tmps.getD 93 undef=x:=⟨_,rfl⟩
   have h93:=hD 1 _ 93 rfl rfl (by kernel_rfl)
   rw [e93] at h93
   simp only [Array.getD_eq_getD_getElem?] at e93
   obtain rfl:=h93
   obtain ⟨v94,e94⟩:∃ x,a.tmps.getD 94 undef=x:=⟨_,rfl⟩
   have h94:=hD 2 _ 94 rfl rfl (by kernel_rfl)
   rw [e94] at h94
   simp only [Array.getD_eq_getD_getElem?] at e94
   obtain rfl:=h94
   go_simp
   exact hK _ _ (Ext.refl _) rfl
  ·intro a W hW hB hD K hK
   obtain ⟨v95,e95⟩:∃ x,a.tmps.getD 95 undef=x:=⟨_,rfl⟩
   have h95:=hD 3 _ 95 rfl rfl (by kernel_rfl)
   rw [e95] at h95
   simp only [Array.getD_eq_getD_getElem?] at e95
   obtain rfl:=h95
   have m0:=(hW.cell (p:=⟨b1,o1+ja,none⟩) T1.o.1).trans T1.o.2.1
   have ml:=Nat.lt_of_lt_of_le T1.o.1 hW.size
   go_simp
   exact hK _ _ (Ext.refl _) rfl
  ·intro a W hW hB hD K hK
   have b12:=hB 12 rfl
   simp only [Array.getD_eq_getD_getElem?,List.getElem?_toArray,List.getElem?_cons_succ,List.getElem?_cons_zero,Option.getD_some] at b12
   go_simp
   exact hK _ _ (Ext.refl _) rfl
  ·intro a W hW hB hD K hK
   obtain ⟨v92,e92⟩:∃ x,a.tmps.getD 92 undef=x:=⟨_,rfl⟩
   have h92:=hD 0 _ 92 rfl rfl (by kernel_rfl)
   rw [e92] at h92
   simp only [Array.getD_eq_getD_getElem?] at e92
   obtain rfl:=h92
   obtain ⟨v96,e96⟩:∃ x,a.tmps.getD 96 undef=x:=⟨_,rfl⟩
   have h96:=hD 4 _ 96 rfl rfl (by kernel_rfl)
   rw [e96] at h96
   simp only [Array.getD_eq_getD_getElem?] at e96
   obtain rfl:=h96
   obtain ⟨v97,e97⟩:∃ x,a.tmps.getD 97 undef=x:=⟨_,rfl⟩
   have h97:=hD 5 _ 97 rfl rfl (by kernel_rfl)
   rw [e97] at h97
   simp only [Array.getD_eq_getD_getElem?] at e97
   obtain rfl:=h97
   go_simp
   have hs9:=HST.o W _ _ va (kb:Int) ((HM.o.ext X00.o).ext hW) (T1.o.2.2.ext hW) HAL.o HLN.o
   rw [← HS2.o] at hs9
   dsimp only at hs9
   refine hs9.mono ?_
   rintro e w9 ⟨⟨v,p,rfl,ov,op⟩,hx⟩
   obtain ⟨x1,x2,rfl⟩:=ov.shape
   obtain ⟨x3,x4,rfl⟩:=op.shape
   exact hK _ _ hx ⟨_,_,_,_,rfl,ov.rd,op.rdP⟩
  ·intro a W hW hB hD K hK
   obtain ⟨v98,e98⟩:∃ x,a.tmps.getD 98 undef=x:=⟨_,rfl⟩
   have h98:=hD 6 _ 98 rfl rfl (by kernel_rfl)
   rw [e98] at h98
   simp only [Array.getD_eq_getD_getElem?] at e98
   obtain ⟨x1,x2,x3,x4,rfl,xg,xq⟩:=h98
   go_simp
   exact hK _ _ (Ext.refl _) ⟨_,_,_,_,rfl,xg,xq⟩
  ·intro a W hW hB hD K hK
   obtain ⟨v91,e91⟩:∃ x,a.tmps.getD 91 undef=x:=⟨_,rfl⟩
   have h91:=hD 7 _ 91 rfl rfl (by kernel_rfl)
   rw [e91] at h91
   simp only [Array.getD_eq_getD_getElem?] at e91
   obtain ⟨x1,x2,x3,x4,rfl,xg,xq⟩:=h91
   go_simp
   exact hK _ _ (Ext.refl _) ⟨_,_,rfl,xg⟩
  ·intro a W hW hB hD K hK
   obtain ⟨v91,e91⟩:∃ x,a.tmps.getD 91 undef=x:=⟨_,rfl⟩
   have h91:=hD 7 _ 91 rfl rfl (by kernel_rfl)
   rw [e91] at h91
   simp only [Array.getD_eq_getD_getElem?] at e91
   obtain ⟨x1,x2,x3,x4,rfl,xg,xq⟩:=h91
   go_simp
   exact hK _ _ (Ext.refl _) ⟨_,_,rfl,xq⟩
  ·intro a W hW hB hD K hK
   obtain ⟨v91,e91⟩:∃ x,a.tmps.getD 91 undef=x:=⟨_,rfl⟩
   have h91:=hD 7 _ 91 rfl rfl (by kernel_rfl)
   rw [e91] at h91
   simp only [Array.getD_eq_getD_getElem?] at e91
   obtain ⟨x1,x2,x3,x4,rfl,xg,xq⟩:=h91
   go_simp
   exact hK _ _ (Ext.refl _) rfl
 ·intro a W hW hB hD
  have h91:=hD 7 _ 91 rfl rfl (by kernel_rfl)
  obtain ⟨v91,e91⟩:∃ x,a.tmps.getD 91 undef=x:=⟨_,rfl⟩
  rw [e91] at h91
  obtain ⟨x1,x2,x3,x4,rfl,xg,xq⟩:=h91
  exact ⟨_,fun w9=>run_extract9 e91 rfl rfl w9,⟨_,_,rfl,xq⟩⟩
 ·intro a W hW hB hD
  have h91:=hD 7 _ 91 rfl rfl (by kernel_rfl)
  obtain ⟨v91,e91⟩:∃ x,a.tmps.getD 91 undef=x:=⟨_,rfl⟩
  rw [e91] at h91
  obtain ⟨x1,x2,x3,x4,rfl,xg,xq⟩:=h91
  exact ⟨.int .i64 0,fun w9=>run_extract9 e91 rfl rfl w9,rfl⟩
 intro w5 hx
 simp only [Vals,List.take_succ_cons,List.take_zero,List.drop_succ_cons,List.drop_zero]
 rintro u0 - u1 - u2 - u3 - u4 - u5 - u6 - u7 - u8 h8 u9 h9 u10 h10
 obtain ⟨y1,y2,rfl,G2⟩:=h8
 obtain ⟨y3,y4,rfl,Q2⟩:=h9
 obtain rfl:u10=.int .i64 0:=h10
 simp only [Act.put,List.setIfInBounds_toArray,List.set_cons_zero,List.set_cons_succ]
 have XB:=kI hx
 replace A0:=kI (A0.o.ext hx)
 have X:=kI (X00.o.trans hx)
 have GA2:=kI G2;have QA2:=kI Q2
 clear G2 Q2 hlt X00
 obtain ⟨_,gcap,e9,hgcap,hgmax,-⟩:=GR.o
 injection e9 with e91 e92 e93
 subst e93
 clear e91 e92
 rw [← GL.o] at hgcap
 have hg0:=GR.o
 obtain ⟨b0,o0,a0,c0,e0,-,-,-⟩:=hg0.at (i:=0) (by rw [← GL.o,S3.o];exact Nat.succ_pos _)
 subst e0
 clear hx hg0
 have GRX:=kI (GR.o.ext XB.o);have QRX:=kI (QR.o.ext XB.o);have G1X:=kI (G1.o.ext XB.o);have Q1X:=kI (Q1.o.ext XB.o)
 have hw1:wrap64 ((ja:Int)+1)=((ja+1:Nat):Int):=wrapS1 rfl JA.o
 have f1:(0:Int)≤((ja+1:Nat):Int):=Int.natCast_nonneg _
 have f2:ja+1≤gc:=Nat.le_trans (by rw [S3.o];omega) hgcap
 have f3:ja≤gl:=by rw [S3.o];omega
 clear hwa hua hub hva hvb hja hkb
 go_wp2_with fail
 have h7:RdGR w5 (.slice (some ⟨b0,o0,none⟩) (ja+1) gc) g1:=by
  have h:=RdGR.take (k:=ja+1) GRX.o (by rw [← GL.o,S3.o];omega)
  rw [S6.o] at h
  exact h
 have h8:RdGR w5 (.slice (some ⟨b1,o1,none⟩) gl1 hc) g1:=by rw [GL1.o];exact G1X.o
 refine (equalRatRowsT_any _ _ g1 _ h7 h8).mono ?_
 clear h7 h8
 rintro e w6 ⟨rfl,hx⟩
 replace A0:=kI (A0.o.ext hx);replace X:=kI (X.o.trans hx);replace GRX:=kI (GRX.o.ext hx);replace QRX:=kI (QRX.o.ext hx);replace Q1X:=kI (Q1X.o.ext hx);replace GA2:=kI (GA2.o.ext hx);replace QA2:=kI (QA2.o.ext hx)
 clear hx
 go_wp2_with fail
 have h7:RdGR w6 (.slice (some ⟨b0,o0+ja,none⟩) (gl - ja) (gc - ja)) g2:=by
  have h:=RdGR.drop (k:=ja) GRX.o (by rw [← GL.o];exact f3)
  rw [S7.o,← GL.o] at h
  exact h
 refine (equalRatRowsT_any _ _ g2 _ h7 GA2.o).mono ?_
 clear h7
 rintro e w7 ⟨rfl,hx⟩
 replace A0:=kI (A0.o.ext hx);replace X:=kI (X.o.trans hx);replace QRX:=kI (QRX.o.ext hx);replace Q1X:=kI (Q1X.o.ext hx);replace QA2:=kI (QA2.o.ext hx)
 clear hx GRX GA2
 go_wp2_with fail
 have hrow:=stg_rows HS1.o
 refine (copyPl_any _ q1 _ Q1X.o (by have:=hrow.1;omega) (fun i hi=>by have:=hrow.2 i hi;omega)).mono ?_
 rintro e w8 ⟨⟨v,rfl,op⟩,hx⟩
 obtain ⟨z1,z2,rfl⟩:=op.shape
 have OP:=kI op;have XC:=kI hx
 have R1:=kI hrow.1
 clear op hx hrow
 have hr2:=(stg_rows HS2.o).1
 have R2:=kI hr2
 clear hr2
 go_wp2_with (at_builtin;go_loud (refine wpList_append_plG w7 (by first|rfl|(go_simp;done)|kernel_rfl) _ _ rfl _ _ q1 q2 rfl rfl OP.o QA2.o XC.o (Nat.le_trans R1.o (by decide)) (Nat.le_trans R2.o (by decide)) ?_))
 intro v9 w9 hr hx
 obtain ⟨z3,z4,rfl,-⟩:=hr.shape
 rw [← S8.o] at hr ⊢
 have RR9:=kI hr
 replace A0:=kI (A0.o.ext hx);replace X:=kI (X.o.trans hx);replace QRX:=kI (QRX.o.ext hx)
 clear hr hx OP XC QA2 Q1X R1 R2
 go_wp2_with fail
 refine (equalPlT_any _ _ q _ QRX.o RR9.o).mono ?_
 rintro e w10 ⟨rfl,hx⟩
 replace A0:=kI (A0.o.ext hx);replace X:=kI (X.o.trans hx)
 clear hx RR9 QRX f1 f2 f3
 have qA0:=A0.o.cell;have fA0:=A0.o.free;have lA0:=A0.o.lt
 go_wp2_with fail
 refine (HPN.o _ _ _ _ vals plan (HM.o.ext X.o) (HV.o.ext X.o) (HP.o.ext X.o) HLV.o HL.o).mono ?_
 rintro e w11 ⟨⟨v,rfl,ov⟩,hx⟩
 obtain ⟨pu,hpu⟩:∃ p,p=planS m vals plan:=⟨_,rfl⟩
 obtain ⟨u,c⟩:=pu
 rw [← hpu] at ov ⊢
 dsimp only at ov ⊢
 obtain ⟨ua,uc,rfl⟩:=ov.shape
 have UL:=kI ov.rd;have HPU:=kI hpu
 clear qA0 fA0 lA0
 replace A0:=kI (A0.o.ext hx);replace X:=kI (X.o.trans hx)
 clear hx ov hpu
 by_cases hc:c=0
 rotate_left
 ·have hb:=plan_bad (m:=m) (v:=vals) (p:=plan) (by rw [← HPU.o];exact hc)
  rw [← HPU.o] at hb
  dsimp only at hb
  subst hb
  have q3:(c != 0)=true:=bne_iff_ne.2 hc
  clear hc
  simp only [List.length_nil]
  go_wp2_with fail
  go_ret
  exact ⟨rfl,X.o⟩
 subst hc
 obtain ⟨cn,hcn⟩:∃ n,n=ja % (plan.length+1):=⟨_,rfl⟩
 have hcl:cn≤plan.length:=by rw [hcn];exact Nat.le_of_lt_succ (Nat.mod_lt _ (Nat.succ_pos _))
 have hsp:=plan_splits (m:=m) (v:=vals) (p:=plan) (by rw [← HPU.o]) hcl
 rw [← HPU.o] at hsp
 obtain ⟨hf,hhf⟩:∃ l,l=plnV m vals plan cn:=⟨_,rfl⟩
 have hfl:LimL hf:=by rw [hhf];exact plnV_lim HLV.o cn
 have hfn:LenL hf:=by
  rw [hhf]
  by_cases h0:cn=0
  ·rw [h0];exact HL.o
  ·have hpe:=(plan_ok (m:=m) (v:=vals) (p:=plan) (by rw [← HPU.o])).2.2
   exact fun i hi=>chkR_len (plnV_chk (k:=cn) (frstE_zero (fun i hi=>plnE_at hpe (by omega))) (by omega) i hi)
 rw [← hhf] at hsp
 have SPL:=kI hsp;have HFL:=kI hfl;have HFN:=kI hfn
 obtain ⟨pb,hsl1,hrd1⟩:=slice_takeP HP.o hcl
 obtain ⟨pd,cd,hsl2,hrd2⟩:=slice_dropP HP.o hcl
 have RD1:=kI hrd1;have RD2:=kI hrd2
 have hw9:wrap64 ((plan.length:Int)+1)=((plan.length+1:Nat):Int):=by have:=H30.o;unfold wrap64;omega
 have hw8:(ja:Int).tmod ((plan.length+1:Nat):Int)=(cn:Int):=by rw [hcn];exact (Int.ofNat_tmod ja (plan.length+1)).symm
 have hw7:wrap64 (cn:Int)=(cn:Int):=by have:=H30.o;unfold wrap64;omega
 have hw6:((plan.length+1:Nat):Int)≠0:=by omega
 have HW5:=kI (show (ja:Int) % ((plan.length:Int)+1)=(cn:Int) by rw [hcn];rfl)
 clear hsp hfl hfn hrd1 hrd2 hcl hcn hhf HPU
 have qA0:=A0.o.cell;have fA0:=A0.o.free;have lA0:=A0.o.lt
 go_wp2_with fail
 clear qA0 fA0 lA0
 rw [HW5.o]
 clear hw9 hw8 hw7 hw6
 refine wp_region_each_float 9 8 (spK av cv vals.length pa pb pc cn plan.length cn pc hf m m1 n1 m2 n2 m3 n3) rfl (by kernel_rfl) (by kernel_rfl) (by kernel_rfl) (fun _ _ _ _ h x=>spK_ext h x) (fun _ _ d _ _ h=>by cases d <;> exact h) ?_ ?_ ?_
 ·refine ⟨?_,?_,?_,?_,?_,?_,?_,?_,?_,trivial⟩
  ·intro a W hW hB hD K hK
   have b5:=hB 5 rfl
   simp only [Array.getD_eq_getD_getElem?,List.getElem?_toArray,List.getElem?_cons_succ,List.getElem?_cons_zero,Option.getD_some] at b5
   have q9:=(A0.o.ext hW).cell;have l9:=(A0.o.ext hW).lt
   go_simp
   exact hK _ _ (Ext.refl _) rfl
  ·intro a W hW hB hD K hK
   have b1:=hB 1 rfl
   simp only [Array.getD_eq_getD_getElem?,List.getElem?_toArray,List.getElem?_cons_succ,List.getElem?_cons_zero,Option.getD_some] at b1
   go_simp
   exact hK _ _ (Ext.refl _) rfl
  ·intro a W hW hB hD K hK
   have b4:=hB 4 rfl
   simp only [Array.getD_eq_getD_getElem?,List.getElem?_toArray,List.getElem?_cons_succ,List.getElem?_cons_zero,Option.getD_some] at b4
   go_simp
   exact hK _ _ (Ext.refl _) rfl
  ·intro a W hW hB hD K hK
   have b24:=hB 24 rfl
   simp only [Array.getD_eq_getD_getElem?,List.getElem?_toArray,List.getElem?_cons_succ,List.getElem?_cons_zero,Option.getD_some] at b24
   go_simp
   exact hK _ _ (Ext.refl _) rfl
  ·intro a W hW hB hD K hK
   obtain ⟨v150,e150⟩:∃ x,a.tmps.getD 150 undef=x:=⟨_,rfl⟩
   have h150:=hD 2 _ 150 rfl rfl (by kernel_rfl)
   rw [e150] at h150
   simp only [Array.getD_eq_getD_getElem?] at e150
   obtain rfl:=h150
   obtain ⟨v151,e151⟩:∃ x,a.tmps.getD 151 undef=x:=⟨_,rfl⟩
   have h151:=hD 3 _ 151 rfl rfl (by kernel_rfl)
   rw [e151] at h151
   simp only [Array.getD_eq_getD_getElem?] at e151
   obtain rfl:=h151
   have hz:=hsl1 W
   go_simp
   exact hK _ _ (Ext.refl _) rfl
  ·intro a W hW hB hD K hK
   obtain ⟨v148,e148⟩:∃ x,a.tmps.getD 148 undef=x:=⟨_,rfl⟩
   have h148:=hD 0 _ 148 rfl rfl (by kernel_rfl)
   rw [e148] at h148
   simp only [Array.getD_eq_getD_getElem?] at e148
   obtain rfl:=h148
   obtain ⟨v149,e149⟩:∃ x,a.tmps.getD 149 undef=x:=⟨_,rfl⟩
   have h149:=hD 1 _ 149 rfl rfl (by kernel_rfl)
   rw [e149] at h149
   simp only [Array.getD_eq_getD_getElem?] at e149
   obtain rfl:=h149
   obtain ⟨v152,e152⟩:∃ x,a.tmps.getD 152 undef=x:=⟨_,rfl⟩
   have h152:=hD 4 _ 152 rfl rfl (by kernel_rfl)
   rw [e152] at h152
   simp only [Array.getD_eq_getD_getElem?] at e152
   obtain rfl:=h152
   go_simp
   refine (HPN.o W _ _ _ vals _ (HM.o.ext (X.o.trans hW)) (HV.o.ext (X.o.trans hW)) (RD1.o.ext (X.o.trans hW)) HLV.o HL.o).mono ?_
   rintro e w9 ⟨⟨v,rfl,ov⟩,hx⟩
   rw [SPL.o.1] at ov ⊢
   dsimp only at ov ⊢
   obtain ⟨x1,x2,rfl⟩:=ov.shape
   exact hK _ _ hx ⟨_,_,rfl,ov.rd⟩
  ·intro a W hW hB hD K hK
   obtain ⟨v153,e153⟩:∃ x,a.tmps.getD 153 undef=x:=⟨_,rfl⟩
   have h153:=hD 5 _ 153 rfl rfl (by kernel_rfl)
   rw [e153] at h153
   simp only [Array.getD_eq_getD_getElem?] at e153
   obtain ⟨x1,x2,rfl,xg⟩:=h153
   go_simp
   exact hK _ _ (Ext.refl _) ⟨_,_,rfl,xg⟩
  ·intro a W hW hB hD K hK
   obtain ⟨v147,e147⟩:∃ x,a.tmps.getD 147 undef=x:=⟨_,rfl⟩
   have h147:=hD 6 _ 147 rfl rfl (by kernel_rfl)
   rw [e147] at h147
   simp only [Array.getD_eq_getD_getElem?] at e147
   obtain ⟨x1,x2,rfl,xg⟩:=h147
   go_simp
   exact hK _ _ (Ext.refl _) ⟨_,_,rfl,xg⟩
  ·intro a W hW hB hD K hK
   obtain ⟨v147,e147⟩:∃ x,a.tmps.getD 147 undef=x:=⟨_,rfl⟩
   have h147:=hD 6 _ 147 rfl rfl (by kernel_rfl)
   rw [e147] at h147
   simp only [Array.getD_eq_getD_getElem?] at e147
   obtain ⟨x1,x2,rfl,xg⟩:=h147
   go_simp
   exact hK _ _ (Ext.refl _) rfl
 ·intro a W hW hB hD
  have h147:=hD 6 _ 147 rfl rfl (by kernel_rfl)
  obtain ⟨v147,e147⟩:∃ x,a.tmps.getD 147 undef=x:=⟨_,rfl⟩
  rw [e147] at h147
  obtain ⟨x1,x2,rfl,xg⟩:=h147
  exact ⟨.int .i64 0,fun w9=>run_extract9 e147 rfl rfl w9,rfl⟩
 intro w12 hx
 simp only [Vals,List.take_succ_cons,List.take_zero,List.drop_succ_cons,List.drop_zero]
 rintro u0 - u1 - u2 - u3 - u4 - u5 - u6 - u7 h7 u8 h8
 obtain ⟨z71,z72,rfl,hz7⟩:=h7
 obtain rfl:u8=.int .i64 0:=h8
 simp only [Act.put,List.setIfInBounds_toArray,List.set_cons_zero,List.set_cons_succ]
 have RZ7:=kI hz7
 replace A0:=kI (A0.o.ext hx);replace UL:=kI (UL.o.ext hx);replace X:=kI (X.o.trans hx)
 clear hx hz7
 go_wp2_with fail
 refine wp_region_each_float 9 8 (spK z71 z72 hf.length pa pd pc cn plan.length (plan.length - cn) cd u m m1 n1 m2 n2 m3 n3) rfl (by kernel_rfl) (by kernel_rfl) (by kernel_rfl) (fun _ _ _ _ h x=>spK_ext h x) (fun _ _ d _ _ h=>by cases d <;> exact h) ?_ ?_ ?_
 ·refine ⟨?_,?_,?_,?_,?_,?_,?_,?_,?_,trivial⟩
  ·intro a W hW hB hD K hK
   have b5:=hB 5 rfl
   simp only [Array.getD_eq_getD_getElem?,List.getElem?_toArray,List.getElem?_cons_succ,List.getElem?_cons_zero,Option.getD_some] at b5
   have q9:=(A0.o.ext hW).cell;have l9:=(A0.o.ext hW).lt
   go_simp
   exact hK _ _ (Ext.refl _) rfl
  ·intro a W hW hB hD K hK
   have b25:=hB 25 rfl
   simp only [Array.getD_eq_getD_getElem?,List.getElem?_toArray,List.getElem?_cons_succ,List.getElem?_cons_zero,Option.getD_some] at b25
   go_simp
   exact hK _ _ (Ext.refl _) rfl
  ·intro a W hW hB hD K hK
   have b4:=hB 4 rfl
   simp only [Array.getD_eq_getD_getElem?,List.getElem?_toArray,List.getElem?_cons_succ,List.getElem?_cons_zero,Option.getD_some] at b4
   go_simp
   exact hK _ _ (Ext.refl _) rfl
  ·intro a W hW hB hD K hK
   have b24:=hB 24 rfl
   simp only [Array.getD_eq_getD_getElem?,List.getElem?_toArray,List.getElem?_cons_succ,List.getElem?_cons_zero,Option.getD_some] at b24
   go_simp
   exact hK _ _ (Ext.refl _) rfl
  ·intro a W hW hB hD K hK
   obtain ⟨v159,e159⟩:∃ x,a.tmps.getD 159 undef=x:=⟨_,rfl⟩
   have h159:=hD 2 _ 159 rfl rfl (by kernel_rfl)
   rw [e159] at h159
   simp only [Array.getD_eq_getD_getElem?] at e159
   obtain rfl:=h159
   obtain ⟨v160,e160⟩:∃ x,a.tmps.getD 160 undef=x:=⟨_,rfl⟩
   have h160:=hD 3 _ 160 rfl rfl (by kernel_rfl)
   rw [e160] at h160
   simp only [Array.getD_eq_getD_getElem?] at e160
   obtain rfl:=h160
   have hz:=hsl2 W
   go_simp
   exact hK _ _ (Ext.refl _) rfl
  ·intro a W hW hB hD K hK
   obtain ⟨v157,e157⟩:∃ x,a.tmps.getD 157 undef=x:=⟨_,rfl⟩
   have h157:=hD 0 _ 157 rfl rfl (by kernel_rfl)
   rw [e157] at h157
   simp only [Array.getD_eq_getD_getElem?] at e157
   obtain rfl:=h157
   obtain ⟨v158,e158⟩:∃ x,a.tmps.getD 158 undef=x:=⟨_,rfl⟩
   have h158:=hD 1 _ 158 rfl rfl (by kernel_rfl)
   rw [e158] at h158
   simp only [Array.getD_eq_getD_getElem?] at e158
   obtain rfl:=h158
   obtain ⟨v161,e161⟩:∃ x,a.tmps.getD 161 undef=x:=⟨_,rfl⟩
   have h161:=hD 4 _ 161 rfl rfl (by kernel_rfl)
   rw [e161] at h161
   simp only [Array.getD_eq_getD_getElem?] at e161
   obtain rfl:=h161
   go_simp
   refine (HPN.o W _ _ _ hf _ (HM.o.ext (X.o.trans hW)) (RZ7.o.ext hW) (RD2.o.ext (X.o.trans hW)) HFL.o HFN.o).mono ?_
   rintro e w9 ⟨⟨v,rfl,ov⟩,hx⟩
   rw [SPL.o.2] at ov ⊢
   dsimp only at ov ⊢
   obtain ⟨x1,x2,rfl⟩:=ov.shape
   exact hK _ _ hx ⟨_,_,rfl,ov.rd⟩
  ·intro a W hW hB hD K hK
   obtain ⟨v162,e162⟩:∃ x,a.tmps.getD 162 undef=x:=⟨_,rfl⟩
   have h162:=hD 5 _ 162 rfl rfl (by kernel_rfl)
   rw [e162] at h162
   simp only [Array.getD_eq_getD_getElem?] at e162
   obtain ⟨x1,x2,rfl,xg⟩:=h162
   go_simp
   exact hK _ _ (Ext.refl _) ⟨_,_,rfl,xg⟩
  ·intro a W hW hB hD K hK
   obtain ⟨v156,e156⟩:∃ x,a.tmps.getD 156 undef=x:=⟨_,rfl⟩
   have h156:=hD 6 _ 156 rfl rfl (by kernel_rfl)
   rw [e156] at h156
   simp only [Array.getD_eq_getD_getElem?] at e156
   obtain ⟨x1,x2,rfl,xg⟩:=h156
   go_simp
   exact hK _ _ (Ext.refl _) ⟨_,_,rfl,xg⟩
  ·intro a W hW hB hD K hK
   obtain ⟨v156,e156⟩:∃ x,a.tmps.getD 156 undef=x:=⟨_,rfl⟩
   have h156:=hD 6 _ 156 rfl rfl (by kernel_rfl)
   rw [e156] at h156
   simp only [Array.getD_eq_getD_getElem?] at e156
   obtain ⟨x1,x2,rfl,xg⟩:=h156
   go_simp
   exact hK _ _ (Ext.refl _) rfl
 ·intro a W hW hB hD
  have h156:=hD 6 _ 156 rfl rfl (by kernel_rfl)
  obtain ⟨v156,e156⟩:∃ x,a.tmps.getD 156 undef=x:=⟨_,rfl⟩
  rw [e156] at h156
  obtain ⟨x1,x2,rfl,xg⟩:=h156
  exact ⟨.int .i64 0,fun w9=>run_extract9 e156 rfl rfl w9,rfl⟩
 intro w13 hx
 simp only [Vals,List.take_succ_cons,List.take_zero,List.drop_succ_cons,List.drop_zero]
 rintro u0 - u1 - u2 - u3 - u4 - u5 - u6 - u7 h7 u8 h8
 obtain ⟨z81,z82,rfl,hz8⟩:=h7
 obtain rfl:u8=.int .i64 0:=h8
 simp only [Act.put,List.setIfInBounds_toArray,List.set_cons_zero,List.set_cons_succ]
 have RZ8:=kI hz8
 replace A0:=kI (A0.o.ext hx);replace UL:=kI (UL.o.ext hx);replace RZ7:=kI (RZ7.o.ext hx);replace X:=kI (X.o.trans hx)
 clear hx hz8
 go_wp2_with fail
 refine (equalRats_any _ _ u u _ RZ8.o UL.o).mono ?_
 rintro e w14 ⟨rfl,hx⟩
 rw [decide_eq_true rfl]
 replace X:=kI (X.o.trans hx)
 clear hx
 go_wp2_with fail
 go_ret
 exact ⟨rfl,X.o⟩
end Go.Proofs.Ytfflknbeidihoaa
