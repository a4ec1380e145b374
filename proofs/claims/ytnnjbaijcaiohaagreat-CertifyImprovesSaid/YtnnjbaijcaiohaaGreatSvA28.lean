/- Walks and lemmas. -/
import Derived.Test.YtnnjbaijcaiohaaGreatSvA27
import Derived.Test.YtnnjbaijcaiohaaGreatSvA26
set_option linter.unusedVariables false
set_option linter.unusedSimpArgs false
set_option maxRecDepth 100000
set_option maxHeartbeats 16000000
namespace Go.Proofs.YtnnjbaijcaiohaaGreat
open Go.RowKit
theorem Ep (v1 v2:Value) (l1 l2:List Int) (w:World) (h1:bj .i64 w v1 l1) (h2:bj .i64 w v2 l2) :
  Calls Tryz.prog 112 #[v1,v2] w fun e w'=>e=.returned (.bool (decide (l1=l2)))∧Ext w w':=by
 obtain ⟨a1,c1,rfl,hc1,hm1,hr1⟩:=h1.get;obtain ⟨a2,c2,rfl,hc2,hm2,hr2⟩:=h2.get;clear h1 h2;by_cases hlen:l1.length=l2.length
 ·have H1:=kI hr1;clear hr1;have H2:=kI hr2;clear hr2;rw [← hlen];rw [← hlen] at H2 hc2;have HL:=kI hlen;clear hlen;go_enter Tryz.func112,Tryz.ntmps112
  go_wp2
  go_loopw [5,13] (fun _ i wr=>∃ k:Nat,k≤l1.length∧i=.int .i64 k∧l1.take k=l2.take k∧∃ n,wr=w.drewN n)
   (fun _ i _=>l1.length - (intOf i).toNat)
  case atStart=>exact ⟨0,Nat.zero_le _,rfl,rfl,0,rfl⟩
  case round=>
   obtain ⟨k,hk,rfl,htake,n,rfl⟩:=hrel;have HT:=kI htake;clear htake;by_cases hlt:k < l1.length
   ·obtain ⟨b1,o1,rfl,hb1,hx1⟩:=H1.o k hlt;obtain ⟨b2,o2,rfl,hb2,hx2⟩:=H2.o k hlt;go_wp2_with fail;go_quiet (fail)
    go_wp2
    ·have hne:(l1[k] != l2[k]?.getD 0)=true:=by assumption
     go_ret;refine ⟨cT ?_,((Ext.refl w).drewN _).drewN _⟩;rw [eq_comm,decide_eq_false_iff_not];rintro rfl;simp [hlt] at hne
    ·have he:(l1[k] != l2[k]?.getD 0)=false:=by assumption
     have hlt2:k < l2.length:=HL.o ▸ hlt;go_roundw
     case rel=>exact ⟨k+1,by omega,by go_num,iC HT.o hlt hlt2 SF,_,rfl⟩
     case measure=>simp [intOf];omega
   ·go_wp2
    go_ret;refine ⟨cT ?_,(Ext.refl w).drewN _⟩;have:=HT.o;rw [List.take_of_length_le Z,List.take_of_length_le Q5] at this;simp [this]
 ·have hb:(l1.length != l2.length)=true:=by simpa using hlen
  go_enter Tryz.func112,Tryz.ntmps112
  go_wp2
  go_ret;refine ⟨cT ?_,Ext.refl w⟩;rw [eq_comm,decide_eq_false_iff_not];rintro rfl;exact hlen rfl
theorem LI {m:MD} {V:List RR} {P:List Int} {R B:RR} {k:Int}  (h:gG m=k) (hk:k≠0):dQ m (V,P,R,B)=k:=by
 unfold dQ;dsimp only;rw [if_pos Mo];exact h
theorem LJ {m:MD} {V:List RR} {P:List Int} {R B:RR} (h1:gG m=0) (h:V.length≠m.states.length):dQ m (V,P,R,B)=16:=by
 unfold dQ;dsimp only;rw [if_neg (fun z=>z h1)];rw [if_pos h]
theorem LK {m:MD} {V:List RR} {P:List Int} {R B:RR} {k:Int} (h1:gG m=0) (h2:V.length=m.states.length) (h:nP m P=k) (hk:k≠0):dQ m (V,P,R,B)=k:=by
 unfold dQ;dsimp only;rw [if_neg (fun z=>z h1)];rw [if_neg (fun z=>z h2)];rw [if_pos Mo];exact h
theorem LL {m:MD} {V:List RR} {P:List Int} {R B:RR} {k:Int} (h1:gG m=0) (h2:V.length=m.states.length) (h3:nP m P=0) (h:aA R=k) (hk:k≠0):dQ m (V,P,R,B)=k:=by
 unfold dQ;dsimp only;rw [if_neg (fun z=>z h1)];rw [if_neg (fun z=>z h2)];rw [if_neg (fun z=>z h3)];rw [if_pos Mo];exact h
theorem LM {m:MD} {V:List RR} {P:List Int} {R B:RR} {k:Int} (h1:gG m=0) (h2:V.length=m.states.length) (h3:nP m P=0) (h4:aA R=0) (h:aA B=k) (hk:k≠0):dQ m (V,P,R,B)=k:=by
 unfold dQ;dsimp only;rw [if_neg (fun z=>z h1)];rw [if_neg (fun z=>z h2)];rw [if_neg (fun z=>z h3)];rw [if_neg (fun z=>z h4)];rw [if_pos Mo];exact h
theorem LO {m:MD} {V:List RR} {P:List Int} {R B:RR} {k:Int} (h1:gG m=0) (h2:V.length=m.states.length) (h3:nP m P=0) (h4:aA R=0) (h5:aA B=0) (h:(am m V).2.2=k) (hk:k≠0):dQ m (V,P,R,B)=k:=by
 unfold dQ;dsimp only;rw [if_neg (fun z=>z h1)];rw [if_neg (fun z=>z h2)];rw [if_neg (fun z=>z h3)];rw [if_neg (fun z=>z h4)];rw [if_neg (fun z=>z h5)];rw [if_pos Mo];exact h
theorem Er {m:MD} {V x:List RR} {P g:List Int} {R B:RR} (h1:gG m=0) (h2:V.length=m.states.length) (h3:nP m P=0) (h4:aA R=0) (h5:aA B=0) (h6:am m V=(x,g,0)) (h:(bP V x).2≠0∨g≠P):dQ m (V,P,R,B)=15:=by
 unfold dQ;dsimp only;rw [if_neg (fun z=>z h1)];rw [if_neg (fun z=>z h2)];rw [if_neg (fun z=>z h3)];rw [if_neg (fun z=>z h4)];rw [if_neg (fun z=>z h5)];rw [h6,if_neg (fun z=>z rfl)];dsimp only;rw [if_pos h]
theorem LP {m:MD} {V x:List RR} {P g:List Int} {R B d:RR} (h1:gG m=0) (h2:V.length=m.states.length) (h3:nP m P=0) (h4:aA R=0) (h5:aA B=0) (h6:am m V=(x,g,0)) (h7:bP V x=(d,0)) (h8:g=P) (h:(cA d R).1≠0):dQ m (V,P,R,B)=15:=by
 unfold dQ;dsimp only;rw [if_neg (fun z=>z h1)];rw [if_neg (fun z=>z h2)];rw [if_neg (fun z=>z h3)];rw [if_neg (fun z=>z h4)];rw [if_neg (fun z=>z h5)];rw [h6,if_neg (fun z=>z rfl)];dsimp only;rw [h7,if_neg Sz];dsimp only;rw [if_pos h]
theorem LQ {m:MD} {V x:List RR} {P g:List Int} {R B d:RR} {k:Int} (h1:gG m=0) (h2:V.length=m.states.length) (h3:nP m P=0) (h4:aA R=0) (h5:aA B=0) (h6:am m V=(x,g,0)) (h7:bP V x=(d,0)) (h8:g=P) (h9:(cA d R).1=0) (h:(gK m).2=k) (hk:k≠0):dQ m (V,P,R,B)=k:=by
 unfold dQ;dsimp only;rw [if_neg (fun z=>z h1)];rw [if_neg (fun z=>z h2)];rw [if_neg (fun z=>z h3)];rw [if_neg (fun z=>z h4)];rw [if_neg (fun z=>z h5)];rw [h6,if_neg (fun z=>z rfl)];dsimp only;rw [h7,if_neg Sz];dsimp only;rw [if_neg (fun z=>z h9),if_pos Mo];exact h
theorem Hu {m:MD} {V x:List RR} {P g:List Int} {R B d f:RR} (h1:gG m=0) (h2:V.length=m.states.length) (h3:nP m P=0) (h4:aA R=0) (h5:aA B=0) (h6:am m V=(x,g,0)) (h7:bP V x=(d,0)) (h8:g=P) (h9:(cA d R).1=0) (h:gK m=(f,0)):dQ m (V,P,R,B)=if mL B f d=true then 0 else 15:=by
 unfold dQ;dsimp only;rw [if_neg (fun z=>z h1)];rw [if_neg (fun z=>z h2)];rw [if_neg (fun z=>z h3)];rw [if_neg (fun z=>z h4)];rw [if_neg (fun z=>z h5)];rw [h6,if_neg (fun z=>z rfl)];dsimp only;rw [h7,if_neg Sz];dsimp only;rw [if_neg (fun z=>z h9),h,if_neg (fun z=>z rfl)]
def Hv (Nb f:Nat) (r:RR) (q1 q3:Option Addr) (q2 q4:Nat) (c:Int) (j:Nat) (v:Value) (W:World):Prop:=
 match j with
 | 0=>v=.pointer (some ⟨Nb,f,none⟩)
 | 1=>v=.agg #[.bool r.neg,.slice q1 r.num.length q2,.slice q3 r.den.length q4]
 | 2=>v=.pointer (some ⟨Nb,f,none⟩)
 | 3=>v=.agg #[.bool r.neg,.slice q1 r.num.length q2,.slice q3 r.den.length q4]
 | 4=>v=.int .i64 c
 | 5=>c=0
 | _=>True
theorem wA {Nb f:Nat} {r:RR} {q1 q3:Option Addr} {q2 q4:Nat} {c:Int} {j:Nat} {v:Value} {W W':World} (h:Hv Nb f r q1 q3 q2 q4 c j v W) (xx:Ext W W'):Hv Nb f r q1 q3 q2 q4 c j v W':=by
 match j,h with
 | 0,h=>exact h
 | 1,h=>exact h
 | 2,h=>exact h
 | 3,h=>exact h
 | 4,h=>exact h
 | 5,h9=>exact h9
 | _+6,_=>trivial
def yy (MV:Value) (Nb:Nat) (B:RR) (t1 t3:Option Addr) (t2 t4:Nat) (d:RR) (q1 q3:Option Addr) (q2 q4:Nat) (f:RR) (fc:Int) (j:Nat) (v:Value) (W:World):Prop:=
 match j with
 | 0=>v=.pointer (some ⟨Nb,5,none⟩)
 | 1=>v=.agg #[.bool B.neg,.slice t1 B.num.length t2,.slice t3 B.den.length t4]
 | 2=>v=MV
 | 3=>fc=0∧∃ z1 z2 z3 z4,v=.agg #[.bool f.neg,.slice z1 f.num.length z2,.slice z3 f.den.length z4]∧bh W (.agg #[.bool f.neg,.slice z1 f.num.length z2,.slice z3 f.den.length z4]) f
 | 4=>v=.agg #[.bool d.neg,.slice q1 d.num.length q2,.slice q3 d.den.length q4]
 | 5=>fc=0∧v=.bool (mL B f d)
 | 6=>fc=0∧v=.bool (!mL B f d)
 | _=>True
theorem yz {MV:Value} {Nb:Nat} {B:RR} {t1 t3:Option Addr} {t2 t4:Nat} {d:RR} {q1 q3:Option Addr} {q2 q4:Nat} {f:RR} {fc:Int} {j:Nat} {v:Value} {W W':World} (h:yy MV Nb B t1 t3 t2 t4 d q1 q3 q2 q4 f fc j v W) (xx:Ext W W'):yy MV Nb B t1 t3 t2 t4 d q1 q3 q2 q4 f fc j v W':=by
 match j,h with
 | 0,h=>exact h
 | 1,h=>exact h
 | 2,h=>exact h
 | 3,⟨h9,z1,z2,z3,z4,h0,h1⟩=>exact ⟨h9,z1,z2,z3,z4,h0,h1.ext xx⟩
 | 4,h=>exact h
 | 5,h9=>exact h9
 | 6,h9=>exact h9
 | _+7,_=>trivial
theorem Es (mv cv:Value) (m:MD) (c:lL) (w:World) (hm:eY w mv m) (hlm:iY m) (hc:D7 w cv c) (lV:dm c.1) (lR:aC c.2.2.1) (lB:aC c.2.2.2) :
  Calls Tryz.prog 47 #[mv,cv] w fun e w'=>e=.returned (.int .i64 (dQ m c))∧Ext w w':=by
 have qP:=kI (fun W mv (h:eY W mv m)=>iS mv m W h hlm);have Qf:=kI (fun W mv pv (p:List Int) (h:eY W mv m) (k:bj .i64 W pv p)=>nQ mv pv m p W h k);have Gf:=kI (fun W mv vv (l:List RR) (h:eY W mv m) (k:cH W vv l) (h2:dm l)=>iP mv vv m l W h k hlm h2);have PE:=kI (fun W mv (h:eY W mv m)=>qk mv m W h hlm);have HM:=kI hm;have HC:=kI hc;obtain ⟨m1,n1,m2,n2,m3,n3,rfl,-,-⟩:=hm;obtain ⟨V,P,R,B⟩:=c;obtain ⟨a1,c1,a2,c2,s1,s2,s3,s4,t1,t2,t3,t4,rfl,hV,hP,hR,hB⟩:=hc;dsimp only at hV hP hR hB lV lR lB ⊢;have HV:=kI hV;have HP:=kI hP;have HR:=kI hR;have HB:=kI hB;have LV:=kI lV;have LR:=kI lR;have LB:=kI lB;clear hlm hV hP hR hB lV lR lB HC;have bb0:=(((ag.new w #[.bool m.ah.neg,.slice m1 m.ah.num.length n1,.slice m2 m.ah.den.length n2,.slice m3 m.states.length n3] 28).alloc (.cells #[.slice a1 V.length c1,.slice a2 P.length c2,.bool R.neg,.slice s1 R.num.length s2,.slice s3 R.den.length s4,.bool B.neg,.slice t1 B.num.length t2,.slice t3 B.den.length t4] 67)).alloc (.cells #[.int .i64 0] 37));have bb1:=((ag.new (w.alloc (.cells #[.bool m.ah.neg,.slice m1 m.ah.num.length n1,.slice m2 m.ah.den.length n2,.slice m3 m.states.length n3] 28)) #[.slice a1 V.length c1,.slice a2 P.length c2,.bool R.neg,.slice s1 R.num.length s2,.slice s3 R.den.length s4,.bool B.neg,.slice t1 B.num.length t2,.slice t3 B.den.length t4] 67).alloc (.cells #[.int .i64 0] 37));have bb2:=(ag.new ((w.alloc (.cells #[.bool m.ah.neg,.slice m1 m.ah.num.length n1,.slice m2 m.ah.den.length n2,.slice m3 m.states.length n3] 28)).alloc (.cells #[.slice a1 V.length c1,.slice a2 P.length c2,.bool R.neg,.slice s1 R.num.length s2,.slice s3 R.den.length s4,.bool B.neg,.slice t1 B.num.length t2,.slice t3 B.den.length t4] 67)) #[.int .i64 0] 37);rw [World.size_alloc] at bb1;rw [World.size_alloc,World.size_alloc] at bb2;have x0:Ext w (((w.alloc (.cells #[.bool m.ah.neg,.slice m1 m.ah.num.length n1,.slice m2 m.ah.den.length n2,.slice m3 m.states.length n3] 28)).alloc (.cells #[.slice a1 V.length c1,.slice a2 P.length c2,.bool R.neg,.slice s1 R.num.length s2,.slice s3 R.den.length s4,.bool B.neg,.slice t1 B.num.length t2,.slice t3 B.den.length t4] 67)).alloc (.cells #[.int .i64 0] 37)):=((((Ext.refl w).alloc _).alloc _).alloc _)
 have A0:=kI bb0;have A1:=kI bb1;have A2:=kI bb2;have X:=kI x0;clear x0 bb0 bb1 bb2;have Ie:=HM;have Bq:=HV;have P6:=HP;have HR0:=HR;have HB0:=HB;replace HM:=kI (HM.o.ext X.o);replace HV:=kI (HV.o.ext X.o);replace HP:=kI (Rd.ext HP.o X.o);replace HR:=kI (HR.o.ext X.o);replace HB:=kI (HB.o.ext X.o);have hmf:∀ (fn:Fn) (first cap:Array Value) (w:World),(Instr.makeFunc fn first cap).run Tryz.prog w=.ok (.func fn first cap) w:=fun _ _ _ _=>rfl;go_enter_defers Tryz.func47,Tryz.ntmps47
 obtain ⟨aK,fA0,aJ⟩:=A0.o.q3;obtain ⟨aY,aZ,lA1⟩:=A1.o.q3;obtain ⟨bA,bB,lA2⟩:=A2.o.q3;go_wp2_with fail;clear hmf;refine (qP.o _ _ HM.o).mono ?_;rintro e w1 ⟨rfl,hx⟩;clear aK fA0 aJ aY aZ lA1 bA bB lA2;replace A0:=kI (A0.o.ext hx);replace A1:=kI (A1.o.ext hx);replace A2:=kI (A2.o.ext hx);replace HM:=kI (HM.o.ext hx);replace HV:=kI (HV.o.ext hx);replace HP:=kI (Rd.ext HP.o hx);replace HR:=kI (HR.o.ext hx);replace HB:=kI (HB.o.ext hx);replace X:=kI (X.o.trans hx);clear hx qP;obtain ⟨k1,hc1⟩:=gN (gG m);rw [← hc1];by_cases h1:k1=0
 rotate_left
 ·have E:=kI (LI (V:=V) (P:=P) (R:=R) (B:=B) hc1.symm h1);have q1:(k1 != 0)=true:=by simpa using h1
  have H1:=kI h1;clear hc1 h1;obtain ⟨aY,aZ,lA1⟩:=A1.o.q3;obtain ⟨bA,bB,lA2⟩:=A2.o.q3;go_wp2_with fail;clear aY aZ lA1 bA bB lA2;obtain ⟨wr,hwe⟩:=gN ((w1.setCell ⟨w.heap.size+1+1,0,none⟩ (.int .i64 k1)));have ha0:ag wr (w.heap.size) #[.bool m.ah.neg,.slice m1 m.ah.num.length n1,.slice m2 m.ah.den.length n2,.slice m3 m.states.length n3] 28:=by rw [hwe];exact A0.o.setOther (a:=⟨w.heap.size+1+1,0,none⟩) au _
  have ha1:ag wr (w.heap.size+1) #[.slice a1 V.length c1,.slice a2 P.length c2,.bool R.neg,.slice s1 R.num.length s2,.slice s3 R.den.length s4,.bool B.neg,.slice t1 B.num.length t2,.slice t3 B.den.length t4] 67:=by rw [hwe];exact A1.o.setOther (a:=⟨w.heap.size+1+1,0,none⟩) au _
  have ha2:ag wr (w.heap.size+1+1) #[.int .i64 k1] 37:=by rw [hwe];have:=A2.o.set 0 (.int .i64 k1);simpa using this
  have hxr:Ext w wr:=by rw [hwe];exact X.o.set (p:=⟨w.heap.size+1+1,0,none⟩) au _
  rw [← hwe];clear hwe;replace A0:=kI ha0;replace A1:=kI ha1;replace A2:=kI ha2;replace X:=kI hxr;clear ha0 ha1 ha2 hxr;refine leaves_cons (f:=110) (args:=#[.pointer (some ⟨w.heap.size+1+1,0,none⟩)]) cp ks ?_;refine (dn (w.heap.size+1+1) k1 H1.o _ A2.o).mono ?_;rintro e u' w'' ⟨rfl,rfl,rfl⟩;obtain ⟨wf,hwf⟩:=gN ((wr.setCell ⟨w.heap.size+1+1,0,none⟩ (.int .i64 k1)));have hfe:ag wf (w.heap.size+1+1) #[.int .i64 k1] 37:=by
   have:=(A2.o).set 0 (.int .i64 k1);rw [hwf];simpa using this
  have cu:Ext w wf:=by rw [hwf];exact X.o.set (p:=⟨w.heap.size+1+1,0,none⟩) au _
  rw [← hwf];clear hwf;have ex:=kI cu;have ke:=hfe.cell 0;simp only [List.getElem?_toArray,List.getElem?_cons_zero] at ke;clear hfe cu;simp [Leaves,settle,results,Tryz.results47,go_sem,bk,ke];exact ⟨by rw [E.o],ex.o.drew⟩
 subst h1;have H1:=kI hc1.symm;have mp:=kI (kW H1.o).1;clear hc1;obtain ⟨n,hn⟩:=gN (m.states.length);obtain ⟨vl,hvl⟩:=gN (V.length);obtain ⟨pl,hpl⟩:=gN (P.length);have HN:=kI hn;have Qk:=kI hvl;have nH:=kI hpl;rw [← hn] at A0 HM Ie;rw [← hvl] at A1 HV Bq;rw [← hpl] at A1 HP P6;clear hn hvl hpl;by_cases h2:vl=n
 rotate_left
 ·have E:=kI (LJ (V:=V) (P:=P) (R:=R) (B:=B) H1.o (by rw [← Qk.o,← HN.o];exact h2));have q1:((vl:Int) != (n:Int))=true:=by simp;omega
  clear h2;obtain ⟨aK,fA0,aJ⟩:=A0.o.q3;obtain ⟨aY,aZ,lA1⟩:=A1.o.q3;obtain ⟨bA,bB,lA2⟩:=A2.o.q3;go_wp2_with fail;clear aK fA0 aJ aY aZ lA1 bA bB lA2;obtain ⟨wr,hwe⟩:=gN ((w1.setCell ⟨w.heap.size+1+1,0,none⟩ (.int .i64 16)));have ha0:ag wr (w.heap.size) #[.bool m.ah.neg,.slice m1 m.ah.num.length n1,.slice m2 m.ah.den.length n2,.slice m3 n n3] 28:=by rw [hwe];exact A0.o.setOther (a:=⟨w.heap.size+1+1,0,none⟩) au _
  have ha1:ag wr (w.heap.size+1) #[.slice a1 vl c1,.slice a2 pl c2,.bool R.neg,.slice s1 R.num.length s2,.slice s3 R.den.length s4,.bool B.neg,.slice t1 B.num.length t2,.slice t3 B.den.length t4] 67:=by rw [hwe];exact A1.o.setOther (a:=⟨w.heap.size+1+1,0,none⟩) au _
  have ha2:ag wr (w.heap.size+1+1) #[.int .i64 16] 37:=by rw [hwe];have:=A2.o.set 0 (.int .i64 16);simpa using this
  have hxr:Ext w wr:=by rw [hwe];exact X.o.set (p:=⟨w.heap.size+1+1,0,none⟩) au _
  rw [← hwe];clear hwe;replace A0:=kI ha0;replace A1:=kI ha1;replace A2:=kI ha2;replace X:=kI hxr;clear ha0 ha1 ha2 hxr;refine leaves_cons (f:=110) (args:=#[.pointer (some ⟨w.heap.size+1+1,0,none⟩)]) cp ks ?_;refine (dn (w.heap.size+1+1) 16 ap _ A2.o).mono ?_;rintro e u' w'' ⟨rfl,rfl,rfl⟩;obtain ⟨wf,hwf⟩:=gN ((wr.setCell ⟨w.heap.size+1+1,0,none⟩ (.int .i64 16)));have hfe:ag wf (w.heap.size+1+1) #[.int .i64 16] 37:=by
   have:=(A2.o).set 0 (.int .i64 16);rw [hwf];simpa using this
  have cu:Ext w wf:=by rw [hwf];exact X.o.set (p:=⟨w.heap.size+1+1,0,none⟩) au _
  rw [← hwf];clear hwf;have ex:=kI cu;have ke:=hfe.cell 0;simp only [List.getElem?_toArray,List.getElem?_cons_zero] at ke;clear hfe cu;simp [Leaves,settle,results,Tryz.results47,go_sem,bk,ke];exact ⟨by rw [E.o],ex.o.drew⟩
 subst h2;have H2:=kI (show V.length=m.states.length from by rw [← Qk.o,← HN.o]);obtain ⟨aK,fA0,aJ⟩:=A0.o.q3;obtain ⟨aY,aZ,lA1⟩:=A1.o.q3;obtain ⟨bA,bB,lA2⟩:=A2.o.q3;go_wp2_with fail;refine (Qf.o _ _ _ P HM.o HP.o).mono ?_;rintro e w2 ⟨rfl,hx⟩;clear aK fA0 aJ aY aZ lA1 bA bB lA2;replace A0:=kI (A0.o.ext hx);replace A1:=kI (A1.o.ext hx);replace A2:=kI (A2.o.ext hx);replace HM:=kI (HM.o.ext hx);replace HV:=kI (HV.o.ext hx);replace HP:=kI (Rd.ext HP.o hx);replace HR:=kI (HR.o.ext hx);replace HB:=kI (HB.o.ext hx);replace X:=kI (X.o.trans hx);clear hx Qf;obtain ⟨k3,hc3⟩:=gN (nP m P);rw [← hc3];by_cases h3:k3=0
 rotate_left
 ·have E:=kI (LK (R:=R) (B:=B) H1.o H2.o hc3.symm h3);have q1:(k3 != 0)=true:=by simpa using h3
  have H3:=kI h3;clear hc3 h3;obtain ⟨aY,aZ,lA1⟩:=A1.o.q3;obtain ⟨bA,bB,lA2⟩:=A2.o.q3;go_wp2_with fail;clear aY aZ lA1 bA bB lA2;obtain ⟨wr,hwe⟩:=gN ((w2.setCell ⟨w.heap.size+1+1,0,none⟩ (.int .i64 k3)));have ha0:ag wr (w.heap.size) #[.bool m.ah.neg,.slice m1 m.ah.num.length n1,.slice m2 m.ah.den.length n2,.slice m3 vl n3] 28:=by rw [hwe];exact A0.o.setOther (a:=⟨w.heap.size+1+1,0,none⟩) au _
  have ha1:ag wr (w.heap.size+1) #[.slice a1 vl c1,.slice a2 pl c2,.bool R.neg,.slice s1 R.num.length s2,.slice s3 R.den.length s4,.bool B.neg,.slice t1 B.num.length t2,.slice t3 B.den.length t4] 67:=by rw [hwe];exact A1.o.setOther (a:=⟨w.heap.size+1+1,0,none⟩) au _
  have ha2:ag wr (w.heap.size+1+1) #[.int .i64 k3] 37:=by rw [hwe];have:=A2.o.set 0 (.int .i64 k3);simpa using this
  have hxr:Ext w wr:=by rw [hwe];exact X.o.set (p:=⟨w.heap.size+1+1,0,none⟩) au _
  rw [← hwe];clear hwe;replace A0:=kI ha0;replace A1:=kI ha1;replace A2:=kI ha2;replace X:=kI hxr;clear ha0 ha1 ha2 hxr;refine leaves_cons (f:=110) (args:=#[.pointer (some ⟨w.heap.size+1+1,0,none⟩)]) cp ks ?_;refine (dn (w.heap.size+1+1) k3 H3.o _ A2.o).mono ?_;rintro e u' w'' ⟨rfl,rfl,rfl⟩;obtain ⟨wf,hwf⟩:=gN ((wr.setCell ⟨w.heap.size+1+1,0,none⟩ (.int .i64 k3)));have hfe:ag wf (w.heap.size+1+1) #[.int .i64 k3] 37:=by
   have:=(A2.o).set 0 (.int .i64 k3);rw [hwf];simpa using this
  have cu:Ext w wf:=by rw [hwf];exact X.o.set (p:=⟨w.heap.size+1+1,0,none⟩) au _
  rw [← hwf];clear hwf;have ex:=kI cu;have ke:=hfe.cell 0;simp only [List.getElem?_toArray,List.getElem?_cons_zero] at ke;clear hfe cu;simp [Leaves,settle,results,Tryz.results47,go_sem,bk,ke];exact ⟨by rw [E.o],ex.o.drew⟩
 subst h3;have H3:=kI hc3.symm;clear hc3;obtain ⟨aK,fA0,aJ⟩:=A0.o.q3;obtain ⟨aY,aZ,lA1⟩:=A1.o.q3;obtain ⟨bA,bB,lA2⟩:=A2.o.q3;go_wp2_with fail;clear aK fA0 aJ aY aZ lA1 bA bB lA2;obtain ⟨k4,hk4⟩:=gN (aA R);have Sq:=kI hk4;clear hk4;refine fD (Hv (w.heap.size+1) 2 R s1 s3 s2 s4 k4) ax ax ax (fun _ _ _ _ h x=>wA h x) ?_ ?_
 ·refine ⟨?_,?_,?_,?_,?_,?_,trivial⟩
  ·intro a W hW af hB hD K hK;have aQ:=kI af;clear af;have b3:=hB 3 rfl;simp only [sB] at b3;go_simp;exact hK _ _ (Ext.refl _) rfl
  ·intro a W hW af hB hD K hK;have aQ:=kI af;clear af;obtain ⟨v32,e32,h32⟩:=aE (hD 0 _ 32 rfl rfl ax);obtain rfl:=h32;have q9:=(A1.o.ext hW).cell;have l9:=(A1.o.ext hW).lt;go_simp;exact hK _ _ (Ext.refl _) rfl
  ·intro a W hW af hB hD K hK;have aQ:=kI af;clear af;have b3:=hB 3 rfl;simp only [sB] at b3;go_simp;exact hK _ _ (Ext.refl _) rfl
  ·intro a W hW af hB hD K hK;have aQ:=kI af;clear af;obtain ⟨v34,e34,Ke⟩:=aE (hD 2 _ 34 rfl rfl ax);obtain rfl:=Ke;have q9:=(A1.o.ext hW).cell;have l9:=(A1.o.ext hW).lt;go_simp;exact hK _ _ (Ext.refl _) rfl
  ·intro a W hW af hB hD K hK;have aQ:=kI af;clear af;obtain ⟨v35,e35,h35⟩:=aE (hD 3 _ 35 rfl rfl ax);obtain rfl:=h35;go_simp;have hck:=ee _ R W (HR.o.ext hW) LR.o;rw [← Sq.o] at hck;refine hck.mono ?_;rintro e w9 ⟨rfl,hx⟩;exact hK _ _ hx rfl
  ·intro a W hW af hB hD K hK;have aQ:=kI af;clear af;obtain ⟨v33,e33,Gu⟩:=aE (hD 1 _ 33 rfl rfl ax);obtain rfl:=Gu;obtain ⟨v36,e36,PH⟩:=aE (hD 4 _ 36 rfl rfl ax);obtain rfl:=PH;go_simp;by_cases hpe:k4=0
   ·subst hpe;refine (bO _ _ _ _ _ _ _ W).mono ?_;rintro e w9 ⟨rfl,hx⟩;exact hK _ _ hx rfl
   ·refine (bu _ _ _ _ _ _ _ _ rfl hpe W).mono ?_;rintro e w9 ⟨rfl,hx⟩;(try simp +zetaDelta only [Exit.then,Exit.inBlock]);show Leaves _ _ a.tmps _ a.defers _ _;rw [aQ.o];have b4:=hB 4 rfl;simp only [sB] at b4;have E:=kI (LL (B:=B) H1.o H2.o H3.o Sq.o.symm hpe);have GN:=kI hpe;replace A2:=kI (A2.o.ext (hW.trans hx));replace X:=kI (X.o.trans (hW.trans hx));have H4:=kI b4;clear hW hx hB hD hK b4;refine leaves_cons (f:=110) (args:=#[.pointer (some ⟨w.heap.size+1+1,0,none⟩)]) cp ks ?_;refine (gV (w.heap.size+1+1) k4 0 GN.o [] _ A2.o).mono ?_;rintro e u' w'' ⟨rfl,rfl,rfl⟩;obtain ⟨wf,hwf⟩:=gN ((w9.setCell ⟨w.heap.size+1+1,0,none⟩ (.int .i64 k4)));have hfe:ag wf (w.heap.size+1+1) #[.int .i64 k4] 37:=by
     have:=(A2.o).set 0 (.int .i64 k4);rw [hwf];simpa using this
    have cu:Ext w wf:=by rw [hwf];exact X.o.set (p:=⟨w.heap.size+1+1,0,none⟩) au _
    rw [← hwf];clear hwf;have ex:=kI cu;have ke:=hfe.cell 0;simp only [List.getElem?_toArray,List.getElem?_cons_zero] at ke;clear hfe cu;simp [Leaves,settle,results,Tryz.results47,go_sem,bk,ke,H4.o];exact ⟨by rw [E.o],ex.o.drew⟩
 intro wa hx;simp only [cW,List.take_succ_cons,List.take_zero,List.drop_succ_cons,List.drop_zero];rintro u0 - u1 - u2 - u3 - u4 - u5 h5;obtain rfl:k4=0:=h5;simp only [Act.put,List.setIfInBounds_toArray,List.set_cons_zero,List.set_cons_succ];have H4:=kI Sq.o.symm;clear Sq;replace A0:=kI (A0.o.ext hx);replace A1:=kI (A1.o.ext hx);replace A2:=kI (A2.o.ext hx);replace HM:=kI (HM.o.ext hx);replace HV:=kI (HV.o.ext hx);replace HP:=kI (Rd.ext HP.o hx);replace HR:=kI (HR.o.ext hx);replace HB:=kI (HB.o.ext hx);replace X:=kI (X.o.trans hx);clear hx;obtain ⟨aK,fA0,aJ⟩:=A0.o.q3;obtain ⟨aY,aZ,lA1⟩:=A1.o.q3;obtain ⟨bA,bB,lA2⟩:=A2.o.q3;go_wp2_with fail;clear aK fA0 aJ aY aZ lA1 bA bB lA2;obtain ⟨k5,hk5⟩:=gN (aA B);have Sr:=kI hk5;clear hk5;refine fD (Hv (w.heap.size+1) 5 B t1 t3 t2 t4 k5) ax ax ax (fun _ _ _ _ h x=>wA h x) ?_ ?_
 ·refine ⟨?_,?_,?_,?_,?_,?_,trivial⟩
  ·intro a W hW af hB hD K hK;have aQ:=kI af;clear af;have b3:=hB 3 rfl;simp only [sB] at b3;go_simp;exact hK _ _ (Ext.refl _) rfl
  ·intro a W hW af hB hD K hK;have aQ:=kI af;clear af;obtain ⟨v38,e38,h38⟩:=aE (hD 0 _ 38 rfl rfl ax);obtain rfl:=h38;have q9:=(A1.o.ext hW).cell;have l9:=(A1.o.ext hW).lt;go_simp;exact hK _ _ (Ext.refl _) rfl
  ·intro a W hW af hB hD K hK;have aQ:=kI af;clear af;have b3:=hB 3 rfl;simp only [sB] at b3;go_simp;exact hK _ _ (Ext.refl _) rfl
  ·intro a W hW af hB hD K hK;have aQ:=kI af;clear af;obtain ⟨v40,e40,UJ⟩:=aE (hD 2 _ 40 rfl rfl ax);obtain rfl:=UJ;have q9:=(A1.o.ext hW).cell;have l9:=(A1.o.ext hW).lt;go_simp;exact hK _ _ (Ext.refl _) rfl
  ·intro a W hW af hB hD K hK;have aQ:=kI af;clear af;obtain ⟨v41,e41,UK⟩:=aE (hD 3 _ 41 rfl rfl ax);obtain rfl:=UK;go_simp;have hck:=ee _ B W (HB.o.ext hW) LB.o;rw [← Sr.o] at hck;refine hck.mono ?_;rintro e w9 ⟨rfl,hx⟩;exact hK _ _ hx rfl
  ·intro a W hW af hB hD K hK;have aQ:=kI af;clear af;obtain ⟨v39,e39,PI⟩:=aE (hD 1 _ 39 rfl rfl ax);obtain rfl:=PI;obtain ⟨v42,e42,h42⟩:=aE (hD 4 _ 42 rfl rfl ax);obtain rfl:=h42;go_simp;by_cases hpe:k5=0
   ·subst hpe;refine (bO _ _ _ _ _ _ _ W).mono ?_;rintro e w9 ⟨rfl,hx⟩;exact hK _ _ hx rfl
   ·refine (bu _ _ _ _ _ _ _ _ rfl hpe W).mono ?_;rintro e w9 ⟨rfl,hx⟩;(try simp +zetaDelta only [Exit.then,Exit.inBlock]);show Leaves _ _ a.tmps _ a.defers _ _;rw [aQ.o];have b4:=hB 4 rfl;simp only [sB] at b4;have E:=kI (LM H1.o H2.o H3.o H4.o Sr.o.symm hpe);have GN:=kI hpe;replace A2:=kI (A2.o.ext (hW.trans hx));replace X:=kI (X.o.trans (hW.trans hx));have H4:=kI b4;clear hW hx hB hD hK b4;refine leaves_cons (f:=110) (args:=#[.pointer (some ⟨w.heap.size+1+1,0,none⟩)]) cp ks ?_;refine (gV (w.heap.size+1+1) k5 0 GN.o [] _ A2.o).mono ?_;rintro e u' w'' ⟨rfl,rfl,rfl⟩;obtain ⟨wf,hwf⟩:=gN ((w9.setCell ⟨w.heap.size+1+1,0,none⟩ (.int .i64 k5)));have hfe:ag wf (w.heap.size+1+1) #[.int .i64 k5] 37:=by
     have:=(A2.o).set 0 (.int .i64 k5);rw [hwf];simpa using this
    have cu:Ext w wf:=by rw [hwf];exact X.o.set (p:=⟨w.heap.size+1+1,0,none⟩) au _
    rw [← hwf];clear hwf;have ex:=kI cu;have ke:=hfe.cell 0;simp only [List.getElem?_toArray,List.getElem?_cons_zero] at ke;clear hfe cu;simp [Leaves,settle,results,Tryz.results47,go_sem,bk,ke,H4.o];exact ⟨by rw [E.o],ex.o.drew⟩
 intro wb hx;simp only [cW,List.take_succ_cons,List.take_zero,List.drop_succ_cons,List.drop_zero];rintro u0 - u1 - u2 - u3 - u4 - u5 h5;obtain rfl:k5=0:=h5;simp only [Act.put,List.setIfInBounds_toArray,List.set_cons_zero,List.set_cons_succ];have H5:=kI Sr.o.symm;clear Sr;replace A0:=kI (A0.o.ext hx);replace A1:=kI (A1.o.ext hx);replace A2:=kI (A2.o.ext hx);replace HM:=kI (HM.o.ext hx);replace HV:=kI (HV.o.ext hx);replace HP:=kI (Rd.ext HP.o hx);replace HR:=kI (HR.o.ext hx);replace HB:=kI (HB.o.ext hx);replace X:=kI (X.o.trans hx);clear hx;obtain ⟨aK,fA0,aJ⟩:=A0.o.q3;obtain ⟨aY,aZ,lA1⟩:=A1.o.q3;obtain ⟨bA,bB,lA2⟩:=A2.o.q3;go_wp2_with fail;have XV:=kI X.o.size;refine (Gf.o _ _ _ V HM.o HV.o LV.o).mono ?_;rintro e w3 ⟨he,hx⟩;clear aK fA0 aJ aY aZ lA1 bA bB lA2;replace A0:=kI (A0.o.ext hx);replace A1:=kI (A1.o.ext hx);replace A2:=kI (A2.o.ext hx);replace HM:=kI (HM.o.ext hx);replace HV:=kI (HV.o.ext hx);replace HP:=kI (Rd.ext HP.o hx);replace HR:=kI (HR.o.ext hx);replace HB:=kI (HB.o.ext hx);replace X:=kI (X.o.trans hx);clear hx Gf;obtain ⟨nv,gv,rfl,on,og⟩:=he;obtain ⟨x,g,k6,hB⟩:∃ a b c,am m V=(a,b,c):=⟨_,_,_,rfl⟩;rw [hB] at on og ⊢;dsimp only at on og ⊢;have ug:=kI hB;obtain ⟨xa,xc,rfl⟩:=on.shape;obtain ⟨ga,gc,rfl⟩:=og.shape;have ON:=kI (on.mono XV.o);have OP:=kI (og.mono XV.o);clear on og hB;obtain ⟨aK,fA0,aJ⟩:=A0.o.q3;obtain ⟨aY,aZ,lA1⟩:=A1.o.q3;obtain ⟨bA,bB,lA2⟩:=A2.o.q3;go_wp2_with fail;clear aK fA0 aJ aY aZ lA1 bA bB lA2;obtain ⟨wc,hwe⟩:=gN ((w3.setCell ⟨w.heap.size+1+1,0,none⟩ (.int .i64 k6)));have ha0:ag wc (w.heap.size) #[.bool m.ah.neg,.slice m1 m.ah.num.length n1,.slice m2 m.ah.den.length n2,.slice m3 vl n3] 28:=by rw [hwe];exact A0.o.setOther (a:=⟨w.heap.size+1+1,0,none⟩) au _
 have ha1:ag wc (w.heap.size+1) #[.slice a1 vl c1,.slice a2 pl c2,.bool R.neg,.slice s1 R.num.length s2,.slice s3 R.den.length s4,.bool B.neg,.slice t1 B.num.length t2,.slice t3 B.den.length t4] 67:=by rw [hwe];exact A1.o.setOther (a:=⟨w.heap.size+1+1,0,none⟩) au _
 have ha2:ag wc (w.heap.size+1+1) #[.int .i64 k6] 37:=by rw [hwe];have:=A2.o.set 0 (.int .i64 k6);simpa using this
 have hxr:Ext w wc:=by rw [hwe];exact X.o.set (p:=⟨w.heap.size+1+1,0,none⟩) au _
 have hk0:bV w.heap.size wc (.slice xa x.length xc) x:=by rw [hwe];exact ON.o.keeps (ay A2.o 0 (.int .i64 k6)) ap ap
 have hk1:cQ w.heap.size wc (.slice ga g.length gc) g:=by rw [hwe];exact OP.o.keeps (ay A2.o 0 (.int .i64 k6)) ap
 rw [← hwe];clear hwe;replace A0:=kI ha0;replace A1:=kI ha1;replace A2:=kI ha2;replace X:=kI hxr;clear ha0 ha1 ha2 hxr;replace ON:=kI hk0;clear hk0;replace OP:=kI hk1;clear hk1;replace HM:=kI (Ie.o.ext X.o);replace HV:=kI (Bq.o.ext X.o);replace HP:=kI (Rd.ext P6.o X.o);replace HR:=kI (HR0.o.ext X.o);replace HB:=kI (HB0.o.ext X.o);by_cases h6:k6=0
 rotate_left
 ·have Y7:=kI h6;have E:=kI (LO H1.o H2.o H3.o H4.o H5.o EX h6);clear h6;refine (bu _ _ _ _ _ _ _ _ rfl Y7.o _).mono ?_;rintro e Vl ⟨rfl,hx⟩;replace A2:=kI (A2.o.ext hx);replace X:=kI (X.o.trans hx);clear hx;refine leaves_cons (f:=110) (args:=#[.pointer (some ⟨w.heap.size+1+1,0,none⟩)]) cp ks ?_;refine (gV (w.heap.size+1+1) k6 k6 Y7.o [] _ A2.o).mono ?_;rintro e u' w'' ⟨rfl,rfl,rfl⟩;obtain ⟨wf,hwf⟩:=gN ((Vl.setCell ⟨w.heap.size+1+1,0,none⟩ (.int .i64 k6)));have hfe:ag wf (w.heap.size+1+1) #[.int .i64 k6] 37:=by
   have:=(A2.o).set 0 (.int .i64 k6);rw [hwf];simpa using this
  have cu:Ext w wf:=by rw [hwf];exact X.o.set (p:=⟨w.heap.size+1+1,0,none⟩) au _
  rw [← hwf];clear hwf;have ex:=kI cu;have ke:=hfe.cell 0;simp only [List.getElem?_toArray,List.getElem?_cons_zero] at ke;clear hfe cu;simp [Leaves,settle,results,Tryz.results47,go_sem,bk,ke];exact ⟨by rw [E.o],ex.o.drew⟩
 subst h6;have hb0:=iT (m:=m) (vs:=V) EX;rw [ug.o] at hb0;dsimp only at hb0;obtain ⟨l1,l2,l3,l4⟩:=hb0;have L3:=kI l3;have QA:=kI (show V.length≤1000000 from by rw [H2.o];have:=(bF mp.o).2.2.1;omega);clear l1 l2 l3 l4;refine (bO _ _ _ _ _ _ _ _).mono ?_;rintro e YV ⟨rfl,hx⟩;replace A0:=kI (A0.o.ext hx);replace A1:=kI (A1.o.ext hx);replace A2:=kI (A2.o.ext hx);replace HM:=kI (HM.o.ext hx);replace HV:=kI (HV.o.ext hx);replace HP:=kI (Rd.ext HP.o hx);replace HR:=kI (HR.o.ext hx);replace HB:=kI (HB.o.ext hx);replace X:=kI (X.o.trans hx);replace ON:=kI (ON.o.ext' hx);replace OP:=kI (OP.o.ext' hx);clear hx;obtain ⟨aK,fA0,aJ⟩:=A0.o.q3;obtain ⟨aY,aZ,lA1⟩:=A1.o.q3;obtain ⟨bA,bB,lA2⟩:=A2.o.q3;go_wp2_with fail;have XV:=kI X.o.size;refine (vU _ _ V x _ HV.o ON.o.rd LV.o L3.o QA.o).mono ?_;rintro e Ss ⟨he,hx⟩;clear aK fA0 aJ aY aZ lA1 bA bB lA2;replace A0:=kI (A0.o.ext hx);replace A1:=kI (A1.o.ext hx);replace A2:=kI (A2.o.ext hx);replace HM:=kI (HM.o.ext hx);replace HV:=kI (HV.o.ext hx);replace HP:=kI (Rd.ext HP.o hx);replace HR:=kI (HR.o.ext hx);replace HB:=kI (HB.o.ext hx);replace X:=kI (X.o.trans hx);replace ON:=kI (ON.o.ext' hx);replace OP:=kI (OP.o.ext' hx);clear hx;obtain ⟨d,k7,hD⟩:∃ a b,bP V x=(a,b):=⟨_,_,rfl⟩;have ld:=qp V x;rw [hD] at he ld;obtain ⟨d1,d2,d3,d4,rfl,hel⟩:=he;dsimp only at hel ld ⊢;have HD:=kI hD;have EL:=kI (bI.mono hel XV.o);have LD:=kI ld;clear hel hD ON ld XV;by_cases h7:k7=0
 rotate_left
 ·have E:=kI (Er H1.o H2.o H3.o H4.o H5.o ug.o (.inl (by rw [HD.o];exact h7)));have q1:(k7 != 0)=true:=by simpa using h7
  clear h7;obtain ⟨aK,fA0,aJ⟩:=A0.o.q3;obtain ⟨aY,aZ,lA1⟩:=A1.o.q3;obtain ⟨bA,bB,lA2⟩:=A2.o.q3;go_wp2_with fail;clear aK fA0 aJ aY aZ lA1 bA bB lA2;obtain ⟨wr,hwe⟩:=gN (((Ss.setCell ⟨w.heap.size+1+1,0,none⟩ (.int .i64 k7)).setCell ⟨w.heap.size+1+1,0,none⟩ (.int .i64 15)).alloc (.cells #[.bool d.neg,.slice d1 d.num.length d2,.slice d3 d.den.length d4] 25));have ha2:ag wr (w.heap.size+1+1) #[.int .i64 15] 37:=by rw [hwe];have:=((A2.o.set 0 (.int .i64 k7)).set 0 (.int .i64 15)).alloc (.cells #[.bool d.neg,.slice d1 d.num.length d2,.slice d3 d.den.length d4] 25);simpa using this
  have hxr:Ext w wr:=by rw [hwe];exact ((X.o.set (p:=⟨w.heap.size+1+1,0,none⟩) au _).set (p:=⟨w.heap.size+1+1,0,none⟩) au _).alloc _
  rw [← hwe];clear hwe;replace A2:=kI ha2;replace X:=kI hxr;clear ha2 hxr;refine leaves_cons (f:=110) (args:=#[.pointer (some ⟨w.heap.size+1+1,0,none⟩)]) cp ks ?_;refine (dn (w.heap.size+1+1) 15 ap _ A2.o).mono ?_;rintro e u' w'' ⟨rfl,rfl,rfl⟩;obtain ⟨wf,hwf⟩:=gN ((wr.setCell ⟨w.heap.size+1+1,0,none⟩ (.int .i64 15)));have hfe:ag wf (w.heap.size+1+1) #[.int .i64 15] 37:=by
   have:=(A2.o).set 0 (.int .i64 15);rw [hwf];simpa using this
  have cu:Ext w wf:=by rw [hwf];exact X.o.set (p:=⟨w.heap.size+1+1,0,none⟩) au _
  rw [← hwf];clear hwf;have ex:=kI cu;have ke:=hfe.cell 0;simp only [List.getElem?_toArray,List.getElem?_cons_zero] at ke;clear hfe cu;simp [Leaves,settle,results,Tryz.results47,go_sem,bk,ke];exact ⟨by rw [E.o],ex.o.drew⟩
 subst h7;obtain ⟨aK,fA0,aJ⟩:=A0.o.q3;obtain ⟨aY,aZ,lA1⟩:=A1.o.q3;obtain ⟨bA,bB,lA2⟩:=A2.o.q3;go_wp2_with fail;clear aK fA0 aJ aY aZ lA1 bA bB lA2;obtain ⟨we,hwe⟩:=gN ((Ss.setCell ⟨w.heap.size+1+1,0,none⟩ (.int .i64 0)).alloc (.cells #[.bool d.neg,.slice d1 d.num.length d2,.slice d3 d.den.length d4] 25));obtain ⟨sn,hsn⟩:=gN (Ss.heap.size);have ha0:ag we (w.heap.size) #[.bool m.ah.neg,.slice m1 m.ah.num.length n1,.slice m2 m.ah.den.length n2,.slice m3 vl n3] 28:=by rw [hwe];exact (A0.o.setOther (a:=⟨w.heap.size+1+1,0,none⟩) au _).alloc _
 have ha1:ag we (w.heap.size+1) #[.slice a1 vl c1,.slice a2 pl c2,.bool R.neg,.slice s1 R.num.length s2,.slice s3 R.den.length s4,.bool B.neg,.slice t1 B.num.length t2,.slice t3 B.den.length t4] 67:=by rw [hwe];exact (A1.o.setOther (a:=⟨w.heap.size+1+1,0,none⟩) au _).alloc _
 have ha2:ag we (w.heap.size+1+1) #[.int .i64 0] 37:=by rw [hwe];have:=(A2.o.set 0 (.int .i64 0)).alloc (.cells #[.bool d.neg,.slice d1 d.num.length d2,.slice d3 d.den.length d4] 25);simpa using this
 have hxr:Ext w we:=by rw [hwe];exact (X.o.set (p:=⟨w.heap.size+1+1,0,none⟩) au _).alloc _
 have bd:ag we sn #[.bool d.neg,.slice d1 d.num.length d2,.slice d3 d.den.length d4] 25:=by rw [hwe,hsn];have:=ag.new (Ss.setCell ⟨w.heap.size+1+1,0,none⟩ (.int .i64 0)) #[.bool d.neg,.slice d1 d.num.length d2,.slice d3 d.den.length d4] 25;simpa using this
 have hsz:w.heap.size+3≤sn:=by
  have:=A2.o.lt;omega
 have hk0:cQ w.heap.size we (.slice ga g.length gc) g:=by rw [hwe];exact (OP.o.keeps (ay A2.o 0 (.int .i64 0)) ap).ext' ((Ext.refl _).alloc _)
 have hk1:bI w.heap.size we [.bool d.neg,.slice d1 d.num.length d2,.slice d3 d.den.length d4] d:=by rw [hwe];exact (bI.keeps ap _ _ _ _ EL.o (ay A2.o 0 (.int .i64 0))).ext ((Ext.refl _).alloc _)
 rw [← hwe,← hsn];clear hwe hsn;replace A0:=kI ha0;replace A1:=kI ha1;replace A2:=kI ha2;replace X:=kI hxr;have BD:=kI bd;have O0:=kI hsz;clear ha0 ha1 ha2 hxr bd hsz;replace OP:=kI hk0;clear hk0;replace EL:=kI hk1;clear hk1;replace HM:=kI (Ie.o.ext X.o);replace HV:=kI (Bq.o.ext X.o);replace HP:=kI (Rd.ext P6.o X.o);replace HR:=kI (HR0.o.ext X.o);replace HB:=kI (HB0.o.ext X.o);refine (Ep _ _ g P _ OP.o.uh HP.o).mono ?_;rintro e w63 ⟨rfl,hx⟩;replace A0:=kI (A0.o.ext hx);replace A1:=kI (A1.o.ext hx);replace A2:=kI (A2.o.ext hx);replace HM:=kI (HM.o.ext hx);replace HV:=kI (HV.o.ext hx);replace HP:=kI (Rd.ext HP.o hx);replace HR:=kI (HR.o.ext hx);replace HB:=kI (HB.o.ext hx);replace EL:=kI (EL.o.ext hx);replace BD:=kI (BD.o.ext hx);replace X:=kI (X.o.trans hx);replace OP:=kI (OP.o.ext' hx);clear hx;obtain ⟨eb,heb⟩:=gN (decide (g=P));rw [← heb];cases eb
 ·have E:=kI (Er H1.o H2.o H3.o H4.o H5.o ug.o (.inr (of_decide_eq_false heb.symm)));clear heb;obtain ⟨aY,aZ,lA1⟩:=A1.o.q3;obtain ⟨bA,bB,lA2⟩:=A2.o.q3;go_wp2_with fail;clear aY aZ lA1 bA bB lA2;obtain ⟨wr,hwe⟩:=gN ((w63.setCell ⟨w.heap.size+1+1,0,none⟩ (.int .i64 15)));have ha0:ag wr (w.heap.size) #[.bool m.ah.neg,.slice m1 m.ah.num.length n1,.slice m2 m.ah.den.length n2,.slice m3 vl n3] 28:=by rw [hwe];exact A0.o.setOther (a:=⟨w.heap.size+1+1,0,none⟩) au _
  have ha1:ag wr (w.heap.size+1) #[.slice a1 vl c1,.slice a2 pl c2,.bool R.neg,.slice s1 R.num.length s2,.slice s3 R.den.length s4,.bool B.neg,.slice t1 B.num.length t2,.slice t3 B.den.length t4] 67:=by rw [hwe];exact A1.o.setOther (a:=⟨w.heap.size+1+1,0,none⟩) au _
  have ha2:ag wr (w.heap.size+1+1) #[.int .i64 15] 37:=by rw [hwe];have:=A2.o.set 0 (.int .i64 15);simpa using this
  have hxr:Ext w wr:=by rw [hwe];exact X.o.set (p:=⟨w.heap.size+1+1,0,none⟩) au _
  rw [← hwe];clear hwe;replace A0:=kI ha0;replace A1:=kI ha1;replace A2:=kI ha2;replace X:=kI hxr;clear ha0 ha1 ha2 hxr;refine leaves_cons (f:=110) (args:=#[.pointer (some ⟨w.heap.size+1+1,0,none⟩)]) cp ks ?_;refine (dn (w.heap.size+1+1) 15 ap _ A2.o).mono ?_;rintro e u' w'' ⟨rfl,rfl,rfl⟩;obtain ⟨wf,hwf⟩:=gN ((wr.setCell ⟨w.heap.size+1+1,0,none⟩ (.int .i64 15)));have hfe:ag wf (w.heap.size+1+1) #[.int .i64 15] 37:=by
   have:=(A2.o).set 0 (.int .i64 15);rw [hwf];simpa using this
  have cu:Ext w wf:=by rw [hwf];exact X.o.set (p:=⟨w.heap.size+1+1,0,none⟩) au _
  rw [← hwf];clear hwf;have ex:=kI cu;have ke:=hfe.cell 0;simp only [List.getElem?_toArray,List.getElem?_cons_zero] at ke;clear hfe cu;simp [Leaves,settle,results,Tryz.results47,go_sem,bk,ke];exact ⟨by rw [E.o],ex.o.drew⟩
 ·have H8:=kI (of_decide_eq_true heb.symm);clear heb;obtain ⟨aY,aZ,lA1⟩:=A1.o.q3;obtain ⟨bA,bB,lA2⟩:=A2.o.q3;obtain ⟨OF,OH,OL⟩:=BD.o.q3;go_wp2_with fail;clear aY aZ lA1 bA bB lA2 OF OH OL;obtain ⟨y,ye,hC⟩:∃ y f,cA d R=(y,f):=⟨_,_,rfl⟩;have HC:=kI hC;have hcm:=fi _ _ d R _ EL.o.rd HR.o LD.o LR.o;rw [hC] at hcm;clear hC;refine hcm.mono ?_;rintro e w70 ⟨rfl,hx⟩;clear hcm;replace A0:=kI (A0.o.ext hx);replace A1:=kI (A1.o.ext hx);replace A2:=kI (A2.o.ext hx);replace HM:=kI (HM.o.ext hx);replace HV:=kI (HV.o.ext hx);replace HP:=kI (Rd.ext HP.o hx);replace HR:=kI (HR.o.ext hx);replace HB:=kI (HB.o.ext hx);replace EL:=kI (EL.o.ext hx);replace BD:=kI (BD.o.ext hx);replace X:=kI (X.o.trans hx);replace OP:=kI (OP.o.ext' hx);clear hx;by_cases h9:y=0
  rotate_left
  ·have E:=kI (LP H1.o H2.o H3.o H4.o H5.o ug.o HD.o H8.o (by rw [HC.o];exact h9));have q1:(y != 0)=true:=by simpa using h9
   clear h9;obtain ⟨aY,aZ,lA1⟩:=A1.o.q3;obtain ⟨bA,bB,lA2⟩:=A2.o.q3;go_wp2_with fail;clear aY aZ lA1 bA bB lA2;obtain ⟨wr,hwe⟩:=gN ((w70.setCell ⟨w.heap.size+1+1,0,none⟩ (.int .i64 15)));have ha0:ag wr (w.heap.size) #[.bool m.ah.neg,.slice m1 m.ah.num.length n1,.slice m2 m.ah.den.length n2,.slice m3 vl n3] 28:=by rw [hwe];exact A0.o.setOther (a:=⟨w.heap.size+1+1,0,none⟩) au _
   have ha1:ag wr (w.heap.size+1) #[.slice a1 vl c1,.slice a2 pl c2,.bool R.neg,.slice s1 R.num.length s2,.slice s3 R.den.length s4,.bool B.neg,.slice t1 B.num.length t2,.slice t3 B.den.length t4] 67:=by rw [hwe];exact A1.o.setOther (a:=⟨w.heap.size+1+1,0,none⟩) au _
   have ha2:ag wr (w.heap.size+1+1) #[.int .i64 15] 37:=by rw [hwe];have:=A2.o.set 0 (.int .i64 15);simpa using this
   have hxr:Ext w wr:=by rw [hwe];exact X.o.set (p:=⟨w.heap.size+1+1,0,none⟩) au _
   rw [← hwe];clear hwe;replace A0:=kI ha0;replace A1:=kI ha1;replace A2:=kI ha2;replace X:=kI hxr;clear ha0 ha1 ha2 hxr;refine leaves_cons (f:=110) (args:=#[.pointer (some ⟨w.heap.size+1+1,0,none⟩)]) cp ks ?_;refine (dn (w.heap.size+1+1) 15 ap _ A2.o).mono ?_;rintro e u' w'' ⟨rfl,rfl,rfl⟩;obtain ⟨wf,hwf⟩:=gN ((wr.setCell ⟨w.heap.size+1+1,0,none⟩ (.int .i64 15)));have hfe:ag wf (w.heap.size+1+1) #[.int .i64 15] 37:=by
    have:=(A2.o).set 0 (.int .i64 15);rw [hwf];simpa using this
   have cu:Ext w wf:=by rw [hwf];exact X.o.set (p:=⟨w.heap.size+1+1,0,none⟩) au _
   rw [← hwf];clear hwf;have ex:=kI cu;have ke:=hfe.cell 0;simp only [List.getElem?_toArray,List.getElem?_cons_zero] at ke;clear hfe cu;simp [Leaves,settle,results,Tryz.results47,go_sem,bk,ke];exact ⟨by rw [E.o],ex.o.drew⟩
  subst h9;have H9:=kI (show (cA d R).1=0 from by rw [HC.o]);obtain ⟨aY,aZ,lA1⟩:=A1.o.q3;obtain ⟨bA,bB,lA2⟩:=A2.o.q3;go_wp2_with fail;clear aY aZ lA1 bA bB lA2;obtain ⟨f,fc,hF⟩:∃ a b,gK m=(a,b):=⟨_,_,rfl⟩;have HF:=kI hF;have DV:=kI (gF HD.o);have QE:fc=0→aC f∧aA f=0:=fun z=>by
   subst z;obtain ⟨a,b⟩:=kW H1.o;obtain ⟨_,_,f3,f4,_⟩:=mM (sw a b) hF;exact ⟨f4,f3⟩
  have HFO:=kI QE;clear hF QE;refine fD (yy (.agg #[.bool m.ah.neg,.slice m1 m.ah.num.length n1,.slice m2 m.ah.den.length n2,.slice m3 vl n3]) (w.heap.size+1) B t1 t3 t2 t4 d d1 d3 d2 d4 f fc) ax ax ax (fun _ _ _ _ h x=>yz h x) ?_ ?_
  ·refine ⟨?_,?_,?_,?_,?_,?_,?_,trivial⟩
   ·intro a W hW af hB hD K hK;have aQ:=kI af;clear af;have b3:=hB 3 rfl;simp only [sB] at b3;go_simp;exact hK _ _ (Ext.refl _) rfl
   ·intro a W hW af hB hD K hK;have aQ:=kI af;clear af;obtain ⟨v80,e80,h80⟩:=aE (hD 0 _ 80 rfl rfl ax);obtain rfl:=h80;have q9:=(A1.o.ext hW).cell;have l9:=(A1.o.ext hW).lt;go_simp;exact hK _ _ (Ext.refl _) rfl
   ·intro a W hW af hB hD K hK;have aQ:=kI af;clear af;have b2:=hB 2 rfl;simp only [sB] at b2;have q9:=(A0.o.ext hW).cell;have l9:=(A0.o.ext hW).lt;go_simp;exact hK _ _ (Ext.refl _) rfl
   ·intro a W hW af hB hD K hK;have aQ:=kI af;clear af;obtain ⟨v82,Yo,PW⟩:=aE (hD 2 _ 82 rfl rfl ax);obtain rfl:=PW;go_simp;have hfa:=PE.o W _ (HM.o.ext hW);rw [HF.o] at hfa;refine hfa.mono ?_;rintro e w9 ⟨he,hx⟩;by_cases hf:fc=0
    ·subst hf;obtain ⟨z1,z2,z3,z4,rfl,hel⟩:=he.pM;exact hK _ _ hx ⟨rfl,_,_,_,_,rfl,hel.rd⟩
    ·obtain rfl:=he.pN hf;(try simp +zetaDelta only [Exit.then,Exit.inBlock]);show Leaves _ _ a.tmps _ a.defers _ _;rw [aQ.o];have b4:=hB 4 rfl;simp only [sB] at b4;have E:=kI (LQ H1.o H2.o H3.o H4.o H5.o ug.o HD.o H8.o H9.o (by rw [HF.o]) hf);have GN:=kI hf;replace A2:=kI (A2.o.ext (hW.trans hx));replace X:=kI (X.o.trans (hW.trans hx));have H4:=kI b4;clear hW hx hB hD hK b4;refine leaves_cons (f:=110) (args:=#[.pointer (some ⟨w.heap.size+1+1,0,none⟩)]) cp ks ?_;refine (gV (w.heap.size+1+1) fc 0 GN.o [] _ A2.o).mono ?_;rintro e u' w'' ⟨rfl,rfl,rfl⟩;obtain ⟨wf,hwf⟩:=gN ((w9.setCell ⟨w.heap.size+1+1,0,none⟩ (.int .i64 fc)));have hfe:ag wf (w.heap.size+1+1) #[.int .i64 fc] 37:=by
      have:=(A2.o).set 0 (.int .i64 fc);rw [hwf];simpa using this
     have cu:Ext w wf:=by rw [hwf];exact X.o.set (p:=⟨w.heap.size+1+1,0,none⟩) au _
     rw [← hwf];clear hwf;have ex:=kI cu;have ke:=hfe.cell 0;simp only [List.getElem?_toArray,List.getElem?_cons_zero] at ke;clear hfe cu;simp [Leaves,settle,results,Tryz.results47,go_sem,bk,ke,H4.o];exact ⟨by rw [E.o],ex.o.drew⟩
   ·intro a W hW af hB hD K hK;have aQ:=kI af;clear af;have b9:=hB 9 rfl;simp only [sB] at b9;have q9:=(BD.o.ext hW).cell;have l9:=(BD.o.ext hW).lt;go_simp;exact hK _ _ (Ext.refl _) rfl
   ·intro a W hW af hB hD K hK;have aQ:=kI af;clear af;obtain ⟨v81,e81,US⟩:=aE (hD 1 _ 81 rfl rfl ax);obtain rfl:=US;obtain ⟨v83,e83,UT⟩:=aE (hD 3 _ 83 rfl rfl ax);obtain ⟨hf0,x91,fp,x93,fq,rfl,xh⟩:=UT;obtain ⟨v84,e84,h84⟩:=aE (hD 4 _ 84 rfl rfl ax);obtain rfl:=h84;go_simp;obtain ⟨lf,cf⟩:=HFO.o hf0;refine (wx _ _ _ B f d W (HB.o.ext hW) xh (EL.o.ext hW).rd LB.o lf LD.o H5.o cf DV.o.chk).mono ?_;rintro e w9 ⟨rfl,hx⟩;exact hK _ _ hx ⟨hf0,rfl⟩
   ·intro a W hW af hB hD K hK;have aQ:=kI af;clear af;obtain ⟨v85,e85,h85⟩:=aE (hD 5 _ 85 rfl rfl ax);obtain ⟨hf0,rfl⟩:=h85;go_simp;exact hK _ _ (Ext.refl _) ⟨hf0,rfl⟩
  intro w7 hx;simp only [cW,List.take_succ_cons,List.take_zero,List.drop_succ_cons,List.drop_zero];rintro u0 - u1 - u2 - u3 - u4 - u5 - u6 h6;obtain ⟨hf0,rfl⟩:=h6;subst hf0;simp only [Act.put,List.setIfInBounds_toArray,List.set_cons_zero,List.set_cons_succ];replace A0:=kI (A0.o.ext hx);replace A1:=kI (A1.o.ext hx);replace A2:=kI (A2.o.ext hx);replace HM:=kI (HM.o.ext hx);replace HV:=kI (HV.o.ext hx);replace HP:=kI (Rd.ext HP.o hx);replace HR:=kI (HR.o.ext hx);replace HB:=kI (HB.o.ext hx);replace EL:=kI (EL.o.ext hx);replace BD:=kI (BD.o.ext hx);replace X:=kI (X.o.trans hx);clear hx;have hE:=Hu H1.o H2.o H3.o H4.o H5.o ug.o HD.o H8.o H9.o HF.o;obtain ⟨b,hb⟩:=gN (mL B f d);rw [← hb] at hE ⊢;clear hb;cases b
  ·have E:=kI (hE.trans (if_neg ap));clear hE;obtain ⟨aY,aZ,lA1⟩:=A1.o.q3;obtain ⟨bA,bB,lA2⟩:=A2.o.q3;go_wp2_with fail;clear aY aZ lA1 bA bB lA2;obtain ⟨wr,hwe⟩:=gN ((w7.setCell ⟨w.heap.size+1+1,0,none⟩ (.int .i64 15)));have ha0:ag wr (w.heap.size) #[.bool m.ah.neg,.slice m1 m.ah.num.length n1,.slice m2 m.ah.den.length n2,.slice m3 vl n3] 28:=by rw [hwe];exact A0.o.setOther (a:=⟨w.heap.size+1+1,0,none⟩) au _
   have ha1:ag wr (w.heap.size+1) #[.slice a1 vl c1,.slice a2 pl c2,.bool R.neg,.slice s1 R.num.length s2,.slice s3 R.den.length s4,.bool B.neg,.slice t1 B.num.length t2,.slice t3 B.den.length t4] 67:=by rw [hwe];exact A1.o.setOther (a:=⟨w.heap.size+1+1,0,none⟩) au _
   have ha2:ag wr (w.heap.size+1+1) #[.int .i64 15] 37:=by rw [hwe];have:=A2.o.set 0 (.int .i64 15);simpa using this
   have hxr:Ext w wr:=by rw [hwe];exact X.o.set (p:=⟨w.heap.size+1+1,0,none⟩) au _
   rw [← hwe];clear hwe;replace A0:=kI ha0;replace A1:=kI ha1;replace A2:=kI ha2;replace X:=kI hxr;clear ha0 ha1 ha2 hxr;refine leaves_cons (f:=110) (args:=#[.pointer (some ⟨w.heap.size+1+1,0,none⟩)]) cp ks ?_;refine (dn (w.heap.size+1+1) 15 ap _ A2.o).mono ?_;rintro e u' w'' ⟨rfl,rfl,rfl⟩;obtain ⟨wf,hwf⟩:=gN ((wr.setCell ⟨w.heap.size+1+1,0,none⟩ (.int .i64 15)));have hfe:ag wf (w.heap.size+1+1) #[.int .i64 15] 37:=by
    have:=(A2.o).set 0 (.int .i64 15);rw [hwf];simpa using this
   have cu:Ext w wf:=by rw [hwf];exact X.o.set (p:=⟨w.heap.size+1+1,0,none⟩) au _
   rw [← hwf];clear hwf;have ex:=kI cu;have ke:=hfe.cell 0;simp only [List.getElem?_toArray,List.getElem?_cons_zero] at ke;clear hfe cu;simp [Leaves,settle,results,Tryz.results47,go_sem,bk,ke];exact ⟨by rw [E.o],ex.o.drew⟩
  ·have E:=kI (hE.trans (if_pos rfl));clear hE;obtain ⟨aY,aZ,lA1⟩:=A1.o.q3;obtain ⟨bA,bB,lA2⟩:=A2.o.q3;go_wp2_with fail;clear aY aZ lA1 bA bB lA2;obtain ⟨wr,hwe⟩:=gN ((w7.setCell ⟨w.heap.size+1+1,0,none⟩ (.int .i64 0)));have ha0:ag wr (w.heap.size) #[.bool m.ah.neg,.slice m1 m.ah.num.length n1,.slice m2 m.ah.den.length n2,.slice m3 vl n3] 28:=by rw [hwe];exact A0.o.setOther (a:=⟨w.heap.size+1+1,0,none⟩) au _
   have ha1:ag wr (w.heap.size+1) #[.slice a1 vl c1,.slice a2 pl c2,.bool R.neg,.slice s1 R.num.length s2,.slice s3 R.den.length s4,.bool B.neg,.slice t1 B.num.length t2,.slice t3 B.den.length t4] 67:=by rw [hwe];exact A1.o.setOther (a:=⟨w.heap.size+1+1,0,none⟩) au _
   have ha2:ag wr (w.heap.size+1+1) #[.int .i64 0] 37:=by rw [hwe];have:=A2.o.set 0 (.int .i64 0);simpa using this
   have hxr:Ext w wr:=by rw [hwe];exact X.o.set (p:=⟨w.heap.size+1+1,0,none⟩) au _
   rw [← hwe];clear hwe;replace A0:=kI ha0;replace A1:=kI ha1;replace A2:=kI ha2;replace X:=kI hxr;clear ha0 ha1 ha2 hxr;refine leaves_cons (f:=110) (args:=#[.pointer (some ⟨w.heap.size+1+1,0,none⟩)]) cp ks ?_;refine (vV (w.heap.size+1+1) _ A2.o).mono ?_;rintro e u' w'' ⟨rfl,rfl,rfl⟩;obtain ⟨wf,hwf⟩:=gN ((wr.setCell ⟨w.heap.size+1+1,0,none⟩ (.int .i64 0)));have hfe:ag wf (w.heap.size+1+1) #[.int .i64 0] 37:=by
    have:=(A2.o).set 0 (.int .i64 0);rw [hwf];simpa using this
   have cu:Ext w wf:=by rw [hwf];exact X.o.set (p:=⟨w.heap.size+1+1,0,none⟩) au _
   rw [← hwf];clear hwf;have ex:=kI cu;have ke:=hfe.cell 0;simp only [List.getElem?_toArray,List.getElem?_cons_zero] at ke;clear hfe cu;simp [Leaves,settle,results,Tryz.results47,go_sem,bk,ke];exact ⟨by rw [E.o],ex.o.drew⟩
end Go.Proofs.YtnnjbaijcaiohaaGreat
