/- Lemmas and walks of this claim. Conditions: as each states. -/
import Derived.Test.YtfflknbeidihoaaStScP
import Derived.Test.YtfflknbeidihoaaStChL
import Derived.Test.YtfflknbeidihoaaStCpM
set_option linter.unusedVariables false
set_option linter.unusedSimpArgs false
namespace Go.Proofs.Ytfflknbeidihoaa
open Go.RowKit
theorem fitR_rep {q:Rat} (h:(fitR q).2=0):(fitR q).1=rep q∧small q:=by
 unfold fitR at h ⊢
 by_cases h1:small q
 ·rw [if_pos h1];exact ⟨rfl,h1⟩
 ·rw [if_neg h1] at h;cases h
theorem addR_rep {a b:RR} (h:(addR a b).2=0):(addR a b).1=rep (qv a+qv b)∧small (qv a+qv b):=by
 unfold addR at h ⊢
 obtain ⟨e1,e2⟩:=opR_ok h
 rw [e1];exact fitR_rep e2
theorem mulR_rep {a b:RR} (h:(mulR a b).2=0):(mulR a b).1=rep (qv a*qv b)∧small (qv a*qv b):=by
 unfold mulR at h ⊢
 obtain ⟨e1,e2⟩:=opR_ok h
 rw [e1];exact fitR_rep e2
theorem rep_neg0 {q:Rat} (h:0≤q):(rep q).neg=false:=by
 unfold rep
 exact decide_eq_false (Int.not_lt.2 (Rat.num_nonneg.2 h))
theorem eq_of_qv {a b:RR} (ha:LimR a) (hb:LimR b) (ca:chkR a=0) (cb:chkR b=0) (h:qv a=qv b):a=b:=by
 rw [← (valid_rep ha ca).2.2,← (valid_rep hb cb).2.2,h]
def NN (r:RR):Prop:=chkR r=0∧LimR r∧r.neg=false
theorem NN.zR:NN zR:=⟨rfl,zR_lim,rfl⟩
theorem NN.of {q:Rat} (h:small q) (h0:0≤q):NN (rep q):=⟨chk_rep h,limR_rep q,rep_neg0 h0⟩
theorem NN.add {a b:RR} (ha:0≤qv a) (hb:0≤qv b) (h:(addR a b).2=0):NN (addR a b).1:=by
 obtain ⟨e,s⟩:=addR_rep h
 rw [e];exact NN.of s (Rat.add_nonneg ha hb)
theorem NN.mul {a b:RR} (ha:0≤qv a) (hb:0≤qv b) (h:(mulR a b).2=0):NN (mulR a b).1:=by
 obtain ⟨e,s⟩:=mulR_rep h
 rw [e];exact NN.of s (Rat.mul_nonneg ha hb)
theorem NN.q {r:RR} (h:NN r):0≤qv r:=qv_nonneg h.2.2
def NNs (n:Nat) (l:List RR):Prop:=l.length=n∧∀ i,NN (l.getD i zR)
theorem getD_setR (l:List RR) (i j:Nat) (x:RR) (h:i < l.length):(l.set i x).getD j zR=if j=i then x else l.getD j zR:=by
 rw [List.getD_eq_getElem?_getD,List.getElem?_set]
 by_cases e:j=i
 ·subst e;rw [if_pos rfl,if_pos h,if_pos rfl];rfl
 ·rw [if_neg (fun g=>e g.symm),if_neg e,← List.getD_eq_getElem?_getD]
theorem NNs.set {n:Nat} {l:List RR} (h:NNs n l) {x:RR} (hx:NN x) {i:Nat} (hi:i < n):NNs n (l.set i x):=by
 refine ⟨by rw [List.length_set];exact h.1,fun j=>?_⟩
 rw [getD_setR l i j x (by rw [h.1];exact hi)]
 split
 ·exact hx
 ·exact h.2 j
theorem getD_repl (n i:Nat):(List.replicate n zR).getD i zR=zR:=by
 rw [List.getD_eq_getElem?_getD,List.getElem?_replicate]
 split <;> rfl
theorem NNs.rep0 (n:Nat):NNs n (List.replicate n zR):=⟨List.length_replicate,fun i=>by rw [getD_repl];exact NN.zR⟩
def sumF (f:Nat→Rat):Nat→Rat
 | 0=>0
 | n+1=>sumF f n+f n
theorem sumF_congr {f g:Nat→Rat}:∀ {n:Nat},(∀ i,i < n→f i=g i)→sumF f n=sumF g n
 | 0,_=>rfl
 | n+1,h=>by
  show sumF f n+f n=sumF g n+g n
  rw [sumF_congr (fun i hi=>h i (by omega)),h n (by omega)]
theorem sumF_zero {f:Nat→Rat}:∀ {n:Nat},(∀ i,i < n→f i=0)→sumF f n=0
 | 0,_=>rfl
 | n+1,h=>by
  show sumF f n+f n=0
  rw [sumF_zero (fun i hi=>h i (by omega)),h n (by omega),Rat.add_zero]
theorem sumF_one {f g:Nat→Rat} {i:Nat}:∀ {n:Nat},i < n→(∀ j,j < n→j≠i→g j=f j)→sumF g n=sumF f n+(g i - f i)
 | 0,h,_=>by omega
 | n+1,h,hj=>by
  show sumF g n+g n=sumF f n+f n+(g i - f i)
  by_cases e:i=n
  ·subst e
   rw [sumF_congr (f:=g) (g:=f) (fun j h1=>hj j (by omega) (by omega))]
   grind
  ·rw [sumF_one (n:=n) (by omega) (fun j h1 h2=>hj j (by omega) h2),hj n (by omega) (by omega)]
   grind
theorem sumF_front (f:Nat→Rat):∀ n,sumF f (n+1)=f 0+sumF (fun i=>f (i+1)) n
 | 0=>by show (0:Rat)+f 0=f 0+0;rw [Rat.zero_add,Rat.add_zero]
 | n+1=>by
  show sumF f (n+1)+f (n+1)=f 0+(sumF (fun i=>f (i+1)) n+f (n+1))
  rw [sumF_front f n,Rat.add_assoc]
def wS (n:Nat) (l:List RR) (f:Nat→Rat):Rat:=sumF (fun u=>qv (l.getD u zR)*f u) n
theorem wS_set {n:Nat} {l:List RR} {i:Nat} (hi:i < n) (hl:l.length=n) (x:RR) (f:Nat→Rat):wS n (l.set i x) f=wS n l f+(qv x - qv (l.getD i zR))*f i:=by
 have h:=sumF_one (f:=fun u=>qv (l.getD u zR)*f u) (g:=fun u=>qv ((l.set i x).getD u zR)*f u) hi (fun j h1 h2=>by
  show qv ((l.set i x).getD j zR)*f j=_
  rw [getD_setR l i j x (by omega),if_neg h2])
 rw [getD_setR l i i x (by omega),if_pos rfl] at h
 unfold wS
 rw [h]
 grind
theorem wS_repl (n:Nat) (f:Nat→Rat):wS n (List.replicate n zR) f=0:=sumF_zero (fun i _=>by rw [getD_repl,qv_zR,Rat.zero_mul])
def dotO:List Out→(Nat→Rat)→Rat
 | [],_=>0
 | o :: os,f=>qv o.2*f o.1.toNat+dotO os f
theorem dotO_eq (v:List RR):∀ l:List Out,dotQ (prs l) (vls v l)=dotO l (fun t=>qv (v.getD t zR))
 | []=>rfl
 | o :: l=>by
  show qv o.2*qv (v.getD o.1.toNat zR)+dotQ (prs l) (vls v l)=_
  rw [dotO_eq v l];rfl
theorem dotO_congr {f g:Nat→Rat}:∀ {l:List Out},(∀ o ∈ l,f o.1.toNat=g o.1.toNat)→dotO l f=dotO l g
 | [],_=>rfl
 | o :: l,h=>by
  show qv o.2*f o.1.toNat+dotO l f=qv o.2*g o.1.toNat+dotO l g
  rw [h o (by simp),dotO_congr (fun x hx=>h x (by simp [hx]))]
theorem dotO_mul (c:Rat) (f:Nat→Rat):∀ l:List Out,dotO l (fun t=>c*f t)=c*dotO l f
 | []=>by show (0:Rat)=c*0;rw [Rat.mul_zero]
 | o :: l=>by
  show qv o.2*(c*f o.1.toNat)+dotO l (fun t=>c*f t)=c*(qv o.2*f o.1.toNat+dotO l f)
  rw [dotO_mul c f l];grind
def OutsV (n:Nat) (os:List Out):Prop:=∀ o ∈ os,0≤o.1∧o.1 < (n:Int)∧chkR o.2=0∧o.2.neg=false
theorem chO_sum {x:RR} (hx:NN x) {n:Nat} (f:Nat→Rat):∀ (os:List Out) (nx:List RR),OutsV n os→NNs n nx→(chO x os nx).2=0→NNs n (chO x os nx).1∧wS n (chO x os nx).1 f=wS n nx f+qv x*dotO os f
 | [],nx,_,h,_=>by
  refine ⟨h,?_⟩
  show wS n nx f=wS n nx f+qv x*0
  rw [Rat.mul_zero,Rat.add_zero]
 | o :: os,nx,ho,h,he=>by
  obtain ⟨o1,o2,o3,o4⟩:=ho o (by simp)
  unfold chO at he ⊢
  by_cases h1:(mulR x o.2).2=0
  ·rw [if_neg (by simpa using h1)] at he ⊢
   by_cases h2:(addR (nx.getD o.1.toNat zR) (mulR x o.2).1).2=0
   ·rw [if_neg (by simpa using h2)] at he ⊢
    have hm:=NN.mul hx.q (qv_nonneg o4) h1
    have hi:o.1.toNat < n:=by omega
    have ha:=NN.add (h.2 o.1.toNat).q hm.q h2
    obtain ⟨k1,k2⟩:=chO_sum hx f os _ (fun y hy=>ho y (by simp [hy])) (h.set ha hi) he
    refine ⟨k1,?_⟩
    rw [k2,wS_set hi h.1,(addR_val h2).1,(mulR_val h1).1]
    show _=wS n nx f+qv x*(qv o.2*f o.1.toNat+dotO os f)
    grind
   ·rw [if_pos h2] at he;exact absurd he h2
  ·rw [if_pos h1] at he;exact absurd he h1
theorem qv_nil {r:RR} (h:r.num=[]):qv r=0:=by
 unfold qv
 rw [h]
 have e:sg r.neg (nv [])=0:=by cases r.neg <;> rfl
 rw [e,Rat.zero_mkRat]
def sumL (g:Nat→Rat):List Nat→Rat
 | []=>0
 | u :: us=>g u+sumL g us
theorem sumL_app (g:Nat→Rat) (b:List Nat):∀ a,sumL g (a ++ b)=sumL g a+sumL g b
 | []=>by show sumL g b=0+sumL g b;rw [Rat.zero_add]
 | u :: a=>by
  show g u+sumL g (a ++ b)=g u+sumL g a+sumL g b
  rw [sumL_app g b a,Rat.add_assoc]
theorem sumL_range (g:Nat→Rat):∀ n,sumL g (List.range n)=sumF g n
 | 0=>rfl
 | n+1=>by
  rw [List.range_succ,sumL_app,sumL_range g n]
  show sumF g n+(g n+0)=sumF g n+g n
  rw [Rat.add_zero]
theorem chU_sum {m:MD} {p:List Int} {l:List RR} {n:Nat} (hl:NNs n l) (hO:∀ u,u < n→OutsV n (m.act u (p.getD u 0).toNat).next) (f:Nat→Rat) :
  ∀ (us:List Nat) (nx:List RR),(∀ u ∈ us,u < n)→NNs n nx→(chU m p l us nx).2=0→NNs n (chU m p l us nx).1∧wS n (chU m p l us nx).1 f=wS n nx f+sumL (fun u=>qv (l.getD u zR)*dotO (m.act u (p.getD u 0).toNat).next f) us
 | [],nx,_,h,_=>by
  refine ⟨h,?_⟩
  show wS n nx f=wS n nx f+0
  rw [Rat.add_zero]
 | u :: us,nx,hu,h,he=>by
  unfold chU at he ⊢
  by_cases h1:(l.getD u zR).num=[]
  ·rw [if_pos h1] at he ⊢
   obtain ⟨k1,k2⟩:=chU_sum hl hO f us nx (fun x hx=>hu x (by simp [hx])) h he
   refine ⟨k1,?_⟩
   rw [k2]
   show _=wS n nx f+(qv (l.getD u zR)*_+sumL _ us)
   rw [qv_nil h1,Rat.zero_mul,Rat.zero_add]
  ·rw [if_neg h1] at he ⊢
   by_cases h2:(chO (l.getD u zR) (m.act u (p.getD u 0).toNat).next nx).2=0
   ·rw [if_neg (by simpa using h2)] at he ⊢
    obtain ⟨j1,j2⟩:=chO_sum (hl.2 u) f _ nx (hO u (hu u (by simp))) h h2
    obtain ⟨k1,k2⟩:=chU_sum hl hO f us _ (fun x hx=>hu x (by simp [hx])) j1 he
    refine ⟨k1,?_⟩
    rw [k2,j2,Rat.add_assoc]
    rfl
   ·rw [if_pos h2] at he;exact absurd he h2
def TT (m:MD):List (List Int)→(Nat→Rat)→Nat→Rat
 | [],f=>f
 | p :: ps,f=>fun u=>dotO (m.act u (p.getD u 0).toNat).next (TT m ps f)
def PolV (m:MD) (p:List Int):Prop:=p.length=m.states.length∧∀ u,u < m.states.length→0≤p.getD u 0∧p.getD u 0 < ((m.states.getD u []).length:Int)
theorem outs_of {m:MD} (hm:mdE m=0) {p:List Int} (hp:PolV m p) {u:Nat} (hu:u < m.states.length):OutsV m.states.length (m.act u (p.getD u 0).toNat).next:=by
 have h:=hp.2 u hu
 exact out_mem (act_valid (md_act hm hu (by omega))).2.2.2.1
theorem chS_sum {m:MD} (hm:mdE m=0) (f:Nat→Rat):∀ (ps:List (List Int)) (l:List RR),(∀ p ∈ ps,PolV m p)→NNs m.states.length l→(chS m ps l).2=0→NNs m.states.length (chS m ps l).1∧wS m.states.length (chS m ps l).1 f=wS m.states.length l (TT m ps f)
 | [],l,_,h,_=>⟨h,rfl⟩
 | p :: ps,l,hp,h,he=>by
  unfold chS at he ⊢
  by_cases h2:(chU m p l (List.range m.states.length) (List.replicate m.states.length zR)).2=0
  ·rw [if_neg (by simpa using h2)] at he ⊢
   obtain ⟨j1,j2⟩:=chU_sum h (fun u hu=>outs_of hm (hp p (by simp)) hu) (TT m ps f) _ _ (fun u hu=>List.mem_range.1 hu) (NNs.rep0 _) h2
   obtain ⟨k1,k2⟩:=chS_sum hm f ps _ (fun x hx=>hp x (by simp [hx])) j1 he
   refine ⟨k1,?_⟩
   rw [k2,j2,wS_repl,Rat.zero_add,sumL_range]
   rfl
  ·rw [if_pos h2] at he;exact absurd he h2
theorem addL_val:∀ (l:List RR) (s:RR),chkR s=0→(addL s l).2=0→qv (addL s l).1=qv s+(l.map qv).foldr (· + ·) 0
 | [],s,_,_=>by show qv s=qv s+0;rw [Rat.add_zero]
 | x :: l,s,hs,h=>by
  unfold addL at h ⊢
  by_cases h1:(addR s x).2=0
  ·rw [if_pos h1] at h ⊢
   rw [addL_val l _ (addR_val h1).2 h,(addR_val h1).1]
   show _=qv s+(qv x+_)
   rw [Rat.add_assoc]
  ·rw [if_neg h1] at h;exact absurd h h1
theorem dotO_ones:∀ (l:List Out),dotO l (fun _=>1)=((prs l).map qv).foldr (· + ·) 0
 | []=>rfl
 | o :: l=>by
  show qv o.2*1+dotO l (fun _=>1)=qv o.2+((prs l).map qv).foldr (· + ·) 0
  rw [Rat.mul_one,dotO_ones l]
theorem act_one {n:Nat} {x:DAct} (h:actE n x=0):dotO x.next (fun _=>1)=1:=by
 have h5:=(act_valid h).2.2.2.2
 have e:=addL_val (prs x.next) zR rfl (by rw [h5])
 rw [h5,qv_zR,Rat.zero_add] at e
 dsimp only at e
 rw [qv_rep] at e
 rw [dotO_ones,← e]
theorem TT_one {m:MD} (hm:mdE m=0):∀ (ps:List (List Int)),(∀ p ∈ ps,PolV m p)→∀ u,u < m.states.length→TT m ps (fun _=>1) u=1
 | [],_,_,_=>rfl
 | p :: ps,hp,u,hu=>by
  show dotO (m.act u (p.getD u 0).toNat).next (TT m ps fun _=>1)=1
  have hv:=outs_of hm (hp p (by simp)) hu
  rw [dotO_congr (g:=fun _=>1) (fun o ho=>TT_one hm ps (fun x hx=>hp x (by simp [hx])) _ (by have:=hv o ho;omega))]
  have h:=(hp p (by simp)).2 u hu
  exact act_one (md_act hm hu (by omega))
theorem small_one:small ((1:Int):Rat):=small_int (by decide) (by decide)
theorem ch0_NN (m:MD) {s:Int} (h0:0≤s) (h1:s < (m.states.length:Int)):NNs m.states.length (ch0 m s):=(NNs.rep0 _).set (NN.of small_one (by decide)) (by omega)
theorem ch0_wS (m:MD) {s:Int} (h0:0≤s) (h1:s < (m.states.length:Int)) (f:Nat→Rat):wS m.states.length (ch0 m s) f=f s.toNat:=by
 unfold ch0
 rw [wS_set (by omega) List.length_replicate,wS_repl,getD_repl,qv_zR,qv_rep]
 grind
theorem chances_ok {m:MD} {plan:List (List Int)} {s:Int} (h:(chancesS m plan s).2=0):mdE m=0∧0≤s∧s < (m.states.length:Int)∧plan.length≤24∧(∀ p ∈ plan.reverse,PolV m p)∧(chS m plan.reverse (ch0 m s)).2=0∧(chancesS m plan s).1=(chS m plan.reverse (ch0 m s)).1:=by
 unfold chancesS at h ⊢
 by_cases h1:mdE m=0
 ·rw [if_neg (by simpa using h1)] at h ⊢
  by_cases h2:s < 0∨(m.states.length:Int)≤s
  ·rw [if_pos h2] at h;cases h
  ·rw [if_neg h2] at h ⊢
   by_cases h3:24 < plan.length
   ·rw [if_pos h3] at h;cases h
   ·rw [if_neg h3] at h ⊢
    by_cases h4:chE m plan.reverse=0
    ·rw [if_neg (by simpa using h4)] at h ⊢
     by_cases h5:(chS m plan.reverse (ch0 m s)).2=0
     ·rw [if_neg (by simpa using h5)]
      refine ⟨h1,by omega,by omega,by omega,fun p hp=>?_,h5,rfl⟩
      obtain ⟨i,hi,e⟩:=List.mem_iff_getElem.1 hp
      have h6:=frstE_all h4 i hi
      rw [List.getD_eq_getElem?_getD,List.getElem?_eq_getElem hi,e] at h6
      exact chE1_ok h6
     ·rw [if_pos h5] at h;exact absurd h h5
    ·rw [if_pos h4] at h;exact absurd h h4
 ·rw [if_pos h1] at h;exact absurd h h1
theorem chances_bad {m:MD} {plan:List (List Int)} {s:Int} (h:(chancesS m plan s).2≠0):(chancesS m plan s).1=[]:=by
 unfold chancesS at h ⊢
 by_cases h1:mdE m=0
 ·rw [if_neg (by simpa using h1)] at h ⊢
  by_cases h2:s < 0∨(m.states.length:Int)≤s
  ·rw [if_pos h2]
  ·rw [if_neg h2] at h ⊢
   by_cases h3:24 < plan.length
   ·rw [if_pos h3]
   ·rw [if_neg h3] at h ⊢
    by_cases h4:chE m plan.reverse=0
    ·rw [if_neg (by simpa using h4)] at h ⊢
     by_cases h5:(chS m plan.reverse (ch0 m s)).2=0
     ·rw [if_neg (by simpa using h5)] at h;exact absurd h5 h
     ·rw [if_pos h5]
    ·rw [if_pos h4]
 ·rw [if_pos h1]
theorem chances_law {m:MD} {plan:List (List Int)} {s:Int} (h:(chancesS m plan s).2=0):NNs m.states.length (chancesS m plan s).1∧wS m.states.length (chancesS m plan s).1 (fun _=>1)=1:=by
 obtain ⟨h1,h2,h3,h4,h5,h6,h7⟩:=chances_ok h
 rw [h7]
 obtain ⟨k1,k2⟩:=chS_sum h1 (fun _=>1) plan.reverse (ch0 m s) h5 (ch0_NN m h2 h3) h6
 refine ⟨k1,?_⟩
 rw [k2,ch0_wS m h2 h3,TT_one h1 _ h5 _ (by omega)]
def csum (l:List RR):Nat→RR
 | 0=>zR
 | k+1=>(addR (csum l k) (l.getD k zR)).1
theorem csum_ok {n:Nat} {l:List RR} (hl:NNs n l):∀ k,(∀ j,j < k→(addR (csum l j) (l.getD j zR)).2=0)→NN (csum l k)∧qv (csum l k)=sumF (fun u=>qv (l.getD u zR)*1) k
 | 0,_=>⟨NN.zR,qv_zR⟩
 | k+1,h=>by
  obtain ⟨h1,h2⟩:=csum_ok hl k (fun j hj=>h j (by omega))
  have h3:=h k (by omega)
  refine ⟨NN.add h1.q (hl.2 k).q h3,?_⟩
  show qv (addR (csum l k) (l.getD k zR)).1=sumF (fun u=>qv (l.getD u zR)*1) k+qv (l.getD k zR)*1
  rw [(addR_val h3).1,h2,Rat.mul_one]
theorem csum_err {n:Nat} {l:List RR} (hl:NNs n l) {k:Nat} (h:∀ j,j < k→(addR (csum l j) (l.getD j zR)).2=0):(addR (csum l k) (l.getD k zR)).2=0∨(addR (csum l k) (l.getD k zR)).2=4:=
 addR_err (csum_ok hl k h).1.1 (hl.2 k).1
theorem csum_one {m:MD} {plan:List (List Int)} {s:Int} {l:List RR} (h:(l,(0:Int))=chancesS m plan s) (hk:∀ j,j < l.length→(addR (csum l j) (l.getD j zR)).2=0):csum l l.length=rep ((1:Int):Rat):=by
 obtain ⟨h1,h2⟩:=chances_law (m:=m) (plan:=plan) (s:=s) (by rw [← h])
 rw [← h] at h1 h2
 dsimp only at h1 h2
 obtain ⟨k1,k2⟩:=csum_ok h1 l.length hk
 refine eq_of_qv k1.2.1 (limR_rep _) k1.1 (chk_rep small_one) ?_
 rw [k2,qv_rep,h1.1]
 exact h2
def freeA (x:DAct):DAct:=⟨zR,x.next⟩
def freeM (m:MD):MD:=⟨m.disc,m.states.map (·.map freeA)⟩
theorem freeM_len (m:MD):(freeM m).states.length=m.states.length:=List.length_map _
theorem freeM_act (m:MD) (s a:Nat):(freeM m).act s a=freeA (m.act s a):=by
 unfold MD.act freeM
 dsimp only
 rw [List.getD_eq_getElem?_getD (l:=m.states.map _),List.getElem?_map,List.getD_eq_getElem?_getD (l:=m.states)]
 cases m.states[s]? with
 | none=>rfl
 | some ac=>
  show (ac.map freeA).getD a dA=freeA (ac.getD a dA)
  rw [List.getD_eq_getElem?_getD,List.getElem?_map,List.getD_eq_getElem?_getD]
  cases ac[a]? <;> rfl
def dpow (d:Rat):Nat→Rat
 | 0=>1
 | k+1=>dpow d k*d
theorem qv_congr_range {n:Nat} {l:List Out} (h:OutsV n l) {f g:Nat→Rat} (hf:∀ t,t < n→f t=g t):dotO l f=dotO l g:=dotO_congr (fun o ho=>hf _ (by have:=h o ho;omega))
theorem take_rev (p:List (List Int)) {j:Nat} (h:j < p.length):(p.take (j+1)).reverse=p.getD j [] :: (p.take j).reverse:=by
 rw [List.take_add_one,List.reverse_append,List.getD_eq_getElem?_getD,List.getElem?_eq_getElem h];rfl
theorem free_val {m:MD} {v:List RR} {p:List (List Int)} (hm:mdE m=0) (hp:∀ x ∈ p,PolV m x) (hE:plnE (freeM m) v p p.length=0):∀ j,j≤p.length→∀ u,u < m.states.length→
  qv ((plnV (freeM m) v p j).getD u zR)=dpow (qv m.disc) j*TT m (p.take j).reverse (fun t=>qv (v.getD t zR)) u
 | 0,_,u,_=>by
  show qv (v.getD u zR)=1*TT m (p.take 0).reverse _ u
  rw [List.take_zero,Rat.one_mul];rfl
 | j+1,hj,u,hu=>by
  have hu1:=plnE_at hE (show j < p.length by omega)
  obtain ⟨k1,k2,k3,k4⟩:=und_ok hu1
  show qv ((underS (freeM m) (p.getD j []) (plnV (freeM m) v p j)).1.getD u zR)=_
  rw [freeM_len] at k2
  rw [k4,unV_at (by omega),score_val (unE_ok (k3 u (by omega))).2.2,freeM_act,take_rev p (by omega),dotO_eq]
  have hv:PolV m (p.getD j []):=hp _ (by rw [List.getD_eq_getElem?_getD,List.getElem?_eq_getElem (show j < p.length by omega)];exact List.getElem_mem _)
  have ho:=outs_of hm hv hu
  show qv zR+qv m.disc*dotO (m.act u ((p.getD j []).getD u 0).toNat).next _=dpow (qv m.disc) j*qv m.disc*dotO (m.act u ((p.getD j []).getD u 0).toNat).next (TT m (p.take j).reverse _)
  rw [qv_congr_range ho (fun t ht=>free_val hm hp hE j (by omega) t ht),dotO_mul,qv_zR]
  grind
theorem dotQ_wS:∀ (l v:List RR),l.length=v.length→dotQ l v=wS l.length l (fun t=>qv (v.getD t zR))
 | [],[],_=>rfl
 | [],_ :: _,h=>by cases h
 | _ :: _,[],h=>by cases h
 | a :: l,b :: v,h=>by
  show qv a*qv b+dotQ l v=wS (l.length+1) (a :: l) _
  rw [dotQ_wS l v (by simpa using h)]
  unfold wS
  rw [sumF_front]
  rfl
theorem dotL_chk:∀ (a b:List RR) (s:RR),a.length=b.length→(dotL s a b).2=0→∀ i,chkR (b.getD i zR)=0
 | [],[],_,_,_,i=>by cases i <;> rfl
 | [],_ :: _,_,h,_,_=>by cases h
 | _ :: _,[],_,h,_,_=>by cases h
 | a :: la,b :: bs,s,hl,h,i=>by
  unfold dotL at h
  by_cases h1:(mulR a b).2=0
  ·rw [if_pos h1] at h
   by_cases h2:(addL zR [s,(mulR a b).1]).2=0
   ·rw [if_pos h2] at h
    cases i with
    | zero=>
     show chkR b=0
     unfold mulR opR at h1
     by_cases h3:chkR2 a b=0
     ·exact (chkR2_0 h3).2
     ·rw [if_neg h3] at h1;exact absurd h1 h3
    | succ i=>exact dotL_chk la bs _ (by simpa using hl) h i
   ·rw [if_neg h2] at h;exact absurd h h2
  ·rw [if_neg h1] at h;exact absurd h h1
theorem dotL_lim:∀ (a b:List RR) (s:RR),LimR s→LimR (dotL s a b).1
 | [],b,s,hs=>by rw [dotL_nil];exact hs
 | a :: la,[],s,hs=>by unfold dotL;exact hs
 | a :: la,b :: bs,s,hs=>by
  unfold dotL
  split
  ·split
   ·exact dotL_lim la bs _ (addL_lim _ _ zR_lim)
   ·exact zR_lim
  ·exact zR_lim
def wntK (m:MD) (w0:RR):Nat→RR
 | 0=>w0
 | k+1=>(mulR (wntK m w0 k) m.disc).1
theorem wnt_ok {m:MD} {w0:RR} (hw:chkR w0=0) (hl:LimR w0):∀ k,(∀ j,j < k→(mulR (wntK m w0 j) m.disc).2=0)→chkR (wntK m w0 k)=0∧LimR (wntK m w0 k)∧qv (wntK m w0 k)=qv w0*dpow (qv m.disc) k
 | 0,_=>⟨hw,hl,(Rat.mul_one _).symm⟩
 | k+1,h=>by
  obtain ⟨h1,h2,h3⟩:=wnt_ok hw hl k (fun j hj=>h j (by omega))
  have h4:=h k (by omega)
  refine ⟨(mulR_val h4).2,mulR_lim _ _,?_⟩
  show qv (mulR (wntK m w0 k) m.disc).1=qv w0*(dpow (qv m.disc) k*qv m.disc)
  rw [(mulR_val h4).1,h3,Rat.mul_assoc]
theorem wnt_err {m:MD} {w0:RR} (hm:mdE m=0) (hw:chkR w0=0) (hl:LimR w0) {k:Nat} (h:∀ j,j < k→(mulR (wntK m w0 j) m.disc).2=0):(mulR (wntK m w0 k) m.disc).2=0∨(mulR (wntK m w0 k) m.disc).2=4:=
 mulR_err (wnt_ok hw hl k h).1 (md_valid hm).1
theorem chances_value {m:MD} {v:List RR} {plan:List (List Int)} {s:Int} {l:List RR} (hv:LimL v) (hc:(l,(0:Int))=chancesS m plan s) {y:List RR} (hy:(y,(0:Int))=planS (freeM m) v plan) {w0:RR} (hd:(w0,(0:Int))=dotR l v) :
  mdE m=0∧chkR w0=0∧LimR w0∧y.length=m.states.length∧((∀ j,j < plan.length→(mulR (wntK m w0 j) m.disc).2=0)→y.getD s.toNat zR=wntK m w0 plan.length):=by
 obtain ⟨h1,h2,h3,h4,h5,h6,h7⟩:=chances_ok (m:=m) (plan:=plan) (s:=s) (by rw [← hc])
 have hl:=(chances_law (m:=m) (plan:=plan) (s:=s) (by rw [← hc])).1
 rw [← hc] at h7 hl
 dsimp only at h7 hl
 obtain ⟨p1,p2,p3⟩:=plan_ok (m:=freeM m) (v:=v) (p:=plan) (by rw [← hy])
 have hye:=plan_mk p1 p2 p3
 rw [← hy] at hye
 injection hye with hye _
 have hlv:l.length=v.length:=by rw [hl.1,(mv_valid p1).2,freeM_len]
 have hd0:(dotR l v).2=0:=by rw [← hd]
 have hdv:=dotR_val hd0
 rw [← hd] at hdv
 have hdl:(dotL zR l v).2=0:=by unfold dotR at hd0;rwa [if_pos hlv] at hd0
 have hwl:LimR w0:=by
  have e:w0=(dotL zR l v).1:=by
   have e2:=congrArg Prod.fst hd
   unfold dotR at e2;rwa [if_pos hlv] at e2
  rw [e];exact dotL_lim _ _ _ zR_lim
 have hylen:y.length=m.states.length:=by
  rw [hye,pln_len (by rw [(mv_valid p1).2]) _ (fun i hi=>plnE_at p3 hi),freeM_len]
 refine ⟨h1,hdv.2,hwl,hylen,fun hw=>?_⟩
 have hs:s.toNat < m.states.length:=by omega
 obtain ⟨w1,w2,w3⟩:=wnt_ok hdv.2 hwl plan.length hw
 have hp:∀ x ∈ plan,PolV m x:=fun x hx=>h5 x (List.mem_reverse.2 hx)
 have hyl:LimR (y.getD s.toNat zR):=by
  have e:=plnV_lim (m:=freeM m) (v:=v) (p:=plan) hv plan.length
  rw [← hye] at e
  exact e _ (by omega)
 have hyc:chkR (y.getD s.toNat zR)=0:=by
  by_cases h0:plan.length=0
  ·have e:y=v:=by rw [hye,h0];rfl
   rw [e];exact dotL_chk l v zR hlv hdl _
  ·have e:=plnV_chk p3 (by omega)
   rw [← hye] at e
   exact e _ (by omega)
 refine eq_of_qv hyl w2 hyc w1 ?_
 rw [w3,hdv.1,dotQ_wS l v hlv,hl.1,hye,free_val h1 hp p3 plan.length (Nat.le_refl _) _ hs,List.take_length]
 have e:=(chS_sum h1 (fun t=>qv (v.getD t zR)) plan.reverse (ch0 m s) h5 (ch0_NN m h2 h3) h6).2
 rw [← h7,ch0_wS m h2 h3] at e
 rw [e,Rat.mul_comm]
end Go.Proofs.Ytfflknbeidihoaa
namespace Go.Proofs.Ytfflknbeidihoaa
open Go.RowKit
theorem set3_cells {W:World} {b:Nat} {cur:Array Value} {t:TypeId} (h:Blk W b cur t) (o:Nat) (x y z:Value) (hs:o+2 < cur.size) (q:Nat) :
  (((W.setCell ⟨b,o,none⟩ x).setCell ⟨b,o+1,none⟩ y).setCell ⟨b,o+2,none⟩ z).cell? ⟨b,q,none⟩=if q=o+2 then some z else if q=o+1 then some y else if q=o then some x else W.cell? ⟨b,q,none⟩:=by
 have h3:=((h.set o x).set (o+1) y).set (o+2) z
 rw [h3.cell q,h.cell q]
 simp only [Array.getElem?_setIfInBounds,Array.size_setIfInBounds]
 by_cases e2:q=o+2
 ·subst e2;rw [if_pos rfl,if_pos hs,if_pos rfl]
 ·rw [if_neg (fun e=>e2 e.symm),if_neg e2]
  by_cases e1:q=o+1
  ·subst e1;rw [if_pos rfl,if_pos (by omega),if_pos rfl]
  ·rw [if_neg (fun e=>e1 e.symm),if_neg e1]
   by_cases e0:q=o
   ·subst e0;rw [if_pos rfl,if_pos (by omega),if_pos rfl]
   ·rw [if_neg (fun e=>e0 e.symm),if_neg e0]
theorem keeps_set3 {w:World} {b:Nat} {c:Array Value} {t:TypeId} (hb:Blk w b c t) (o:Nat) (x y z:Value):Keeps 0 t w (((w.setCell ⟨b,o,none⟩ x).setCell ⟨b,o+1,none⟩ y).setCell ⟨b,o+2,none⟩ z):=
 ((keeps_setC hb o x).trans (keeps_setC (hb.set o x) (o+1) y)).trans (keeps_setC ((hb.set o x).set (o+1) y) (o+2) z)
theorem set3_other {W:World} {b b' o:Nat} {x y z:Value} (h:b'≠b) (q:Nat):(((W.setCell ⟨b,o,none⟩ x).setCell ⟨b,o+1,none⟩ y).setCell ⟨b,o+2,none⟩ z).cell? ⟨b',q,none⟩=W.cell? ⟨b',q,none⟩:=
 ((World.cell?_of_block (Below.heap_setCell _ ⟨b,o+2,none⟩ z b' h)).trans (World.cell?_of_block (Below.heap_setCell _ ⟨b,o+1,none⟩ y b' h))).trans (World.cell?_of_block (Below.heap_setCell _ ⟨b,o,none⟩ x b' h))
theorem sfU_none (w:World):SfU 0 w (.slice none 0 0) []:=⟨none,0,rfl,Nat.le_refl _,by omega,fun i hi=>by cases hi⟩
def FrC (W:World) (b:Nat) (ac:List DAct) (k:Nat):Prop:=
 ∀ a,a < ac.length→∃ x h,(x=ac.getD a dA∨x=freeA (ac.getD a dA))∧(a < k→x=freeA (ac.getD a dA))∧h.length=4∧(∀ j,j < 4→W.cell? ⟨b,a*4+j,none⟩=h[j]?)∧ElX W h x
theorem FrC.store {W:World} {b0 b:Nat} {cur:Array Value} {ac:List DAct} {k k0 k':Nat} (hb:Blk W b0 cur 53) (hs:k0*4+2 < cur.size) (h:FrC W b ac k) (hk:k'=k∨(b=b0∧k=k0∧k'=k0+1)) :
  FrC (((W.setCell ⟨b0,k0*4,none⟩ (.bool false)).setCell ⟨b0,k0*4+1,none⟩ (.slice none 0 0)).setCell ⟨b0,k0*4+2,none⟩ (.slice none 0 0)) b ac k':=by
 intro a ha
 obtain ⟨x,h,e1,e2,e3,e4,e5⟩:=h a ha
 have hkp:=keeps_set3 hb (k0*4) (.bool false) (.slice none 0 0) (.slice none 0 0)
 by_cases hc:b=b0∧a=k0
 ·obtain ⟨rfl,rfl⟩:=hc
  have hn:x.next=(ac.getD a dA).next:=by rcases e1 with rfl|rfl <;> rfl
  obtain ⟨a1,c1,a2,c2,a3,c3,B,rfl,-,-,f3⟩:=e5
  rw [hn] at f3 e4
  refine ⟨freeA (ac.getD a dA),[.bool false,.slice none 0 0,.slice none 0 0,.slice a3 (ac.getD a dA).next.length c3],.inr rfl,fun _=>rfl,rfl,fun j hj=>?_,none,0,none,0,a3,c3,B,rfl,sfU_none _,sfU_none _,f3.keeps hkp (by decide) (by decide)⟩
  rw [set3_cells hb _ _ _ _ hs]
  match j,hj with
  | 0,_=>rw [if_neg (by omega),if_neg (by omega),if_pos (by omega)];rfl
  | 1,_=>rw [if_neg (by omega),if_pos rfl];rfl
  | 2,_=>rw [if_pos rfl];rfl
  | 3,_=>rw [if_neg (by omega),if_neg (by omega),if_neg (by omega)];exact e4 3 (by omega)
 ·refine ⟨x,h,e1,fun hlt=>?_,e3,fun j hj=>?_,e5.keeps (by decide) (by decide) hkp⟩
  ·rcases hk with rfl|⟨rfl,rfl,rfl⟩
   ·exact e2 hlt
   ·exact e2 (by have:a≠k:=fun e=>hc ⟨rfl,e⟩;omega)
  ·by_cases hbb:b=b0
   ·subst hbb
    have hne:a≠k0:=fun e=>hc ⟨rfl,e⟩
    rw [set3_cells hb _ _ _ _ hs,if_neg (by omega),if_neg (by omega),if_neg (by omega)]
    exact e4 j hj
   ·rw [set3_other hbb];exact e4 j hj
theorem FrC.ext {W W':World} {b:Nat} {ac:List DAct} {k:Nat} (h:FrC W b ac k) (hb:b < W.heap.size) (x:Ext W W'):FrC W' b ac k:=fun a ha=>by
 obtain ⟨y,h,e1,e2,e3,e4,e5⟩:=h a ha
 exact ⟨y,h,e1,e2,e3,fun j hj=>(x.cell (p:=⟨b,a*4+j,none⟩) hb).trans (e4 j hj),e5.ext x⟩
def FrS (B:Nat) (W:World) (g:Nat) (bs cs:Nat→Nat) (ss:List (List DAct)) (t k:Nat):Prop:=
 (∃ gc,Blk W g gc 50)∧∀ i,i < ss.length→B≤bs i∧W.cell? ⟨g,i,none⟩=some (.slice (some ⟨bs i,0,none⟩) (ss.getD i []).length (cs i))∧(ss.getD i []).length≤cs i∧cs i≤9223372036854775807∧(∃ cur,Blk W (bs i) cur 53)∧
  FrC W (bs i) (ss.getD i []) (if i < t then (ss.getD i []).length else if i=t then k else 0)
theorem FrS.of {B:Nat} {W:World} {a:Option Addr} {c n:Nat} {ss:List (List DAct)} (h:OwT B W (.slice a n c) ss) (h0:ss.length≠0) (hne:∀ i,i < ss.length→(ss.getD i []).length≠0) :
  n=ss.length∧ss.length≤c∧c≤9223372036854775807∧∃ g bs cs,a=some ⟨g,0,none⟩∧FrS B W g bs cs ss 0 0:=by
 have hblk:∃ g gc,a=some ⟨g,0,none⟩∧Blk W g gc 50:=by
  obtain ⟨hs,h1,h2,_⟩:=h
  rcases h1.2 with ⟨_,h3⟩|⟨g,cap,cur,e,_,hg,_⟩
  ·exact absurd h3 (by omega)
  ·injection e with e
   exact ⟨g,cur,e,hg⟩
 obtain ⟨a',cap,hv,hc,hm,hr⟩:=OwRow.rdN h
 injection hv with e1 e2 e3
 subst e1;subst e2;subst e3
 obtain ⟨g,gc,rfl,hg⟩:=hblk
 have key:∀ i,∃ q:Nat × Nat,i < ss.length→B≤q.1∧W.cell? ⟨g,i,none⟩=some (.slice (some ⟨q.1,0,none⟩) (ss.getD i []).length q.2)∧(ss.getD i []).length≤q.2∧q.2≤9223372036854775807∧(∃ cur,Blk W q.1 cur 53)∧FrC W q.1 (ss.getD i []) (if i < 0 then (ss.getD i []).length else if i=0 then 0 else 0):=by
  intro i
  by_cases hi:i < ss.length
  ·have hl:ss[i]?=some (ss.getD i []):=by rw [List.getD_eq_getElem?_getD,List.getElem?_eq_getElem hi];rfl
   obtain ⟨b,hh,f1,_,f2,f3,f4,a1,c1,C,f5,hC,f6⟩:=hr i _ hl
   injection f1 with f1
   injection f1 with f1
   subst f1;subst f5
   have hcell:=f4 0 (by omega)
   rw [Nat.mul_one,Nat.add_zero] at hcell
   have hb2:∃ b2 cur,a1=some ⟨b2,0,none⟩∧C≤b2∧Blk W b2 cur 53:=by
    obtain ⟨hs,h1,h2,_⟩:=f6
    rcases h1.2 with ⟨_,h3⟩|⟨b2,cap2,cur,e,hCb,hg2,_⟩
    ·exact absurd h3 (hne i hi)
    ·injection e with e
     exact ⟨b2,cur,e,hCb,hg2⟩
   obtain ⟨b2,cur,rfl,hCb,hg2⟩:=hb2
   obtain ⟨a4,cap4,hv4,hc4,hm4,hr4⟩:=OwRow.rdN f6
   injection hv4 with e1 e2 e3
   subst e1;subst e3
   refine ⟨(b2,c1),fun _=>⟨Nat.le_trans hC hCb,hcell,hc4,hm4,⟨cur,hg2⟩,fun q hq=>?_⟩⟩
   have hl2:(ss.getD i [])[q]?=some ((ss.getD i []).getD q dA):=by rw [List.getD_eq_getElem?_getD (l:=ss.getD i []),List.getElem?_eq_getElem hq];rfl
   obtain ⟨b3,hh,k1,_,_,k3,k4,k5⟩:=hr4 q _ hl2
   injection k1 with k1
   injection k1 with k1
   subst k1
   exact ⟨_,hh,.inl rfl,fun hlt=>by rw [if_neg (by omega)] at hlt;split at hlt <;> omega,k3,k4,k5⟩
  ·exact ⟨(0,0),fun h=>absurd h hi⟩
 exact ⟨rfl,hc,hm,g,fun i=>(Classical.choose (key i)).1,fun i=>(Classical.choose (key i)).2,rfl,⟨gc,hg⟩,fun i hi=>Classical.choose_spec (key i) hi⟩
theorem FrC.size {W:World} {b:Nat} {cur:Array Value} {ac:List DAct} {k a:Nat} (h:FrC W b ac k) (hb:Blk W b cur 53) (ha:a < ac.length):a*4+2 < cur.size:=by
 obtain ⟨x,h,e1,e2,e3,e4,e5⟩:=h a ha
 have h3:=e4 3 (by omega)
 rw [hb.cell,List.getElem?_eq_getElem (by omega)] at h3
 have:=(Array.getElem?_eq_some_iff.1 h3).1
 omega
theorem FrS.store {B:Nat} {W:World} {g:Nat} {bs cs:Nat→Nat} {ss:List (List DAct)} {t k:Nat} (h:FrS B W g bs cs ss t k) (ht:t < ss.length) (hk:k < (ss.getD t []).length) :
  FrS B (((W.setCell ⟨bs t,k*4,none⟩ (.bool false)).setCell ⟨bs t,k*4+1,none⟩ (.slice none 0 0)).setCell ⟨bs t,k*4+2,none⟩ (.slice none 0 0)) g bs cs ss t (k+1):=by
 obtain ⟨⟨gc,hg⟩,h⟩:=h
 obtain ⟨_,_,_,_,⟨cur,hcur⟩,hfc⟩:=h t ht
 have hkp:=keeps_set3 hcur (k*4) (.bool false) (.slice none 0 0) (.slice none 0 0)
 have hsz:=hfc.size hcur hk
 have hg':=hg.keeps hkp (by decide)
 refine ⟨⟨gc,hg'⟩,fun i hi=>?_⟩
 obtain ⟨i1,i2,i3,i4,⟨c5,i5⟩,i6⟩:=h i hi
 refine ⟨i1,?_,i3,i4,?_,i6.store hcur hsz ?_⟩
 ·rw [hg'.cell,← hg.cell];exact i2
 ·by_cases e:bs i=bs t
  ·rw [e];exact ⟨_,((hcur.set _ _).set _ _).set _ _⟩
  ·exact ⟨c5,((i5.setOther (a:=⟨bs t,k*4,none⟩) e _).setOther (a:=⟨bs t,k*4+1,none⟩) e _).setOther (a:=⟨bs t,k*4+2,none⟩) e _⟩
 ·by_cases e:i=t
  ·subst e
   rw [if_neg (by omega),if_pos rfl,if_neg (by omega),if_pos rfl]
   exact .inr ⟨rfl,rfl,rfl⟩
  ·left
   by_cases e2:i < t
   ·rw [if_pos e2,if_pos e2]
   ·rw [if_neg e2,if_neg e,if_neg e2,if_neg e]
theorem FrS.ext {B:Nat} {W W':World} {g:Nat} {bs cs:Nat→Nat} {ss:List (List DAct)} {t k:Nat} (h:FrS B W g bs cs ss t k) (x:Ext W W'):FrS B W' g bs cs ss t k:=by
 obtain ⟨⟨gc,hg⟩,h⟩:=h
 refine ⟨⟨gc,hg.ext x⟩,fun i hi=>?_⟩
 obtain ⟨i1,i2,i3,i4,⟨c5,i5⟩,i6⟩:=h i hi
 exact ⟨i1,(x.cell (p:=⟨g,i,none⟩) hg.lt).trans i2,i3,i4,⟨c5,i5.ext x⟩,i6.ext i5.lt x⟩
theorem FrS.next {B:Nat} {W:World} {g:Nat} {bs cs:Nat→Nat} {ss:List (List DAct)} {t:Nat} (h:FrS B W g bs cs ss t (ss.getD t []).length):FrS B W g bs cs ss (t+1) 0:=by
 obtain ⟨hg,h⟩:=h
 refine ⟨hg,fun i hi=>?_⟩
 obtain ⟨i1,i2,i3,i4,i5,i6⟩:=h i hi
 refine ⟨i1,i2,i3,i4,i5,?_⟩
 by_cases e2:i < t
 ·rw [if_pos e2] at i6;rw [if_pos (by omega)];exact i6
 ·by_cases e:i=t
  ·subst e
   rw [if_neg (by omega),if_pos rfl] at i6
   rw [if_pos (by omega)];exact i6
  ·rw [if_neg e2,if_neg e] at i6
   rw [if_neg (by omega)]
   split <;> exact i6
theorem getD_mapS (ss:List (List DAct)) (i:Nat):(ss.map (·.map freeA)).getD i []=(ss.getD i []).map freeA:=by
 rw [List.getD_eq_getElem?_getD,List.getElem?_map,List.getD_eq_getElem?_getD]
 cases ss[i]? <;> rfl
theorem getD_mapA (ac:List DAct) (i:Nat):(ac.map freeA).getD i dA=freeA (ac.getD i dA):=by
 rw [List.getD_eq_getElem?_getD,List.getElem?_map,List.getD_eq_getElem?_getD]
 cases ac[i]? <;> rfl
theorem FrS.done {B:Nat} {W:World} {g:Nat} {bs cs:Nat→Nat} {ss:List (List DAct)} {c:Nat} (h:FrS B W g bs cs ss ss.length 0) (hc:ss.length≤c) (hm:c≤9223372036854775807):RdSt W (.slice (some ⟨g,0,none⟩) ss.length c) (ss.map (·.map freeA)):=by
 obtain ⟨⟨gc,hg⟩,h⟩:=h
 refine ⟨some ⟨g,0,none⟩,c,by rw [List.length_map],by rw [List.length_map];exact hc,hm,fun i hi=>?_⟩
 rw [List.length_map] at hi
 obtain ⟨i1,i2,i3,i4,⟨c5,i5⟩,i6⟩:=h i hi
 rw [if_pos hi] at i6
 rw [getD_mapS]
 refine ⟨g,0,some ⟨bs i,0,none⟩,cs i,rfl,hg.lt,by rw [Nat.zero_add,List.length_map];exact i2,some ⟨bs i,0,none⟩,cs i,rfl,by rw [List.length_map];exact i3,i4,fun a ha=>?_⟩
 rw [List.length_map] at ha
 obtain ⟨x,hh,_,e2,e3,e4,e5⟩:=i6 a ha
 rw [e2 ha] at e5
 obtain ⟨a1,c1,a2,c2,a3,c3,C,rfl,f1,f2,f3⟩:=e5
 rw [getD_mapA]
 refine ⟨bs i,0,a1,c1,a2,c2,a3,c3,rfl,⟨i5.lt,?_,?_,?_,_,_,rfl,f1.rd,f2.rd⟩,?_,f3.rd⟩
 ·rw [Nat.zero_add];exact e4 0 (by omega)
 ·rw [Nat.zero_add];exact e4 1 (by omega)
 ·rw [Nat.zero_add];exact e4 2 (by omega)
 ·rw [Nat.zero_add];exact e4 3 (by omega)
def FrM (B:Nat) (W:World) (fb:Nat) (a1:Option Addr) (c1:Nat) (a2:Option Addr) (c2 g c3:Nat) (bs cs:Nat→Nat) (m:MD) (t k:Nat):Prop:=
 Blk W fb #[.bool m.disc.neg,.slice a1 m.disc.num.length c1,.slice a2 m.disc.den.length c2,.slice (some ⟨g,0,none⟩) m.states.length c3] 28∧SfU 0 W (.slice a1 m.disc.num.length c1) m.disc.num∧SfU 0 W (.slice a2 m.disc.den.length c2) m.disc.den∧
  m.states.length≤c3∧c3≤9223372036854775807∧FrS B W g bs cs m.states t k
theorem FrM.store {B:Nat} {W:World} {fb:Nat} {a1:Option Addr} {c1:Nat} {a2:Option Addr} {c2 g c3:Nat} {bs cs:Nat→Nat} {m:MD} {t k:Nat} (h:FrM B W fb a1 c1 a2 c2 g c3 bs cs m t k) (ht:t < m.states.length) (hk:k < (m.states.getD t []).length) :
  FrM B (((W.setCell ⟨bs t,k*4,none⟩ (.bool false)).setCell ⟨bs t,k*4+1,none⟩ (.slice none 0 0)).setCell ⟨bs t,k*4+2,none⟩ (.slice none 0 0)) fb a1 c1 a2 c2 g c3 bs cs m t (k+1):=by
 obtain ⟨h1,h2,h3,h4,h5,h6⟩:=h
 obtain ⟨cur,hcur⟩:=(h6.2 t ht).2.2.2.2.1
 have hkp:=keeps_set3 hcur (k*4) (.bool false) (.slice none 0 0) (.slice none 0 0)
 exact ⟨h1.keeps hkp (by decide),h2.keeps hkp (by decide),h3.keeps hkp (by decide),h4,h5,h6.store ht hk⟩
theorem FrM.next {B:Nat} {W:World} {fb:Nat} {a1:Option Addr} {c1:Nat} {a2:Option Addr} {c2 g c3:Nat} {bs cs:Nat→Nat} {m:MD} {t:Nat} (h:FrM B W fb a1 c1 a2 c2 g c3 bs cs m t (m.states.getD t []).length):FrM B W fb a1 c1 a2 c2 g c3 bs cs m (t+1) 0:=
 ⟨h.1,h.2.1,h.2.2.1,h.2.2.2.1,h.2.2.2.2.1,h.2.2.2.2.2.next⟩
theorem FrM.done {B:Nat} {W:World} {fb:Nat} {a1:Option Addr} {c1:Nat} {a2:Option Addr} {c2 g c3:Nat} {bs cs:Nat→Nat} {m:MD} (h:FrM B W fb a1 c1 a2 c2 g c3 bs cs m m.states.length 0) :
  RdM W (.agg #[.bool m.disc.neg,.slice a1 m.disc.num.length c1,.slice a2 m.disc.den.length c2,.slice (some ⟨g,0,none⟩) m.states.length c3]) (freeM m):=by
 obtain ⟨h1,h2,h3,h4,h5,h6⟩:=h
 refine ⟨a1,c1,a2,c2,some ⟨g,0,none⟩,c3,by rw [freeM_len];rfl,⟨_,_,rfl,h2.rd,h3.rd⟩,?_⟩
 rw [freeM_len]
 exact h6.done h4 h5
theorem FrM.cellS {B:Nat} {W:World} {fb:Nat} {a1:Option Addr} {c1:Nat} {a2:Option Addr} {c2 g c3:Nat} {bs cs:Nat→Nat} {m:MD} {t k:Nat} (h:FrM B W fb a1 c1 a2 c2 g c3 bs cs m t k) (ht:t < m.states.length) :
  g < W.heap.size∧W.cell? ⟨g,t,none⟩=some (.slice (some ⟨bs t,0,none⟩) (m.states.getD t []).length (cs t))∧B≤bs t∧bs t < W.heap.size∧(m.states.getD t []).length≤9223372036854775807:=by
 obtain ⟨⟨gc,hg⟩,h6⟩:=h.2.2.2.2.2
 obtain ⟨i1,i2,i3,i4,⟨c5,i5⟩,i6⟩:=h6 t ht
 exact ⟨hg.lt,i2,i1,i5.lt,Nat.le_trans i3 i4⟩
theorem FrM.cellA {B:Nat} {W:World} {fb:Nat} {a1:Option Addr} {c1:Nat} {a2:Option Addr} {c2 g c3:Nat} {bs cs:Nat→Nat} {m:MD} {t k:Nat} (h:FrM B W fb a1 c1 a2 c2 g c3 bs cs m t k) (ht:t < m.states.length) {a:Nat} (ha:a < (m.states.getD t []).length) :
  ∃ q1 q2 q3 q4 q5 n2 n3,W.cell? ⟨bs t,a*4,none⟩=some (.bool q1)∧W.cell? ⟨bs t,a*4+1,none⟩=some (.slice q2 n2 q3)∧W.cell? ⟨bs t,a*4+2,none⟩=some (.slice q4 n3 q5):=by
 obtain ⟨⟨gc,hg⟩,h6⟩:=h.2.2.2.2.2
 obtain ⟨i1,i2,i3,i4,⟨c5,i5⟩,i6⟩:=h6 t ht
 obtain ⟨x,hh,_,e2,e3,e4,a1,c1,a2,c2,a3,c3,C,rfl,f1,f2,f3⟩:=i6 a ha
 exact ⟨_,_,_,_,_,_,_,e4 0 (by omega),e4 1 (by omega),e4 2 (by omega)⟩
theorem freeM_lim {m:MD} (h:LimM m):LimM (freeM m):=⟨h.1,fun s a=>by rw [freeM_act];exact ⟨zR_lim,(h.2 s a).2⟩⟩
theorem md_ln {m:MD} (h:mdE m=0):lnR m.disc∧lnS m.states:=by
 obtain ⟨h1,h2,h3,h4⟩:=md_valid h
 refine ⟨chkR_len h1,by omega,fun s hs=>?_⟩
 obtain ⟨s1,s2,s3⟩:=st_valid (h4 s hs)
 refine ⟨by omega,fun a ha=>?_⟩
 obtain ⟨x1,x2,x3,x4,x5⟩:=act_valid (s3 a ha)
 exact ⟨chkR_len x1,by omega,fun i hi=>chkR_len (out_valid (x4 i hi)).2.2.1⟩
end Go.Proofs.Ytfflknbeidihoaa
