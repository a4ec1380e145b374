/- Walks and lemmas. -/
import Derived.Test.YtnnjbaijcaiohaaSyA15
import Derived.Test.YtnnjbaijcaiohaaSyA13
import Derived.Test.YtnnjbaijcaiohaaSyA9
import Derived.Test.YtnnjbaijcaiohaaSyA0
import Derived.Test.YtnnjbaijcaiohaaSyA7
import Derived.Test.YtnnjbaijcaiohaaSyA10
import Derived.WalkMore
import Derived.Test.YtnnjbaijcaiohaaSyA11
set_option linter.unusedVariables false
set_option linter.unusedSimpArgs false
set_option maxRecDepth 100000
set_option maxHeartbeats 16000000
namespace Go.Proofs.Ytnnjbaijcaiohaa
open Go.RowKit
theorem bkV_at {m:MD} {v:List RR} {k:Nat} (h:k < m.states.length):(bkV m v).getD k zR=(rowS m v (m.states.getD k [])).getD (bestI (rowS m v (m.states.getD k []))) zR:=by
 unfold bkV;rw [List.getD_eq_getElem?_getD,List.getElem?_map,List.getD_eq_getElem?_getD (l:=m.states),List.getElem?_eq_getElem h];rfl
theorem bkV_lim (m:MD) (v:List RR):LimL (bkV m v):=fun i hi=>by
 rw [bkV_len] at hi;rw [bkV_at hi];by_cases h0:0 < (rowS m v (m.states.getD i [])).length
 ·exact rowS_lim _ _ _ _ (bestK_le _ _ _ (Nat.le_refl _) h0)
 ·rw [List.getD_eq_getElem?_getD,List.getElem?_eq_none (by omega)];exact zR_lim
theorem backup_lim (m:MD) (v:List RR):LimL (backupS m v).1:=by
 unfold backupS;split
 ·intro i hi;cases hi
 ·split
  ·intro i hi;cases hi
  ·exact bkV_lim m v
theorem backup_ok {m:MD} {v:List RR} (h:(backupS m v).2.2=0):mvE m v=0∧bkE m v=0∧(backupS m v).1=bkV m v∧(backupS m v).2.1=bkA m v:=by
 unfold backupS at h ⊢;split at h
 ·rename_i h1;exact absurd h h1
 ·rename_i h1;rw [if_neg h1];split at h
  ·rename_i h2;exact absurd h h2
  ·rename_i h2;rw [if_neg h2];exact ⟨by simpa using h1,by simpa using h2,rfl,rfl⟩
theorem bkV_chk {m:MD} {v:List RR} (h1:mvE m v=0) (h2:bkE m v=0):∀ i,i < (bkV m v).length→chkR ((bkV m v).getD i zR)=0:=fun i hi=>by
 rw [bkV_len] at hi;rw [bkV_at hi];obtain ⟨_,_,_,h3⟩:=md_valid (mv_valid h1).1;have h4:=(st_valid (h3 i hi)).1;have h5:rowE m v (m.states.getD i [])=0:=frstE_all h2 i hi;have hb:bestI (rowS m v (m.states.getD i [])) < (m.states.getD i []).length:=by
  exact Nat.lt_of_lt_of_eq (bestK_le (rowS m v (m.states.getD i [])) _ _ (Nat.le_refl _) (show 0 < (rowS m v (m.states.getD i [])).length by rw [rowS_len];omega)) (rowS_len _ _ _)
 rw [rowS_at hb];exact score_chk (frstE_all h5 _ hb)
theorem stgV_lim {m:MD} {v:List RR} (h:LimL v):∀ j,LimL (stgV m v j)
 | 0=>h
 | j+1=>backup_lim m _
theorem chkR_len {r:RR} (h:chkR r=0):r.num.length≤1000000∧r.den.length≤1000000:=by
 unfold chkR at h;split at h
 ·cases h
 ·omega
theorem bkV_lenL {m:MD} {v:List RR} (h1:mvE m v=0) (h2:bkE m v=0):LenL (bkV m v):=fun i hi=>chkR_len (bkV_chk h1 h2 i hi)
theorem stages_any (m:MD) (m1:Option Addr) (n1:Nat) (m2:Option Addr) (n2:Nat) (m3:Option Addr) (n3:Nat) (a:Option Addr) (n c:Nat) (k:Int) (w:World) :
  Calls Try.prog 63 #[.agg (mdC m m1 n1 m2 n2 m3 n3),.slice a n c,.int .i64 k] w fun e w'=>e=.returned (.func (.func 85) #[] (lb3 w.heap.size))∧w'=((w.alloc (.cells (mdC m m1 n1 m2 n2 m3 n3) 28)).alloc (.cells #[.slice a n c] 32)).alloc (.cells #[.int .i64 k] 3):=by
 go_enter Try.func63,Try.ntmps63
 go_wp2
 go_ret;exact ⟨rfl,rfl⟩
theorem und_ok {m:MD} {p:List Int} {v:List RR} (h:(underS m p v).2=0):mvE m v=0∧p.length=m.states.length∧(∀ j,j < p.length→unE m p v j=0)∧(underS m p v).1=unV m p v:=by
 unfold underS at h ⊢;by_cases h1:mvE m v=0
 ·rw [if_neg (by simpa using h1)] at h ⊢;by_cases h2:p.length=m.states.length
  ·rw [if_neg (by simpa using h2)] at h ⊢;by_cases h3:frstE (unE m p v) p.length=0
   ·rw [if_neg (by simpa using h3)];exact ⟨h1,h2,frstE_all h3,rfl⟩
   ·rw [if_pos h3] at h;exact absurd h h3
  ·rw [if_pos h2] at h;cases h
 ·rw [if_pos h1] at h;exact absurd h h1
theorem stages_mk {m:MD} {v:List RR} {k:Int} (h:mvE m v=0) (h0:0≤k) (h24:k≤24) (hE:stgE m v k.toNat=0) :
  stagesS m v k=((List.range (k.toNat+1)).map (stgV m v),(List.range k.toNat).map (fun j=>(backupS m (stgV m v j)).2.1),0):=by
 unfold stagesS;rw [if_neg (by simpa using h),if_neg (by omega),if_neg (by simpa using hE)]
theorem stages_ok {m:MD} {v:List RR} {k:Int} (h:(stagesS m v k).2.2=0):mvE m v=0∧0≤k∧k≤24∧stgE m v k.toNat=0:=by
 unfold stagesS at h;by_cases h1:mvE m v=0
 ·rw [if_neg (by simpa using h1)] at h;by_cases h2:k < 0∨24 < k
  ·rw [if_pos h2] at h;cases h
  ·rw [if_neg h2] at h;by_cases h3:stgE m v k.toNat=0
   ·exact ⟨h1,by omega,by omega,h3⟩
   ·rw [if_pos h3] at h;exact absurd h h3
 ·rw [if_pos h1] at h;exact absurd h h1
theorem greedy {m:MD} {u:List RR} (h:(backupS m u).2.2=0):underS m (backupS m u).2.1 u=((backupS m u).1,0):=by
 obtain ⟨h1,h2,h3,h4⟩:=backup_ok h;rw [h3,h4];have hlen:(bkA m u).length=m.states.length:=bkA_len m u;obtain ⟨_,_,_,hst⟩:=md_valid (mv_valid h1).1;have hat:∀ s,s < m.states.length→(bkA m u).getD s 0=(bestI (rowS m u (m.states.getD s [])):Int):=fun s hs=>by
  unfold bkA;rw [List.getD_eq_getElem?_getD,List.getElem?_map,List.getD_eq_getElem?_getD (l:=m.states),List.getElem?_eq_getElem hs];rfl
 have hb:∀ s,s < m.states.length→bestI (rowS m u (m.states.getD s [])) < (m.states.getD s []).length:=fun s hs=>by
  have h5:=(st_valid (hst s hs)).1;exact Nat.lt_of_lt_of_eq (bestK_le (rowS m u (m.states.getD s [])) _ _ (Nat.le_refl _) (show 0 < (rowS m u (m.states.getD s [])).length by rw [rowS_len];omega)) (rowS_len _ _ _)
 have hun:∀ s,s < (bkA m u).length→unE m (bkA m u) u s=0:=fun s hs=>by
  rw [hlen] at hs;have h6:=hb s hs;unfold unE;have h7:polE m (bkA m u) s=0:=by
   unfold polE;rw [hat s hs,if_neg (by omega)]
  rw [h7,if_neg (fun h=>h rfl),hat s hs,Int.toNat_natCast];exact frstE_all (f:=fun a=>(scoreS m u ((m.states.getD s []).getD a dA)).2) (frstE_all h2 s hs) _ h6
 rw [under_4 h1 hlen hun];refine congrArg (fun x=>(x,(0:Int))) (List.ext_getElem (by rw [unV_len,hlen,bkV_len]) (fun i h5 h6=>?_));have hi:i < m.states.length:=by rw [unV_len,hlen] at h5;exact h5
 have e1:(bkV m u)[i]=(bkV m u).getD i zR:=by rw [List.getD_eq_getElem?_getD,List.getElem?_eq_getElem h6];rfl
 rw [e1,bkV_at hi,rowS_at (hb i hi)];have e2:(unV m (bkA m u) u)[i]=(unV m (bkA m u) u).getD i zR:=by rw [List.getD_eq_getElem?_getD,List.getElem?_eq_getElem h5];rfl
 rw [e2];unfold unV;rw [List.getD_eq_getElem?_getD,List.getElem?_map,List.getElem?_range (by omega)];show (scoreS m u (m.act i ((bkA m u).getD i 0).toNat)).1=_;rw [hat i hi,Int.toNat_natCast];rfl
theorem fitR_val {q:Rat} (h:(fitR q).2=0):qv (fitR q).1=q∧chkR (fitR q).1=0:=by
 unfold fitR at h ⊢;by_cases h1:small q
 ·rw [if_pos h1];exact ⟨qv_rep q,chk_rep h1⟩
 ·rw [if_neg h1] at h;cases h
theorem opR_ok {a b:RR} {x:RR × Int} (h:(opR a b x).2=0):opR a b x=x∧x.2=0:=by
 unfold opR at h ⊢;by_cases h1:chkR2 a b=0
 ·rw [if_pos h1] at h ⊢;exact ⟨rfl,h⟩
 ·rw [if_neg h1] at h;exact absurd h h1
theorem addR_val {a b:RR} (h:(addR a b).2=0):qv (addR a b).1=qv a+qv b∧chkR (addR a b).1=0:=by
 unfold addR at h ⊢;obtain ⟨e1,e2⟩:=opR_ok h;rw [e1];exact fitR_val e2
theorem mulR_val {a b:RR} (h:(mulR a b).2=0):qv (mulR a b).1=qv a*qv b∧chkR (mulR a b).1=0:=by
 unfold mulR at h ⊢;obtain ⟨e1,e2⟩:=opR_ok h;rw [e1];exact fitR_val e2
theorem qv_zR:qv zR=0:=by rw [← rep_zero,qv_rep]
theorem addL2_eq (s x:RR):addL zR [s,x]=if (addR zR s).2=0 then (if (addR (addR zR s).1 x).2=0 then ((addR (addR zR s).1 x).1,0) else (zR,(addR (addR zR s).1 x).2)) else (zR,(addR zR s).2):=rfl
theorem addL2_val {s x:RR} (h:(addL zR [s,x]).2=0):qv (addL zR [s,x]).1=qv s+qv x∧chkR (addL zR [s,x]).1=0:=by
 rw [addL2_eq] at h ⊢;by_cases h1:(addR zR s).2=0
 ·rw [if_pos h1] at h ⊢;by_cases h2:(addR (addR zR s).1 x).2=0
  ·rw [if_pos h2];have e1:=addR_val h1;have e2:=addR_val h2;refine ⟨?_,e2.2⟩;rw [e2.1,e1.1,qv_zR,Rat.zero_add]
  ·rw [if_neg h2] at h;exact absurd h h2
 ·rw [if_neg h1] at h;exact absurd h h1
def dotQ:List RR→List RR→Rat
 | a :: la,b :: bs=>qv a*qv b+dotQ la bs
 | _,_=>0
theorem dotL_val:∀ (a b:List RR) (s:RR),chkR s=0→(dotL s a b).2=0→qv (dotL s a b).1=qv s+dotQ a b∧chkR (dotL s a b).1=0
 | [],b,s,hs,_=>by
  rw [dotL_nil];exact ⟨by unfold dotQ;rw [Rat.add_zero],hs⟩
 | a :: la,[],s,hs,_=>by
  unfold dotL dotQ;exact ⟨by rw [Rat.add_zero],hs⟩
 | a :: la,b :: bs,s,hs,h=>by
  unfold dotL at h ⊢;by_cases h1:(mulR a b).2=0
  ·rw [if_pos h1] at h ⊢;by_cases h2:(addL zR [s,(mulR a b).1]).2=0
   ·rw [if_pos h2] at h ⊢;have e1:=mulR_val h1;have e2:=addL2_val h2;obtain ⟨e3,e4⟩:=dotL_val la bs _ e2.2 h;refine ⟨?_,e4⟩;rw [e3,e2.1,e1.1,Rat.add_assoc];rfl
   ·rw [if_neg h2] at h;exact absurd h h2
  ·rw [if_neg h1] at h;exact absurd h h1
theorem chkR_zR:chkR zR=0:=rfl
theorem dotR_val {a b:List RR} (h:(dotR a b).2=0):qv (dotR a b).1=dotQ a b∧chkR (dotR a b).1=0:=by
 unfold dotR at h ⊢;by_cases h1:a.length=b.length
 ·rw [if_pos h1] at h ⊢;have:=dotL_val a b zR chkR_zR h;rw [qv_zR,Rat.zero_add] at this;exact this
 ·rw [if_neg h1] at h;cases h
theorem score_val {m:MD} {v:List RR} {x:DAct} (h:(scoreS m v x).2=0):qv (scoreS m v x).1=qv x.cost+qv m.disc*dotQ (prs x.next) (vls v x.next):=by
 unfold scoreS at h ⊢;by_cases h1:(dotR (prs x.next) (vls v x.next)).2=0
 ·rw [if_neg (by simpa using h1)] at h ⊢;by_cases h2:(mulR m.disc (dotR (prs x.next) (vls v x.next)).1).2=0
  ·rw [if_neg (by simpa using h2)] at h ⊢;rw [(addR_val h).1,(mulR_val h2).1,(dotR_val h1).1]
  ·rw [if_pos h2] at h;exact absurd h h2
 ·rw [if_pos h1] at h;exact absurd h h1
theorem qv_nonneg {r:RR} (h:r.neg=false):0≤qv r:=by
 by_cases h0:dnv r.den=0
 ·unfold qv;rw [h0,Rat.mkRat_zero];exact Rat.le_refl
 ·have hs:=vq_sign (x:=vof r) h0;show 0≤vq (vof r);by_cases hn:(vof r).2.1=0
  ·rw [hs.1 hn];exact Rat.le_refl
  ·exact Rat.le_of_lt ((hs.2 hn).2 h)
theorem rat_mul_le {a b c:Rat} (h:0≤a) (k:b≤c):a*b≤a*c:=Rat.mul_le_mul_of_nonneg_left k h
theorem bestK_min {l:List RR}:∀ {k i:Nat},i < k→qv (l.getD (bestK l k) zR)≤qv (l.getD i zR)
 | 0,_,h=>by omega
 | k+1,i,h=>by
  unfold bestK;split
  ·rename_i h1;by_cases e:i=k
   ·subst e;exact Rat.le_refl
   ·exact Rat.le_trans (Rat.le_of_lt h1) (bestK_min (by omega))
  ·rename_i h1;by_cases e:i=k
   ·subst e;exact Rat.not_lt.1 h1
   ·exact bestK_min (by omega)
theorem out_mem {n:Nat} {l:List Out} (h:∀ i,i < l.length→outE n l i=0):∀ o ∈ l,0≤o.1∧o.1 < n∧chkR o.2=0∧o.2.neg=false:=fun o ho=>by
 obtain ⟨i,hi,e⟩:=List.mem_iff_getElem.1 ho;have:=out_valid (h i hi);rw [List.getD_eq_getElem?_getD,List.getElem?_eq_getElem hi,e] at this;exact this
theorem md_act {m:MD} (h:mdE m=0) {s a:Nat} (hs:s < m.states.length) (ha:a < (m.states.getD s []).length):actE m.states.length (m.act s a)=0:=(st_valid ((md_valid h).2.2.2 s hs)).2.2 a ha
theorem disc_nonneg {m:MD} (h:mdE m=0):0≤qv m.disc∧qv m.disc≤1:=by
 unfold mdE at h;by_cases h1:chkR m.disc=0
 ·rw [if_neg (by simpa using h1)] at h;by_cases h2:m.disc.neg=true∨1 < qv m.disc
  ·rw [if_pos h2] at h;cases h
  ·exact ⟨qv_nonneg (by cases e:m.disc.neg with|false=>rfl|true=>exact absurd (.inl e) h2),Rat.not_lt.1 (fun e=>h2 (.inr e))⟩
 ·rw [if_pos h1] at h;exact absurd h h1
theorem bk_le {m:MD} {u:List RR} (h:(backupS m u).2.2=0) {s a:Nat} (hs:s < m.states.length) (ha:a < (m.states.getD s []).length):(scoreS m u (m.act s a)).2=0∧qv ((backupS m u).1.getD s zR)≤qv (scoreS m u (m.act s a)).1:=by
 obtain ⟨h1,h2,h3,h4⟩:=backup_ok h;rw [h3,bkV_at hs];refine ⟨frstE_all (f:=fun a=>(scoreS m u ((m.states.getD s []).getD a dA)).2) (frstE_all h2 s hs) _ ha,?_⟩;have:=bestK_min (l:=rowS m u (m.states.getD s [])) (k:=(rowS m u (m.states.getD s [])).length) (i:=a) (by rw [rowS_len];exact ha);rw [rowS_at ha] at this;exact this
theorem unE_ok {m:MD} {p:List Int} {u:List RR} {s:Nat} (h:unE m p u s=0):0≤p.getD s 0∧p.getD s 0 < ((m.states.getD s []).length:Int)∧(scoreS m u (m.act s (p.getD s 0).toNat)).2=0:=by
 unfold unE at h;by_cases h1:polE m p s=0
 ·rw [h1,if_neg (fun h=>h rfl)] at h;unfold polE at h1;by_cases h2:p.getD s 0 < 0∨((m.states.getD s []).length:Int)≤p.getD s 0
  ·rw [if_pos h2] at h1;cases h1
  ·exact ⟨by omega,by omega,h⟩
 ·rw [if_pos h1] at h;exact absurd h h1
theorem unV_at {m:MD} {p:List Int} {u:List RR} {s:Nat} (h:s < p.length):(unV m p u).getD s zR=(scoreS m u (m.act s (p.getD s 0).toNat)).1:=by
 unfold unV;rw [List.getD_eq_getElem?_getD,List.getElem?_map,List.getElem?_range h];rfl
theorem fitR_err (q:Rat):(fitR q).2=0∨(fitR q).2=4:=by
 unfold fitR;split
 ·exact .inl rfl
 ·exact .inr rfl
theorem mulR_err {a b:RR} (h1:chkR a=0) (h2:chkR b=0):(mulR a b).2=0∨(mulR a b).2=4:=by
 unfold mulR opR;rw [if_pos (chkR2_ok h1 h2)];exact fitR_err _
theorem addR_err {a b:RR} (h1:chkR a=0) (h2:chkR b=0):(addR a b).2=0∨(addR a b).2=4:=by
 unfold addR opR;rw [if_pos (chkR2_ok h1 h2)];exact fitR_err _
theorem addL2_err {s x:RR} (h1:chkR s=0) (h2:chkR x=0):(addL zR [s,x]).2=0∨(addL zR [s,x]).2=4:=by
 rw [addL2_eq];rcases addR_err chkR_zR h1 with e|e
 ·rw [if_pos e];rcases addR_err (addR_val e).2 h2 with e2|e2
  ·rw [if_pos e2];exact .inl rfl
  ·rw [if_neg (by rw [e2];decide)];exact .inr e2
 ·rw [if_neg (by rw [e];decide)];exact .inr e
theorem dotL_err:∀ (a b:List RR) (s:RR),(∀ x ∈ a,chkR x=0)→(∀ x ∈ b,chkR x=0)→chkR s=0→(dotL s a b).2=0∨(dotL s a b).2=4
 | [],b,s,_,_,_=>by rw [dotL_nil];exact .inl rfl
 | a :: la,[],s,_,_,_=>by unfold dotL;exact .inl rfl
 | a :: la,b :: bs,s,h1,h2,hs=>by
  unfold dotL;rcases mulR_err (h1 a (by simp)) (h2 b (by simp)) with e|e
  ·rw [if_pos e];rcases addL2_err hs (mulR_val e).2 with e2|e2
   ·rw [if_pos e2];exact dotL_err la bs _ (fun x hx=>h1 x (by simp [hx])) (fun x hx=>h2 x (by simp [hx])) (addL2_val e2).2
   ·rw [if_neg (by rw [e2];decide)];exact .inr e2
  ·rw [if_neg (by rw [e];decide)];exact .inr e
theorem score_err {m:MD} {v:List RR} {x:DAct} {n:Nat} (hm:chkR m.disc=0) (hx:actE n x=0) (hn:n≤v.length) (hv:∀ i,i < v.length→chkR (v.getD i zR)=0):(scoreS m v x).2=0∨(scoreS m v x).2=4:=by
 obtain ⟨x1,x2,x3,x4,x5⟩:=act_valid hx;have hv2:=out_mem x4;unfold scoreS;have hd:(dotR (prs x.next) (vls v x.next)).2=0∨(dotR (prs x.next) (vls v x.next)).2=4:=by
  unfold dotR;rw [if_pos (by rw [prs_len,vls_len])];refine dotL_err _ _ _ (fun y hy=>?_) (fun y hy=>?_) chkR_zR
  ·obtain ⟨o,ho,rfl⟩:=List.mem_map.1 hy;exact (hv2 o ho).2.2.1
  ·obtain ⟨o,ho,rfl⟩:=List.mem_map.1 hy;exact hv _ (by have:=hv2 o ho;omega)
 rcases hd with e|e
 ·rw [if_neg (by simpa using e)];rcases mulR_err hm (dotR_val e).2 with e2|e2
  ·rw [if_neg (by simpa using e2)];exact addR_err x1 (mulR_val e2).2
  ·rw [if_pos (by rw [e2];decide)];exact .inr e2
 ·rw [if_pos (by rw [e];decide)];exact .inr e
theorem unV_chk {m:MD} {p:List Int} {u:List RR} (h:(underS m p u).2=0):∀ i,i < (underS m p u).1.length→chkR ((underS m p u).1.getD i zR)=0:=fun i hi=>by
 obtain ⟨k1,k2,k3,k4⟩:=und_ok h;rw [k4] at hi ⊢;rw [unV_len] at hi;rw [unV_at hi];exact score_chk (unE_ok (k3 i hi)).2.2
theorem equalInts_any (v1 v2:Value) (l1 l2:List Int) (w:World) (h1:RdI .i64 w v1 l1) (h2:RdI .i64 w v2 l2) :
  Calls Try.prog 10 #[v1,v2] w fun e w'=>e=.returned (.bool (decide (l1=l2)))∧Ext w w':=by
 obtain ⟨a1,c1,rfl,hc1,hm1,hr1⟩:=h1.get;obtain ⟨a2,c2,rfl,hc2,hm2,hr2⟩:=h2.get;clear h1 h2;by_cases hlen:l1.length=l2.length
 ·have H1:=kI hr1;clear hr1;have H2:=kI hr2;clear hr2;rw [← hlen];rw [← hlen] at H2 hc2;have HL:=kI hlen;clear hlen;go_enter Try.func10,Try.ntmps10
  go_wp2
  go_loopw [5] (fun i wr=>∃ k:Nat,k≤l1.length∧i=.int .i64 k∧l1.take k=l2.take k∧∃ n,wr=w.drewN n)
   (fun i _=>l1.length - (intOf i).toNat)
  case atStart=>exact ⟨0,Nat.zero_le _,rfl,rfl,0,rfl⟩
  case round=>
   obtain ⟨k,hk,rfl,htake,n,rfl⟩:=hrel;have HT:=kI htake;clear htake;by_cases hlt:k < l1.length
   ·obtain ⟨b1,o1,rfl,hb1,hx1⟩:=H1.o k hlt;obtain ⟨b2,o2,rfl,hb2,hx2⟩:=H2.o k hlt;go_wp2_with fail;go_quiet (fail)
    go_wp2
    ·have hne:(l1[k] != l2[k]?.getD 0)=true:=by assumption
     go_ret;refine ⟨ret_bool ?_,((Ext.refl w).drewN _).drewN _⟩;rw [eq_comm,decide_eq_false_iff_not];rintro rfl;simp [hlt] at hne
    ·have he:(l1[k] != l2[k]?.getD 0)=false:=by assumption
     have hlt2:k < l2.length:=HL.o ▸ hlt;go_roundw
     case rel=>exact ⟨k+1,by omega,by go_num,take_succ_eq HT.o hlt hlt2 (by simpa [hlt2] using he),_,rfl⟩
     case measure=>simp [intOf];omega
   ·go_wp2
    go_ret;refine ⟨ret_bool ?_,(Ext.refl w).drewN _⟩;have:=HT.o;rw [List.take_of_length_le (by omega),List.take_of_length_le (by have:=HL.o;omega)] at this;simp [this]
 ·have hb:(l1.length != l2.length)=true:=by simpa using hlen
  go_enter Try.func10,Try.ntmps10
  go_wp2
  go_ret;refine ⟨ret_bool ?_,Ext.refl w⟩;rw [eq_comm,decide_eq_false_iff_not];rintro rfl;exact hlen rfl
abbrev OwI (w:World) (B:Nat) (v:Value) (l:List Int):Prop:=w.ownsRow B 3 1 v l.length (l.map (Value.int .i64))
theorem own_keepsP {B C size n:Nat} {e t:TypeId} {w w':World} {v:Value} {xs:List Value} (h:w.ownsRow B e size v n xs) (k:Keeps C t w w') (ht:e≠t):w'.ownsRow B e size v n xs:=by
 refine ⟨h.1,?_⟩;rcases h.2 with hn|⟨g,cap,cur,rfl,hb,hg,rest⟩
 ·exact .inl hn
 ·exact .inr ⟨g,cap,cur,rfl,hb,Blk.keeps (show Blk w g cur e from hg) k ht,rest⟩
def ElPl (B:Nat) (w:World) (h:List Value) (l:List Int):Prop:=∃ a c,h=[.slice a l.length c]∧OwI w B (.slice a l.length c) l
theorem ElPl.keeps {B C:Nat} {t:TypeId} (ht:3≠t) (w w':World) (h:List Value) (l:List Int) (e:ElPl B w h l) (k:Keeps C t w w'):ElPl B w' h l:=by
 obtain ⟨a,c,rfl,h1⟩:=e;exact ⟨a,c,rfl,own_keepsP h1 k ht⟩
theorem ElPl.ext {B:Nat} {w w':World} {h:List Value} {l:List Int} (e:ElPl B w h l) (x:Ext w w'):ElPl B w' h l:=by
 obtain ⟨a,c,rfl,h1⟩:=e;exact ⟨a,c,rfl,own_ext h1 x⟩
abbrev OwPl (B:Nat) (w:World) (v:Value) (g:List (List Int)):Prop:=OwRow 29 1 (ElPl B) B w v g
theorem OwPl.ext' {B:Nat} {w w':World} {v:Value} {g:List (List Int)} (h:OwPl B w v g) (x:Ext w w'):OwPl B w' v g:=OwRow.ext h x (fun _ _ e=>e.ext x)
theorem Try.infoRowP:(Try.prog.info? 29).map (fun i=>(i.zero,i.size,i.bytes))=some (some (.slice none 0 0),1,24):=by kernel_rfl
def TyK (A B:World):Prop:=∀ (i:Nat) (c:Array Value) (t:TypeId),(t=25∨t=102)→Blk A i c t→Blk B i c t
theorem TyK.ext {A B:World} (h:Ext A B):TyK A B:=fun _ _ _ _ b=>b.ext h
theorem TyK.trans {A B C:World} (h:TyK A B) (k:TyK B C):TyK A C:=fun i c t ht b=>k i c t ht (h i c t ht b)
theorem TyK.kq {m:Nat} {A B:World} (h:Kq m A B):TyK A B:=fun i c t _ b=>h.blk i c t b
theorem TyK.keeps {B:Nat} {t:TypeId} {A C:World} (k:Keeps B t A C) (h1:25≠t) (h2:102≠t):TyK A C:=fun i c u hu b=>b.keeps k (by rcases hu with rfl|rfl;exact h1;exact h2)
theorem SfW.ty {B:Nat} {w w':World} {v:Value} {l:List Int} (h:SfW B w v l) (k:TyK w w'):SfW B w' v l:=by
 obtain ⟨⟨a,cap,rfl,h1,h2,h3⟩,h4⟩:=h;refine ⟨⟨a,cap,rfl,h1,h2,fun i hi=>?_⟩,h4.imp id fun ⟨g,c,cur,e,hb,hs,hB⟩=>⟨g,c,cur,e,k g cur _ (.inr rfl) hb,hs,hB⟩⟩;obtain ⟨b,off,e1,e2,e3,e4⟩:=h3 i hi;rcases e4 with e4|⟨cur,e4⟩
 ·omega
 ·have hb:=k b cur _ (.inr rfl) e4;have he:w'.heap[b]?=w.heap[b]?:=by unfold Blk at hb e4;rw [hb,e4]
  exact ⟨b,off,e1,hb.lt,(World.cell?_of_block (a:=⟨b,off+i,none⟩) he).trans e3,.inr ⟨cur,hb⟩⟩
theorem ElN.ty {B:Nat} {w w':World} {h:List Value} {r:RR} (e:ElN B w h r) (k:TyK w w'):ElN B w' h r:=by
 obtain ⟨a1,c1,a2,c2,rfl,h1,h2⟩:=e;exact ⟨a1,c1,a2,c2,rfl,h1.ty k,h2.ty k⟩
theorem OwN.ty {B:Nat} {w w':World} {v:Value} {l:List RR} (h:OwN B w v l) (k:TyK w w'):OwN B w' v l:=by
 obtain ⟨hs,h1,h2,h3,h4⟩:=h;refine ⟨hs,⟨h1.1,?_⟩,h2,h3,fun i y hi=>by obtain ⟨h,e1,e2⟩:=h4 i y hi;exact ⟨h,e1,e2.ty k⟩⟩;rcases h1.2 with hn|⟨g,cap,cur,rfl,hb,hg,rest⟩
 ·exact .inl hn
 ·exact .inr ⟨g,cap,cur,rfl,hb,k g cur _ (.inl rfl) hg,rest⟩
structure StR (n:Nat) (X:Nat→Prop) (A B:World):Prop where
 kp:KpB n X A B
 ty:TyK A B
theorem StR.refl (n:Nat) (X:Nat→Prop) (A:World):StR n X A A:=⟨KpB.refl _ _ _,fun _ _ _ _ b=>b⟩
theorem StR.trans {n:Nat} {X:Nat→Prop} {A B C:World} (h:StR n X A B) (k:StR n X B C):StR n X A C:=⟨h.kp.trans k.kp,h.ty.trans k.ty⟩
theorem StR.ext {n:Nat} {X:Nat→Prop} {A B:World} (h:Ext A B):StR n X A B:=⟨.ext h,.ext h⟩
def StNx (w0:World) (m:MD) (vals:List RR) (k:Nat) (pre:List (Value × Value)) (x:Value × Value) (W:World):Prop:=
 pre.length < k∧(backupS m (stgV m vals pre.length)).2.2=0∧OwN w0.heap.size W x.1 (stgV m vals (pre.length+1))∧OwZ w0.heap.size W x.2 (backupS m (stgV m vals pre.length)).2.1
def StPn (m:MD) (vals:List RR) (k:Nat) (pre:List (Value × Value)) (ch:List PanicEntry):Prop:=
 pre.length < k∧(backupS m (stgV m vals pre.length)).2.2≠0∧ch=[errP (backupS m (stgV m vals pre.length)).2.2]
structure KpO (o:Nat) (A B:World):Prop where
 zero:Below 0 A B
 block:∀ i,i < A.heap.size→i≠o→B.heap[i]?=A.heap[i]?
theorem KpO.ext {o:Nat} {A B:World} (h:Ext A B):KpO o A B:=⟨h.mono (Nat.zero_le _),fun i hi _=>h.block i hi⟩
theorem KpO.set {o:Nat} {A B:World} (h:KpO o A B) (p:Nat) (v:Value):KpO o A (B.setCell ⟨o,p,none⟩ v):=⟨h.zero.setCell (Nat.zero_le _) v,fun i hi hn=>(Below.heap_setCell B ⟨o,p,none⟩ v i hn).trans (h.block i hi hn)⟩
theorem KpO.trans {o:Nat} {A B C:World} (h:KpO o A B) (k:KpO o B C):KpO o A C:=⟨h.zero.trans k.zero,fun i hi hn=>(k.block i (Nat.lt_of_lt_of_le hi h.zero.size) hn).trans (h.block i hi hn)⟩
structure KpK (o:Nat) (A B:World):Prop where
 o:KpO o A B
 k:Keeps 0 32 A B
theorem KpK.ext {o:Nat} {A B:World} (h:Ext A B):KpK o A B:=⟨.ext h,Keeps.ext h⟩
theorem OwZ.mono {B C:Nat} {w:World} {v:Value} {l:List Int} (h:OwZ B w v l) (hB:C≤B):OwZ C w v l:=by
 obtain ⟨hs,h1,h2,h3,h4⟩:=h;exact ⟨hs,own_mono h1 hB,h2,h3,h4⟩
theorem stages1_seq (n:Nat) (hn:1≤n) (m:MD) (m1:Option Addr) (n1:Nat) (m2:Option Addr) (n2:Nat) (m3:Option Addr) (n3:Nat) (a:Option Addr) (c:Nat) (vals:List RR) (k H N lb:Nat) (X:Nat→Prop) (w0 W1:World)
  (hm:RdM w0 (.agg (mdC m m1 n1 m2 n2 m3 n3)) m) (hv:RdRs w0 (.slice a vals.length c) vals) (hlm:LimM m) (hlv:LimL vals) (hk:k≤24)
  (hx:Ext w0 W1) (hX:∀ i,X i→w0.heap.size≤i∧i < H) (hwH:w0.heap.size≤H) (hH:H+2 < N) (hN:N≤W1.heap.size)
  (hb0:Blk W1 H (mdC m m1 n1 m2 n2 m3 n3) 28) (hb1:Blk W1 (H+1) #[.slice a vals.length c] 32) (hb2:Blk W1 (H+2) #[.int .i64 k] 3) :
  UpSeqR Fence.wide n Try.prog 85 (lb3 H) (StR N X) (KpK (H+1)) (fun x:Value × Value=>#[x.1,x.2]) (StNx w0 m vals k) (fun xs=>xs.length=k) (StPn m vals k) lb W1:=by
 intro J Jx hJ hY h0;have hbk:=fun W vv l (x:Ext w0 W) (h:RdRs W vv l) (hl:LimL l)=>backup_any _ vv m l W (hm.ext x) h hlm hl;have hsl:=fun j=>stgV_lim (m:=m) (v:=vals) hlv j;have HBK:=kI hbk;have HSL:=kI hsl;have HV:=kI hv;have HB0:=kI hb0;have HX:=kI hx;have HJ0:=kI hJ;have HY:=kI hY;have hw0:w0.heap.size≤W1.heap.size:=HX.o.size;have HB1:=kI hb1;clear hm hv hbk hsl hx hlm hlv hJ hY hb0 hb1;refine callsIn_of_wp Try.func85 rfl trivial ?_ rfl;simp only [Try.ntmps85,List.size_toArray,List.length_cons,List.length_nil,Nat.reduceAdd,Nat.reduceSub,Array.replicate_succ,Array.replicate_zero,List.push_toArray,List.append_toArray,List.nil_append,List.cons_append];have d0:=hb2.cell;have d1:=hb2.lt;gi_wp2_with fail;clear d0 d1 hb2;gi_loopw [9] (fun i wr=>∃ (j:Nat) (pre:List (Value × Value)) (vv:Value),j≤k∧i=.int .i64 j∧pre.length=j∧J pre wr∧Ext w0 wr∧N≤wr.heap.size∧Blk wr H (mdC m m1 n1 m2 n2 m3 n3) 28∧Blk wr (H+1) #[vv] 32∧RdRs wr vv (stgV m vals j)∧StR N (fun i=>X i∨i=H+1) W1 wr) (fun i _=>k - (intOf i).toNat)
 case atStart=>exact ⟨0,[],_,by omega,rfl,rfl,h0,HX.o,hN,HB0.o,HB1.o,HV.o.ext HX.o,StR.refl _ _ _⟩
 case round=>
  obtain ⟨wk,hwk⟩:=gN (wr);subst hwk;obtain ⟨j,pre,vv,hjk,rfl,hpl,hj,hxk,hNk,b0,b1,hrd,hst⟩:=hrel;have XK:=kI hxk;have HJ:=kI hj;have HPL:=kI hpl;have B0:=kI b0;have B1:=kI b1;have RD:=kI hrd;have ST:=kI hst;clear hxk hj hpl b0 b1 hrd hst;by_cases hlt:j < k
  ·obtain ⟨av,cv,rfl,-,-,-⟩:=RD.o.get;have hr:=fun W (x:Ext wk W)=>HBK.o W _ _ (XK.o.trans x) (RD.o.ext x) (HSL.o j);obtain ⟨R,hR⟩:=gN (backupS m (stgV m vals j));rw [← hR] at hr;have HR:=kI hR;obtain ⟨vs,as2,e⟩:=R;have HBK2:=kI hr;have kb0:=B0.o.cell;have kb1:=B1.o.cell;have kb2:=B0.o.lt;have kb3:=B1.o.lt;obtain ⟨sl,hsl⟩:=gN ((stgV m vals j).length);clear hr hR;clear hsl;gi_wp2_with fail;refine ⟨trivial,(callsIn_wide.2 (HBK2.o wk (Ext.refl _))).mono ?_⟩;rintro e9 w2 ⟨⟨v,aw,rfl,ov,oz⟩,hx2⟩;dsimp only at ov oz;have X2:=kI hx2;have OV:=kI (OwN.mono ov XK.o.size);have OZ:=kI oz;have XK2:Hid (Ext w0 w2):=kI (XK.o.trans hx2);have HE:Hid ((backupS m (stgV m vals j)).2.2=e):=kI (by rw [← HR.o]);have HVS:Hid (stgV m vals (j+1)=vs):=kI (by show (backupS m (stgV m vals j)).1=vs;rw [← HR.o]);have HAS:Hid ((backupS m (stgV m vals j)).2.1=as2):=kI (by rw [← HR.o]);have b1:=B1.o.ext hx2;have c1:=b1.cell;have f1:=b1.free;have l1:=b1.lt;obtain ⟨x1,x2,rfl⟩:=OV.o.shape;clear ov oz hx2 kb0 kb1 kb2 kb3 b1;by_cases he:e=0
   ·subst he;gi_wp2_with fail;refine ⟨trivial,(callsIn_wide.2 (must_ok w2)).mono ?_⟩;rintro e9 w3 ⟨rfl,rfl⟩;have B13:=kI (B1.o.ext X2.o);have B03:=kI (B0.o.ext X2.o);gi_wp2_with fail;obtain ⟨ws,hws⟩:=gN (w3.setCell ⟨H+1,0,none⟩ (.slice x1 vs.length x2));have hks:Keeps 0 32 w3 ws:=by rw [hws];exact keeps_setC B13.o 0 _
    have hos:KpO (H+1) wk ws:=by rw [hws];exact (KpO.ext X2.o).set 0 _
    have hps:KpB N (fun i=>X i∨i=H+1) wk ws:=by rw [hws];exact (KpB.ext X2.o).set (.inl (.inr rfl)) 0 _
    have hxs:Ext w0 ws:=by rw [hws];exact Below.setCell XK2.o (by dsimp only;omega) _
    have b0s:Blk ws H (mdC m m1 n1 m2 n2 m3 n3) 28:=by rw [hws];exact B03.o.setOther (a:=⟨H+1,0,none⟩) (by dsimp only;omega) _
    have b1s:Blk ws (H+1) #[.slice x1 vs.length x2] 32:=by rw [hws];exact B13.o.set 0 _
    have hsz:wk.heap.size≤ws.heap.size:=hos.zero.size;rw [← hws];have HOS:=kI hos;have HPS:=kI hps;have HXS:=kI hxs;have B0S:=kI b0s;have B1S:=kI b1s;have HKS:=kI hks;have HSZ:=kI hsz;have OVS:=kI (OwN.keeps OV.o hks (by decide) (by decide));have OZS:=kI (OwZ.keeps OZ.o hks (by decide));have hok:=backup_ok HE.o;have hvs:vs=bkV m (stgV m vals j):=HVS.o.symm.trans hok.2.2.1;have hlen:LenL vs:=by rw [hvs];exact bkV_lenL hok.1 hok.2.1
    have hl200:vs.length≤1000000:=by
     rw [hvs,bkV_len];have:=(md_valid (mv_valid hok.1).1).2.2.1;omega
    have HLEN:=kI hlen;have HL2:=kI hl200;clear hws hos hps hxs b0s b1s hks hsz hok hvs hlen hl200 c1 f1 l1;refine ⟨trivial,(callsIn_wide.2 (own_any _ vs ws OVS.o.rd HL2.o HLEN.o)).mono ?_⟩;rintro e9 w4 ⟨⟨v4,rfl,ow⟩,hx4⟩;have X4:=kI hx4;have hw4:w0.heap.size≤ws.heap.size:=HXS.o.size;have OW4:Hid (OwN w0.heap.size w4 v4 (stgV m vals (j+1))):=kI (by rw [HVS.o];exact OwN.mono ow hw4);have OZ4:Hid (OwZ w0.heap.size w4 aw (backupS m (stgV m vals j)).2.1):=kI (by rw [HAS.o];exact OwZ.mono (OwZ.ext' OZS.o hx4) XK.o.size);obtain ⟨fn,tmps,assign,body,hy,hR⟩:=HY.o pre (v4,aw) w4 (HJ0.o _ _ _ HJ.o ⟨HOS.o.trans (.ext hx4),((Keeps.ext X2.o).trans HKS.o).trans (Keeps.ext hx4)⟩) ⟨by rw [HPL.o];exact hlt,by rw [HPL.o];exact HE.o,by rw [HPL.o];exact OW4.o,by rw [HPL.o];exact OZ4.o⟩;have HRR:=kI hR;dsimp only at hy HRR;clear hR ow hx4;gi_wp2_with fail;refine HRR.o.mono ?_;rintro e9 W5 ⟨hb5,(⟨rfl,hJ5⟩|⟨rfl,hJ5⟩)⟩
    ·have HJ5:=kI hJ5;have HB5:=kI hb5;clear hJ5 hb5 hy HRR;gi_wp2_with fail;go_roundw
     case rel=>
      have hxw4:Ext w0 w4:=HXS.o.trans X4.o;have h5:=HB5.o;refine ⟨j+1,_,_,by omega,by go_num,by have:=HPL.o;simp [this],HJ5.o,Below.trans hxw4 (h5.kp.below (fun i h=>(hX i h).1) (by omega) hxw4.size),Nat.le_trans hNk (Nat.le_trans (Nat.le_trans HSZ.o X4.o.size) h5.kp.zero.size),(B0S.o.ext X4.o).kpB h5.kp (by omega) (fun h=>by have:=(hX _ h).2;omega),(B1S.o.ext X4.o).kpB h5.kp (by omega) (fun h=>by have:=(hX _ h).2;omega),?_,?_⟩
      ·rw [HVS.o];exact ((OwN.ext' OVS.o X4.o).ty h5.ty).rd
      ·exact (ST.o.trans ⟨HPS.o.trans (.ext X4.o),(TyK.ext X2.o).trans ((TyK.keeps HKS.o (by decide) (by decide)).trans (.ext X4.o))⟩).trans ⟨h5.kp.mono (fun i h=>.inl h),h5.ty⟩
     case measure=>simp [intOf];omega
    ·have HJ5:=kI hJ5;clear hJ5 hb5 hy HRR;gi_wp2_with fail;refine bodyPost_ret (v:=.tuple #[]) ?_ rfl (.inl ⟨⟨_,rfl⟩,.inr ⟨_,HJ5.o⟩⟩);first|rfl|(simp only [results,Try.results85];go_simp)
   ·gi_wp2_with fail;refine ⟨trivial,(callsIn_wide.2 (must_bad he w2)).mono ?_⟩;rintro e9 w3 ⟨rfl,rfl⟩;simp +zetaDelta only [Exit.then,Exit.inBlock];exact bodyPost_panic rfl (.inr ⟨_,pre,rfl,⟨by rw [HPL.o];exact hlt,by rw [HPL.o,HE.o];exact he,by rw [HPL.o,HE.o]⟩,HJ0.o _ _ _ HJ.o (.ext X2.o)⟩)
  ·obtain rfl:j=k:=by omega
   have q6:¬ (j:Int) < (j:Int):=by omega
   gi_wp2_with fail;go_end0
   exact .inl ⟨⟨_,rfl⟩,.inl ⟨_,HPL.o,HJ.o⟩⟩
def ElV (B:Nat) (w:World) (h:List Value) (l:List RR):Prop:=∃ a c,h=[.slice a l.length c]∧OwN B w (.slice a l.length c) l
theorem ElV.keeps {B C:Nat} {t:TypeId} (ht:25≠t) (hu:102≠t) (w w':World) (h:List Value) (l:List RR) (e:ElV B w h l) (k:Keeps C t w w'):ElV B w' h l:=by
 obtain ⟨a,c,rfl,h1⟩:=e;exact ⟨a,c,rfl,h1.keeps k ht hu⟩
theorem ElV.ext {B:Nat} {w w':World} {h:List Value} {l:List RR} (e:ElV B w h l) (x:Ext w w'):ElV B w' h l:=by
 obtain ⟨a,c,rfl,h1⟩:=e;exact ⟨a,c,rfl,OwN.ext' h1 x⟩
theorem ElV.of {B:Nat} {w:World} {v:Value} {l:List RR} (h:OwN B w v l):ElV B w [v] l:=by
 obtain ⟨a,c,rfl⟩:=h.shape;exact ⟨a,c,rfl,h⟩
abbrev OwVR (B:Nat) (w:World) (v:Value) (g:List (List RR)):Prop:=OwRow 32 1 (ElV B) B w v g
theorem OwVR.nil (B:Nat) (w:World):OwVR B w (.slice none 0 0) []:=OwRow.nil _ _ _ _ _
theorem OwVR.ext' {B:Nat} {w w':World} {v:Value} {g:List (List RR)} (h:OwVR B w v g) (x:Ext w w'):OwVR B w' v g:=OwRow.ext h x (fun _ _ e=>e.ext x)
theorem OwVR.keeps {B C:Nat} {t:TypeId} {w w':World} {v:Value} {g:List (List RR)} (h:OwVR B w v g) (k:Keeps C t w w') (ht:32≠t) (hr:25≠t) (hu:102≠t):OwVR B w' v g:=OwRow.keepsG h k ht (fun _ _ e=>e.keeps hr hu _ _ _ _ k)
theorem OwVR.shape {B:Nat} {w:World} {v:Value} {g:List (List RR)} (h:OwVR B w v g):∃ a c,v=.slice a g.length c:=by
 obtain ⟨a,c,h,_⟩:=OwRow.rdN h;exact ⟨a,c,h⟩
theorem OwVR.mono {B C:Nat} {w:World} {v:Value} {g:List (List RR)} (h:OwVR B w v g) (hB:C≤B):OwVR C w v g:=by
 obtain ⟨hs,h1,h2,h3,h4⟩:=h;exact ⟨hs,own_mono h1 hB,h2,h3,fun i y hi=>by obtain ⟨h,e1,a,c,e2,e3⟩:=h4 i y hi;exact ⟨h,e1,a,c,e2,e3.mono hB⟩⟩
theorem OwPl.mono {B C:Nat} {w:World} {v:Value} {g:List (List Int)} (h:OwPl B w v g) (hB:C≤B):OwPl C w v g:=by
 obtain ⟨hs,h1,h2,h3,h4⟩:=h;exact ⟨hs,own_mono h1 hB,h2,h3,fun i y hi=>by obtain ⟨h,e1,a,c,e2,e3⟩:=h4 i y hi;exact ⟨h,e1,a,c,e2,own_mono e3 hB⟩⟩
theorem OwVR.keptO {B o:Nat} {w w':World} {v:Value} {g:List (List RR)} (h:OwVR B w v g) (k:KpK o w w') (hne:v.ownBlock≠some o):OwVR B w' v g:=by
 obtain ⟨hs,h1,h2,h3,h4⟩:=h;refine ⟨hs,⟨h1.1,?_⟩,h2,h3,fun i y hi=>by obtain ⟨h,e1,e2⟩:=h4 i y hi;exact ⟨h,e1,e2.keeps (by decide) (by decide) _ _ _ _ k.k⟩⟩;rcases h1.2 with hn|⟨q,cap,cur,rfl,hb,hg,rest⟩
 ·exact .inl hn
 ·have hq:q≠o:=fun e=>hne (by rw [e];rfl);have hlt:q < w.heap.size:=(Array.getElem?_eq_some_iff.1 hg).1;exact .inr ⟨q,cap,cur,rfl,hb,(k.o.block q hlt hq).trans hg,rest⟩
theorem OwPl.keeps {B C:Nat} {t:TypeId} {w w':World} {v:Value} {g:List (List Int)} (h:OwPl B w v g) (k:Keeps C t w w') (ht:29≠t) (hi:3≠t):OwPl B w' v g:=OwRow.keepsG h k ht (fun _ _ e=>e.keeps hi _ _ _ _ k)
theorem OwPl.nil (B:Nat) (w:World):OwPl B w (.slice none 0 0) []:=OwRow.nil _ _ _ _ _
theorem OwPl.shape {B:Nat} {w:World} {v:Value} {g:List (List Int)} (h:OwPl B w v g):∃ a c,v=.slice a g.length c:=by
 obtain ⟨a,c,h,_⟩:=OwRow.rdN h;exact ⟨a,c,h⟩
theorem ElPl.of {B:Nat} {w:World} {v:Value} {l:List Int} (h:OwZ B w v l):ElPl B w [v] l:=by
 obtain ⟨a,c,rfl⟩:=h.shape;exact ⟨a,c,rfl,h.owI⟩
def Aside (v:Value) (H N:Nat):Prop:=∀ q,v.ownBlock=some q→q < H∨N≤q
theorem Try.infoRowV:(Try.prog.info? 32).map (fun i=>(i.zero,i.size,i.bytes))=some (some (.slice none 0 0),1,24):=by kernel_rfl
theorem OwRow.own_at {α:Type} {e:TypeId} {size:Nat} {El:World→List Value→α→Prop} {B:Nat} {w:World} {v:Value} {l:List α} (h:OwRow e size El B w v l) {q:Nat} (hq:v.ownBlock=some q):(∃ cur,Blk w q cur e)∧B≤q∧q < w.heap.size:=by
 obtain ⟨hs,h1,_⟩:=h;rcases h1.2 with ⟨rfl,_⟩|⟨g,cap,cur,rfl,hb,hg,_⟩
 ·cases hq
 ·injection hq with hq
  dsimp only at hq;subst hq;exact ⟨⟨cur,hg⟩,hb,(Array.getElem?_eq_some_iff.1 hg).1⟩
theorem OwRow.gKeeps {α:Type} {e:TypeId} {size:Nat} {El:World→List Value→α→Prop} {B:Nat} {w w':World} {v:Value} {l:List α} (h:OwRow e size El B w v l) (hg:w.grownBy w' v.ownBlock):Keeps B e w w':=
 ⟨⟨hg.os,hg.tape,hg.output,hg.size,fun i hi=>by omega⟩,fun i hi ho=>hg.block i hi (fun e9=>by
  obtain ⟨⟨cur,hb⟩,hq,_⟩:=h.own_at e9.symm;rcases ho with ho|⟨c2,u,h5,h6⟩
  ·omega
  ·unfold Blk at hb h5;rw [hb] at h5;injection h5 with h5
   injection h5 with _ h7
   exact h6 h7.symm)⟩
def ResG (w w':World) (e:Ending) (r:List (List RR) × List (List Int) × Int):Prop:=∃ v p,e=.returned (.tuple #[v,p,.int .i64 r.2.2])∧OwVR w.heap.size w' v r.1∧OwPl w.heap.size w' p r.2.1
theorem ResG.mk {w w':World} {v p:Value} {g:List (List RR)} {q:List (List Int)} {x:Int} {r:List (List RR) × List (List Int) × Int} (h:OwVR w.heap.size w' v g) (k:OwPl w.heap.size w' p q) (e:r=(g,q,x)):ResG w w' (.returned (.tuple #[v,p,.int .i64 x])) r:=by subst e;exact ⟨v,p,rfl,h,k⟩
theorem ElN.mono {B C:Nat} {w:World} {h:List Value} {r:RR} (e:ElN B w h r) (hB:C≤B):ElN C w h r:=by
 obtain ⟨a1,c1,a2,c2,e2,s1,s2⟩:=e;exact ⟨a1,c1,a2,c2,e2,s1.mono hB,s2.mono hB⟩
def stp (x f y:RR):RR × Int:=if (mulR f y).2≠0 then (zR,(mulR f y).2) else subR x (mulR f y).1
theorem stp_bad {x f y:RR} {c:Int} (h:(mulR f y).2=c) (hc:c≠0):stp x f y=(zR,c):=by unfold stp;rw [h,if_pos hc]
theorem stp_ok {x f y p:RR} (h:mulR f y=(p,0)):stp x f y=subR x p:=by unfold stp;rw [h,if_neg (fun h=>h rfl)]
def updF {α:Type} (f:Nat→α) (t:Nat) (x:α):Nat→α:=fun i=>if i=t then x else f i
theorem updF_same {α:Type} (f:Nat→α) (t:Nat) (x:α):updF f t x t=x:=if_pos rfl
theorem updF_ne {α:Type} {f:Nat→α} {t:Nat} {x:α} {i:Nat} (h:i≠t):updF f t x i=f i:=if_neg h
structure Sys where
 M:Nat→Nat→RR
 S:Nat→RR
 V:Nat→RR
def subK (r:Nat→RR) (f:RR) (o:Nat→RR) (k:Nat):Nat→RR:=fun i=>if i < k then (stp (r i) f (o i)).1 else r i
def subE (r:Nat→RR) (f:RR) (o:Nat→RR) (k:Nat):Int:=frstE (fun i=>(stp (r i) f (o i)).2) k
def elim1 (n s t:Nat) (y:Sys):Sys × Int:=
 if (divR (y.M t s) (y.M s s)).2≠0 then (y,(divR (y.M t s) (y.M s s)).2)
 else if subE (y.M t) (divR (y.M t s) (y.M s s)).1 (y.M s) n≠0 then (y,subE (y.M t) (divR (y.M t s) (y.M s s)).1 (y.M s) n)
 else if (stp (y.S t) (divR (y.M t s) (y.M s s)).1 (y.S s)).2≠0 then (y,(stp (y.S t) (divR (y.M t s) (y.M s s)).1 (y.S s)).2)
 else (⟨updF y.M t (subK (y.M t) (divR (y.M t s) (y.M s s)).1 (y.M s) n),updF y.S t (stp (y.S t) (divR (y.M t s) (y.M s s)).1 (y.S s)).1,y.V⟩,0)
def fwdK (n s:Nat) (y:Sys):Nat→Sys × Int
 | 0=>(y,0)
 | k+1=>if (fwdK n s y k).2≠0 then fwdK n s y k else elim1 n s (s+1+k) (fwdK n s y k).1
def bakK (s:Nat) (y:Sys):Nat→RR × Int
 | 0=>(y.S s,0)
 | k+1=>if (bakK s y k).2≠0 then bakK s y k else stp (bakK s y k).1 (y.M s (s+1+k)) (y.V (s+1+k))
def redS (n:Nat):Nat→Nat→Sys→Sys × Int
 | 0,_,y=>(y,0)
 | k+1,s,y=>
  if (fwdK n s y (n - (s+1))).2≠0 then fwdK n s y (n - (s+1))
  else if (redS n k (s+1) (fwdK n s y (n - (s+1))).1).2≠0 then redS n k (s+1) (fwdK n s y (n - (s+1))).1
  else if (bakK s (redS n k (s+1) (fwdK n s y (n - (s+1))).1).1 (n - (s+1))).2≠0 then ((redS n k (s+1) (fwdK n s y (n - (s+1))).1).1,(bakK s (redS n k (s+1) (fwdK n s y (n - (s+1))).1).1 (n - (s+1))).2)
  else if (divR (bakK s (redS n k (s+1) (fwdK n s y (n - (s+1))).1).1 (n - (s+1))).1 ((redS n k (s+1) (fwdK n s y (n - (s+1))).1).1.M s s)).2≠0 then ((redS n k (s+1) (fwdK n s y (n - (s+1))).1).1,(divR (bakK s (redS n k (s+1) (fwdK n s y (n - (s+1))).1).1 (n - (s+1))).1 ((redS n k (s+1) (fwdK n s y (n - (s+1))).1).1.M s s)).2)
  else ({ (redS n k (s+1) (fwdK n s y (n - (s+1))).1).1 with V:=updF (redS n k (s+1) (fwdK n s y (n - (s+1))).1).1.V s (divR (bakK s (redS n k (s+1) (fwdK n s y (n - (s+1))).1).1 (n - (s+1))).1 ((redS n k (s+1) (fwdK n s y (n - (s+1))).1).1.M s s)).1 },0)
def rowK (d:RR) (l:List Out) (s:Nat):Nat→(Nat→RR) × Int
 | 0=>(updF (fun _=>zR) s (rep ((1:Int):Rat)),0)
 | k+1=>if (rowK d l s k).2≠0 then rowK d l s k
  else if (stp ((rowK d l s k).1 (l.getD k dO).1.toNat) d (l.getD k dO).2).2≠0 then ((rowK d l s k).1,(stp ((rowK d l s k).1 (l.getD k dO).1.toNat) d (l.getD k dO).2).2)
  else (updF (rowK d l s k).1 (l.getD k dO).1.toNat (stp ((rowK d l s k).1 (l.getD k dO).1.toNat) d (l.getD k dO).2).1,0)
def polX (m:MD) (p:List Int) (s:Nat):DAct:=m.act s (p.getD s 0).toNat
def eqnS (m:MD) (p:List Int) (s:Nat):(Nat→RR) × Int:=rowK m.disc (polX m p s).next s (polX m p s).next.length
def sysS (m:MD) (p:List Int):Sys:=⟨fun s=>(eqnS m p s).1,fun s=>(polX m p s).cost,fun _=>zR⟩
def solveS (m:MD) (p:List Int):List RR × Int:=
 if frstE (fun s=>(eqnS m p s).2) p.length≠0 then ([],frstE (fun s=>(eqnS m p s).2) p.length)
 else if (redS p.length p.length 0 (sysS m p)).2≠0 then ([],(redS p.length p.length 0 (sysS m p)).2)
 else ((List.range p.length).map (redS p.length p.length 0 (sysS m p)).1.V,0)
def cwE (m:MD):Int:=if mdE m≠0 then mdE m else if qv m.disc=1 then 1 else 0
def cpE (m:MD) (p:List Int):Int:=if p.length≠m.states.length then 16 else frstE (polE m p) p.length
def evalS (m:MD) (p:List Int):List RR × Int:=
 if cwE m≠0 then ([],cwE m) else if 8 < m.states.length then ([],4) else if cpE m p≠0 then ([],cpE m p) else solveS m p
theorem cmust_ok (b:Bool) (a1 a2:Option Addr) (x1 c1 x2 c2:Nat) (w:World):Calls Try.prog 22 #[.agg #[.bool b,.slice a1 x1 c1,.slice a2 x2 c2],.int .i64 0] w fun e w'=>e=.returned (.agg #[.bool b,.slice a1 x1 c1,.slice a2 x2 c2])∧Ext w w':=by
 have bb0:=((Blk.new w #[.bool b,.slice a1 x1 c1,.slice a2 x2 c2] 25).alloc (.cells #[.bool false,.slice none 0 0,.slice none 0 0] 25));have bb1:=(Blk.new (w.alloc (.cells #[.bool b,.slice a1 x1 c1,.slice a2 x2 c2] 25)) #[.bool false,.slice none 0 0,.slice none 0 0] 25);rw [World.size_alloc] at bb1;have x0:Ext w ((w.alloc (.cells #[.bool b,.slice a1 x1 c1,.slice a2 x2 c2] 25)).alloc (.cells #[.bool false,.slice none 0 0,.slice none 0 0] 25)):=(((Ext.refl w).alloc _).alloc _);have A0:=kI bb0;have A1:=kI bb1;have X:=kI x0;clear x0 bb0 bb1;go_enter Try.func22,Try.ntmps22
 obtain ⟨qA0,fA0,lA0⟩:=A0.o.q3;obtain ⟨qA1,fA1,lA1⟩:=A1.o.q3;go_wp2_with fail;refine bodyPost_ret (v:=.agg #[.bool b,.slice a1 x1 c1,.slice a2 x2 c2]) (by simp only [results,Try.results22];go_simp) rfl ?_;refine ⟨rfl,?_⟩;exact ((Ext.refl _).alloc _).alloc _
theorem cmust_bad (v:Value) (b:Bool) (a1 a2:Option Addr) (x1 c1 x2 c2:Nat) (hv:v=.agg #[.bool b,.slice a1 x1 c1,.slice a2 x2 c2]) {c:Int} (hc:c≠0) (w:World):Calls Try.prog 22 #[v,.int .i64 c] w fun e w'=>e=.panicked [errP c]∧Ext w w':=by
 subst hv;have q1:(c != 0)=true:=by simpa using hc
 have bb0:=((Blk.new w #[.bool b,.slice a1 x1 c1,.slice a2 x2 c2] 25).alloc (.cells #[.bool false,.slice none 0 0,.slice none 0 0] 25));have bb1:=(Blk.new (w.alloc (.cells #[.bool b,.slice a1 x1 c1,.slice a2 x2 c2] 25)) #[.bool false,.slice none 0 0,.slice none 0 0] 25);rw [World.size_alloc] at bb1;have x0:Ext w ((w.alloc (.cells #[.bool b,.slice a1 x1 c1,.slice a2 x2 c2] 25)).alloc (.cells #[.bool false,.slice none 0 0,.slice none 0 0] 25)):=(((Ext.refl w).alloc _).alloc _);have A0:=kI bb0;have A1:=kI bb1;have X:=kI x0;clear x0 bb0 bb1;go_enter Try.func22,Try.ntmps22
 obtain ⟨qA0,fA0,lA0⟩:=A0.o.q3;obtain ⟨qA1,fA1,lA1⟩:=A1.o.q3;go_wp2_with fail;exact bodyPost_panic rfl ⟨rfl,X.o⟩
theorem ccaught_nil (e:Int) (w:World):Calls Try.prog 19 #[.nilIface,.int .i64 e] w fun en w'=>en=.returned (.int .i64 e)∧w'=w:=by
 go_enter Try.func19,Try.ntmps19
 go_wp2
 go_ret;exact ⟨rfl,rfl⟩
theorem ccaught_err (c e:Int) (w:World):Calls Try.prog 19 #[.iface 33 (.int .i64 c),.int .i64 e] w fun en w'=>en=.returned (.int .i64 c)∧w'=w:=by
 have hta:∀ w,(Instr.typeAssert (.iface 33 (.int .i64 c)) 20 33 true).run Try.prog w=.ok (.tuple #[.int .i64 c,.bool true]) w:=fun _=>by first|rfl|kernel_rfl
 go_enter Try.func19,Try.ntmps19
 go_wp2
 go_ret;exact ⟨rfl,rfl⟩
def ckJ (d:RR) (An:Nat) (r:Int × Int) (j:Nat) (v:Value) (W:World):Prop:=
 match j with
 | 0=>v=.pointer (some ⟨An,0,none⟩)
 | 1=>∃ s1 s2 s3 s4,v=.agg #[.bool d.neg,.slice s1 d.num.length s2,.slice s3 d.den.length s4]∧RdR W (.agg #[.bool d.neg,.slice s1 d.num.length s2,.slice s3 d.den.length s4]) d
 | 2=>∃ v',v=v'∧RdR W v' (rep ((1:Int):Rat))
 | 3=>v=.tuple #[.int .i64 r.1,.int .i64 r.2]
 | 4=>v=.tuple #[.int .i64 r.1,.int .i64 r.2]
 | 5=>v=.int .i64 r.1
 | 6=>v=.int .i64 r.2
 | _=>True
theorem ckJ_ext {d:RR} {An:Nat} {r:Int × Int} {j:Nat} {v:Value} {W W':World} (h:ckJ d An r j v W) (x:Ext W W'):ckJ d An r j v W':=by
 match j,h with
 | 0,h=>exact h
 | 1,⟨s1,s2,s3,s4,h1,h2⟩=>exact ⟨s1,s2,s3,s4,h1,h2.ext x⟩
 | 2,⟨v9,h1,h2⟩=>exact ⟨v9,h1,h2.ext x⟩
 | 3,h=>exact h
 | 4,h=>exact h
 | 5,h=>exact h
 | 6,h=>exact h
 | _+7,_=>trivial
theorem cmp_one' (d:RR) (h:chkR d=0):cmpR d (rep ((1:Int):Rat))=(cmpQ (qv d) 1,0):=by
 unfold cmpR chkR2;rw [h,show chkR (rep ((1:Int):Rat))=0 by decide,qv_rep];rfl
theorem ccheck_any (mv:Value) (m:MD) (w:World) (hm:RdM w mv m) (hl:LimM m) :
  Calls Try.prog 20 #[mv] w fun e w'=>e=.returned (.int .i64 (cwE m))∧Ext w w':=by
 have hck:=fun W mv (h:RdM W mv m)=>mdCheck_any mv m W h hl;have HM:=kI hm;have HC:=kI hck;have HL:=kI hl;obtain ⟨m1,n1,m2,n2,m3,n3,rfl,hr,-⟩:=hm;have HD:=kI hr;clear hl hck hr;have bb0:=(Blk.new w #[.bool m.disc.neg,.slice m1 m.disc.num.length n1,.slice m2 m.disc.den.length n2,.slice m3 m.states.length n3] 28);have x0:Ext w (w.alloc (.cells #[.bool m.disc.neg,.slice m1 m.disc.num.length n1,.slice m2 m.disc.den.length n2,.slice m3 m.states.length n3] 28)):=((Ext.refl w).alloc _);have A0:=kI bb0;have X:=kI x0;clear x0 bb0;replace HM:=kI (HM.o.ext X.o);replace HD:=kI (HD.o.ext X.o);go_enter Try.func20,Try.ntmps20
 obtain ⟨qA0,fA0,lA0⟩:=A0.o.q3;go_wp2_with fail;refine (HC.o _ _ HM.o).mono ?_;rintro e w1 ⟨rfl,hx⟩;clear qA0 fA0 lA0;replace HM:=kI (HM.o.ext hx);replace HD:=kI (HD.o.ext hx);replace A0:=kI (A0.o.ext hx);replace X:=kI (X.o.trans hx);clear hx HC;by_cases h1:mdE m=0
 rotate_left
 ·have E:cwE m=mdE m:=by unfold cwE;rw [if_pos h1]
  obtain ⟨c,hc⟩:=gN (mdE m);rw [← hc] at h1 E ⊢;have q1:(c != 0)=true:=by simpa using h1
  have E9:=kI E;clear h1 hc E;go_wp2_with fail;go_ret;exact ⟨by rw [E9.o] <;> rfl,X.o⟩
 have hdv:=(md_valid h1).1;have E:cwE m=if qv m.disc=1 then 1 else 0:=by unfold cwE;rw [if_neg (fun h=>h h1)]
 rw [h1];have E9:=kI E;clear E h1;have HCM:=kI (fun W va vb (h:RdR W va m.disc) (k:RdR W vb (rep ((1:Int):Rat)))=>cmpR_any va vb m.disc (rep ((1:Int):Rat)) W h k HL.o.1 (limR_rep _));have HV:=kI hdv;clear hdv;go_wp2_with fail;have X00:=X;obtain ⟨wB,hwB⟩:=gN (w1);subst hwB;replace X:=kI (Ext.refl wB);refine wp_region_each_float 7 6 (ckJ m.disc w.heap.size (cmpR m.disc (rep ((1:Int):Rat)))) rfl (by kernel_rfl) (by kernel_rfl) (by kernel_rfl) (fun _ _ _ _ h x=>ckJ_ext h x) (fun _ _ d _ _ h=>by cases d <;> exact h) ?_ ?_ ?_
 ·refine ⟨?_,?_,?_,?_,?_,?_,?_,trivial⟩
  ·intro a W hW hB hD K hK;have b1:=hB 1 rfl;simp only [sB] at b1;go_simp;exact hK _ _ (Ext.refl _) rfl
  ·intro a W hW hB hD K hK;obtain ⟨v12,e12,h12⟩:=dpE (hD 0 _ 12 rfl rfl (by kernel_rfl));obtain rfl:=h12;have q9:=(A0.o.ext hW).cell;have l9:=(A0.o.ext hW).lt;go_simp;exact hK _ _ (Ext.refl _) ⟨_,_,_,_,rfl,HD.o.ext hW⟩
  ·intro a W hW hB hD K hK;go_simp;refine (fromR_any 1 W (by decide) (by decide)).mono ?_;rintro e w9 ⟨⟨v,rfl,nn⟩,hx⟩;exact hK _ _ hx ⟨_,rfl,nn.rd⟩
  ·intro a W hW hB hD K hK;obtain ⟨v13,e13,h13⟩:=dpE (hD 1 _ 13 rfl rfl (by kernel_rfl));obtain ⟨x91,x92,x93,x94,rfl,x9h⟩:=h13;obtain ⟨v14,e14,h14⟩:=dpE (hD 2 _ 14 rfl rfl (by kernel_rfl));obtain ⟨y9,rfl,y9h⟩:=h14;go_simp;refine (HCM.o W _ _ x9h y9h).mono ?_;rintro e w9 ⟨rfl,hx⟩;exact hK _ _ hx rfl
  ·intro a W hW hB hD K hK;obtain ⟨v15,e15,h15⟩:=dpE (hD 3 _ 15 rfl rfl (by kernel_rfl));obtain rfl:=h15;go_simp;exact hK _ _ (Ext.refl _) rfl
  ·intro a W hW hB hD K hK;obtain ⟨v11,e11,h11⟩:=dpE (hD 4 _ 11 rfl rfl (by kernel_rfl));obtain rfl:=h11;go_simp;exact hK _ _ (Ext.refl _) rfl
  ·intro a W hW hB hD K hK;obtain ⟨v11,e11,h11⟩:=dpE (hD 4 _ 11 rfl rfl (by kernel_rfl));obtain rfl:=h11;go_simp;exact hK _ _ (Ext.refl _) rfl
 ·intro a W hW hB hD;have h11:=hD 4 _ 11 rfl rfl (by kernel_rfl);obtain ⟨v11,e11⟩:∃ x,a.tmps.getD 11 undef=x:=⟨_,rfl⟩;rw [e11] at h11;obtain rfl:=h11;exact ⟨.int .i64 (cmpR m.disc (rep ((1:Int):Rat))).2,fun w9=>run_extract9 e11 rfl rfl w9,rfl⟩
 intro w5 hx;simp only [Vals,List.take_succ_cons,List.take_zero,List.drop_succ_cons,List.drop_zero];rintro u0 - u1 - u2 - u3 - u4 - u5 h5 u6 h6;obtain rfl:=h5;obtain rfl:=h6;simp only [Act.put,List.setIfInBounds_toArray,List.set_cons_zero,List.set_cons_succ];have X5:=kI (X00.o.trans hx);rw [cmp_one' _ HV.o];dsimp only;by_cases h2:qv m.disc=1
 ·have E:=kI (E9.o.trans (if_pos h2));rw [h2,show cmpQ 1 1=0 by decide];clear E9;go_wp2_with fail;go_ret;exact ⟨by rw [E.o] <;> rfl,X5.o⟩
 have E:=kI (E9.o.trans (if_neg h2));have h3:cmpQ (qv m.disc) 1≠0:=by
  unfold cmpQ;split <;> first|decide|(rw [if_neg h2];decide)
 obtain ⟨c,hc⟩:=gN (cmpQ (qv m.disc) 1);rw [← hc] at h3 ⊢;have q3:(c == 0)=false:=by simpa using h3
 clear h2 hc;go_wp2_with fail;go_ret;exact ⟨by rw [E.o] <;> rfl,X5.o⟩
theorem ccheckP_any (mv pv:Value) (m:MD) (p:List Int) (w:World) (hm:RdM w mv m) (hp:RdI .i64 w pv p) :
  Calls Try.prog 28 #[mv,pv] w fun e w'=>e=.returned (.int .i64 (cpE m p))∧Ext w w':=by
 have HM:=kI hm;have HP:=kI hp;obtain ⟨m1,n1,m2,n2,m3,n3,rfl,-,hs⟩:=hm;have HS:=kI hs;obtain ⟨pa,pc,rfl,hpc,hpm,-⟩:=hp.get;have hpl:p.length≤9223372036854775807:=by omega
 clear hs hp hpc hpm;have bb0:=(Blk.new w #[.bool m.disc.neg,.slice m1 m.disc.num.length n1,.slice m2 m.disc.den.length n2,.slice m3 m.states.length n3] 28);have x0:Ext w (w.alloc (.cells #[.bool m.disc.neg,.slice m1 m.disc.num.length n1,.slice m2 m.disc.den.length n2,.slice m3 m.states.length n3] 28)):=((Ext.refl w).alloc _);have A0:=kI bb0;have X:=kI x0;clear x0 bb0;replace HS:=kI (HS.o.ext X.o);replace HP:=kI (HP.o.ext X.o);go_enter Try.func28,Try.ntmps28
 by_cases h1:p.length=m.states.length
 rotate_left
 ·have E:cpE m p=16:=by unfold cpE;rw [if_pos h1]
  have E9:=kI E;have q1:((p.length:Int) != (m.states.length:Int))=true:=bne_iff_ne.2 (by omega);clear h1 E;obtain ⟨qA0,fA0,lA0⟩:=A0.o.q3;go_wp2_with fail;go_ret;exact ⟨by rw [E9.o] <;> rfl,X.o⟩
 have H1:=kI h1;have E:cpE m p=frstE (polE m p) p.length:=by unfold cpE;rw [if_neg (fun h=>h h1)]
 have E9:=kI E;have q1:((p.length:Int) != (m.states.length:Int))=false:=by simp [h1]
 clear h1 E;obtain ⟨qA0,fA0,lA0⟩:=A0.o.q3;go_wp2_with fail;clear qA0 fA0 lA0;clear q1;obtain ⟨w1,hw1⟩:=gN ((w.alloc (.cells #[.bool m.disc.neg,.slice m1 m.disc.num.length n1,.slice m2 m.disc.den.length n2,.slice m3 m.states.length n3] 28)));rw [← hw1] at HS HP A0 X ⊢;clear hw1;go_loopw [15] (fun i wr=>∃ u:Nat,u≤p.length∧i=.int .i64 u∧(∀ t,t < u→polE m p t=0)∧Ext w1 wr) (fun i _=>p.length - (intOf i).toNat)
 case atStart=>exact ⟨0,Nat.zero_le _,rfl,fun t h=>by omega,Ext.refl _⟩
 case round=>
  obtain ⟨wk,hwk⟩:=gN (wr);subst hwk;obtain ⟨u,hu,rfl,hpo,hxk⟩:=hrel;have PO:=kI hpo;have XK:=kI hxk;have AK:=kI (A0.o.ext hxk);clear hpo hxk;by_cases hul:u < p.length
  ·obtain ⟨xb,xo,rfl,t0,t1⟩:=rdI_at0 (HP.o.ext XK.o) hul;obtain ⟨pk,hpk⟩:=gN (p.getD u 0);rw [← hpk] at t1;have HPK:=kI hpk;clear hpk;have hun:u < m.states.length:=by rw [← H1.o];exact hul
   obtain ⟨sb,so,ai,ci,rfl,s0,s1,-⟩:=(HS.o.ext XK.o).at hun;obtain ⟨al,hal⟩:=gN ((m.states.getD u []).length);have HAL:=kI hal;rw [← hal] at s1;clear hal;have FAIL:Hid ((pk < 0∨(al:Int)≤pk)→frstE (polE m p) p.length=8):=kI (fun h=>by
    have e:polE m p u=8:=by unfold polE;rw [← HPK.o,← HAL.o,if_pos h]
    exact (frstE_at (f:=polE m p) PO.o (by rw [e];decide) hul).trans e)
   have q3:(0:Int)≤(u:Int):=by omega
   have q4:(u:Int) < (p.length:Int):=by omega
   have q5:(u:Int) < (m.states.length:Int):=by omega
   by_cases d1:pk < 0
   ·have E:=kI (E9.o.trans (FAIL.o (.inl d1)));obtain ⟨qAK,fAK,lAK⟩:=AK.o.q3;go_wp2_with fail;go_ret;exact ⟨by rw [E.o] <;> rfl,X.o.trans XK.o⟩
   by_cases d2:(al:Int)≤pk
   ·have E:=kI (E9.o.trans (FAIL.o (.inr d2)));obtain ⟨qAK,fAK,lAK⟩:=AK.o.q3;go_wp2_with fail;go_ret;exact ⟨by rw [E.o] <;> rfl,X.o.trans XK.o⟩
   obtain ⟨qAK,fAK,lAK⟩:=AK.o.q3;go_wp2_with fail;go_roundw
   case rel=>
    refine ⟨u+1,by omega,by go_num,fun t ht=>?_,XK.o⟩;by_cases e:t=u
    ·subst e;unfold polE;rw [← HPK.o,← HAL.o,if_neg (by omega)]
    ·exact PO.o t (by omega)
   case measure=>first|(simp [intOf];done)|(simp [intOf];omega)
  ·obtain rfl:u=p.length:=by omega
   have q6:¬ (p.length:Int) < (p.length:Int):=by omega
   have E:=kI (E9.o.trans (frstE_zero PO.o));go_wp2_with fail;go_ret;exact ⟨by rw [E.o] <;> rfl,X.o.trans XK.o⟩
end Go.Proofs.Ytnnjbaijcaiohaa
