/- Lemmas and walks of this claim. Conditions: as each states. -/
import Derived.Test.YtfflknbeidihoaaStAppT
set_option linter.unusedVariables false
set_option linter.unusedSimpArgs false
namespace Go.Proofs.Ytfflknbeidihoaa
open Go.RowKit
theorem vls_len (v:List RR) (l:List Out):(vls v l).length=l.length:=by simp [vls]
theorem vls_at {v:List RR} {l:List Out} {i:Nat} (h:i < l.length):(vls v l).getD i zR=v.getD (l.getD i dO).1.toNat zR:=by
 unfold vls
 rw [List.getD_eq_getElem?_getD,List.getElem?_map,List.getD_eq_getElem?_getD (l:=l),List.getElem?_eq_getElem h];rfl
theorem prs_lim {l:List Out} (h:∀ i,LimR (l.getD i dO).2):LimL (prs l):=fun i _=>by rw [prs_at];exact h i
theorem vls_lim {v:List RR} {l:List Out} (h:LimL v):LimL (vls v l):=fun i hi=>by
 rw [vls_len] at hi
 rw [vls_at hi]
 by_cases hj:(l.getD i dO).1.toNat < v.length
 ·exact h _ hj
 ·rw [List.getD_eq_getElem?_getD,List.getElem?_eq_none (by omega)];exact zR_lim
theorem score_1 {d co:RR} {ss:List (List DAct)} {v:List RR} {l:List Out} {r:RR} {e:Int} (h:dotR (prs l) (vls v l)=(r,e)) (he:e≠0):scoreS ⟨d,ss⟩ v ⟨co,l⟩=(zR,e):=by
 unfold scoreS;dsimp only;rw [h,if_pos he]
theorem score_2 {d co:RR} {ss:List (List DAct)} {v:List RR} {l:List Out} {r s:RR} {e:Int} (h:dotR (prs l) (vls v l)=(r,0)) (h2:mulR d r=(s,e)) (he:e≠0):scoreS ⟨d,ss⟩ v ⟨co,l⟩=(zR,e):=by
 unfold scoreS;dsimp only;rw [h];dsimp only;rw [if_neg (fun h=>h rfl),h2,if_pos he]
theorem score_3 {d co:RR} {ss:List (List DAct)} {v:List RR} {l:List Out} {r s:RR} (h:dotR (prs l) (vls v l)=(r,0)) (h2:mulR d r=(s,0)):scoreS ⟨d,ss⟩ v ⟨co,l⟩=addR co s:=by
 unfold scoreS;dsimp only;rw [h];dsimp only;rw [if_neg (fun h=>h rfl),h2,if_neg (fun h=>h rfl)]
theorem dotR_lim (a b:List RR):LimR (dotR a b).1:=by
 have key:∀ (la lb:List RR) (s:RR),LimR s→LimR (dotL s la lb).1:=by
  intro la
  induction la with
  | nil=>intro lb s h;rw [dotL_nil];exact h
  | cons x r ih=>
   intro lb s h
   cases lb with
   | nil=>unfold dotL;exact h
   | cons y t=>
    unfold dotL
    split
    ·split
     ·exact ih t _ (addL_lim _ _ zR_lim)
     ·exact zR_lim
    ·exact zR_lim
 unfold dotR
 split
 ·exact key _ _ _ zR_lim
 ·exact zR_lim
set_option maxRecDepth 100000 in
set_option maxHeartbeats 8000000 in
theorem score_any (mv vv xv:Value) (m:MD) (vals:List RR) (x:DAct) (w:World) (hm:RdM w mv m) (hv:RdRs w vv vals) (hx:RdAct w xv x) (hlm:LimR m.disc) (hlv:LimL vals) (hla:LimA x)
  (hto:∀ i,i < x.next.length→0≤(x.next.getD i dO).1∧(x.next.getD i dO).1 < vals.length) (hlen:x.next.length≤64) :
  Calls Try.prog 67 #[mv,vv,xv] w fun e w'=>ResR w w' e (scoreS m vals x)∧Ext w w':=by
 obtain ⟨d,ss⟩:=m
 obtain ⟨co,l⟩:=x
 obtain ⟨m1,n1,m2,n2,m3,n3,rfl,hmd,-⟩:=hm
 obtain ⟨a1,c1,a2,c2,a3,c3,rfl,hco,hos⟩:=hx
 obtain ⟨hla1,hla2⟩:=hla
 dsimp only at hmd hco hos hlm hla1 hla2 hto hlen ⊢
 obtain ⟨av,cv,rfl,hvc,hvm,fv,hvf⟩:=hv.get
 have hvl:vals.length≤9223372036854775807:=by omega
 have HV:=kI hv;have HMD:=kI hmd;have HCO:=kI hco;have HOS:=kI hos;have HLM:=kI hlm;have HLV:=kI hlv;have HL1:=kI hla1;have HL2:=kI hla2;have HTO:=kI hto;have HLEN:=kI hlen
 have hdot:=fun W va vb ha hb=>dotR_any va vb (prs l) (vls vals l) W ha hb (prs_lim hla2) (vls_lim hlv)
 have hdl:=dotR_lim (prs l) (vls vals l)
 have hS1:=fun r e=>score_1 (d:=d) (co:=co) (ss:=ss) (v:=vals) (l:=l) (r:=r) (e:=e)
 have hS2:=fun r s e=>score_2 (d:=d) (co:=co) (ss:=ss) (v:=vals) (l:=l) (r:=r) (s:=s) (e:=e)
 have hS3:=fun r s=>score_3 (d:=d) (co:=co) (ss:=ss) (v:=vals) (l:=l) (r:=r) (s:=s)
 obtain ⟨DT,hDT⟩:∃ t,t=dotR (prs l) (vls vals l):=⟨_,rfl⟩
 rw [← hDT] at hdot hdl hS1 hS2 hS3
 obtain ⟨dr,de⟩:=DT
 dsimp only at hdl
 unfold ResR at hdot
 dsimp only at hdot
 have HDOT:=kI hdot;have HDL:=kI hdl;have HS1:=kI hS1;have HS2:=kI hS2;have HS3:=kI hS3
 clear hv hmd hco hos hlm hlv hla1 hla2 hto hvc hvm fv hvf hdot hdl hS1 hS2 hS3 hDT
 have bb0:=(((Blk.new w #[.bool d.neg,.slice m1 d.num.length n1,.slice m2 d.den.length n2,.slice m3 ss.length n3] 28).alloc (.cells #[.bool co.neg,.slice a1 co.num.length c1,.slice a2 co.den.length c2,.slice a3 l.length c3] 53)).alloc (.cells #[.bool false,.slice none 0 0,.slice none 0 0] 25))
 have bb1:=((Blk.new (w.alloc (.cells #[.bool d.neg,.slice m1 d.num.length n1,.slice m2 d.den.length n2,.slice m3 ss.length n3] 28)) #[.bool co.neg,.slice a1 co.num.length c1,.slice a2 co.den.length c2,.slice a3 l.length c3] 53).alloc (.cells #[.bool false,.slice none 0 0,.slice none 0 0] 25))
 have bb2:=(Blk.new ((w.alloc (.cells #[.bool d.neg,.slice m1 d.num.length n1,.slice m2 d.den.length n2,.slice m3 ss.length n3] 28)).alloc (.cells #[.bool co.neg,.slice a1 co.num.length c1,.slice a2 co.den.length c2,.slice a3 l.length c3] 53)) #[.bool false,.slice none 0 0,.slice none 0 0] 25)
 rw [World.size_alloc] at bb1
 rw [World.size_alloc,World.size_alloc] at bb2
 have x0:Ext w (((w.alloc (.cells #[.bool d.neg,.slice m1 d.num.length n1,.slice m2 d.den.length n2,.slice m3 ss.length n3] 28)).alloc (.cells #[.bool co.neg,.slice a1 co.num.length c1,.slice a2 co.den.length c2,.slice a3 l.length c3] 53)).alloc (.cells #[.bool false,.slice none 0 0,.slice none 0 0] 25)):=((((Ext.refl w).alloc _).alloc _).alloc _)
 have A0:=kI bb0;have A1:=kI bb1;have A2:=kI bb2;have X:=kI x0
 clear x0 bb0 bb1 bb2
 replace HV:=kI (HV.o.ext X.o);replace HMD:=kI (HMD.o.ext X.o);replace HCO:=kI (HCO.o.ext X.o);replace HOS:=kI (HOS.o.ext X.o)
 go_enter Try.func67,Try.ntmps67
 have qA1:=A1.o.cell;have fA1:=A1.o.free;have lA1:=A1.o.lt
 go_wp2_with fail
 clear qA1 fA1 lA1
 obtain ⟨wl,hwl⟩:∃ W,W=(((w.alloc (.cells #[.bool d.neg,.slice m1 d.num.length n1,.slice m2 d.den.length n2,.slice m3 ss.length n3] 28)).alloc (.cells #[.bool co.neg,.slice a1 co.num.length c1,.slice a2 co.den.length c2,.slice a3 l.length c3] 53)).alloc (.cells #[.bool false,.slice none 0 0,.slice none 0 0] 25)):=⟨_,rfl⟩
 rw [← hwl] at HV HMD HCO HOS A0 A1 A2 X ⊢
 clear hwl
 obtain ⟨An,hAn⟩:∃ n,n=w.heap.size:=⟨_,rfl⟩
 rw [← hAn] at A0 A1 A2 ⊢
 have HAN:=kI (Nat.le_of_eq hAn.symm)
 clear hAn
 go_loopw [8,9,17] (fun va vb i wr=>∃ k:Nat,k≤l.length∧i=.int .i64 k∧OwRs wl.heap.size wr va ((prs l).take k)∧OwRs wl.heap.size wr vb ((vls vals l).take k)∧(∀ q,va.ownBlock=some q→vb.ownBlock≠some q)∧Ext wl wr) (fun _ _ i _=>l.length - (intOf i).toNat)
 case atStart=>exact ⟨0,Nat.zero_le _,rfl,OwRow.nil _ _ _ _ _,OwRow.nil _ _ _ _ _,(fun q h=>by cases h),Ext.refl _⟩
 case round=>
  obtain ⟨wq,hwq⟩:∃ W,W=wr:=⟨_,rfl⟩
  subst hwq
  obtain ⟨k,hk,rfl,hoa,hob,hdj,hx⟩:=hrel
  obtain ⟨aa,ac,rfl⟩:=OwRs.shapeT hoa
  obtain ⟨ba,bc,rfl⟩:=OwRs.shapeT hob
  have XK:=kI hx;have OA:=kI hoa;have OB:=kI hob;have DJ:=kI hdj
  clear hx hoa hob hdj
  by_cases hlt:k < l.length
  ·obtain ⟨b,off,p1,d1,p2,d2,rfl,z0,z1,z2,z3,z4,z5⟩:=HOS.o.at hlt
   obtain ⟨t1,t2⟩:=HTO.o k hlt
   have htA:=take_snocD (prs l) k zR (by rw [prs_len];exact hlt)
   have htB:=take_snocD (vls vals l) k zR (by rw [vls_len];exact hlt)
   rw [prs_at] at htA
   rw [vls_at hlt] at htB
   have hlA:((prs l).take k).length=k:=by rw [List.length_take,prs_len];omega
   have hlB:((vls vals l).take k).length=k:=by rw [List.length_take,vls_len];omega
   obtain ⟨y,hyy⟩:∃ y,y=l.getD k dO:=⟨_,rfl⟩
   rw [← hyy] at z1 z2 z3 z4 z5 t1 t2 htA htB
   obtain ⟨tw,ry⟩:=y
   dsimp only at z1 z2 z3 z4 z5 t1 t2 htA htB
   obtain ⟨yi,hyi⟩:∃ n:Nat,tw=n:=⟨tw.toNat,by omega⟩
   rw [hyi,Int.toNat_natCast] at htB
   rw [hyi] at z1 t1 t2
   clear hyi
   have hvl2:yi < vals.length:=by omega
   obtain ⟨bw,ow,s1,s2,s3,s4,rfl,u0,u1,u2,u3,u4⟩:=HV.o.at hvl2
   obtain ⟨rz,hrz⟩:∃ r,r=vals.getD yi zR:=⟨_,rfl⟩
   rw [← hrz] at u1 u2 u3 u4 htB
   have eA:=ElR.old z5 (Nat.le_refl _)
   have eB:=ElR.old u4 (Nat.le_refl _)
   have VC:Hid (RdAt wl bw (ow+yi*3) rz s1 s2 s3 s4):=kI ⟨u0,u1,u2,u3⟩
   have EA:=kI eA;have EB:=kI eB;have TA:=kI htA;have TB:=kI htB;have LA:=kI hlA;have LB:=kI hlB
   have HKB:=kI (show k≤64 by have:=HLEN.o;omega)
   have w0:=Nat.lt_of_lt_of_le z0 XK.o.size
   have w1:=(XK.o.cell (p:=⟨b,off+k*4,none⟩) z0).trans z1;have w2:=(XK.o.cell (p:=⟨b,off+k*4+1,none⟩) z0).trans z2;have w3:=(XK.o.cell (p:=⟨b,off+k*4+2,none⟩) z0).trans z3;have w4:=(XK.o.cell (p:=⟨b,off+k*4+3,none⟩) z0).trans z4
   have q2:(0:Int)≤(k:Int):=by omega
   have q3:(k:Int) < (l.length:Int):=by omega
   have q4:(0:Int)≤(yi:Int):=by omega
   have q5:(yi:Int) < (vals.length:Int):=by omega
   rw [LA.o,LB.o]
   clear z0 z1 z2 z3 z4 z5 u0 u1 u2 u3 u4 eA eB htA htB hlA hlB hrz hyy t1 t2 hvl2
   go_wp2_with fail
   obtain ⟨wb,hwb⟩:∃ W,W=wq.alloc (.cells #[.int .i64 (yi:Nat),.bool ry.neg,.slice p1 ry.num.length d1,.slice p2 ry.den.length d2] 77):=⟨_,rfl⟩
   have xb:Ext wq wb:=by rw [hwb];exact (Ext.refl _).alloc _
   have by0:Blk wb wq.heap.size #[.int .i64 (yi:Nat),.bool ry.neg,.slice p1 ry.num.length d1,.slice p2 ry.den.length d2] 77:=by rw [hwb];exact Blk.new _ _ _
   rw [← hwb]
   obtain ⟨ny,hny⟩:∃ n,n=wq.heap.size:=⟨_,rfl⟩
   rw [← hny] at by0 ⊢
   have BY:=kI by0;have XW:=kI (XK.o.trans xb);replace OA:=kI (OwRs.ext' OA.o xb);replace OB:=kI (OwRs.ext' OB.o xb)
   replace EA:=kI (EA.o.ext XW.o);replace EB:=kI (EB.o.ext XW.o)
   have KW:Hid (Keeps wl.heap.size 25 wb wb):=kI (Keeps.ext (Ext.refl _))
   clear xb by0 hwb hny w0 w1 w2 w3 w4
   refine wp_region_held_drew (S:=(fun W=>(W.cell? ⟨ny,0,none⟩=some (.int .i64 (yi:Nat))∧W.cell? ⟨ny,1,none⟩=some (.bool ry.neg)∧W.cell? ⟨ny,2,none⟩=some (.slice p1 ry.num.length d1)∧W.cell? ⟨ny,3,none⟩=some (.slice p2 ry.den.length d2))∧(W.cell? ⟨bw,ow+yi*3,none⟩=some (.bool rz.neg)∧W.cell? ⟨bw,ow+yi*3+1,none⟩=some (.slice s1 rz.num.length s2)∧W.cell? ⟨bw,ow+yi*3+2,none⟩=some (.slice s3 rz.den.length s4)))) (by kernel_rfl) ?_ (fun hHeld=>?_)
   ·exact ⟨c4T BY.o.drew,VC.o.c3 XW.o.drew⟩
   refine wpAnyH_take (i:=0) (v:=?_) rfl (by kernel_rfl) (by kernel_rfl) (by kernel_rfl) (fun _ _ _ h=>h) (Or.inl ⟨by rfl,?_⟩) (by assumption) ?_
   rotate_left
   ·(intro w hSw;(try dsimp only at hSw);go_simp;first|done|with_reducible rfl)
   (try simp only [Act.put,List.getElem_toArray,List.getElem_cons_zero,List.getElem_cons_succ,List.setIfInBounds_toArray,List.set_cons_zero,List.set_cons_succ])
   refine wpAnyH_take (i:=1) (v:=?_) rfl (by kernel_rfl) (by kernel_rfl) (by kernel_rfl) (fun _ _ _ h=>h) (Or.inl ⟨by rfl,?_⟩) (by assumption) ?_
   rotate_left
   ·(intro w hSw;(try dsimp only at hSw);go_simp;first|done|with_reducible rfl)
   (try simp only [Act.put,List.getElem_toArray,List.getElem_cons_zero,List.getElem_cons_succ,List.setIfInBounds_toArray,List.set_cons_zero,List.set_cons_succ])
   refine wpAnyH_take (i:=2) (v:=?_) rfl (by kernel_rfl) (by kernel_rfl) (by kernel_rfl) (fun _ _ _ h=>h) (Or.inl ⟨by rfl,?_⟩) (by assumption) ?_
   rotate_left
   ·(intro w hSw;(try dsimp only at hSw);go_simp;first|done|with_reducible rfl)
   (try simp only [Act.put,List.getElem_toArray,List.getElem_cons_zero,List.getElem_cons_succ,List.setIfInBounds_toArray,List.set_cons_zero,List.set_cons_succ])
   refine wpAnyH_take (i:=5) (v:=?_) rfl (by kernel_rfl) (by kernel_rfl) (by kernel_rfl) (fun _ _ _ h=>h) (Or.inl ⟨by rfl,?_⟩) (by assumption) ?_
   rotate_left
   ·(intro w hSw;(try dsimp only at hSw);go_simp;first|done|with_reducible rfl)
   (try simp only [Act.put,List.getElem_toArray,List.getElem_cons_zero,List.getElem_cons_succ,List.setIfInBounds_toArray,List.set_cons_zero,List.set_cons_succ])
   refine wpAnyH_take (i:=6) (v:=?_) rfl (by kernel_rfl) (by kernel_rfl) (by kernel_rfl) (fun _ _ _ h=>h) (Or.inl ⟨by rfl,?_⟩) (by assumption) ?_
   rotate_left
   ·(intro w hSw;(try dsimp only at hSw);go_simp;first|done|with_reducible rfl)
   (try simp only [Act.put,List.getElem_toArray,List.getElem_cons_zero,List.getElem_cons_succ,List.setIfInBounds_toArray,List.set_cons_zero,List.set_cons_succ])
   refine wpAnyH_take (i:=7) (v:=?_) rfl (by kernel_rfl) (by kernel_rfl) (by kernel_rfl) (fun _ _ _ h=>h) (Or.inl ⟨by rfl,?_⟩) (by assumption) ?_
   rotate_left
   ·(intro w hSw;(try dsimp only at hSw);go_simp;first|done|with_reducible rfl)
   (try simp only [Act.put,List.getElem_toArray,List.getElem_cons_zero,List.getElem_cons_succ,List.setIfInBounds_toArray,List.set_cons_zero,List.set_cons_succ])
   refine wpAnyH_take (i:=8) (v:=?_) rfl (by kernel_rfl) (by kernel_rfl) (by kernel_rfl) (fun _ _ _ h=>h) (Or.inl ⟨by rfl,?_⟩) (by assumption) ?_
   rotate_left
   ·(intro w hSw;(try dsimp only at hSw);go_simp;first|done|with_reducible rfl)
   (try simp only [Act.put,List.getElem_toArray,List.getElem_cons_zero,List.getElem_cons_succ,List.setIfInBounds_toArray,List.set_cons_zero,List.set_cons_succ])
   refine wpAnyH_take (i:=9) (v:=?_) rfl (by kernel_rfl) (by kernel_rfl) (by kernel_rfl) (fun _ _ _ h=>h) (Or.inl ⟨by rfl,?_⟩) (by assumption) ?_
   rotate_left
   ·(intro w hSw;(try dsimp only at hSw);go_simp;first|done|with_reducible rfl)
   (try simp only [Act.put,List.getElem_toArray,List.getElem_cons_zero,List.getElem_cons_succ,List.setIfInBounds_toArray,List.set_cons_zero,List.set_cons_succ])
   refine wpAnyH_take (i:=10) (v:=?_) rfl (by kernel_rfl) (by kernel_rfl) (by kernel_rfl) (fun _ _ _ h=>h) (Or.inl ⟨by rfl,?_⟩) (by assumption) ?_
   rotate_left
   ·(intro w hSw;(try dsimp only at hSw);go_simp;first|done|with_reducible rfl)
   (try simp only [Act.put,List.getElem_toArray,List.getElem_cons_zero,List.getElem_cons_succ,List.setIfInBounds_toArray,List.set_cons_zero,List.set_cons_succ])
   obtain ⟨va,hva⟩:∃ v,v=Value.slice aa k ac:=⟨_,rfl⟩
   obtain ⟨vb,hvb⟩:∃ v,v=Value.slice ba k bc:=⟨_,rfl⟩
   rw [LA.o] at OA DJ;rw [LB.o] at OB DJ
   rw [← hva] at OA DJ ⊢
   rw [← hvb] at OB DJ ⊢
   clear hva hvb
   have ALT:=kI (fun n (h:va.ownBlock=some n)=>(OwRs.own_atT OA.o h).2.2);have BLT:=kI (fun n (h:vb.ownBlock=some n)=>(OwRs.own_atT OB.o h).2.2)
   have XB:Hid (wb.heap.size≤wb.heap.size):=kI (Nat.le_refl _)
   apply viaT (F:=fun W x y=>OwRs wl.heap.size W x (((prs l).take k) ++ [ry])∧OwRs wl.heap.size W y (((vls vals l).take k) ++ [rz])∧(∀ q,x.ownBlock=some q→y.ownBlock≠some q)∧Ext wl W∧(fun W=>(W.cell? ⟨ny,0,none⟩=some (.int .i64 (yi:Nat))∧W.cell? ⟨ny,1,none⟩=some (.bool ry.neg)∧W.cell? ⟨ny,2,none⟩=some (.slice p1 ry.num.length d1)∧W.cell? ⟨ny,3,none⟩=some (.slice p2 ry.den.length d2))∧(W.cell? ⟨bw,ow+yi*3,none⟩=some (.bool rz.neg)∧W.cell? ⟨bw,ow+yi*3+1,none⟩=some (.slice s1 rz.num.length s2)∧W.cell? ⟨bw,ow+yi*3+2,none⟩=some (.slice s3 rz.den.length s4))) W)
   ·intro HV
    refine wpAnyH_ready (rs:=[3,11]) (by kernel_rfl) (by simp) ?_
    refine AllReadyH.cons rfl (fun K hK=>?_) (AllReadyH.cons rfl (fun K hK=>?_) AllReadyH.nil)
    ·go_simp
     have hx:Ext wb ((wb.alloc (.cells #[.bool ry.neg,.slice p1 ry.num.length d1,.slice p2 ry.den.length d2] 25)).drew):=((Ext.refl _).alloc _).drew
     have bz:Blk ((wb.alloc (.cells #[.bool ry.neg,.slice p1 ry.num.length d1,.slice p2 ry.den.length d2] 25)).drew) wb.heap.size [.bool ry.neg,.slice p1 ry.num.length d1,.slice p2 ry.den.length d2].toArray 25:=(Blk.new wb #[.bool ry.neg,.slice p1 ry.num.length d1,.slice p2 ry.den.length d2] 25).drew
     obtain ⟨e1,hwe1⟩:∃ W,W=(wb.alloc (.cells #[.bool ry.neg,.slice p1 ry.num.length d1,.slice p2 ry.den.length d2] 25)).drew:=⟨_,rfl⟩
     rw [← hwe1] at hx bz ⊢
     obtain ⟨N1n,hN1n⟩:∃ n,n=wb.heap.size:=⟨_,rfl⟩
     rw [← hN1n] at bz ⊢
     have hnb:wb.heap.size≤N1n:=by rw [hN1n];exact XB.o
     have OA:=kI (OwRs.ext' OA.o hx);have OB:=kI (OwRs.ext' OB.o hx);have EA:=kI (EA.o.ext hx);have EB:=kI (EB.o.ext hx);have KW:=kI (KW.o.trans (Keeps.ext hx));have XW:=kI (XW.o.trans hx)
     have LN1:=kI hnb;have XB:Hid (wb.heap.size≤e1.heap.size):=kI (Nat.le_trans hnb (Nat.le_of_lt bz.lt))
     have N1:=kI bz;clear hx bz hwe1 hN1n hnb
     first|refine hK.out _ _ ?_ (fun hHeld=>?_)|(go_wp2_with fail;refine hK.out _ _ ?_ (fun hHeld=>?_))
     ·exact ⟨c4T (BY.o.keeps KW.o (by decide)),VC.o.c3 XW.o⟩
     clear hK K
     (try simp only [Act.put,List.getElem_toArray,List.getElem_cons_zero,List.getElem_cons_succ,List.setIfInBounds_toArray,List.set_cons_zero,List.set_cons_succ])
     refine wpAnyH_ready (rs:=[4,11]) (by kernel_rfl) (by simp) ?_
     refine AllReadyH.cons rfl (fun K hK=>?_) (AllReadyH.cons rfl (fun K hK=>?_) AllReadyH.nil)
     ·rw [if_pos (wanted_none rfl)]
      refine wp_append_rowF e1 _ _ _ rfl wl.heap.size 25 (.agg #[.bool false,.slice none 0 0,.slice none 0 0]) 3 56 Try.underlying29 Try.infoR rfl (by decide) (ElR.keeps (by decide)) _ _ OA.o rfl [.bool ry.neg,.slice p1 ry.num.length d1,.slice p2 ry.den.length d2] rfl (by simp [Value.oneCell']) ry EA.o N1n N1.o rfl (by have:=LA.o;have:=HKB.o;omega) (by have:=LA.o;have:=HKB.o;omega) XW.o.size ?_
      intro g2 cap2 e2 hrow hgr hfr
      have hk:=OwRs.gKeepsT OA.o hgr
      have hown:(Value.slice (some ⟨g2,0,none⟩) (((prs l).take k).length+1) cap2).ownBlock=some g2:=rfl
      obtain ⟨ua,hu⟩:∃ u,u=Value.slice (some ⟨g2,0,none⟩) (((prs l).take k).length+1) cap2:=⟨_,rfl⟩
      rw [← hu] at hrow hown ⊢
      clear hu
      have hd:=dj_stepT DJ.o BLT.o hown (hfr.imp id (Nat.le_trans XB.o))
      have OB:=kI (OwRs.keptT OB.o hgr (dj_neT DJ.o) (fun n hn=>by obtain ⟨h1,h2,_⟩:=OwRs.own_atT OA.o hn;exact ⟨h1.choose,h1.choose_spec,h2⟩))
      have EB:=kI (ElR.keeps (by decide) _ _ _ _ EB.o hk)
      have DJ:=kI hd;have OA:=kI hrow;have ALT:Hid (∀ n,ua.ownBlock=some n→n < e2.heap.size):=kI (fun n (h:ua.ownBlock=some n)=>(OwRs.own_atT hrow h).2.2)
      have KW:=kI (KW.o.trans hk);have XW:Hid (Ext wl e2):=kI (Below.trans XW.o (hk.below XW.o.size));have XB:Hid (wb.heap.size≤e2.heap.size):=kI (Nat.le_trans XB.o hgr.size)
      clear hrow hgr hfr hk hown hd
      first|refine hK.out _ _ ?_ (fun hHeld=>?_)|(go_wp2_with fail;refine hK.out _ _ ?_ (fun hHeld=>?_))
      ·exact ⟨c4T (BY.o.keeps KW.o (by decide)),VC.o.c3 XW.o⟩
      clear hK K
      (try simp only [Act.put,List.getElem_toArray,List.getElem_cons_zero,List.getElem_cons_succ,List.setIfInBounds_toArray,List.set_cons_zero,List.set_cons_succ])
      refine wpAnyH_ready (rs:=[11]) (by kernel_rfl) (by simp) ?_
      refine AllReadyH.cons rfl (fun K hK=>?_) ?_
      rotate_left
      ·exact AllReadyH.nil
      go_simp
      have hx:Ext e2 ((e2.alloc (.cells #[.bool rz.neg,.slice s1 rz.num.length s2,.slice s3 rz.den.length s4] 25))):=(Ext.refl _).alloc _
      have bz:Blk ((e2.alloc (.cells #[.bool rz.neg,.slice s1 rz.num.length s2,.slice s3 rz.den.length s4] 25))) e2.heap.size [.bool rz.neg,.slice s1 rz.num.length s2,.slice s3 rz.den.length s4].toArray 25:=Blk.new e2 #[.bool rz.neg,.slice s1 rz.num.length s2,.slice s3 rz.den.length s4] 25
      obtain ⟨e3,hwe3⟩:∃ W,W=(e2.alloc (.cells #[.bool rz.neg,.slice s1 rz.num.length s2,.slice s3 rz.den.length s4] 25)):=⟨_,rfl⟩
      rw [← hwe3] at hx bz ⊢
      obtain ⟨N2n,hN2n⟩:∃ n,n=e2.heap.size:=⟨_,rfl⟩
      rw [← hN2n] at bz ⊢
      have hnb:wb.heap.size≤N2n:=by rw [hN2n];exact XB.o
      have OA:=kI (OwRs.ext' OA.o hx);have OB:=kI (OwRs.ext' OB.o hx);have EB:=kI (EB.o.ext hx);have KW:=kI (KW.o.trans (Keeps.ext hx));have XW:=kI (XW.o.trans hx)
      have ALT:Hid (∀ n,ua.ownBlock=some n→n < e3.heap.size):=kI (fun n h=>Nat.lt_of_lt_of_le (ALT.o n h) hx.size)
      have LN2:=kI hnb;have XB:Hid (wb.heap.size≤e3.heap.size):=kI (Nat.le_trans hnb (Nat.le_of_lt bz.lt))
      have N2:=kI bz;clear hx bz hwe3 hN2n hnb
      first|refine hK.out _ _ ?_ (fun hHeld=>?_)|(go_wp2_with fail;refine hK.out _ _ ?_ (fun hHeld=>?_))
      ·exact ⟨c4T (BY.o.keeps KW.o (by decide)),VC.o.c3 XW.o⟩
      clear hK K
      (try simp only [Act.put,List.getElem_toArray,List.getElem_cons_zero,List.getElem_cons_succ,List.setIfInBounds_toArray,List.set_cons_zero,List.set_cons_succ])
      refine wpAnyH_ready (rs:=[12]) (by kernel_rfl) (by simp) ?_
      refine AllReadyH.cons rfl (fun K hK=>?_) ?_
      rotate_left
      ·exact AllReadyH.nil
      rw [if_pos (wanted_none rfl)]
      refine wp_append_rowF e3 _ _ _ rfl wl.heap.size 25 (.agg #[.bool false,.slice none 0 0,.slice none 0 0]) 3 56 Try.underlying29 Try.infoR rfl (by decide) (ElR.keeps (by decide)) _ _ OB.o rfl [.bool rz.neg,.slice s1 rz.num.length s2,.slice s3 rz.den.length s4] rfl (by simp [Value.oneCell']) rz EB.o N2n N2.o rfl (by have:=LB.o;have:=HKB.o;omega) (by have:=LB.o;have:=HKB.o;omega) XW.o.size ?_
      intro g4 cap4 e4 hrow hgr hfr
      have hk:=OwRs.gKeepsT OB.o hgr
      have hown:(Value.slice (some ⟨g4,0,none⟩) (((vls vals l).take k).length+1) cap4).ownBlock=some g4:=rfl
      obtain ⟨ub,hu⟩:∃ u,u=Value.slice (some ⟨g4,0,none⟩) (((vls vals l).take k).length+1) cap4:=⟨_,rfl⟩
      rw [← hu] at hrow hown ⊢
      clear hu
      have hd:=dj_symmT (dj_stepT (dj_symmT DJ.o) ALT.o hown hfr)
      have OA:=kI (OwRs.keptT OA.o hgr (dj_neT (dj_symmT DJ.o)) (fun n hn=>by obtain ⟨h1,h2,_⟩:=OwRs.own_atT OB.o hn;exact ⟨h1.choose,h1.choose_spec,h2⟩))
      have DJ:=kI hd;have OB:=kI hrow
      have KW:=kI (KW.o.trans hk);have XW:Hid (Ext wl e4):=kI (Below.trans XW.o (hk.below XW.o.size));have XB:Hid (wb.heap.size≤e4.heap.size):=kI (Nat.le_trans XB.o hgr.size)
      clear hrow hgr hfr hk hown hd
      first|refine hK.out _ _ ?_ (fun hHeld=>?_)|(go_wp2_with fail;refine hK.out _ _ ?_ (fun hHeld=>?_))
      ·exact ⟨c4T (BY.o.keeps KW.o (by decide)),VC.o.c3 XW.o⟩
      clear hK K
      (try simp only [Act.put,List.getElem_toArray,List.getElem_cons_zero,List.getElem_cons_succ,List.setIfInBounds_toArray,List.set_cons_zero,List.set_cons_succ])
      exact HV e4 ua ub N1n N2n ⟨OA.o,OB.o,DJ.o,XW.o,⟨c4T (BY.o.keeps KW.o (by decide)),VC.o.c3 XW.o⟩⟩
     ·go_simp
      have hx:Ext e1 ((e1.alloc (.cells #[.bool rz.neg,.slice s1 rz.num.length s2,.slice s3 rz.den.length s4] 25))):=(Ext.refl _).alloc _
      have bz:Blk ((e1.alloc (.cells #[.bool rz.neg,.slice s1 rz.num.length s2,.slice s3 rz.den.length s4] 25))) e1.heap.size [.bool rz.neg,.slice s1 rz.num.length s2,.slice s3 rz.den.length s4].toArray 25:=Blk.new e1 #[.bool rz.neg,.slice s1 rz.num.length s2,.slice s3 rz.den.length s4] 25
      obtain ⟨e2,hwe2⟩:∃ W,W=(e1.alloc (.cells #[.bool rz.neg,.slice s1 rz.num.length s2,.slice s3 rz.den.length s4] 25)):=⟨_,rfl⟩
      rw [← hwe2] at hx bz ⊢
      obtain ⟨N2n,hN2n⟩:∃ n,n=e1.heap.size:=⟨_,rfl⟩
      rw [← hN2n] at bz ⊢
      have hnb:wb.heap.size≤N2n:=by rw [hN2n];exact XB.o
      have OA:=kI (OwRs.ext' OA.o hx);have OB:=kI (OwRs.ext' OB.o hx);have EA:=kI (EA.o.ext hx);have EB:=kI (EB.o.ext hx);have KW:=kI (KW.o.trans (Keeps.ext hx));have XW:=kI (XW.o.trans hx)
      have N1:=kI (N1.o.ext hx)
      have LN2:=kI hnb;have XB:Hid (wb.heap.size≤e2.heap.size):=kI (Nat.le_trans hnb (Nat.le_of_lt bz.lt))
      have N2:=kI bz;clear hx bz hwe2 hN2n hnb
      first|refine hK.out _ _ ?_ (fun hHeld=>?_)|(go_wp2_with fail;refine hK.out _ _ ?_ (fun hHeld=>?_))
      ·exact ⟨c4T (BY.o.keeps KW.o (by decide)),VC.o.c3 XW.o⟩
      clear hK K
      (try simp only [Act.put,List.getElem_toArray,List.getElem_cons_zero,List.getElem_cons_succ,List.setIfInBounds_toArray,List.set_cons_zero,List.set_cons_succ])
      refine wpAnyH_ready (rs:=[4]) (by kernel_rfl) (by simp) ?_
      refine AllReadyH.cons rfl (fun K hK=>?_) ?_
      rotate_left
      ·exact AllReadyH.nil
      rw [if_pos (wanted_none rfl)]
      refine wp_append_rowF e2 _ _ _ rfl wl.heap.size 25 (.agg #[.bool false,.slice none 0 0,.slice none 0 0]) 3 56 Try.underlying29 Try.infoR rfl (by decide) (ElR.keeps (by decide)) _ _ OA.o rfl [.bool ry.neg,.slice p1 ry.num.length d1,.slice p2 ry.den.length d2] rfl (by simp [Value.oneCell']) ry EA.o N1n N1.o rfl (by have:=LA.o;have:=HKB.o;omega) (by have:=LA.o;have:=HKB.o;omega) XW.o.size ?_
      intro g3 cap3 e3 hrow hgr hfr
      have hk:=OwRs.gKeepsT OA.o hgr
      have hown:(Value.slice (some ⟨g3,0,none⟩) (((prs l).take k).length+1) cap3).ownBlock=some g3:=rfl
      obtain ⟨ua,hu⟩:∃ u,u=Value.slice (some ⟨g3,0,none⟩) (((prs l).take k).length+1) cap3:=⟨_,rfl⟩
      rw [← hu] at hrow hown ⊢
      clear hu
      have hd:=dj_stepT DJ.o BLT.o hown (hfr.imp id (Nat.le_trans XB.o))
      have OB:=kI (OwRs.keptT OB.o hgr (dj_neT DJ.o) (fun n hn=>by obtain ⟨h1,h2,_⟩:=OwRs.own_atT OA.o hn;exact ⟨h1.choose,h1.choose_spec,h2⟩))
      have EB:=kI (ElR.keeps (by decide) _ _ _ _ EB.o hk)
      have N2:Hid (Blk e3 N2n [.bool rz.neg,.slice s1 rz.num.length s2,.slice s3 rz.den.length s4].toArray 25):=kI ((hgr.block _ N2.o.lt (fun e=>by have:=ALT.o _ e.symm;have:=LN2.o;omega)).trans N2.o)
      have DJ:=kI hd;have OA:=kI hrow;have ALT:Hid (∀ n,ua.ownBlock=some n→n < e3.heap.size):=kI (fun n (h:ua.ownBlock=some n)=>(OwRs.own_atT hrow h).2.2)
      have KW:=kI (KW.o.trans hk);have XW:Hid (Ext wl e3):=kI (Below.trans XW.o (hk.below XW.o.size));have XB:Hid (wb.heap.size≤e3.heap.size):=kI (Nat.le_trans XB.o hgr.size)
      clear hrow hgr hfr hk hown hd
      first|refine hK.out _ _ ?_ (fun hHeld=>?_)|(go_wp2_with fail;refine hK.out _ _ ?_ (fun hHeld=>?_))
      ·exact ⟨c4T (BY.o.keeps KW.o (by decide)),VC.o.c3 XW.o⟩
      clear hK K
      (try simp only [Act.put,List.getElem_toArray,List.getElem_cons_zero,List.getElem_cons_succ,List.setIfInBounds_toArray,List.set_cons_zero,List.set_cons_succ])
      refine wpAnyH_ready (rs:=[12]) (by kernel_rfl) (by simp) ?_
      refine AllReadyH.cons rfl (fun K hK=>?_) ?_
      rotate_left
      ·exact AllReadyH.nil
      rw [if_pos (wanted_none rfl)]
      refine wp_append_rowF e3 _ _ _ rfl wl.heap.size 25 (.agg #[.bool false,.slice none 0 0,.slice none 0 0]) 3 56 Try.underlying29 Try.infoR rfl (by decide) (ElR.keeps (by decide)) _ _ OB.o rfl [.bool rz.neg,.slice s1 rz.num.length s2,.slice s3 rz.den.length s4] rfl (by simp [Value.oneCell']) rz EB.o N2n N2.o rfl (by have:=LB.o;have:=HKB.o;omega) (by have:=LB.o;have:=HKB.o;omega) XW.o.size ?_
      intro g4 cap4 e4 hrow hgr hfr
      have hk:=OwRs.gKeepsT OB.o hgr
      have hown:(Value.slice (some ⟨g4,0,none⟩) (((vls vals l).take k).length+1) cap4).ownBlock=some g4:=rfl
      obtain ⟨ub,hu⟩:∃ u,u=Value.slice (some ⟨g4,0,none⟩) (((vls vals l).take k).length+1) cap4:=⟨_,rfl⟩
      rw [← hu] at hrow hown ⊢
      clear hu
      have hd:=dj_symmT (dj_stepT (dj_symmT DJ.o) ALT.o hown hfr)
      have OA:=kI (OwRs.keptT OA.o hgr (dj_neT (dj_symmT DJ.o)) (fun n hn=>by obtain ⟨h1,h2,_⟩:=OwRs.own_atT OB.o hn;exact ⟨h1.choose,h1.choose_spec,h2⟩))
      have DJ:=kI hd;have OB:=kI hrow
      have KW:=kI (KW.o.trans hk);have XW:Hid (Ext wl e4):=kI (Below.trans XW.o (hk.below XW.o.size));have XB:Hid (wb.heap.size≤e4.heap.size):=kI (Nat.le_trans XB.o hgr.size)
      clear hrow hgr hfr hk hown hd
      first|refine hK.out _ _ ?_ (fun hHeld=>?_)|(go_wp2_with fail;refine hK.out _ _ ?_ (fun hHeld=>?_))
      ·exact ⟨c4T (BY.o.keeps KW.o (by decide)),VC.o.c3 XW.o⟩
      clear hK K
      (try simp only [Act.put,List.getElem_toArray,List.getElem_cons_zero,List.getElem_cons_succ,List.setIfInBounds_toArray,List.set_cons_zero,List.set_cons_succ])
      exact HV e4 ua ub N1n N2n ⟨OA.o,OB.o,DJ.o,XW.o,⟨c4T (BY.o.keeps KW.o (by decide)),VC.o.c3 XW.o⟩⟩
    ·go_simp
     have hx:Ext wb ((wb.alloc (.cells #[.bool rz.neg,.slice s1 rz.num.length s2,.slice s3 rz.den.length s4] 25)).drew):=((Ext.refl _).alloc _).drew
     have bz:Blk ((wb.alloc (.cells #[.bool rz.neg,.slice s1 rz.num.length s2,.slice s3 rz.den.length s4] 25)).drew) wb.heap.size [.bool rz.neg,.slice s1 rz.num.length s2,.slice s3 rz.den.length s4].toArray 25:=(Blk.new wb #[.bool rz.neg,.slice s1 rz.num.length s2,.slice s3 rz.den.length s4] 25).drew
     obtain ⟨e1,hwe1⟩:∃ W,W=(wb.alloc (.cells #[.bool rz.neg,.slice s1 rz.num.length s2,.slice s3 rz.den.length s4] 25)).drew:=⟨_,rfl⟩
     rw [← hwe1] at hx bz ⊢
     obtain ⟨N2n,hN2n⟩:∃ n,n=wb.heap.size:=⟨_,rfl⟩
     rw [← hN2n] at bz ⊢
     have hnb:wb.heap.size≤N2n:=by rw [hN2n];exact XB.o
     have OA:=kI (OwRs.ext' OA.o hx);have OB:=kI (OwRs.ext' OB.o hx);have EA:=kI (EA.o.ext hx);have EB:=kI (EB.o.ext hx);have KW:=kI (KW.o.trans (Keeps.ext hx));have XW:=kI (XW.o.trans hx)
     have LN2:=kI hnb;have XB:Hid (wb.heap.size≤e1.heap.size):=kI (Nat.le_trans hnb (Nat.le_of_lt bz.lt))
     have N2:=kI bz;clear hx bz hwe1 hN2n hnb
     first|refine hK.out _ _ ?_ (fun hHeld=>?_)|(go_wp2_with fail;refine hK.out _ _ ?_ (fun hHeld=>?_))
     ·exact ⟨c4T (BY.o.keeps KW.o (by decide)),VC.o.c3 XW.o⟩
     clear hK K
     (try simp only [Act.put,List.getElem_toArray,List.getElem_cons_zero,List.getElem_cons_succ,List.setIfInBounds_toArray,List.set_cons_zero,List.set_cons_succ])
     refine wpAnyH_ready (rs:=[3]) (by kernel_rfl) (by simp) ?_
     refine AllReadyH.cons rfl (fun K hK=>?_) ?_
     rotate_left
     ·exact AllReadyH.nil
     go_simp
     have hx:Ext e1 ((e1.alloc (.cells #[.bool ry.neg,.slice p1 ry.num.length d1,.slice p2 ry.den.length d2] 25))):=(Ext.refl _).alloc _
     have bz:Blk ((e1.alloc (.cells #[.bool ry.neg,.slice p1 ry.num.length d1,.slice p2 ry.den.length d2] 25))) e1.heap.size [.bool ry.neg,.slice p1 ry.num.length d1,.slice p2 ry.den.length d2].toArray 25:=Blk.new e1 #[.bool ry.neg,.slice p1 ry.num.length d1,.slice p2 ry.den.length d2] 25
     obtain ⟨e2,hwe2⟩:∃ W,W=(e1.alloc (.cells #[.bool ry.neg,.slice p1 ry.num.length d1,.slice p2 ry.den.length d2] 25)):=⟨_,rfl⟩
     rw [← hwe2] at hx bz ⊢
     obtain ⟨N1n,hN1n⟩:∃ n,n=e1.heap.size:=⟨_,rfl⟩
     rw [← hN1n] at bz ⊢
     have hnb:wb.heap.size≤N1n:=by rw [hN1n];exact XB.o
     have OA:=kI (OwRs.ext' OA.o hx);have OB:=kI (OwRs.ext' OB.o hx);have EA:=kI (EA.o.ext hx);have EB:=kI (EB.o.ext hx);have KW:=kI (KW.o.trans (Keeps.ext hx));have XW:=kI (XW.o.trans hx)
     have N2:=kI (N2.o.ext hx)
     have LN1:=kI hnb;have XB:Hid (wb.heap.size≤e2.heap.size):=kI (Nat.le_trans hnb (Nat.le_of_lt bz.lt))
     have N1:=kI bz;clear hx bz hwe2 hN1n hnb
     first|refine hK.out _ _ ?_ (fun hHeld=>?_)|(go_wp2_with fail;refine hK.out _ _ ?_ (fun hHeld=>?_))
     ·exact ⟨c4T (BY.o.keeps KW.o (by decide)),VC.o.c3 XW.o⟩
     clear hK K
     (try simp only [Act.put,List.getElem_toArray,List.getElem_cons_zero,List.getElem_cons_succ,List.setIfInBounds_toArray,List.set_cons_zero,List.set_cons_succ])
     refine wpAnyH_ready (rs:=[4]) (by kernel_rfl) (by simp) ?_
     refine AllReadyH.cons rfl (fun K hK=>?_) ?_
     rotate_left
     ·exact AllReadyH.nil
     rw [if_pos (wanted_none rfl)]
     refine wp_append_rowF e2 _ _ _ rfl wl.heap.size 25 (.agg #[.bool false,.slice none 0 0,.slice none 0 0]) 3 56 Try.underlying29 Try.infoR rfl (by decide) (ElR.keeps (by decide)) _ _ OA.o rfl [.bool ry.neg,.slice p1 ry.num.length d1,.slice p2 ry.den.length d2] rfl (by simp [Value.oneCell']) ry EA.o N1n N1.o rfl (by have:=LA.o;have:=HKB.o;omega) (by have:=LA.o;have:=HKB.o;omega) XW.o.size ?_
     intro g3 cap3 e3 hrow hgr hfr
     have hk:=OwRs.gKeepsT OA.o hgr
     have hown:(Value.slice (some ⟨g3,0,none⟩) (((prs l).take k).length+1) cap3).ownBlock=some g3:=rfl
     obtain ⟨ua,hu⟩:∃ u,u=Value.slice (some ⟨g3,0,none⟩) (((prs l).take k).length+1) cap3:=⟨_,rfl⟩
     rw [← hu] at hrow hown ⊢
     clear hu
     have hd:=dj_stepT DJ.o BLT.o hown (hfr.imp id (Nat.le_trans XB.o))
     have OB:=kI (OwRs.keptT OB.o hgr (dj_neT DJ.o) (fun n hn=>by obtain ⟨h1,h2,_⟩:=OwRs.own_atT OA.o hn;exact ⟨h1.choose,h1.choose_spec,h2⟩))
     have EB:=kI (ElR.keeps (by decide) _ _ _ _ EB.o hk)
     have N2:Hid (Blk e3 N2n [.bool rz.neg,.slice s1 rz.num.length s2,.slice s3 rz.den.length s4].toArray 25):=kI ((hgr.block _ N2.o.lt (fun e=>by have:=ALT.o _ e.symm;have:=LN2.o;omega)).trans N2.o)
     have DJ:=kI hd;have OA:=kI hrow;have ALT:Hid (∀ n,ua.ownBlock=some n→n < e3.heap.size):=kI (fun n (h:ua.ownBlock=some n)=>(OwRs.own_atT hrow h).2.2)
     have KW:=kI (KW.o.trans hk);have XW:Hid (Ext wl e3):=kI (Below.trans XW.o (hk.below XW.o.size));have XB:Hid (wb.heap.size≤e3.heap.size):=kI (Nat.le_trans XB.o hgr.size)
     clear hrow hgr hfr hk hown hd
     first|refine hK.out _ _ ?_ (fun hHeld=>?_)|(go_wp2_with fail;refine hK.out _ _ ?_ (fun hHeld=>?_))
     ·exact ⟨c4T (BY.o.keeps KW.o (by decide)),VC.o.c3 XW.o⟩
     clear hK K
     (try simp only [Act.put,List.getElem_toArray,List.getElem_cons_zero,List.getElem_cons_succ,List.setIfInBounds_toArray,List.set_cons_zero,List.set_cons_succ])
     refine wpAnyH_ready (rs:=[12]) (by kernel_rfl) (by simp) ?_
     refine AllReadyH.cons rfl (fun K hK=>?_) ?_
     rotate_left
     ·exact AllReadyH.nil
     rw [if_pos (wanted_none rfl)]
     refine wp_append_rowF e3 _ _ _ rfl wl.heap.size 25 (.agg #[.bool false,.slice none 0 0,.slice none 0 0]) 3 56 Try.underlying29 Try.infoR rfl (by decide) (ElR.keeps (by decide)) _ _ OB.o rfl [.bool rz.neg,.slice s1 rz.num.length s2,.slice s3 rz.den.length s4] rfl (by simp [Value.oneCell']) rz EB.o N2n N2.o rfl (by have:=LB.o;have:=HKB.o;omega) (by have:=LB.o;have:=HKB.o;omega) XW.o.size ?_
     intro g4 cap4 e4 hrow hgr hfr
     have hk:=OwRs.gKeepsT OB.o hgr
     have hown:(Value.slice (some ⟨g4,0,none⟩) (((vls vals l).take k).length+1) cap4).ownBlock=some g4:=rfl
     obtain ⟨ub,hu⟩:∃ u,u=Value.slice (some ⟨g4,0,none⟩) (((vls vals l).take k).length+1) cap4:=⟨_,rfl⟩
     rw [← hu] at hrow hown ⊢
     clear hu
     have hd:=dj_symmT (dj_stepT (dj_symmT DJ.o) ALT.o hown hfr)
     have OA:=kI (OwRs.keptT OA.o hgr (dj_neT (dj_symmT DJ.o)) (fun n hn=>by obtain ⟨h1,h2,_⟩:=OwRs.own_atT OB.o hn;exact ⟨h1.choose,h1.choose_spec,h2⟩))
     have DJ:=kI hd;have OB:=kI hrow
     have KW:=kI (KW.o.trans hk);have XW:Hid (Ext wl e4):=kI (Below.trans XW.o (hk.below XW.o.size));have XB:Hid (wb.heap.size≤e4.heap.size):=kI (Nat.le_trans XB.o hgr.size)
     clear hrow hgr hfr hk hown hd
     first|refine hK.out _ _ ?_ (fun hHeld=>?_)|(go_wp2_with fail;refine hK.out _ _ ?_ (fun hHeld=>?_))
     ·exact ⟨c4T (BY.o.keeps KW.o (by decide)),VC.o.c3 XW.o⟩
     clear hK K
     (try simp only [Act.put,List.getElem_toArray,List.getElem_cons_zero,List.getElem_cons_succ,List.setIfInBounds_toArray,List.set_cons_zero,List.set_cons_succ])
     exact HV e4 ua ub N1n N2n ⟨OA.o,OB.o,DJ.o,XW.o,⟨c4T (BY.o.keeps KW.o (by decide)),VC.o.c3 XW.o⟩⟩
   ·intro W xa yb n1 n2 hW
    obtain ⟨oa,ob,dj,xx,hSW⟩:=hW
    have O1:=kI oa;have O2:=kI ob;have D9:=kI dj;have X9:=kI xx
    clear oa ob dj xx
    refine wpAnyH_take (i:=13) (v:=?_) rfl (by kernel_rfl) (by kernel_rfl) (by kernel_rfl) (fun _ _ _ h=>h) (Or.inl ⟨by rfl,?_⟩) (by assumption) ?_
    rotate_left
    ·(intro w hSw;(try dsimp only at hSw);go_simp;first|done|with_reducible rfl)
    (try simp only [Act.put,List.getElem_toArray,List.getElem_cons_zero,List.getElem_cons_succ,List.setIfInBounds_toArray,List.set_cons_zero,List.set_cons_succ])
    refine wpAnyH_take (i:=14) (v:=?_) rfl (by kernel_rfl) (by kernel_rfl) (by kernel_rfl) (fun _ _ _ h=>h) (Or.inl ⟨by rfl,?_⟩) (by assumption) ?_
    rotate_left
    ·(intro w hSw;(try dsimp only at hSw);go_simp;first|done|with_reducible rfl)
    (try simp only [Act.put,List.getElem_toArray,List.getElem_cons_zero,List.getElem_cons_succ,List.setIfInBounds_toArray,List.set_cons_zero,List.set_cons_succ])
    refine wpAnyH_done (by kernel_rfl) ?_ _
    go_wp2_with fail
    go_roundw
    case rel=>exact ⟨k+1,by omega,by go_num,by rw [TA.o];exact O1.o,by rw [TB.o];exact O2.o,D9.o,X9.o⟩
    case measure=>simp [intOf];omega
  ·obtain rfl:k=l.length:=by omega
   have tA:(prs l).take l.length=prs l:=List.take_of_length_le (by rw [prs_len];exact Nat.le_refl _)
   have tB:(vls vals l).take l.length=vls vals l:=List.take_of_length_le (by rw [vls_len];exact Nat.le_refl _)
   rw [tA] at OA ⊢
   rw [tB] at OB ⊢
   have r1:=OA.o.rd
   have r2:=OB.o.rd
   rw [prs_len] at r1 ⊢
   rw [vls_len] at r2 ⊢
   have R1:=kI r1;have R2:=kI r2
   replace A0:=kI (A0.o.ext XK.o);replace A1:=kI (A1.o.ext XK.o);replace A2:=kI (A2.o.ext XK.o);replace HMD:=kI (HMD.o.ext XK.o);replace HCO:=kI (HCO.o.ext XK.o);replace X:=kI (X.o.trans XK.o)
   clear DJ tA tB r1 r2 OA OB HV HOS
   go_wp2_with fail
   refine (HDOT.o _ _ _ R1.o R2.o).mono ?_
   rintro e w1 ⟨⟨v,rfl,nn⟩,hx⟩
   replace A0:=kI (A0.o.ext hx);replace A1:=kI (A1.o.ext hx);replace A2:=kI (A2.o.ext hx);replace HMD:=kI (HMD.o.ext hx);replace HCO:=kI (HCO.o.ext hx);replace X:=kI (X.o.trans hx)
   obtain ⟨s1,s2,s3,s4,rfl⟩:=nn.shape
   have NS:=kI nn.rd;clear nn hx R1 R2 HDOT
   have HW:=kI (Nat.le_trans HAN.o (show An≤An+1+1 by omega))
   by_cases h1:de=0
   rotate_left
   ·have E:=kI (HS1.o dr de rfl h1)
    have q1:(de != 0)=true:=by simpa using h1
    clear h1
    have qA2:=A2.o.cell;have fA2:=A2.o.free;have lA2:=A2.o.lt
    go_wp2_with fail
    clear qA2 fA2 lA2
    have hb6:=((A2.o).all3 (.bool false) (.slice none 0 0) (.slice none 0 0)).alloc (.cells #[.bool dr.neg,.slice s1 dr.num.length s2,.slice s3 dr.den.length s4] 25)
    have hx6:Ext w ((((w1.setCell ⟨An+1+1,0,none⟩ (.bool false)).setCell ⟨An+1+1,1,none⟩ (.slice none 0 0)).setCell ⟨An+1+1,2,none⟩ (.slice none 0 0)).alloc (.cells #[.bool dr.neg,.slice s1 dr.num.length s2,.slice s3 dr.den.length s4] 25)):=((((X.o).set (p:=⟨An+1+1,0,none⟩) HW.o (.bool false)).set (p:=⟨An+1+1,1,none⟩) HW.o (.slice none 0 0)).set (p:=⟨An+1+1,2,none⟩) HW.o (.slice none 0 0)).trans ((Ext.refl _).alloc (.cells #[.bool dr.neg,.slice s1 dr.num.length s2,.slice s3 dr.den.length s4] 25))
    obtain ⟨W6,hW6⟩:∃ W,W=((((w1.setCell ⟨An+1+1,0,none⟩ (.bool false)).setCell ⟨An+1+1,1,none⟩ (.slice none 0 0)).setCell ⟨An+1+1,2,none⟩ (.slice none 0 0)).alloc (.cells #[.bool dr.neg,.slice s1 dr.num.length s2,.slice s3 dr.den.length s4] 25)):=⟨_,rfl⟩
    rw [← hW6] at hb6 hx6 ⊢
    clear hW6
    have HX6:=kI hx6;clear hx6
    refine bodyPost_ret (v:=.tuple #[.agg #[.bool false,.slice none 0 0,.slice none 0 0],.int .i64 de]) (by have k1:=hb6.cell;have k2:=hb6.free;have k3:=hb6.lt;clear hb6;simp only [results,Try.results67];go_simp) rfl ⟨ResR.mk (l:=zR) (NewR.zero _ _) E.o,HX6.o⟩
   subst h1
   have hmu:=fun W va vb ha hb=>mulR_any va vb d dr W ha hb HLM.o HDL.o
   have hml:=mulR_lim d dr
   have hs2:=HS2.o dr;have hs3:=HS3.o dr
   obtain ⟨T,hT⟩:∃ t,t=mulR d dr:=⟨_,rfl⟩
   rw [← hT] at hmu hml hs2 hs3
   obtain ⟨mr,me⟩:=T
   unfold ResR at hmu
   dsimp only at hmu hml
   have HMU:=kI hmu;have HML:=kI hml;have HS2':=kI hs2;have HS3':=kI hs3
   clear hmu hml hs2 hs3 hT HS1 HS2 HS3
   have qA0:=A0.o.cell;have fA0:=A0.o.free;have lA0:=A0.o.lt
   go_wp2_with fail
   clear qA0 fA0 lA0
   obtain ⟨wd,hwd⟩:∃ W,W=w1.alloc (.cells #[.bool dr.neg,.slice s1 dr.num.length s2,.slice s3 dr.den.length s4] 25):=⟨_,rfl⟩
   have hx:Ext w1 wd:=by rw [hwd];exact (Ext.refl _).alloc _
   have bd0:Blk wd w1.heap.size #[.bool dr.neg,.slice s1 dr.num.length s2,.slice s3 dr.den.length s4] 25:=by rw [hwd];exact Blk.new _ _ _
   rw [← hwd]
   obtain ⟨Dn,hDn⟩:∃ n,n=w1.heap.size:=⟨_,rfl⟩
   rw [← hDn] at bd0 ⊢
   have DL:Hid (An+1+1 < Dn):=kI (by rw [hDn];exact A2.o.lt)
   replace A0:=kI (A0.o.ext hx);replace A1:=kI (A1.o.ext hx);replace A2:=kI (A2.o.ext hx);replace HMD:=kI (HMD.o.ext hx);replace HCO:=kI (HCO.o.ext hx);replace NS:=kI (NS.o.ext hx);replace X:=kI (X.o.trans hx)
   have BD:=kI bd0;clear hx bd0 hwd hDn
   refine (HMU.o _ _ _ HMD.o NS.o).mono ?_
   rintro e w2 ⟨⟨v,rfl,nn⟩,hx⟩
   replace A0:=kI (A0.o.ext hx);replace A1:=kI (A1.o.ext hx);replace A2:=kI (A2.o.ext hx);replace HMD:=kI (HMD.o.ext hx);replace HCO:=kI (HCO.o.ext hx);replace NS:=kI (NS.o.ext hx);replace BD:=kI (BD.o.ext hx);replace X:=kI (X.o.trans hx)
   obtain ⟨t1,t2,t3,t4,rfl⟩:=nn.shape
   have NT:=kI nn.rd;clear nn hx HMU
   have hp:=Put3.of (q:=mr.neg) (a1:=t1) (n1:=mr.num.length) (c1:=t2) (a2:=t3) (n2:=mr.den.length) (c2:=t4) (o:=0) BD.o noU_3
   have hb1:Blk (((w2.setCell ⟨Dn,0,none⟩ (.bool mr.neg)).setCell ⟨Dn,1,none⟩ (.slice t1 mr.num.length t2)).setCell ⟨Dn,2,none⟩ (.slice t3 mr.den.length t4)) Dn #[.bool mr.neg,.slice t1 mr.num.length t2,.slice t3 mr.den.length t4] 25:=BD.o.all3 _ _ _
   have hb2:Blk (((w2.setCell ⟨Dn,0,none⟩ (.bool mr.neg)).setCell ⟨Dn,1,none⟩ (.slice t1 mr.num.length t2)).setCell ⟨Dn,2,none⟩ (.slice t3 mr.den.length t4)) (An+1) #[.bool co.neg,.slice a1 co.num.length c1,.slice a2 co.den.length c2,.slice a3 l.length c3] 53:=Put3.blk (o:=0) A1.o (by have:=DL.o;omega)
   have hb3:Blk (((w2.setCell ⟨Dn,0,none⟩ (.bool mr.neg)).setCell ⟨Dn,1,none⟩ (.slice t1 mr.num.length t2)).setCell ⟨Dn,2,none⟩ (.slice t3 mr.den.length t4)) (An+1+1) #[.bool false,.slice none 0 0,.slice none 0 0] 25:=Put3.blk (o:=0) A2.o (by have:=DL.o;omega)
   have hn1:RdR (((w2.setCell ⟨Dn,0,none⟩ (.bool mr.neg)).setCell ⟨Dn,1,none⟩ (.slice t1 mr.num.length t2)).setCell ⟨Dn,2,none⟩ (.slice t3 mr.den.length t4)) (.agg #[.bool mr.neg,.slice t1 mr.num.length t2,.slice t3 mr.den.length t4]) mr:=hp.rdR NT.o
   have hn2:RdR (((w2.setCell ⟨Dn,0,none⟩ (.bool mr.neg)).setCell ⟨Dn,1,none⟩ (.slice t1 mr.num.length t2)).setCell ⟨Dn,2,none⟩ (.slice t3 mr.den.length t4)) (.agg #[.bool co.neg,.slice a1 co.num.length c1,.slice a2 co.den.length c2]) co:=hp.rdR HCO.o
   have hx9:Ext w (((w2.setCell ⟨Dn,0,none⟩ (.bool mr.neg)).setCell ⟨Dn,1,none⟩ (.slice t1 mr.num.length t2)).setCell ⟨Dn,2,none⟩ (.slice t3 mr.den.length t4)):=ext_put3 (o:=0) X.o (Nat.le_trans HW.o (by have:=DL.o;omega))
   have C1:=kI hb1;have D1:=kI hb2;have D2:=kI hb3;have N1:=kI hn1;have N2:=kI hn2;have X9:=kI hx9
   have hne1:An+1≠Dn:=by have:=DL.o;omega
   have hne2:An+1+1≠Dn:=by have:=DL.o;omega
   clear hp hb1 hb2 hb3 hn1 hn2 hx9 NS HMD A0
   by_cases h1:me=0
   rotate_left
   ·have E:=kI (HS2'.out mr me (by first|trivial|rfl) (by first|trivial|rfl) h1)
    have q1:(me != 0)=true:=by simpa using h1
    clear h1
    have qBD:=BD.o.cell;have fBD:=BD.o.free;have lBD:=BD.o.lt;have qA2:=A2.o.cell;have fA2:=A2.o.free;have lA2:=A2.o.lt
    go_wp2_with fail
    clear qBD fBD lBD qA2 fA2 lA2
    have hb6:=(D2.o).all3 (.bool false) (.slice none 0 0) (.slice none 0 0)
    have hx6:Ext w ((((((w2.setCell ⟨Dn,0,none⟩ (.bool mr.neg)).setCell ⟨Dn,1,none⟩ (.slice t1 mr.num.length t2)).setCell ⟨Dn,2,none⟩ (.slice t3 mr.den.length t4)).setCell ⟨An+1+1,0,none⟩ (.bool false)).setCell ⟨An+1+1,1,none⟩ (.slice none 0 0)).setCell ⟨An+1+1,2,none⟩ (.slice none 0 0)):=(((X9.o).set (p:=⟨An+1+1,0,none⟩) HW.o (.bool false)).set (p:=⟨An+1+1,1,none⟩) HW.o (.slice none 0 0)).set (p:=⟨An+1+1,2,none⟩) HW.o (.slice none 0 0)
    obtain ⟨W6,hW6⟩:∃ W,W=((((((w2.setCell ⟨Dn,0,none⟩ (.bool mr.neg)).setCell ⟨Dn,1,none⟩ (.slice t1 mr.num.length t2)).setCell ⟨Dn,2,none⟩ (.slice t3 mr.den.length t4)).setCell ⟨An+1+1,0,none⟩ (.bool false)).setCell ⟨An+1+1,1,none⟩ (.slice none 0 0)).setCell ⟨An+1+1,2,none⟩ (.slice none 0 0)):=⟨_,rfl⟩
    rw [← hW6] at hb6 hx6 ⊢
    clear hW6
    have HX6:=kI hx6;clear hx6
    refine bodyPost_ret (v:=.tuple #[.agg #[.bool false,.slice none 0 0,.slice none 0 0],.int .i64 me]) (by have k1:=hb6.cell;have k2:=hb6.free;have k3:=hb6.lt;clear hb6;simp only [results,Try.results67];go_simp) rfl ⟨ResR.mk (l:=zR) (NewR.zero _ _) E.o,HX6.o⟩
   subst h1
   have had:=fun W va vb ha hb=>addR_any va vb co mr W ha hb HL1.o HML.o
   have hE:=HS3'.out mr (by first|trivial|rfl) (by first|trivial|rfl)
   obtain ⟨T,hT⟩:∃ t,t=addR co mr:=⟨_,rfl⟩
   rw [← hT] at had hE
   obtain ⟨t,te⟩:=T
   unfold ResR at had
   dsimp only at had
   have HAD:=kI had;have E:=kI hE
   clear had hE hT HS2' HS3'
   have qA1:=A1.o.cell;have fA1:=A1.o.free;have lA1:=A1.o.lt;have qBD:=BD.o.cell;have fBD:=BD.o.free;have lBD:=BD.o.lt
   go_wp2_with fail
   clear qA1 fA1 lA1 qBD fBD lBD
   obtain ⟨we,hwe⟩:∃ W,W=(((w2.setCell ⟨Dn,0,none⟩ (.bool mr.neg)).setCell ⟨Dn,1,none⟩ (.slice t1 mr.num.length t2)).setCell ⟨Dn,2,none⟩ (.slice t3 mr.den.length t4)):=⟨_,rfl⟩
   rw [← hwe] at C1 D1 D2 N1 N2 X9 ⊢
   clear hwe hne1 hne2
   replace A2:=D2;replace X:=X9
   clear D2 X9 A1 BD NT HCO D1 C1
   have X0:=kI X.o
   refine (HAD.o _ _ _ N2.o N1.o).mono ?_
   rintro e w3 ⟨⟨v,rfl,nn⟩,hx⟩
   replace A2:=kI (A2.o.ext hx);replace N1:=kI (N1.o.ext hx);replace N2:=kI (N2.o.ext hx);replace X:=kI (X.o.trans hx)
   obtain ⟨x1,x2,x3,x4,rfl⟩:=nn.shape
   have NN:=kI (NewR.from nn X0.o);clear nn hx HAD X0
   have qA2:=A2.o.cell;have fA2:=A2.o.free;have lA2:=A2.o.lt
   go_wp2_with fail
   clear qA2 fA2 lA2
   have hb2:=A2.o.all3 (.bool t.neg) (.slice x1 t.num.length x2) (.slice x3 t.den.length x4)
   have hn2:=NN.o.set3b A2.o (by decide) (.bool t.neg) (.slice x1 t.num.length x2) (.slice x3 t.den.length x4)
   have hx2:Ext w _:=((X.o.set (p:=⟨An+1+1,0,none⟩) HW.o (.bool t.neg)).set (p:=⟨An+1+1,1,none⟩) HW.o (.slice x1 t.num.length x2)).set (p:=⟨An+1+1,2,none⟩) HW.o (.slice x3 t.den.length x4)
   have HN2:=kI hn2;have HX2:=kI hx2
   clear hn2 hx2
   refine bodyPost_ret (v:=.tuple #[.agg #[.bool t.neg,.slice x1 t.num.length x2,.slice x3 t.den.length x4],.int .i64 te]) (by have k1:=hb2.cell;have k2:=hb2.free;have k3:=hb2.lt;clear hb2;simp only [results,Try.results67];go_simp) rfl ⟨ResR.mk (l:=t) HN2.o E.o,HX2.o⟩
end Go.Proofs.Ytfflknbeidihoaa
