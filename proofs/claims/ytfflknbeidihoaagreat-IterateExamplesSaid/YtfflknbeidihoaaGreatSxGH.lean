/- Lemmas and walks. Conditions: as stated. -/
import Derived.Test.YtfflknbeidihoaaGreatSxGC
import Derived.Test.YtfflknbeidihoaaGreatSxBigRow
set_option linter.unusedVariables false
set_option linter.unusedSimpArgs false
set_option maxRecDepth 100000
set_option maxHeartbeats 16000000
namespace Go.Proofs.YtfflknbeidihoaaGreat
open Go.RowKit
theorem prod_step {l:List Int} {p:Nat} {q c:Int} {n m k:Nat} (hl:Lim l) (hp:p < l.length) (hq:0≤q) (hc:0≤c) (h:nv l+4294967296 ^ p*c.toNat=n+4294967296 ^ k*m) (hk:k≤p) (r:Nat) (hr:4294967296 ^ k*r=4294967296 ^ p*q.toNat) :
  nv (l.set p ((q+l.getD p 0+c) % 4294967296))+4294967296 ^ (p+1)*((q+l.getD p 0+c) / 4294967296).toNat=n+4294967296 ^ k*(m+r):=by
 have h1:=step_val (q:=q) (c:=c) hl hp hq hc;rw [h1,Nat.mul_add,Nat.mul_add,hr];omega
theorem prod_big {x y z c:Int} (hx:0≤x∧x < 4294967296) (hy:0≤y∧y < 4294967296) (hz:0≤z∧z < 4294967296) (hc:0≤c∧c < 4294967296):0≤x*y+z+c∧x*y+z+c < 18446744073709551616:=by
 have:=prod_bd hx hy;omega
theorem product_any (v1 v2:Value) (l1 l2:List Int) (w:World) (h1:RdI .u32 w v1 l1) (h2:RdI .u32 w v2 l2) (hl1:Lim l1) (hl2:Lim l2) (s1:l1.length≤10000000) (s2:l2.length≤10000000) :
  Calls Tryz.prog 99 #[v1,v2] w fun e w'=>(∃ v,e=.returned v∧NewV w w' v (lim (nv l1*nv l2)))∧Ext w w':=by
 have H1:=kI h1;have H2:=kI h2;obtain ⟨a1,c1,rfl,hc1,hm1,hr1⟩:=rdU h1;obtain ⟨a2,c2,rfl,hc2,hm2,hr2⟩:=rdU h2;have R1:=kI hr1;have R2:=kI hr2;have HL1:=kI hl1;have HL2:=kI hl2;clear h1 h2 hr1 hr2 hl1 hl2;go_enter Tryz.func99,Tryz.ntmps99
 go_wp2_with (with_reducible refine wpList_make_u rfl _ _ rfl _ _ (l1.length+l2.length) rfl rfl (by omega) (by omega) (by omega) ?_)
 intro w2 hrow2 hx2 hsz2;have HR2:=kI hrow2;have X2:=kI hx2;have W1:w.heap.size < w2.heap.size:=by omega
 clear hrow2 hx2 hsz2;go_wp2_with fail;go_loopw [6,7,8,9] (fun i _ _ _ wr=>∃ (k:Nat) (lo:List Int),k≤l1.length∧i=.int .i64 k∧lo.length=l1.length+l2.length∧Lim lo∧nv lo=nv (l1.take k)*nv l2∧(∀ t,k+l2.length≤t→lo.getD t 0=0)∧RowU wr w.heap.size (l1.length+l2.length) lo∧Ext w wr)
  (fun i _ _ _ _=>l1.length - (intOf i).toNat)
 case atStart=>
  refine ⟨0,_,Nat.zero_le _,rfl,List.length_replicate,lim_zeros _,by rw [nv_zeros];simp [nv],fun t _=>?_,HR2.o,X2.o⟩;rw [List.getD_eq_getElem?_getD,List.getElem?_replicate];split <;> rfl
 case round=>
  obtain ⟨k,lo,hk,rfl,e1,e2,e3,ez,e4,e5⟩:=hrel;have G1:=kI e1;have G2:=kI e2;have G3:=kI e3;have GZ:=kI ez;have G4:=kI e4;have G5:=kI e5;clear e1 e2 e3 e4 e5 ez;by_cases hlt:k < l1.length
  ·obtain ⟨b,off,rfl,hbl,hx⟩:=R1.o k hlt;have hxl:=getD_lim HL1.o k;obtain ⟨x,hxx⟩:=gN (l1.getD k 0);rw [← hxx] at hx hxl;have HXX:=kI hxx;have HX:=kI hx;clear hx hxx;go_wp2_with fail;go_loopw [7,8,9] (fun cy i _ wq=>∃ (j:Nat) (c:Int) (lj:List Int),j≤l2.length∧i=.int .i64 j∧cy=.int .u64 c∧0≤c∧c < 4294967296∧lj.length=l1.length+l2.length∧Lim lj∧nv lj+4294967296 ^ (k+j)*c.toNat=nv lo+4294967296 ^ k*(x.toNat*nv (l2.take j))∧
     (∀ t,k+l2.length≤t→lj.getD t 0=0)∧RowU wq w.heap.size (l1.length+l2.length) lj∧Ext w wq)
    (fun _ i _ _=>l2.length - (intOf i).toNat)
   case atStart=>
    exact ⟨0,0,lo,Nat.zero_le _,rfl,rfl,by omega,by omega,G1.o,G2.o,by simp [nv],GZ.o,G4.o,G5.o⟩
   case round=>
    obtain ⟨j,c,lj,hj,rfl,rfl,c0,c1,e1,e2,e3,ez,e4,e5⟩:=hrel;by_cases hlt2:j < l2.length
    ·obtain ⟨b2,off2,rfl,hbl2,hy⟩:=R2.o j hlt2;have hyl:=getD_lim HL2.o j;have hx':=(e5.cell (p:=⟨b,off+k,none⟩) hbl).trans HX.o;have hy':=(e5.cell (p:=⟨b2,off2+j,none⟩) hbl2).trans hy;obtain ⟨y,hyy⟩:=gN (l2.getD j 0);have hmt:=nat_mul_take x.toNat l2 hlt2;rw [← hyy] at hy' hyl hmt;have hzl:=getD_lim e2 (k+j);obtain ⟨z,hzz⟩:=gN (lj.getD (k+j) 0);have hz':=e4.getD (i:=k+j) (by omega) hzz;have hst:=prod_step (q:=x*y) (r:=4294967296 ^ j*(x*y).toNat) e2 (show k+j < lj.length by omega) (prod_bd hxl hyl).1 c0 e3 (by omega) (by rw [← Nat.mul_assoc,← Nat.pow_add]);rw [← hzz] at hst hzl;have hbig:=prod_big hxl hyl hzl ⟨c0,c1⟩;have hqn:(x*y).toNat=x.toNat*y.toNat:=Int.toNat_mul hxl.1 hyl.1;rw [hqn,← hmt] at hst;have hpb:=prod_bd hxl hyl;obtain ⟨s,hs⟩:=gN (x*y+z+c);have fz:=e4.free;have lz:=e4.lt;have hcd:0≤(x*y+z+c) / 4294967296∧(x*y+z+c) / 4294967296 < 4294967296:=by omega
     have hez:∀ t,k+l2.length≤t→(lj.set (k+j) ((x*y+z+c) % 4294967296)).getD t 0=0:=fun t ht=>by
      rw [getD_set_ne0 _ (by omega)];exact ez t ht
     have G7:=kI e1;have G8:=kI e2;have G11:=kI e4;have G12:=kI e5;have GS:=kI hst;have GE:=kI hez;have q1:(0:Int)≤(j:Int):=by omega
     have q2:(j:Int) < (l2.length:Int):=by omega
     obtain ⟨hz0,hz1⟩:=hzl;obtain ⟨hx0,hx1'⟩:=hxl;obtain ⟨hy0,hy1'⟩:=hyl;obtain ⟨hb0,hb1⟩:=hbig;obtain ⟨p1,p2⟩:=hpb;obtain ⟨d1,d2⟩:=hcd;clear e1 e2 e3 e4 e5 ez hyy hzz hst hmt hqn hy hez hs;go_wp2_with fail;go_quiet (fail)
     go_wp2_with fail;go_roundw
     case rel=>
      refine ⟨j+1,(x*y+z+c) / 4294967296,lj.set (k+j) ((x*y+z+c) % 4294967296),by omega,by go_num,rfl,d1,d2,(List.length_set).trans G7.o,lim_setMod G8.o _ _,?_,GE.o,?_,?_⟩
      ·rw [← Nat.add_assoc];exact GS.o
      ·exact (G11.o.ext ((Ext.refl _).drewN _)).set (k+j) _ (by have:=G7.o;omega)
      ·exact (G12.o.drewN _).set (p:=⟨w.heap.size,k+j,none⟩) (Nat.le_refl _) _
     case measure=>simp [intOf];omega
    ·obtain rfl:j=l2.length:=by omega
     rw [List.take_length] at e3;have hset:=nv_setD (l:=lj) (k:=k+l2.length) (by omega) c;rw [ez _ (Nat.le_refl _),show (0:Int).toNat=0 from rfl,Nat.mul_zero,Nat.add_zero,e3] at hset;have hez:∀ t,k+1+l2.length≤t→(lj.set (k+l2.length) c).getD t 0=0:=fun t ht=>by
      rw [getD_set_ne0 _ (by omega)];exact ez t (by omega)
     have hz2:=e4.cell (i:=k+l2.length) (by omega);have fz:=e4.free;have lz:=e4.lt;have hcm:c % 4294967296=c:=by omega
     have G7:=kI e1;have G8:=kI e2;have GS:=kI hset;have G11:=kI e4;have G12:=kI e5;have GE:=kI hez;clear e1 e2 e3 e4 e5 ez hset hez;go_wp2_with fail;go_roundw
     case rel=>
      refine ⟨k+1,lj.set (k+l2.length) c,by omega,by go_num,(List.length_set).trans G7.o,lim_set G8.o _ c0 c1,?_,GE.o,?_,?_⟩
      ·rw [GS.o,G3.o,nv_takeD hlt,← HXX.o,Nat.add_mul,Nat.mul_assoc]
      ·exact G11.o.set (k+l2.length) _ (by have:=G7.o;omega)
      ·exact G12.o.set (Nat.le_refl _) _
     case measure=>simp [intOf];omega
  ·obtain rfl:k=l1.length:=by omega
   have e3:=G3.o;rw [List.take_length] at e3;have G9:=kI e3;clear e3;have hcall:=cut_any (some w.heap.size) _ lo wr (OwV.row G4.o) G2.o;rw [G1.o] at hcall;have HC:=kI hcall;clear hcall;go_wp2_with fail;refine HC.o.mono ?_;rintro e w5 ⟨v',rfl,hO,hx5⟩;have HO:=kI hO;have X5:=kI hx5;clear hO hx5;go_wp2_with fail;go_ret;rw [← G9.o];exact ⟨⟨v',rfl,some w.heap.size,HO.o,fun g hg=>by cases hg;exact Nat.le_refl _⟩,G5.o.trans X5.o⟩
theorem run_append_none_u {w:World} (ty:TypeId) (c:Nat) (v:Value) (n:Nat) (xs:List Value) (base:Nat) (hown:w.ownsRow base 118 1 v n xs) :
  (Builtin.append_ #[23,23] ty #[v,.slice none 0 c]).run Tryz.prog w=.ok v w:=by
 obtain ⟨i0,hi,hz0,hz1,hz2⟩:=info_parts Tryz.infoU;rcases hown.2 with ⟨rfl,rfl⟩|⟨g,cap,cur,rfl,_,_,hnc,_⟩
 ·simp [Builtin.append_,run_underlying Tryz.underlying23,sizeOf,typeInfo,hi,Builtin.lenOf,Builtin.firstCells]
 ·simp [Builtin.append_,run_underlying Tryz.underlying23,sizeOf,typeInfo,hi,Builtin.lenOf,Builtin.firstCells,hnc,storeCells]
theorem wpList_append_nil {W:World} {ops:Array Oper} {rest:List Oper} {o:Oper} {a:Act} {Q:Exit→Act→World→Prop} (hgd:o.guard=none) (s x:Operand)
  (ho:o.op=.call { callee:=.builtin .append,args:=#[s,x],argTypes:=#[23,23] }) (hs:a.eval s=.slice none 0 0) (vx:Value) (l:List Int) (hx:a.eval x=vx) (hr:RdI .u32 W vx l) (hl:l.length≤1000000000)
  (h:∀ v' w',NewV W w' v' l→Ext W w'→wpList Tryz.prog ops Q rest (a.put o.dst v') w'):wpList Tryz.prog ops Q (o :: rest) a W:=by
 obtain ⟨a1,c1,rfl,hc1,hm1,hrd⟩:=rdU hr;cases a1 with
 | none=>
  have e:l=[]:=by
   cases l with
   | nil=>rfl
   | cons x xs=>obtain ⟨b,off,e,_⟩:=hrd 0 (by simp);cases e
  subst e;refine wpList_plain hgd fun K hK=>?_;have hrun:=run_append_none_u (w:=W) o.type c1 (.slice none 0 0) 0 [] W.heap.size (World.ownsRow_nil _ _ _ _);unfold Oper.wp;simp [execOp,ho,resolve,invoke,builtin,hs,hx,hrun,Result.andThen];exact hK _ _ (h _ _ (NewV.nil _ _) (Ext.refl _))
 | some p=>
  obtain ⟨i0,hi,hz0,hz1,hz2⟩:=info_parts Tryz.infoU;refine wpList_append_own _ hgd s x 23 ho W.heap.size 118 i0 (.int .u32 0) 1 4 Tryz.underlying23 hi hz0 hz1 hz2 rfl (by decide) _ 0 [] hs (World.ownsRow_nil _ _ _ _) p l.length c1 (l.map (Value.int .u32)) hx (by simp) ?c1 ?c2 ?c3 ?c4 (Nat.le_refl _) ?_
  case c1=>
   intro j u hj;have hjl:j < l.length:=by have:=(List.getElem?_eq_some_iff.1 hj).1;simpa using this
   obtain ⟨b,off,e,hb,hcell⟩:=hrd j hjl;have hp:=Option.some.inj e;subst hp;rw [Go.WideShapes.add_plain];rw [hcell];rw [List.getElem?_map,List.getElem?_eq_getElem hjl] at hj;rw [List.getD_eq_getElem?_getD,List.getElem?_eq_getElem hjl];exact hj
  case c2=>intro u hu;obtain ⟨x,_,rfl⟩:=List.mem_map.1 hu;rfl
  case c3=>unfold maxLen;omega
  case c4=>omega
  intro v' w1 hown hgr _;have hX:Ext W w1:=((Gr.refl none W).fresh hgr (fun g hg=>by simp [Value.ownBlock] at hg)).ext;refine h v' w1 (NewV.of_own ?_) hX;rw [List.nil_append,Nat.zero_add] at hown;exact hown
theorem run_from_u (W:World) (b off n len cap:Nat) (h:n≤len) (hc:len≤cap) (hm:cap≤9223372036854775807) :
  (Instr.slice 23 (.slice (some ⟨b,off,none⟩) len cap) (some (.int .i64 n)) none none).run Tryz.prog W=.ok (.slice (some ⟨b,if cap=n then off else off+n,none⟩) (len - n) (cap - n)) W:=by
 by_cases e:cap=n
 ·subst e;obtain rfl:len=cap:=by omega
  rw [if_pos rfl];go_simp;done
 ·rw [if_neg e];go_simp;done
theorem rd_from {w:World} {l:List Int} {b off c n:Nat} (h:RdI .u32 w (.slice (some ⟨b,off,none⟩) l.length c) l) (hn:n≤l.length) :
  RdI .u32 w (.slice (some ⟨b,if c=n then off else off+n,none⟩) (l.length - n) (c - n)) (l.drop n):=by
 obtain ⟨a1,c1,e,hc1,hm1,hrd⟩:=rdU h;injection e with e1 e2 e3
 subst e1;subst e3;refine RdA.to (p:=fun _=>True) ⟨_,c - n,by rw [List.length_drop],by rw [List.length_drop];omega,by omega,fun i hi=>?_⟩;rw [List.length_drop] at hi;obtain ⟨b2,off2,e,hb,hx⟩:=hrd (n+i) (by omega);injection e with e
 injection e with e1 e2
 subst e1;subst e2;rw [if_neg (by omega)];refine ⟨_,_,rfl,trivial,hb,?_⟩;rw [Nat.add_assoc,hx,List.getD_eq_getElem?_getD,List.getD_eq_getElem?_getD,List.getElem?_drop]
theorem len_dbl {V:Nat} {lb:List Int} (h:Lim lb) (hv:V < 2*nv lb):(lim V).length≤lb.length+1:=by
 refine lim_len_le.2 ?_;have:=nv_lt h;rw [Nat.pow_succ];generalize 4294967296 ^ lb.length=P at *
 omega
theorem refDivide_any (va vb:Value) (la lb:List Int) (w:World) (ha:RdI .u32 w va la) (hb:RdI .u32 w vb lb) (hla:Lim la) (hlb:Lim lb) (za:NoZ la) (zb:NoZ lb) (hs:la.length≤10000) (hs2:lb.length≤10000) (hpos:0 < nv lb) :
  Calls Tryz.prog 98 #[va,vb] w fun e w'=>(∃ v1 v2,e=.returned (.tuple #[v1,v2])∧NewV w w' v1 (lim (nv la / nv lb))∧NewV w w' v2 (lim (nv la % nv lb)))∧Ext w w':=by
 have HA:=kI ha;have HB:=kI hb;obtain ⟨aa,ca,rfl,hca,hma,hra⟩:=rdU ha;obtain ⟨ab,cb,rfl,hcb,hmb,hrb⟩:=rdU hb;have RA:=kI hra;have HLA:=kI hla;have HLB:=kI hlb;have HZA:=kI za;have HZB:=kI zb;have hlb0:0 < lb.length:=by
  cases lb with
  | nil=>exact absurd hpos (by decide)
  | cons x xs=>simp
 clear ha hb hra hrb hla hlb za zb;by_cases hsh:la.length < lb.length
 ·have hd:decide ((la.length:Int) - (lb.length:Int)+1≤0)=true:=decide_eq_true (by omega);have hlt:=can_lt_of_len HLA.o HLB.o HZB.o hsh;have hdm:lim (nv la / nv lb)=[]∧lim (nv la % nv lb)=la:=by
   rw [Nat.div_eq_of_lt hlt,Nat.mod_eq_of_lt hlt,lim_nv HLA.o HZA.o];exact ⟨rfl,rfl⟩
  have HD:=kI hdm;clear hlt hdm;go_enter Tryz.func98,Tryz.ntmps98
  go_wp2_with (at_builtin;(refine wpList_append_nil rfl _ _ rfl rfl _ la rfl HA.o (by omega) ?_))
  intro v' w2 hnew hx2;have N2:=kI hnew;have X2:=kI hx2;clear hnew hx2;go_wp2_with fail;go_ret2
  obtain ⟨e1,e2⟩:=HD.o;rw [e1,e2];exact ⟨⟨_,_,rfl,NewV.nil _ _,N2.o⟩,X2.o⟩
 ·obtain ⟨b0,off0,rfl,hbl0,_⟩:=RA.o 0 (by omega);obtain ⟨n,hn⟩:∃ n:Nat,n=la.length - lb.length+1:=⟨_,rfl⟩;have hn1:(la.length:Int) - (lb.length:Int)+1=(n:Int):=by omega
  have hn2:n≤la.length:=by omega
  have hn3:1≤n:=by omega
  have HN:=kI hn;clear hn;go_enter Tryz.func98,Tryz.ntmps98
  go_wp2_with (with_reducible refine wpList_make_u rfl _ _ rfl _ _ n rfl rfl (by omega) (by omega) (by omega) ?_)
  intro w2 hrow2 hx2 hsz2;have HR2:=kI hrow2;have X2:=kI hx2;have W1:w.heap.size < w2.heap.size:=by omega
  clear hrow2 hx2 hsz2;obtain ⟨o1,ho1⟩:=gN (if ca=n then off0 else off0+n);have hsl:=fun W=>run_from_u W b0 off0 n la.length ca hn2 hca hma;have hrd:=rd_from HA.o hn2;rw [← ho1] at hsl hrd;have HRD:=kI hrd;clear ho1 hrd;go_wp2_with (at_builtin;(refine wpList_append_nil rfl _ _ rfl rfl _ (la.drop n) rfl (HRD.o.ext X2.o) (by rw [List.length_drop];omega) ?_))
  intro v3 w3 hnew3 hx3;have hN3:=hnew3;obtain ⟨og,hov,hog⟩:=hnew3;have HO3:=kI hov;have X3:=kI hx3;have HG3:=kI hog;clear hov hx3 hog hsl;have hdv:=nv_split la n hn2;have htk:=nv_lt (lim_take HLA.o n);rw [List.length_take_of_le hn2,pow_two] at htk;rw [pow_two] at hdv;have hdr:nv la / 2 ^ (32*n)=nv (la.drop n):=by
   rw [hdv,Nat.add_mul_div_left _ _ (Nat.pow_pos (by omega)),Nat.div_eq_of_lt htk,Nat.zero_add]
  have hlo:nv (la.drop n) < nv lb:=by
   have h1:=nv_lt (lim_drop HLA.o n);rw [List.length_drop] at h1;have h2:=nv_ge HLB.o HZB.o (by intro e;subst e;simp at hlb0);have h3:=pow_le (show la.length - n≤lb.length - 1 by have:=HN.o;omega);omega
  have HDR:=kI hdr;have HLO:=kI hlo;clear hdv htk hdr hlo;have HRow:=kI (HR2.o.ext X3.o);have hcut:=cut_any og v3 (la.drop n) w3 HO3.o (lim_drop HLA.o n);have HCUT:=kI hcut;have hz3:=X3.o.size;have hX3:=X2.o.trans X3.o;have X3':=kI hX3;clear hcut hX3;go_wp2_with fail;refine HCUT.o.mono ?_;rintro e w4 ⟨v4,rfl,ho4,hx4⟩;have O4:Hid (OwB w4 (w.heap.size+1) v4 (lim (nv (la.drop n)))):=kI ⟨og,ho4,fun g hg=>by have:=HG3.o g hg;omega⟩;have X4:=kI (X3'.out.trans hx4);have R4:=kI (HRow.o.ext hx4);clear ho4 hx4;go_wp2_with fail;go_loopw [8,9] (fun vr i wr=>∃ (k:Nat) (lq:List Int),k≤32*n∧i=.int .i64 ((k:Int) - 1)∧lq.length=n∧Lim lq∧nv lq=nv la / 2 ^ k / nv lb*2 ^ k∧RowU wr w.heap.size n lq∧OwB wr (w.heap.size+1) vr (lim (nv la / 2 ^ k % nv lb))∧Ext w wr)
   (fun _ i _=>(intOf i+1).toNat)
  case atStart=>
   refine ⟨32*n,_,Nat.le_refl _,by go_num,List.length_replicate,lim_zeros _,?_,R4.o,?_,X4.o⟩
   ·rw [HDR.o,Nat.div_eq_of_lt HLO.o,Nat.zero_mul,nv_zeros]
   ·rw [HDR.o,Nat.mod_eq_of_lt HLO.o];exact O4.o
  case round=>
   obtain ⟨k,lq,hk,rfl,e1,e2,e3,e4,e5,e6⟩:=hrel;obtain ⟨av,cv,rfl⟩:=e5.shape;have G1:=kI e1;have G2:=kI e2;have G3:=kI e3;have G4:=kI e4;have G5:=kI e5;have G6:=kI e6;have hzr:=e6.size;have hzr2:=e4.lt;clear e1 e2 e3 e4 e5 e6;cases k with
   | zero=>
    have h3:=G3.o;have h5:=G5.o;rw [Nat.pow_zero,Nat.div_one,Nat.mul_one] at h3;rw [Nat.pow_zero,Nat.div_one] at h5;have hcut:=cut_any (some w.heap.size) _ lq wr (OwV.row G4.o) G2.o;rw [h3,G1.o] at hcut;have HC:=kI hcut;have H5:=kI h5;clear hcut h3 h5;go_wp2_with fail;refine HC.o.mono ?_;rintro e w5 ⟨v5,rfl,ho5,hx5⟩;have O5:=kI ho5;have X5:=kI hx5;clear ho5 hx5;go_wp2_with fail;go_ret2
    refine ⟨⟨_,_,rfl,⟨_,O5.o,fun g hg=>by cases hg;exact Nat.le_refl _⟩,?_⟩,G6.o.trans X5.o⟩;exact (H5.o.ext X5.o).mono (Nat.le_succ w.heap.size)
   | succ j=>
    have hstep:=div_step (nv la / 2 ^ (j+1)) (nv lb) (bitN (nv la) j) hpos (Nat.mod_lt _ (by omega));rw [← shr_bit] at hstep;obtain ⟨R,hR⟩:=gN (nv la / 2 ^ (j+1) % nv lb);have hRb:R < nv lb:=by rw [hR];exact Nat.mod_lt _ hpos
    rw [← hR] at hstep G5 ⊢;have hbit:=bit_of la HLA.o (j / 32) (j % 32) (Nat.mod_lt _ (by omega)) (by omega);rw [Nat.div_add_mod] at hbit;have hbl2:bitN (nv la) j < 2:=Nat.mod_lt _ (by omega);obtain ⟨bt,hbt⟩:=gN (bitN (nv la) j);rw [← hbt] at hstep hbit hbl2;obtain ⟨b1,o2,e,hbx,hcx⟩:=RA.o (j / 32) (by omega);injection e with e
    injection e with e e'
    subst e;subst e';have hxl:=getD_lim HLA.o (j / 32);obtain ⟨x,hx⟩:=gN (la.getD (j / 32) 0);rw [← hx] at hcx hbit hxl;have hxz:x / 2 ^ (j % 32) % 2=(bt:Int):=by
     obtain ⟨y,rfl⟩:=Int.eq_ofNat_of_zero_le hxl.1;rw [hbit,Int.toNat_natCast];simp
    have hlR:(lim R).length≤10000:=Nat.le_trans (lim_len_le.2 (Nat.lt_trans hRb (nv_lt HLB.o))) hs2;have hsum:=fun W (h:RdI .u32 W (.slice av (lim R).length cv) (lim R))=>sum_any (.slice av (lim R).length cv) (.slice av (lim R).length cv) (lim R) (lim R) W h h (lim_lim _) (lim_lim _) (by omega) (by omega);rw [nv_lim] at hsum;have HSUM:=kI hsum;have HST:=kI hstep;have HRB:=kI hRb;have HCX:=kI hcx;have HXZ:=kI hxz;have hk2:j < 32*n:=by omega
    clear hsum hstep hbit hbt hx hR hxz hcx hk;have hj1:(((j+1:Nat):Int) - 1)=(j:Int):=by omega
    rw [hj1];go_wp2_with fail;refine (HSUM.o _ G5.o.rd).mono ?_;rintro e w5 ⟨⟨v5,rfl,n5⟩,hx5⟩;obtain ⟨a5,c5,rfl⟩:=n5.shape;have N5:Hid (OwB w5 (w.heap.size+1) (.slice a5 (lim (R+R)).length c5) (lim (R+R))):=kI (OwB.mono n5 (by omega));have X5:=kI (G6.o.trans hx5);have R5:=kI (G4.o.ext hx5);have hcx5:=(X5.o.cell (p:=⟨b0,off0+j / 32,none⟩) hbx).trans HCX.o;have hz5:=X5.o.size;clear n5 hx5;have q1:(0:Int)≤(j:Int):=by omega
    have q2:(j:Int) / 32 < (la.length:Int):=by omega
    have q3:(0:Int)≤(j:Int) / 32:=by omega
    have hb2:bt=0∨bt=1:=by omega
    obtain ⟨x0,x1⟩:=hxl;have hxt:(x / 2 ^ (j % 32)).tmod 2=(bt:Int):=by
     rw [Int.tmod_eq_emod_of_nonneg (Int.ediv_nonneg x0 (Int.pow_nonneg (by omega)))];exact HXZ.o
    rcases hb2 with rfl|rfl
    ·have hxb:((x / 2 ^ (j % 32)).tmod 2 == 1)=false:=by rw [hxt];rfl
     clear hxt;go_wp2_with fail;obtain ⟨V,hV⟩:=gN (R+R);rw [← hV] at N5 ⊢;have hstp:=HST.o;rw [show 2*R+0=V by omega] at hstp;have HST2:=kI hstp;clear hstp hV;have N6:=N5;have X6:=X5;have R6:=R5;obtain ⟨a6,ha6⟩:=gN (a5);obtain ⟨c6,hc6⟩:=gN (c5);obtain ⟨w6,hw6⟩:=gN (w5);subst ha6;subst hc6;subst hw6;have hlV:(lim V).length≤10001:=Nat.le_trans (len_dbl HLB.o HST2.o.1) (by omega);have hord:=refOrder_any (.slice a6 (lim V).length c6) (.slice ab lb.length cb) (lim V) lb w6 N6.o.rd (HB.o.ext X6.o) (lim_lim _) HLB.o (by omega) (by omega);rw [nv_lim] at hord;by_cases hge:nv lb≤V
     ·have hcd:decide (0≤cmpN V (nv lb))=true:=by rw [cmpN_ge];exact decide_eq_true hge
      obtain ⟨cm,hcm⟩:=gN (cmpN V (nv lb));rw [← hcm] at hord hcd;have HORD:=kI hord;clear hord hcm;go_wp2_with fail;refine HORD.o.mono ?_;rintro e w7 ⟨rfl,hx7⟩;have X7:=kI (X6.o.trans hx7);have N7:=kI (N6.o.ext hx7);have R7:=kI (R6.o.ext hx7);clear hx7;have hdiff:=difference_any (.slice a6 (lim V).length c6) (.slice ab lb.length cb) (lim V) lb w7 N7.o.rd (HB.o.ext X7.o) (lim_lim _) HLB.o HZB.o (by omega) (by rw [nv_lim];exact hge);rw [nv_lim] at hdiff;have HDIFF:=kI hdiff;clear hdiff;go_wp2_with fail;refine HDIFF.o.mono ?_;rintro e w8 ⟨⟨v8,rfl,n8⟩,hx8⟩;obtain ⟨a8,c8,rfl⟩:=n8.shape;have hz8:=X7.o.size;have N8:Hid (OwB w8 (w.heap.size+1) (.slice a8 (lim (V - nv lb)).length c8) (lim (V - nv lb))):=kI (OwB.mono n8 (by have:=R7.o.lt;omega));have X8:=kI (X7.o.trans hx8);have R8:=kI (R7.o.ext hx8);clear n8 hx8;have hzl:=getD_lim G2.o (j / 32);obtain ⟨z,hzz⟩:=gN (lq.getD (j / 32) 0);have k7:=R8.o.getD (i:=j / 32) (by have:=G1.o;omega) hzz;have k8:=R8.o.free (j / 32);have k9:=R8.o.lt;have hlow:=limb_low G2.o (k:=j) (by have:=G1.o;omega) (by rw [G3.o];exact Nat.mul_mod_left _ _);rw [← hzz] at hzl hlow;have hor:=or_bit z (j % 32) hzl (Nat.mod_lt _ (by omega)) hlow;have hsb:=nv_setBit (l:=lq) (k:=j) G2.o (by have:=G1.o;omega);rw [← hzz] at hsb;have q4:(j:Int) / 32 < (n:Int):=by omega
      obtain ⟨t,ht⟩:∃ t:Int,t=((z.toNat+2 ^ (j % 32):Nat):Int):=⟨_,rfl⟩;have ht0:0≤t∧t < 4294967296:=by have:=hor.2;omega
      rw [← ht] at hsb;have hor1:=hor.1.trans ht.symm;have HOR:=kI hor1;have HSB:=kI hsb;clear ht hzz hor hsb hlow hor1;obtain ⟨z0,z1⟩:=hzl;go_wp2_with fail;rw [HOR.o];go_roundw
      case rel=>
       obtain ⟨hv1,hv2,hv3⟩:=HST2.o;rw [if_pos hge] at hv2 hv3;refine ⟨j,lq.set (j / 32) t,by omega,rfl,(List.length_set).trans G1.o,lim_set G2.o _ ht0.1 ht0.2,?_,R8.o.set (j / 32) t (by have:=G1.o;omega),?_,X8.o.set (Nat.le_refl _) _⟩
       ·rw [HSB.o,G3.o,hv2,Nat.pow_succ,alg1,Nat.add_mul,Nat.one_mul]
       ·rw [hv3];exact N8.o.setBelow (by dsimp only;omega) _
      case measure=>simp [intOf]
     ·have hcd:decide (0≤cmpN V (nv lb))=false:=by rw [cmpN_ge];exact decide_eq_false hge
      obtain ⟨cm,hcm⟩:=gN (cmpN V (nv lb));rw [← hcm] at hord hcd;have HORD:=kI hord;clear hord hcm;go_wp2_with fail;refine HORD.o.mono ?_;rintro e w7 ⟨rfl,hx7⟩;have X7:=kI (X6.o.trans hx7);have N7:=kI (N6.o.ext hx7);have R7:=kI (R6.o.ext hx7);clear hx7;go_wp2_with fail;go_roundw
      case rel=>
       obtain ⟨hv1,hv2,hv3⟩:=HST2.o;rw [if_neg hge] at hv2 hv3;refine ⟨j,lq,by omega,rfl,G1.o,G2.o,?_,R7.o,?_,X7.o⟩
       ·rw [G3.o,hv2,Nat.pow_succ,alg1,Nat.add_zero]
       ·rw [hv3];exact N7.o
      case measure=>simp [intOf]
    ·have hxb:((x / 2 ^ (j % 32)).tmod 2 == 1)=true:=by rw [hxt];rfl
     clear hxt;go_wp2_with fail;have hone:=rdU_new w5 [1] (by simp);have hs1:=sum_any (.slice a5 (lim (R+R)).length c5) (.slice (some ⟨w5.heap.size,0,none⟩) 1 1) (lim (R+R)) [1] _ (N5.o.rd.ext ((Ext.refl w5).alloc _)) hone (lim_lim _) (lims [1] (by decide)) (Nat.le_trans (len_dbl HLB.o (show R+R < 2*nv lb by have:=HRB.o;omega)) (by omega)) (by decide);rw [nv_lim,show nv [1]=1 from rfl] at hs1;refine hs1.mono ?_;clear hs1 hone;rintro e w6 ⟨⟨v6,rfl,n6⟩,hx6⟩;obtain ⟨a6,c6,rfl⟩:=n6.shape;have N6:Hid (OwB w6 (w.heap.size+1) (.slice a6 (lim (R+R+1)).length c6) (lim (R+R+1))):=kI (OwB.mono n6 (by simp only [World.size_alloc];have:=R5.o.lt;omega));have hxa:=((Ext.refl w5).alloc (.cells #[.int .u32 1] 118)).trans hx6;have X6:=kI (X5.o.trans hxa);have R6:=kI (R5.o.ext hxa);clear n6 hx6 hxa;obtain ⟨V,hV⟩:=gN (R+R+1);rw [← hV] at N6 ⊢;have hstp:=HST.o;rw [show 2*R+1=V by omega] at hstp;have HST2:=kI hstp;clear hstp hV;go_wp2_with fail;have hlV:(lim V).length≤10001:=Nat.le_trans (len_dbl HLB.o HST2.o.1) (by omega);have hord:=refOrder_any (.slice a6 (lim V).length c6) (.slice ab lb.length cb) (lim V) lb w6 N6.o.rd (HB.o.ext X6.o) (lim_lim _) HLB.o (by omega) (by omega);rw [nv_lim] at hord;by_cases hge:nv lb≤V
     ·have hcd:decide (0≤cmpN V (nv lb))=true:=by rw [cmpN_ge];exact decide_eq_true hge
      obtain ⟨cm,hcm⟩:=gN (cmpN V (nv lb));rw [← hcm] at hord hcd;have HORD:=kI hord;clear hord hcm;go_wp2_with fail;refine HORD.o.mono ?_;rintro e w7 ⟨rfl,hx7⟩;have X7:=kI (X6.o.trans hx7);have N7:=kI (N6.o.ext hx7);have R7:=kI (R6.o.ext hx7);clear hx7;have hdiff:=difference_any (.slice a6 (lim V).length c6) (.slice ab lb.length cb) (lim V) lb w7 N7.o.rd (HB.o.ext X7.o) (lim_lim _) HLB.o HZB.o (by omega) (by rw [nv_lim];exact hge);rw [nv_lim] at hdiff;have HDIFF:=kI hdiff;clear hdiff;go_wp2_with fail;refine HDIFF.o.mono ?_;rintro e w8 ⟨⟨v8,rfl,n8⟩,hx8⟩;obtain ⟨a8,c8,rfl⟩:=n8.shape;have hz8:=X7.o.size;have N8:Hid (OwB w8 (w.heap.size+1) (.slice a8 (lim (V - nv lb)).length c8) (lim (V - nv lb))):=kI (OwB.mono n8 (by have:=R7.o.lt;omega));have X8:=kI (X7.o.trans hx8);have R8:=kI (R7.o.ext hx8);clear n8 hx8;have hzl:=getD_lim G2.o (j / 32);obtain ⟨z,hzz⟩:=gN (lq.getD (j / 32) 0);have k7:=R8.o.getD (i:=j / 32) (by have:=G1.o;omega) hzz;have k8:=R8.o.free (j / 32);have k9:=R8.o.lt;have hlow:=limb_low G2.o (k:=j) (by have:=G1.o;omega) (by rw [G3.o];exact Nat.mul_mod_left _ _);rw [← hzz] at hzl hlow;have hor:=or_bit z (j % 32) hzl (Nat.mod_lt _ (by omega)) hlow;have hsb:=nv_setBit (l:=lq) (k:=j) G2.o (by have:=G1.o;omega);rw [← hzz] at hsb;have q4:(j:Int) / 32 < (n:Int):=by omega
      obtain ⟨t,ht⟩:∃ t:Int,t=((z.toNat+2 ^ (j % 32):Nat):Int):=⟨_,rfl⟩;have ht0:0≤t∧t < 4294967296:=by have:=hor.2;omega
      rw [← ht] at hsb;have hor1:=hor.1.trans ht.symm;have HOR:=kI hor1;have HSB:=kI hsb;clear ht hzz hor hsb hlow hor1;obtain ⟨z0,z1⟩:=hzl;go_wp2_with fail;rw [HOR.o];go_roundw
      case rel=>
       obtain ⟨hv1,hv2,hv3⟩:=HST2.o;rw [if_pos hge] at hv2 hv3;refine ⟨j,lq.set (j / 32) t,by omega,rfl,(List.length_set).trans G1.o,lim_set G2.o _ ht0.1 ht0.2,?_,R8.o.set (j / 32) t (by have:=G1.o;omega),?_,X8.o.set (Nat.le_refl _) _⟩
       ·rw [HSB.o,G3.o,hv2,Nat.pow_succ,alg1,Nat.add_mul,Nat.one_mul]
       ·rw [hv3];exact N8.o.setBelow (by dsimp only;omega) _
      case measure=>simp [intOf]
     ·have hcd:decide (0≤cmpN V (nv lb))=false:=by rw [cmpN_ge];exact decide_eq_false hge
      obtain ⟨cm,hcm⟩:=gN (cmpN V (nv lb));rw [← hcm] at hord hcd;have HORD:=kI hord;clear hord hcm;go_wp2_with fail;refine HORD.o.mono ?_;rintro e w7 ⟨rfl,hx7⟩;have X7:=kI (X6.o.trans hx7);have N7:=kI (N6.o.ext hx7);have R7:=kI (R6.o.ext hx7);clear hx7;go_wp2_with fail;go_roundw
      case rel=>
       obtain ⟨hv1,hv2,hv3⟩:=HST2.o;rw [if_neg hge] at hv2 hv3;refine ⟨j,lq,by omega,rfl,G1.o,G2.o,?_,R7.o,?_,X7.o⟩
       ·rw [G3.o,hv2,Nat.pow_succ,alg1,Nat.add_zero]
       ·rw [hv3];exact N7.o
      case measure=>simp [intOf]
theorem common_any (va vb:Value) (la lb:List Int) (w:World) (ha:RdI .u32 w va la) (hb:RdI .u32 w vb lb) (hla:Lim la) (hlb:Lim lb) (za:NoZ la) (zb:NoZ lb) (hs:la.length≤10000) (hs2:lb.length≤10000) :
  Calls Tryz.prog 67 #[va,vb] w fun e w'=>(∃ v,e=.returned v∧NewV w w' v (lim (Nat.gcd (nv la) (nv lb))))∧Ext w w':=by
 have HA:=kI ha;have HB:=kI hb;obtain ⟨aa,ca,rfl,hca,hma,hra⟩:=rdU ha;obtain ⟨ab,cb,rfl,hcb,hmb,hrb⟩:=rdU hb;have HLA:=kI hla;have HLB:=kI hlb;have HZA:=kI za;have HZB:=kI zb;clear ha hb hra hrb hla hlb za zb;obtain ⟨G,hG⟩:=gN (Nat.gcd (nv la) (nv lb));rw [← hG];have HG:=kI hG;clear hG;go_enter Tryz.func67,Tryz.ntmps67
 go_wp2_with fail;go_loopg [0,1,5,6] (nv lb) (fun g va vb _ _ wr=>∃ (x y:Nat),y≤g∧RdI .u32 wr va (lim x)∧RdI .u32 wr vb (lim y)∧(lim x).length≤10000∧(lim y).length≤10000∧Nat.gcd x y=G∧Ext w wr)
 case atStart=>
  refine ⟨nv la,nv lb,Nat.le_refl _,?_,?_,?_,?_,HG.o.symm,Ext.refl w⟩
  ·rw [lim_nv HLA.o HZA.o];exact HA.o
  ·rw [lim_nv HLB.o HZB.o];exact HB.o
  ·rw [lim_nv HLA.o HZA.o];exact hs
  ·rw [lim_nv HLB.o HZB.o];exact hs2
 case round=>
  obtain ⟨x,y,hy,hx1,hy1,hlx,hly,hg,hext⟩:=hrel;have RX:=kI hx1;have RY:=kI hy1;obtain ⟨ax,cx,rfl,_,_,_⟩:=rdU hx1;obtain ⟨ay,cy,rfl,_,_,_⟩:=rdU hy1;have X:=kI hext;have GG:=kI hg;clear hx1 hy1 hext hg HA HB;by_cases h0:y=0
  ·subst h0;rw [lim_zero];go_wp2_with (at_builtin;(refine wpList_append_nil rfl _ _ rfl rfl _ (lim x) rfl RX.o (by omega) ?_))
   intro v' w2 hnew hx2;have N2:=kI hnew;have X2:=kI hx2;clear hnew hx2;go_wp2_with fail;go_ret;rw [← GG.o,Nat.gcd_zero_right];exact ⟨⟨_,rfl,N2.o.from X.o⟩,X.o.trans X2.o⟩
  ·have hlp:(0:Int) < ((lim y).length:Int):=by
    have:lim y≠[]:=fun e=>h0 (by rw [← nv_lim y,e];rfl);have:=List.length_pos_iff.2 this;omega
   have hdv:=refDivide_any _ _ (lim x) (lim y) _ RX.o RY.o (lim_lim _) (lim_lim _) (lim_noZ _) (lim_noZ _) hlx hly (by rw [nv_lim];omega);rw [nv_lim,nv_lim] at hdv;have HDV:=kI hdv;clear hdv;go_wp2_with fail;refine HDV.o.mono ?_;rintro e w2 ⟨⟨v1,v2,rfl,n1,n2⟩,hx2⟩;have N2:=kI n2.rd;have X2:=kI (X.o.trans hx2);have RY2:=kI (RY.o.ext hx2);clear n1 n2 hx2;go_wp2_with fail;go_roundg (x % y)
   case measure=>have:=Nat.mod_lt x (Nat.pos_of_ne_zero h0);omega
   case rel=>
    refine ⟨y,x % y,Nat.le_refl _,RY2.o,N2.o,hly,?_,?_,X2.o⟩
    ·refine Nat.le_trans (lim_len_le.2 (Nat.lt_trans (Nat.mod_lt x (Nat.pos_of_ne_zero h0)) ?_)) hly;exact lim_len_le.1 (Nat.le_refl _)
    ·rw [← GG.o,Nat.gcd_comm x y,Nat.gcd_rec y x,Nat.gcd_comm]
theorem refFrom_any (n:Nat) (w:World) (hn:n < 18446744073709551616) :
  Calls Tryz.prog 105 #[.int .u64 n] w fun e w'=>(∃ v,e=.returned v∧NewV w w' v (lim n))∧Ext w w':=by
 have h0:(0:Int)≤(n:Int):=by omega
 have h1:(n:Int) < 18446744073709551616:=by omega
 have hl:Lim [(n:Int) % 4294967296,(n:Int) / 4294967296]:=by
  intro x hx;rcases List.mem_cons.1 hx with rfl|hx
  ·omega
  ·rw [List.mem_singleton.1 hx];omega
 have hv:nv [(n:Int) % 4294967296,(n:Int) / 4294967296]=n:=by simp only [nv];omega
 have hr:RowU (w.alloc (.cells #[.int .u32 ((n:Int) % 4294967296),.int .u32 ((n:Int) / 4294967296)] 118)) w.heap.size 2 [(n:Int) % 4294967296,(n:Int) / 4294967296]:=RowU.new w [(n:Int) % 4294967296,(n:Int) / 4294967296] (by simp);have ho:=OwV.row hr;have HL:=kI hl;have HV:=kI hv;have HO:=kI ho;clear hl hv hr ho;go_enter Tryz.func105,Tryz.ntmps105
 go_wp2_with fail;refine (cut_any (some w.heap.size) _ [(n:Int) % 4294967296,(n:Int) / 4294967296] _ HO.o HL.o).mono ?_;rintro e w1 ⟨v',rfl,h1,h2⟩;have P1:=kI h1;have P2:=kI h2;clear h1 h2;go_wp2_with fail;go_ret;refine ⟨⟨_,rfl,some w.heap.size,?_,fun g hg=>by cases hg;exact Nat.le_refl _⟩,((Ext.refl w).alloc _).trans P2.o⟩;have:=P1.o;rw [HV.o] at this;exact this
theorem ref_from_int (k:Int) (n:Nat) (w:World) (hn:n < 18446744073709551616) (hk:k=n) :
  Calls Tryz.prog 105 #[.int .u64 k] w fun e w'=>(∃ v,e=.returned v∧NewV w w' v (lim n))∧Ext w w':=by
 subst hk;exact refFrom_any n w hn
end Go.Proofs.YtfflknbeidihoaaGreat
