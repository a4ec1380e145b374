/- Walks and lemmas. -/
import Derived.Test.YtnnjbaijcaiohaaGreatSzA1
import Derived.Laws.CopyOwn
import Derived.Laws.AppendOwnNone
import Derived.Lib.BitFns
set_option linter.unusedVariables false
set_option linter.unusedSimpArgs false
set_option maxRecDepth 100000
set_option maxHeartbeats 16000000
namespace Go.Proofs.YtnnjbaijcaiohaaGreat
open Go.RowKit
variable {a a0:Act} {listed:Array Bool} {T:Array Bool→World→Prop} {ops:Array Oper} {ps:Array Tmp} {args tmps:Array Value} {assign body:Code} {Q:Exit→Act→World→Prop} {F:Fence} {u:FrameMode} {f:FuncId} {c s:Int} {plan:List (List Int)} {ds:List Deferred} {l l1 l2 la lb lq:List Int} {rest:List Oper} {cs h vs xs:List Value} {An B C H L N b b0 bx c1 c2 cap d1 d2 fuel g i id j jn k m1 m2 n n1 n2 nf nn off xn y:Nat} {X:Nat→Prop} {oi om:Oper} {a1 a2 a3 xa:Option Addr} {P:Program} {R p p0 p1 p10 p11 p12 p13 p2 p3 p4 p5 p6 p7 p8 p9:Prop} {md:Region.Mode} {α:Type} {e t t1 t2 t3:TypeId} {lv v vb vr z:Value} {A W W' W0 w w' w0 w2 w3 w4 wB:World} {S S1 S2:World→Prop}
theorem Bt (n:Nat):(List.replicate n (0:Int)).map (Value.int .u32)=List.replicate n (.int .u32 0):=by rw [List.map_replicate]
theorem yt (n:Nat):(madeCells (Value.int .u32 0).cells (n*1)).toList=(List.replicate n (0:Int)).map (Value.int .u32):=by
 rw [Bt,Nat.mul_one];apply List.ext_getElem
 ·simp [madeCells]
 ·intro i h1 h2;simp [madeCells,Value.cells,Nat.mod_one]
theorem d6 {o:Oper} 
  (hg:o.guard=none) (l c:Operand) (hop:o.op=Op.makeSlice 23 l c) (L C:Int) (n:Nat) (hl:a.eval l=.int .i64 L) (hc:a.eval c=.int .i64 C) (hL:L=(n:Int)) (hC:C=(n:Int)) (hn:n≤1000000000)
  (hK:∀ w',bh w' w.heap.size n (List.replicate n 0)→Ext w w'→w'.heap.size=w.heap.size+1→wpList Tryz.prog ops Q rest (a.put o.dst (.slice (some ⟨w.heap.size,0,none⟩) n n)) w') :
  wpList Tryz.prog ops Q (o :: rest) a w:=by
 obtain ⟨i0,hi,hz0,hz1,hz2⟩:=info_parts Tryz.ko;have h63':(n:Int)≤9223372036854775807:=Z
 have hr:=run_make (P:=Tryz.prog) w 23 157 i0 (.int .u32 0) Tryz.underlying23 hi hz0 .i64 .i64 n n Z (Int.le_refl _) (by rw [hz2];omega) h63';simp only [Int.toNat_natCast,hz1] at hr;refine wpList_plain hg fun K hK'=>?_;subst hL;subst hC;unfold Oper.wp;simp only [execOp,hop,hl,hc];have hr2:=hr;simp [hr2,Result.andThen];refine hK' _ _ (hK _ ?_ ((Ext.refl w).alloc _) dc);exact zAf
theorem Hg (L cs:List α):splice L 0 cs=cs ++ L.drop cs.length:=by simp [splice]
theorem rp {o:Oper} (hgd:o.guard=none) (d s:Operand)
  (ho:o.op=.call { callee:=.builtin .copy,args:=#[d,s],argTypes:=#[23,23] }) (g cap:Nat) (l ls:List Int) (vs:Value)
  (hd:a.eval d=.slice (some ⟨g,0,none⟩) l.length cap) (hs:a.eval s=vs) (hrow:bh w g cap l) (hrd:aY .u32 w vs ls) (hle:ls.length≤l.length) (hlast:w.heap.size=g+1)
  (h:∀ w',bh w' g cap (ls ++ l.drop ls.length)→Gr (some g) w w'→wpList Tryz.prog ops Q rest (a.put o.dst (goInt ls.length)) w') :
  wpList Tryz.prog ops Q (o :: rest) a w:=by
 obtain ⟨aS,cs,rfl,hc2,hm2,hr⟩:=fC hrd;obtain ⟨cur,hb,hsz,ht⟩:=hrow.blk;have ag9:=hrow.le;have hcl:cur.toList.length=cap:=hsz;refine wpList_copy_splice hgd d s 23 23 ho 157 Tryz.underlying23 ak (some ⟨g,0,none⟩) aS l.length cap ls.length cs hd hs g 0 cur.toList 157 (by rw [Array.toArray_toList];exact hb) (ls.map (Value.int .u32)) (by rw [List.length_map];exact (Nat.min_eq_left hle).symm)
  (fun h0=>?_) (by rw [List.length_map,hcl];omega) (fun v hv=>by obtain ⟨x,_,rfl⟩:=List.mem_map.1 hv;rfl) g w (Below.refl _ _) (Nat.le_refl _) ?_
 ·rw [List.length_map] at h0;obtain ⟨b,off,rfl,hb0,_⟩:=hr 0 h0;refine ⟨rfl,⟨b,off,none⟩,rfl,fun j v hj=>?_⟩;have hjl:j < ls.length:=by have:=(List.getElem?_eq_some_iff.1 hj).1;simpa using this
  obtain ⟨b2,off2,e,_,hx⟩:=hr j hjl;injection e with e
  injection e with e1 e2
  subst e1;subst e2;rw [Go.WideShapes.add_plain,hx];exact kKi
 ·intro w' hh hbel;rw [List.length_map];refine h w' ⟨⟨_,hh.out,?_,?_⟩,by simp;omega,hrow.most⟩ ⟨hbel.os,hbel.tape,hbel.output,hbel.size,fun k hk hn=>hbel.block k (by have:k≠g:=fun e=>hn (by rw [e]);omega)⟩
  ·rw [List.size_toArray,length_splice _ _ _ (by rw [List.length_map,hcl];omega)];exact hcl
  ·rw [Hg,List.length_append,List.length_drop,List.map_append,List.map_drop,← ht,List.drop_take,List.length_map];show List.take _ (_ ++ _)=_;rw [List.take_append,List.length_map,List.take_of_length_le (by rw [List.length_map];omega),show ls.length+(l.length - ls.length) - ls.length=l.length - ls.length by omega]
theorem tE (n c:Nat) (w:World):
  Calls Tryz.prog 177 #[.slice none n c] w fun e w'=>e=.returned (.slice none 0 0)∧Ext w w':=by
 have hq:=fun W=>Lib.run_eql_slice_nil (P:=Tryz.prog) W 23 157 none n c 0 0 Tryz.underlying23;go_enter Tryz.func177,Tryz.ntmps177
 exact Pv
theorem rq (p:Addr) (c:Nat) (l:List Int) (w:World) (h:aY .u32 w (.slice (some p) l.length c) l) (hs:l.length≤1000000000):
  Calls Tryz.prog 177 #[.slice (some p) l.length c] w fun e w'=>(∃ v,e=.returned v∧bv w w' v l)∧Ext w w':=by
 obtain ⟨a1,c1,he,hc1,hm1,hr⟩:=fC h;injection he with he _ hce
 subst hce;have hq:=fun W=>Lib.run_eql_slice_nil (P:=Tryz.prog) W 23 157 (some p) l.length c 0 0 Tryz.underlying23;have H:=kI hr;have HP:=kI he;clear h hr he;go_enter Tryz.func177,Tryz.ntmps177
 obtain ⟨i0,hi,hz0,hz1,hz2⟩:=info_parts Tryz.ko;go_wp2_with (at_builtin;(refine wpList_append_own _ rfl _ _ 23 rfl w.heap.size 157 i0 (.int .u32 0) 1 4 Tryz.underlying23 hi hz0 hz1 hz2 rfl ah _ _ _ rfl (World.ownsRow_made (base:=w.heap.size) (e:=157) (size:=1) w #[] 0 (Nat.le_refl _) ah rfl) p l.length c (l.map (Value.int .u32)) rfl dc ?c1 ?c2 ?c3 ?c4 ?c5 ?_))
 case c1=>
  intro j u hj;have hjl:j < l.length:=(List.getElem?_eq_some_iff.1 hj).1;obtain ⟨b,off,e,hb,hx⟩:=H.o j hjl;have hp:=HP.o;rw [e] at hp;have hp2:=Option.some.inj hp;subst hp2;rw [Go.WideShapes.add_plain];have:(w.alloc (.cells #[] 157)).cell? ⟨b,off+j,none⟩=w.cell? ⟨b,off+j,none⟩:=((Ext.refl w).alloc _).cell (p:=⟨b,off+j,none⟩) hb;rw [this,hx,List.getD_eq_getElem?_getD,hj];rfl
 case c2=>intro u hu;rfl
 case c3=>unfold maxLen;omega
 case c4=>omega
 intro v' w1 hown hgr _;have hx:Ext w w1:=by
  have h1:Gr none w (w.alloc (.cells #[] 157)):=(Gr.refl _ w).alloc _;exact (h1.fresh hgr (fun g hg=>by right;simp [Value.ownBlock] at hg;omega)).ext
 have HO:=kI (bv.yp hown);have HX:=kI hx;clear hown hgr hx;exact zBt
theorem clone_any (v:Value) (l:List Int) (w:World) (h:aY .u32 w v l) (hs:l.length≤1000000000):
  Calls Tryz.prog 177 #[v] w fun e w'=>(∃ v,e=.returned v∧bv w w' v l)∧Ext w w':=by
 obtain ⟨a,c,rfl,hc,hm,hr⟩:=fC h;cases a with
 | none=>
  have e:l=[]:=by
   cases l with
   | nil=>rfl
   | cons x xs=>obtain ⟨b,off,e,_⟩:=hr 0 dc;cases e
  subst e;exact (tE _ _ w).mono fun e w' ⟨he,hx⟩=>⟨⟨_,he,bv.nil _ _⟩,hx⟩
 | some p=>exact rq p c l w h hs
def Qf:Nat:=512
def ru:Nat:=4294967296 ^ Qf
theorem Ad:(lim n).length≤512↔n < ru:=by
 unfold ru;rw [show (512:Nat)=Qf from rfl];exact aG
def nH (n:Nat):List Int × Int:=if n < ru then (lim n,0) else ([],4)
theorem tF (h:n < ru):nH n=(lim n,0):=by unfold nH;rw [if_pos h]
theorem Bu (h:¬ n < ru):nH n=([],4):=by unfold nH;rw [if_neg h]
def J0 (l1 l2:List Int) (r:List Int × Int):List Int × Int:=if dG l1 l2=0 then r else ([],dG l1 l2)
theorem fG {r:List Int × Int} (h:dG l1 l2=0):J0 l1 l2 r=r:=by unfold J0;rw [if_pos h]
theorem oB {r:List Int × Int} (h:dG l1 l2≠0):J0 l1 l2 r=([],dG l1 l2):=by unfold J0;rw [if_neg h]
def vu (l1 l2:List Int):List Int × Int:=J0 l1 l2 (nH (nv l1+nv l2))
def mulS (l1 l2:List Int):List Int × Int:=J0 l1 l2 (nH (nv l1*nv l2))
def nI (l1 l2:List Int):List Int × Int:=J0 l1 l2 (if nv l1 < nv l2 then ([],7) else (lim (nv l1 - nv l2),0))
theorem kL (h:cI l=0):l.length≤512∧df l:=by
 unfold cI at h;by_cases h1:512 < l.length
 ·rw [if_pos h1] at h;cases h
 ·rw [if_neg h1] at h;by_cases h2:l.getLast?=some 0
  ·exact JT
  ·exact ⟨by omega,h2⟩
theorem px (h:dG l1 l2=0):(l1.length≤512∧df l1)∧(l2.length≤512∧df l2):=by
 unfold dG z6 at h;by_cases h1:cI l1=0
 ·rw [if_pos h1] at h;exact ⟨kL h1,kL h⟩
 ·rw [if_neg h1] at h;exact absurd h h1
theorem Ae (h1:l.length≤512) (h2:df l):cI l=0:=by
 unfold cI;rw [if_neg Z,if_neg h2]
def zQ (w w':World) (e:Ending) (r:List Int × Int):Prop:=∃ v,e=.returned (.tuple #[v,.int .i64 r.2])∧bv w w' v r.1
theorem zQ.mk {x:Int} {r:List Int × Int} (h:bv w w' v l) (e:r=(l,x)):zQ w w' (.returned (.tuple #[v,.int .i64 x])) r:=by subst e;exact ⟨v,rfl,h⟩
theorem yE (a b c:Nat) (h1:a≤c) (h2:b≤c) {x:Nat} (hx:x < 4294967296 ^ a) (hy:y < 4294967296 ^ b):x+y < 4294967296 ^ (c+1):=by
 have:=f5 h1;have:=f5 h2;rw [Nat.pow_succ];omega
theorem Af (o:Option Nat) (v:Value) (l:List Int) (w:World) (h:eZ w o v l) (hl:bk l):
  Calls Tryz.prog 190 #[v] w fun e w'=>(∃ v' o',e=.returned (.tuple #[v',.int .i64 (nH (nv l)).2])∧eZ w' o' v' (nH (nv l)).1∧(o'=o∨o'=none))∧Ext w w':=by
 have hv:∃ a n c,v=.slice a n c:=by
  rcases h with ⟨_,_,a,ha,rfl⟩|⟨g,cap,_,rfl,_⟩
  ·exact ⟨_,_,_,rfl⟩
  ·exact ⟨_,_,_,rfl⟩
 obtain ⟨a,n,c,rfl⟩:=hv;have H:=kI h;have HL:=kI hl;clear h hl;by_cases hm:nv l < ru
 ·have e1:=kI (tF hm);have hlen:=Ad.2 hm;clear hm;go_enter Tryz.func190,Tryz.ntmps190
  go_wp2_with fail;refine (vh o _ l _ H.o HL.o).mono ?_;rintro e w1 ⟨v',rfl,h1,h2⟩;have hv:∃ a c,v'=.slice a (lim (nv l)).length c:=by
   exact TQ
  obtain ⟨a',c',rfl⟩:=hv;have P1:=kI h1;have P2:=kI h2;clear h1 h2;have hd:decide (512 < ((lim (nv l)).length:Int))=false:=decide_eq_false Z;go_wp2_with fail;go_ret2
  exact ⟨⟨_,o,by rw [e1.out];rfl,by rw [e1.out];exact P1.o,.inl rfl⟩,P2.o⟩
 ·have e1:=kI (Bu hm);have hlen:512 < (lim (nv l)).length:=by
   rcases Nat.lt_or_ge 512 (lim (nv l)).length with h|h
   ·exact h
   ·exact absurd (Ad.1 h) hm
  clear hm;go_enter Tryz.func190,Tryz.ntmps190
  go_wp2_with fail;refine (vh o _ l _ H.o HL.o).mono ?_;rintro e w1 ⟨v',rfl,h1,h2⟩;have hv:∃ a c,v'=.slice a (lim (nv l)).length c:=by
   exact TQ
  obtain ⟨a',c',rfl⟩:=hv;have P2:=kI h2;clear h1 h2;have hd:decide (512 < ((lim (nv l)).length:Int))=true:=decide_eq_true Z;go_wp2_with fail;go_ret2
  exact ⟨⟨_,none,by rw [e1.out];rfl,by rw [e1.out];exact eZ.nil _,.inr rfl⟩,P2.o⟩
theorem Dz (n:Nat) (w:World) (hn:n < 18446744073709551616):
  Calls Tryz.prog 159 #[.int .u64 n] w fun e w'=>(∃ v,e=.returned v∧bv w w' v (lim n))∧Ext w w':=by
 have h0:(0:Int)≤(n:Int):=Z
 have h1:(n:Int) < 18446744073709551616:=Z
 have hl:bk [(n:Int) % 4294967296,(n:Int) / 4294967296]:=by
  exact jD1
 have hv:nv [(n:Int) % 4294967296,(n:Int) / 4294967296]=n:=by simp only [nv];omega
 have hr:bh (w.alloc (.cells #[.int .u32 ((n:Int) % 4294967296),.int .u32 ((n:Int) / 4294967296)] 157)) w.heap.size 2 [(n:Int) % 4294967296,(n:Int) / 4294967296]:=bh.new w [(n:Int) % 4294967296,(n:Int) / 4294967296] dc;obtain ⟨HL,HV,HR⟩:=cC hl hv hr;clear hl hv hr;go_enter Tryz.func159,Tryz.ntmps159
 go_wp2_with fail;refine (jo w.heap.size 2 [(n:Int) % 4294967296,(n:Int) / 4294967296] _ HR.o HL.o).mono ?_;rintro e w1 ⟨rfl,h1,h2⟩;have P1:=kI h1;have P2:=kI h2;clear h1 h2;go_wp2_with fail;go_ret;refine ⟨⟨_,rfl,some w.heap.size,?_,fun g hg=>by cases hg;exact Nat.le_refl _⟩,((Ext.refl w).alloc _).trans P2.o⟩;have:=eZ.row P1.o;rw [HV.o] at this ⊢;exact this
theorem DB (v1 v2:Value) (l1 l2:List Int) (w:World) (h1:aY .u32 w v1 l1) (h2:aY .u32 w v2 l2) (hl1:bk l1) (hl2:bk l2):
  Calls Tryz.prog 193 #[v1,v2] w fun e w'=>zQ w w' e (vu l1 l2)∧Ext w w':=by
 have H1:=kI h1;have H2:=kI h2;obtain ⟨a1,c1,rfl,hc1,hm1,hr1⟩:=fC h1;obtain ⟨a2,c2,rfl,hc2,hm2,hr2⟩:=fC h2;have jg:=kI hl1;have HL2:=kI hl2;clear h1 h2 hr1 hr2 hl1 hl2;by_cases hc:dG l1 l2=0
 ·have e1:=kI (show vu l1 l2=nH (nv l1+nv l2) from fG hc);have HC:=kI hc;obtain ⟨⟨g1,z1⟩,g2,z2⟩:=px hc;have Z1:=kI z1;have Z2:=kI z2;clear hc z1 z2;go_enter Tryz.func193,Tryz.ntmps193
  go_wp2_with fail;refine (ct _ _ l1 l2 _ H1.o H2.o).mono ?_;rintro e w1 ⟨rfl,hx1⟩;rw [HC.o];have X1:=kI hx1;clear hx1;have hmx:∀ (m:Nat),l1.length≤m→l2.length≤m→nv l1+4294967296 ^ 0*nv l2 < 4294967296 ^ (m+1):=fun m h1 h2=>by
   rw [Nat.pow_zero,Nat.one_mul];exact yE _ _ _ h1 h2 (bJ jg.o) (bJ HL2.o)
  have HMX:=kI hmx;clear hmx;go_wp2_with (with_reducible refine d6 rfl _ _ rfl _ _ (max l1.length l2.length+1) rfl rfl Z Z Z ?_)
  all_goals
   intro w2 hrow2 hx2 hsz2;have hM1:l1.length≤max l1.length l2.length:=Z
   have hM2:l2.length≤max l1.length l2.length:=Z
   have hM3:max l1.length l2.length≤512:=Z
   have HR2:=kI hrow2;have X2:=X1.x hx2;have HS2:=kI hsz2;have W1:w1.heap.size < w2.heap.size:=Z
   have W0:=X1.o.size;have D1:=kI (((lh.of H1.o).ext X2.o).mono (q:=(·≠w1.heap.size)) (fun b hb e=>by omega));have D2:=kI (((lh.of H2.o).ext X2.o).mono (q:=(·≠w1.heap.size)) (fun b hb e=>by omega));clear hrow2 hx2 hsz2;generalize max l1.length l2.length=M at *
   have hrl:(List.replicate (M+1) (0:Int)).length=M+1:=List.length_replicate;have HRL:=kI hrl;clear hrl;go_wp2_with (refine rp rfl (.tmp 21) (.tmp 22) rfl w1.heap.size (M+1) (List.replicate (M+1) 0) l1 (.slice a1 l1.length c1) (by rw [HRL.o];rfl) (by rfl) HR2.o D1.o.to (by rw [HRL.o];omega) HS2.o ?_)
   intro w3 hrow3 hg3;have HR3:=kI hrow3;have G3:=kI hg3;clear hrow3 hg3;have hz3:=kI (show (l1 ++ List.replicate (M+1 - l1.length) (0:Int)).length=M+1 by rw [List.length_append,List.length_replicate];omega);have hv3:=kI (show nv (l1 ++ List.replicate (M+1 - l1.length) (0:Int))=nv l1 by rw [fO,im];simp);have hl3:=kI (show bk (l1 ++ List.replicate (M+1 - l1.length) (0:Int)) from zZ jg.o (fP _));generalize l1 ++ List.replicate (M+1 - l1.length) (0:Int)=L3 at *
   have D3:=kI (D2.o.gr G3.o (fun b hb e=>hb (by injection e)));go_wp2_with fail;rw [← hz3.out] at HR3 ⊢;refine (add_any w1.heap.size _ L3 (.slice a2 l2.length c2) l2 0 w3 HR3.o hl3.out D3.o HL2.o (by have:=hz3.out;omega) (by rw [hv3.out,hz3.out];exact HMX.o M hM1 hM2)).mono ?_;rintro e w4 ⟨rfl,⟨L4,q1,q2,q3,q4⟩,hg4⟩;obtain ⟨HR4,HL4,HV4⟩:=cC q4 q2 q3;have G4:=G3.x hg4;have HQ:=kI q1;clear q1 q2 q3 q4 hg4;rw [← HQ.o] at HR4 ⊢;go_wp2_with fail;refine (Af (some w1.heap.size) _ L4 w4 (eZ.row HR4.o) HL4.o).mono ?_;rintro e w5 ⟨⟨v',o',rfl,hO,ho'⟩,hx5⟩;have HO:=kI hO;have Xr:=kI ho';have X5:=kI hx5;clear hO ho' hx5;go_wp2_with fail;go_ret2
   have hfin:nH (nv L4)=vu l1 l2:=by rw [HV4.o,hv3.out,e1.out,Nat.pow_zero,Nat.one_mul]
   refine ⟨⟨v',by rw [← hfin];rfl,o',by rw [← hfin];exact HO.o,fun g hg=>?_⟩,?_⟩
   ·rcases Xr.out with rfl|rfl
    ·cases hg;exact W0
    ·cases hg
   ·exact (((Gr.cj (o:=none) X2.o).fresh G4.o (fun g hg=>by right;cases hg;exact W0)).ext).trans X5.o
 ·have e1:=kI (show vu l1 l2=([],dG l1 l2) from oB hc);have hc':(dG l1 l2 != 0)=true:=by simpa using hc
  obtain ⟨c,hcc⟩:=gN (dG l1 l2);have hk:=fun W h1 h2=>ct (.slice a1 l1.length c1) (.slice a2 l2.length c2) l1 l2 W h1 h2;rw [← hcc] at hk hc' e1;have HK:=kI hk;clear hc hcc hk;go_enter Tryz.func193,Tryz.ntmps193
  exact WD
theorem Hh (h:dG l1 l2=0) (hl:nv l1 < nv l2):nI l1 l2=([],7):=by unfold nI;rw [fG h,if_pos hl]
theorem Hi (h:dG l1 l2=0) (hl:¬ nv l1 < nv l2):nI l1 l2=(lim (nv l1 - nv l2),0):=by unfold nI;rw [fG h,if_neg hl]
theorem DD {x:Nat}:decide (eH x y < 0)=decide (x < y):=by
 rcases Nat.lt_trichotomy x y with h|h|h
 ·rw [gD h];simp [h]
 ·subst h;rw [lQ];simp
 ·rw [jX h];have:¬ x < y:=Z
  simp [this]
theorem bv.shape (h:bv w w' v l):∃ a c,v=.slice a l.length c:=by
 obtain ⟨o,h1,_⟩:=h;exact TQ
theorem vw (v1 v2:Value) (l1 l2:List Int) (w:World) (h1:aY .u32 w v1 l1) (h2:aY .u32 w v2 l2) (hl1:bk l1) (hl2:bk l2):
  Calls Tryz.prog 194 #[v1,v2] w fun e w'=>zQ w w' e (nI l1 l2)∧Ext w w':=by
 have H1:=kI h1;have H2:=kI h2;obtain ⟨a1,c1,rfl,hc1,hm1,hr1⟩:=fC h1;obtain ⟨a2,c2,rfl,hc2,hm2,hr2⟩:=fC h2;have jg:=kI hl1;have HL2:=kI hl2;clear h1 h2 hr1 hr2 hl1 hl2;by_cases hc:dG l1 l2=0
 ·have HC:=kI hc;obtain ⟨⟨g1,z1⟩,g2,z2⟩:=px hc;have Z1:=kI z1;have Z2:=kI z2;clear hc z1 z2;by_cases hlt:nv l1 < nv l2
  ·have e1:=kI (Hh HC.o hlt);have hn:eH (nv l1) (nv l2) = -1:=gD hlt;have HN:=kI hn;clear hn hlt;go_enter Tryz.func194,Tryz.ntmps194
   go_wp2_with fail;refine (ct _ _ l1 l2 _ H1.o H2.o).mono ?_;rintro e w1 ⟨rfl,hx1⟩;rw [HC.o];have X1:=kI hx1;clear hx1;go_wp2_with fail;refine (io _ _ l1 l2 _ (H1.o.ext X1.o) (H2.o.ext X1.o) jg.o HL2.o Z1.o Z2.o).mono ?_;rintro e w2 ⟨rfl,hx2⟩;rw [HN.o];have X2:=X1.x hx2;clear hx2;go_wp2_with fail;go_ret2
   exact ⟨zQ.mk (bv.nil _ _) e1.out,X2.o⟩
  ·have e1:=kI (Hi HC.o hlt);have hn:decide (eH (nv l1) (nv l2) < 0)=false:=by rw [DD];exact decide_eq_false hlt
   have hge:=kI (show nv l2≤nv l1 by omega);obtain ⟨c,hcc⟩:=gN (eH (nv l1) (nv l2));have hk:=fun W h1 h2=>io (.slice a1 l1.length c1) (.slice a2 l2.length c2) l1 l2 W h1 h2 jg.o HL2.o Z1.o Z2.o;rw [← hcc] at hk hn;have HK:=kI hk;clear hk hcc hlt;go_enter Tryz.func194,Tryz.ntmps194
   go_wp2_with fail;refine (ct _ _ l1 l2 _ H1.o H2.o).mono ?_;rintro e w1 ⟨rfl,hx1⟩;rw [HC.o];have X1:=kI hx1;clear hx1;go_wp2_with fail;refine (HK.o _ (H1.o.ext X1.o) (H2.o.ext X1.o)).mono ?_;rintro e w2 ⟨rfl,hx2⟩;have X2:=X1.x hx2;clear hx2;go_wp2_with fail;refine (clone_any _ l1 _ (H1.o.ext X2.o) Z).mono ?_;rintro e w3 ⟨⟨vc,rfl,hnew⟩,hx3⟩;obtain ⟨ac,cc,rfl⟩:=hnew.shape;obtain ⟨o,ho,hof⟩:=hnew;have X3:=X2.x hx3;have HO:=kI ho;have HF:=kI hof;have D2:=kI (((lh.of (H2.o.ext X2.o)).ext hx3).mono (q:=fun b=>o≠some b) (fun b hb e=>by have:=hof b e;omega));clear hx3 ho hof;go_wp2_with fail;refine (fJ o _ _ l1 l2 w3 HO.o jg.o D2.o HL2.o Z2.o hge.out).mono ?_;rintro e w4 ⟨v',rfl,h4,hg4⟩;have P4:=kI h4;have G4:=kI hg4;clear h4 hg4;go_wp2_with fail;go_ret2
   refine ⟨zQ.mk ⟨o,P4.o,fun g hg=>?_⟩ e1.out,?_⟩
   ·have:=HF.o g hg;have:=X2.o.size;omega
   ·exact ((Gr.cj (o:=none) X3.o).fresh G4.o (fun g hg=>by right;have:=HF.o g hg;have:=X2.o.size;omega)).ext
 ·have e1:=kI (show nI l1 l2=([],dG l1 l2) from oB hc);have hc':(dG l1 l2 != 0)=true:=by simpa using hc
  obtain ⟨c,hcc⟩:=gN (dG l1 l2);have hk:=fun W h1 h2=>ct (.slice a1 l1.length c1) (.slice a2 l2.length c2) l1 l2 W h1 h2;rw [← hcc] at hk hc' e1;have HK:=kI hk;clear hc hcc hk;go_enter Tryz.func194,Tryz.ntmps194
  exact WD
theorem Hj (g cap:Nat) (l:List Int) (w:World) (h:bh w g cap l) (hl:bk l):
  Calls Tryz.prog 191 #[.slice (some ⟨g,0,none⟩) l.length cap] w fun e w'=>e=.returned (.slice (some ⟨g,0,none⟩) (lim (nv l)).length cap)∧bh w' g cap (lim (nv l))∧Ext w w':=by
 have hle:=h.le;have o7:=h.most;have H:=kI h;clear h;have HL:=kI hl;clear hl;go_enter Tryz.func191,Tryz.ntmps191
 go_wp2
 go_loopw [0] (fun v wr=>∃ k:Nat,k≤l.length∧v=.slice (some ⟨g,0,none⟩) k cap∧nv (l.take k)=nv l∧∃ n,wr=w.drewN n)
  (fun v _=>slen v)
 case atStart=>exact ⟨l.length,Nat.le_refl _,rfl,by rw [List.take_length],0,rfl⟩
 case round=>
  obtain ⟨k,hk,rfl,htake,n,rfl⟩:=hrel;have HT:=kI htake;clear htake;by_cases h0:0 < k
  ·have hc:=H.o.cell (i:=k - 1) Z;obtain ⟨x,hx⟩:=gN (l.getD (k - 1) 0);exact jQ5
  ·exact qUw
theorem Hk (a:Option Addr) (w:World):
  Calls Tryz.prog 191 #[.slice a 0 0] w fun e w'=>e=.returned (.slice a 0 0)∧Ext w w':=by
 go_enter Tryz.func191,Tryz.ntmps191
 exact jH2
theorem lI (o:Option Nat) (v:Value) (l:List Int) (w:World) (h:eZ w o v l) (hl:bk l):
  Calls Tryz.prog 191 #[v] w fun e w'=>∃ v',e=.returned v'∧eZ w' o v' (lim (nv l))∧Ext w w':=by
 rcases h with ⟨rfl,rfl,a,ha,rfl⟩|⟨g,cap,rfl,rfl,h⟩
 ·exact (Hk a w).mono fun e w' ⟨he,hx⟩=>⟨_,he,.inl ⟨rfl,rfl,a,ha,rfl⟩,hx⟩
 ·exact (Hj g cap l w h hl).mono fun e w' ⟨he,hr,hx⟩=>⟨_,he,.row hr,hx⟩
theorem kw (v:Value) (l:List Int) (w:World) (h:aY .u32 w v l):
  Calls Tryz.prog 151 #[v] w fun e w'=>e=.returned (.int .i64 (cI l))∧Ext w w':=by
 obtain ⟨a,cap,rfl,hc,hm,hr⟩:=fC h;clear h;by_cases h5:512 < l.length
 ·have e:cI l=4:=by simp [cI,h5]
  have H:=kI e;clear e hr;have hd:decide (512 < (l.length:Int))=true:=by simp;omega
  go_enter Tryz.func151,Tryz.ntmps151
  go_wp2
  go_ret;exact ⟨by rw [H.o];rfl,Ext.refl w⟩
 ·have hd:decide (512 < (l.length:Int))=false:=by simp;omega
  by_cases h0:0 < l.length
  ·obtain ⟨b,off,rfl,hb,hx⟩:=hr (l.length - 1) Z;obtain ⟨x,hx'⟩:=gN (l.getD (l.length - 1) 0);rw [← hx'] at hx;have e:cI l=if x=0 then 2 else 0:=by
    unfold cI;rw [if_neg h5,fI l h0,← hx'];simp
   have H:=kI e;clear e hr hx';have hd0:decide (0 < (l.length:Int))=true:=by simp;omega
   by_cases hz:x=0
   ·subst hz;go_enter Tryz.func151,Tryz.ntmps151
    exact NG
   ·have hz':(x == 0)=false:=by simpa using hz
    go_enter Tryz.func151,Tryz.ntmps151
    go_wp2
    go_ret;exact ⟨by rw [H.o,if_neg hz];rfl,eX⟩
  ·have hl:l.length=0:=Z
   have e:cI l=0:=by rw [List.length_eq_zero_iff.1 hl];rfl
   have H:=kI e;clear e hr;have hd0:decide (0 < (l.length:Int))=false:=decide_eq_false Z;go_enter Tryz.func151,Tryz.ntmps151
   exact NG
theorem ip (v:Value) (l:List Int) (i:Nat) (w:World) (h:aY .u32 w v l) (hl:bk l) (hi:i≤1000000000):
  Calls Tryz.prog 196 #[v,.int .i64 i] w fun e w'=>e=.returned (.int .u64 (l.getD i 0))∧Ext w w':=by
 obtain ⟨a,cap,rfl,hc,hm,hr⟩:=fC h;clear h;by_cases hlt:i < l.length
 ·obtain ⟨b,off,rfl,hb,hx⟩:=hr i hlt;have hxl:=aI hl i;obtain ⟨x,hxx⟩:=gN (l.getD i 0);rw [← hxx] at hx hxl ⊢;clear hxx hr hl;have q1:(0:Int)≤(i:Int):=Z
  have q2:(i:Int) < (l.length:Int):=Z
  go_enter Tryz.func196,Tryz.ntmps196
  exact Pv
 ·have e:l.getD i 0=0:=by rw [List.getD_eq_getElem?_getD,List.getElem?_eq_none Z];rfl
  have HE:=kI e;clear e hr hl;have q2:decide ((i:Int) < (l.length:Int))=false:=decide_eq_false Z;go_enter Tryz.func196,Tryz.ntmps196
  go_wp2
  go_ret;exact ⟨by rw [HE.o];rfl,eX⟩
theorem lH (va vb:Value) (la lb:List Int) (w:World) (ha:aY .u32 w va la) (hb:aY .u32 w vb lb) (hla:bk la) (hlb:bk lb) (sa:la.length≤100000000) (sb:lb.length≤100000000):
  Calls Tryz.prog 175 #[va,vb] w fun e w'=>e=.returned (.int .i64 (eH (nv la) (nv lb)))∧Ext w w':=by
 have HA:=kI ha;have HB:=kI hb;obtain ⟨aa,ca,rfl,hca,hma,hra⟩:=fC ha;obtain ⟨ab,cb,rfl,hcb,hmb,hrb⟩:=fC hb;clear ha hb hra hrb;obtain ⟨M,hM⟩:=gN (max la.length lb.length);have m1:la.length≤M:=Z
 have m2:lb.length≤M:=Z
 have m3:M≤100000000:=Z
 have h0:∀ j,M≤j→la.getD j 0=lb.getD j 0:=fun j hj=>by
  rw [List.getD_eq_getElem?_getD,List.getD_eq_getElem?_getD,List.getElem?_eq_none Z,List.getElem?_eq_none Z]
 obtain ⟨H0,i5,iX,HM⟩:=dW h0 hla hlb hM;clear h0 hM hla hlb;go_enter Tryz.func175,Tryz.ntmps175
 go_wp2_with fail;all_goals
  go_loopw [5] (fun i wr=>((i=.int .i64 (-1)∧∀ j,la.getD j 0=lb.getD j 0)∨∃ k:Nat,k < M∧i=.int .i64 k∧∀ j,k < j→la.getD j 0=lb.getD j 0)∧Ext w wr) (fun i _=>(intOf i+1).toNat)
  case atStart=>
   refine ⟨?_,Ext.refl _⟩;have hM:=HM.o;rcases Nat.eq_zero_or_pos M with h|h
   ·exact .inl ⟨by go_num,fun j=>H0.o j Z⟩
   ·exact .inr ⟨M - 1,by omega,by go_num,fun j hj=>H0.o j Z⟩
  case round=>
   obtain ⟨hrel,hext⟩:=hrel;have HX:=kI hext;clear hext;rcases hrel with ⟨rfl,hj⟩|⟨k,hk,rfl,hj⟩
   ·have e:=kI (show eH (nv la) (nv lb)=0 by rw [ku la lb hj];exact lQ _);clear hj;go_wp2_with fail;go_ret;exact ⟨by rw [e.out];rfl,HX.o⟩
   ·have HJ:=kI hj;clear hj;obtain ⟨x,hxx⟩:=gN (la.getD k 0);obtain ⟨y,eQ⟩:=gN (lb.getD k 0);have pA:=fun W h=>ip (.slice aa la.length ca) la k W h i5.o Z;have hcb2:=fun W h=>ip (.slice ab lb.length cb) lb k W h iX.o Z;rw [← hxx] at pA;rw [← eQ] at hcb2;obtain ⟨yq,Xs,CA,CB⟩:=dW hxx eQ pA hcb2;clear hxx eQ pA hcb2;go_wp2_with fail;refine (CA.o _ (HA.o.ext HX.o)).mono ?_;rintro e w1 ⟨rfl,hx1⟩;have xX:=HX.x hx1;clear hx1;go_wp2_with fail;refine (CB.o _ (HB.o.ext xX.o)).mono ?_;rintro e w2 ⟨rfl,hx2⟩;have GU:=xX.x hx2;clear hx2;rcases Int.lt_trichotomy x y with hc|hc|hc
    ·have e:=kI (gD (kv i5.o iX.o HJ.o (by rw [← yq.o,← Xs.o];exact hc)));go_wp2_with fail;go_ret;exact ⟨by rw [e.out];rfl,GU.o⟩
    ·have d1:decide (x < y)=false:=decide_eq_false Z;have d2:decide (y < x)=false:=decide_eq_false Z;have HC:=kI hc;clear hc;go_wp2_with fail;refine (CA.o _ (HA.o.ext GU.o)).mono ?_;rintro e w3 ⟨rfl,hx3⟩;have Qi:=GU.x hx3;clear hx3;go_wp2_with fail;refine (CB.o _ (HB.o.ext Qi.o)).mono ?_;rintro e w4 ⟨rfl,hx4⟩;have Hl:=Qi.x hx4;clear hx4;go_wp2_with fail;go_roundw
     case rel=>
      refine ⟨?_,Hl.o⟩;have hall:∀ j,k≤j→la.getD j 0=lb.getD j 0:=fun j hj=>by
       rcases Nat.lt_or_ge k j with h|h
       ·exact HJ.o j h
       ·obtain rfl:j=k:=Z
        rw [← yq.o,← Xs.o];exact HC.o
      rcases Nat.eq_zero_or_pos k with h|h
      ·subst h;exact .inl ⟨rfl,fun j=>hall j Z⟩
      ·exact .inr ⟨k - 1,by omega,by go_num,fun j hj=>hall j Z⟩
     case measure=>simp [intOf] <;> omega
    ·have d1:decide (x < y)=false:=decide_eq_false Z;have e:=kI (jX (kv iX.o i5.o (fun j hj=>(HJ.o j hj).symm) (by rw [← yq.o,← Xs.o];exact hc)));go_wp2_with fail;refine (CA.o _ (HA.o.ext GU.o)).mono ?_;rintro e w3 ⟨rfl,hx3⟩;have Qi:=GU.x hx3;clear hx3;go_wp2_with fail;refine (CB.o _ (HB.o.ext Qi.o)).mono ?_;rintro e w4 ⟨rfl,hx4⟩;have Hl:=Qi.x hx4;clear hx4;go_wp2_with fail;go_ret;exact ⟨by rw [e.out];rfl,Hl.o⟩
theorem vA (h:Gz w B v l) (hl:l.length=n):w.ownsRow B 157 1 v n (l.map (Value.int .u32)):=hl ▸ h
theorem tG (l:List Int) (x:Int):nv (l ++ [x])=nv l+4294967296 ^ l.length*x.toNat:=by rw [fO];simp [nv]
theorem pB (h:bk l) {x:Int} (h0:0≤x) (h1:x < 4294967296):bk (l ++ [x]):=zZ h (fun y hy=>by rw [List.mem_singleton.1 hy];exact ⟨h0,h1⟩)
theorem DH {a:Nat} {x y:Int} (hx:0≤x) (hy:0≤y) (hc:0≤c) (h:n+4294967296 ^ k*c.toNat=a+b):
  n+4294967296 ^ k*((x+y+c) % 4294967296).toNat+4294967296 ^ (k+1)*((x+y+c) / 4294967296).toNat=a+4294967296 ^ k*x.toNat+(b+4294967296 ^ k*y.toNat):=by
 have e1:x.toNat+y.toNat+c.toNat=4294967296*((x+y+c) / 4294967296).toNat+((x+y+c) % 4294967296).toNat:=Z
 generalize ((x+y+c) / 4294967296).toNat=q at *
 generalize ((x+y+c) % 4294967296).toNat=r at *
 exact kDm
def La (w:World) (la lb:List Int) (v:Value) (c:Int) (k:Nat) (wr:World):Prop:=
 ∃ lk,lk.length=k∧bk lk∧nv lk+4294967296 ^ k*c.toNat=nv (la.take k)+nv (lb.take k)∧Gz wr w.heap.size v lk∧Ext w wr
theorem sum_any (va vb:Value) (la lb:List Int) (w:World) (ha:aY .u32 w va la) (hb:aY .u32 w vb lb) (hla:bk la) (hlb:bk lb) (sa:la.length≤100000000) (sb:lb.length≤100000000):
  Calls Tryz.prog 174 #[va,vb] w fun e w'=>(∃ v,e=.returned v∧bv w w' v (lim (nv la+nv lb)))∧Ext w w':=by
 have HA:=kI ha;have HB:=kI hb;obtain ⟨aa,ca,rfl,hca,hma,hra⟩:=fC ha;obtain ⟨ab,cb,rfl,hcb,hmb,hrb⟩:=fC hb;clear ha hb hra hrb;have i5:=kI hla;have iX:=kI hlb;clear hla hlb;go_enter Tryz.func174,Tryz.ntmps174
 go_wp2_with fail;go_loopw [5,6,7,8] (fun v c i _ wr=>∃ (k:Nat) (c':Int),i=.int .i64 k∧c=.int .u64 c'∧0≤c'∧c'≤1∧k≤100000001∧(k≤la.length∨k≤lb.length∨c'=0)∧La w la lb v c' k wr)
  (fun _ c i _ _=>2*(la.length+lb.length - (intOf i).toNat)+(intOf c).toNat)
 case atStart=>exact ⟨0,0,rfl,rfl,by omega,by omega,by omega,by omega,[],rfl,fun x hx=>by simp at hx,by simp [nv],World.ownsRow_nil _ _ _ _,Ext.refl _⟩
 case round=>
  obtain ⟨k,c,rfl,rfl,c0,c1,hk,hk2,hrel⟩:=hrel;by_cases hgo:k < la.length∨k < lb.length∨0 < c
  ·have hk3:k≤100000000:=Z
   obtain ⟨lk,e1,e2,e3,e4,e5⟩:=hrel;have hst:=kI (DH (aI i5.o k).1 (aI iX.o k).1 c0 e3);have hxa:=aI i5.o k;have hxb:=aI iX.o k;have pA:=fun W h=>ip (.slice aa la.length ca) la k W h i5.o Z;have hcb2:=fun W h=>ip (.slice ab lb.length cb) lb k W h iX.o Z;have G1:=kI e1;have G2:=kI e2;have G4:=kI (vA e4 e1);have G5:=kI e5;have ta:=kI (gE la k);have tb:=kI (gE lb k);obtain ⟨x,hxx⟩:=gN (la.getD k 0);obtain ⟨y,eQ⟩:=gN (lb.getD k 0);rw [← hxx] at pA hst hxa ta;rw [← eQ] at hcb2 hst hxb tb;have CA:=kI pA;have CB:=kI hcb2;have hx0:la.length≤k→x=0:=fun h=>by rw [hxx,List.getD_eq_getElem?_getD,List.getElem?_eq_none Z];rfl
   have hy0:lb.length≤k→y=0:=fun h=>by rw [eQ,List.getD_eq_getElem?_getD,List.getElem?_eq_none Z];rfl
   have HX0:=kI hx0;have Xt:=kI hy0;clear hxx eQ pA hcb2 e1 e2 e3 e4 e5 hx0 hy0;rcases (show k < la.length∨(la.length≤k∧k < lb.length)∨(la.length≤k∧lb.length≤k∧0 < c) by omega) with hh|⟨hh1,hh⟩|⟨hh1,hh2,hh⟩
   all_goals
    first
     | have d1:decide ((k:Int) < (la.length:Int))=true:=decide_eq_true Z
     | (have d1:decide ((k:Int) < (la.length:Int))=false:=decide_eq_false Z;have d2:decide ((k:Int) < (lb.length:Int))=true:=decide_eq_true Z)
     | (have d1:decide ((k:Int) < (la.length:Int))=false:=decide_eq_false Z;have d2:decide ((k:Int) < (lb.length:Int))=false:=decide_eq_false Z;have d3:decide (0 < c)=true:=decide_eq_true Z)
    go_wp2_with fail;refine (CA.o _ (HA.o.ext G5.o)).mono ?_;rintro e w1 ⟨rfl,hx1⟩;have G6:=G5.x hx1;have O6:=kI (jU G4.o hx1);clear hx1;go_wp2_with fail;refine (CB.o _ (HB.o.ext G6.o)).mono ?_;rintro e w2 ⟨rfl,hx2⟩;have G7:=G6.x hx2;have O7:=kI (jU O6.o hx2);clear hx2;have hz:=G7.o.size;go_wp2_with (at_builtin;(refine bY w2 rfl _ _ 23 rfl w.heap.size 157 (.int .u32 0) 1 4 Tryz.underlying23 Tryz.ko rfl ah _ _ _ O7.o rfl [_] rfl iW rfl Z Z hz ?_))
    intro g cap w3 hown3 hb3;have O8:=kI hown3;have B8:=kI hb3;clear hown3 hb3;go_wp2_with fail;have hcb:=o0 hxa hxb ⟨c0,c1⟩;go_roundw
    case rel=>
     refine ⟨k+1,_,by go_num,rfl,hcb.1,hcb.2,by omega,?_,lk ++ [(x+y+c) % 4294967296],by rw [List.length_append,G1.o];rfl,pB G2.o Z Z,?_,?_,Below.trans G7.o B8.o⟩
     ·have:=HX0.o;have:=Xt.o;by_cases h1:k < la.length
      ·exact .inl h1
      ·by_cases h2:k < lb.length
       ·exact .inr (.inl h2)
       ·have e1:=HX0.o Z;have e2:=Xt.o Z;subst e1;subst e2;right;right;omega
     ·rw [tG,G1.o,ta.out,tb.out];exact hst.out
     ·exact zLi
    case measure=>
     simp only [intOf];by_cases h1:k < la.length
     ·omega
     ·by_cases h2:k < lb.length
      ·omega
      ·have e1:=HX0.o Z;have e2:=Xt.o Z;subst e1;subst e2;omega
  ·obtain ⟨lk,e1,e2,e3,e4,e5⟩:=hrel;have hc0:c=0:=Z
   subst hc0;have ev:nv lk=nv la+nv lb:=by
    rw [List.take_of_length_le Z,List.take_of_length_le Z] at e3;simpa using e3
   obtain ⟨o,ho,hof⟩:=eZ.own e4;obtain ⟨G2,G4,G5,GV,GF⟩:=iR e2 ho e5 ev hof;clear e1 e2 e3 e4 e5 ho ev hof;have d1:decide ((k:Int) < (la.length:Int))=false:=decide_eq_false Z;have d2:decide ((k:Int) < (lb.length:Int))=false:=decide_eq_false Z;exact zOd
theorem Bv {a:Nat} {x y:Int} (hx:0≤x∧x < 4294967296) (hy:0≤y∧y < 4294967296) (hc:0≤c∧c≤1) (h:n+b=a+4294967296 ^ k*c.toNat):
  n+4294967296 ^ k*((4294967296+x - y - c) % 4294967296).toNat+(b+4294967296 ^ k*y.toNat)=a+4294967296 ^ k*x.toNat+4294967296 ^ (k+1)*(1 - (4294967296+x - y - c) / 4294967296).toNat:=by
 have e1:y.toNat+c.toNat+((4294967296+x - y - c) % 4294967296).toNat=x.toNat+4294967296*(1 - (4294967296+x - y - c) / 4294967296).toNat:=Z
 generalize (1 - (4294967296+x - y - c) / 4294967296).toNat=q at *
 generalize ((4294967296+x - y - c) % 4294967296).toNat=r at *
 exact kDm
theorem fV (va vb:Value) (la lb:List Int) (w:World) (ha:aY .u32 w va la) (hb:aY .u32 w vb lb) (hla:bk la) (hlb:bk lb) (hz:df lb) (sa:la.length≤100000000) (hge:nv lb≤nv la):
  Calls Tryz.prog 176 #[va,vb] w fun e w'=>(∃ v,e=.returned v∧bv w w' v (lim (nv la - nv lb)))∧Ext w w':=by
 have hlen:=pt hlb hz hla hge;have HA:=kI ha;have HB:=kI hb;obtain ⟨aa,ca,rfl,hca,hma,hra⟩:=fC ha;obtain ⟨ab,cb,rfl,hcb,hmb,hrb⟩:=fC hb;clear ha hb hra hrb;obtain ⟨i5,iX,HGE⟩:=cC hla hlb hge;clear hla hlb hge hz;go_enter Tryz.func176,Tryz.ntmps176
 go_wp2_with fail;go_loopw [5,6,7,8] (fun v c i _ wr=>∃ (k:Nat) (c':Int) (lk:List Int),i=.int .i64 k∧c=.int .u64 c'∧0≤c'∧c'≤1∧k≤la.length∧lk.length=k∧bk lk∧nv lk+nv (lb.take k)=nv (la.take k)+4294967296 ^ k*c'.toNat∧Gz wr w.heap.size v lk∧Ext w wr)
  (fun _ _ i _ _=>la.length - (intOf i).toNat)
 case atStart=>exact ⟨0,0,[],rfl,rfl,by omega,by omega,by omega,rfl,fun x hx=>by simp at hx,by simp [nv],World.ownsRow_nil _ _ _ _,Ext.refl _⟩
 case round=>
  obtain ⟨k,c,lk,rfl,rfl,c0,c1,hk,e1,e2,e3,e4,e5⟩:=hrel;by_cases hlt:k < la.length
  ·have hst:=kI (Bv (aI i5.o k) (aI iX.o k) ⟨c0,c1⟩ e3);have hxa:=aI i5.o k;have hxb:=aI iX.o k;have pA:=fun W h=>ip (.slice aa la.length ca) la k W h i5.o Z;have hcb2:=fun W h=>ip (.slice ab lb.length cb) lb k W h iX.o Z;have G1:=kI e1;have G2:=kI e2;have G4:=kI (vA e4 e1);have G5:=kI e5;have ta:=kI (gE la k);have tb:=kI (gE lb k);obtain ⟨x,hxx⟩:=gN (la.getD k 0);obtain ⟨y,eQ⟩:=gN (lb.getD k 0);rw [← hxx] at pA hst hxa ta;rw [← eQ] at hcb2 hst hxb tb;have CA:=kI pA;have CB:=kI hcb2;clear hxx eQ pA hcb2 e1 e2 e3 e4 e5;go_wp2_with fail;refine (CA.o _ (HA.o.ext G5.o)).mono ?_;rintro e w1 ⟨rfl,hx1⟩;have G6:=G5.x hx1;have O6:=kI (jU G4.o hx1);clear hx1;go_wp2_with fail;refine (CB.o _ (HB.o.ext G6.o)).mono ?_;rintro e w2 ⟨rfl,hx2⟩;have G7:=G6.x hx2;have O7:=kI (jU O6.o hx2);clear hx2;have hz:=G7.o.size;go_wp2_with (at_builtin;(refine bY w2 rfl _ _ 23 rfl w.heap.size 157 (.int .u32 0) 1 4 Tryz.underlying23 Tryz.ko rfl ah _ _ _ O7.o rfl [_] rfl iW rfl Z Z hz ?_))
   intro g cap w3 hown3 hb3;have O8:=kI hown3;have B8:=kI hb3;clear hown3 hb3;go_wp2_with fail;go_roundw
   case rel=>
    refine ⟨k+1,_,lk ++ [(4294967296+x - y - c) % 4294967296],by go_num,rfl,by omega,by omega,by omega,by rw [List.length_append,G1.o];rfl,pB G2.o Z Z,?_,?_,Below.trans G7.o B8.o⟩
    ·rw [tG,G1.o,ta.out,tb.out];exact hst.out
    ·exact zLi
   case measure=>simp [intOf];omega
  ·have ev:nv lk=nv la - nv lb:=by
    have h1:=bJ e2;have h2:=HGE.o;rw [e1,show k=la.length by omega] at h1;rw [show k=la.length by omega,List.take_of_length_le (by omega:lb.length≤la.length),List.take_length] at e3;rcases (show c=0∨c=1 by omega) with rfl|rfl
    ·simp at e3;omega
    ·have h3:=bJ iX.o;have h4:=f5 hlen;simp at e3;omega
   obtain ⟨o,ho,hof⟩:=eZ.own e4;obtain ⟨G2,G4,G5,GV,GF⟩:=iR e2 ho e5 ev hof;clear e1 e2 e3 e4 e5 ho ev hof;exact zOd
theorem tH {a:Option Addr} {c:Nat} (h:aY .u32 w (.slice a l.length c) l):∀ i,i < l.length→∃ b off,a=some ⟨b,off,none⟩∧b < w.heap.size∧w.cell? ⟨b,off+i,none⟩=some (.int .u32 (l.getD i 0)):=by
 obtain ⟨a',c',e,_,_,hr⟩:=fC h;injection e with e1 _ _
 rw [e1];exact hr
theorem eJ (x:Int) (h:i≠j):(l.set i x).getD j 0=l.getD j 0:=by
 rw [List.getD_eq_getElem?_getD,List.getD_eq_getElem?_getD,List.getElem?_set_ne h]
theorem oC {x y:Int} (hx:0≤x∧x < 4294967296) (hy:0≤y∧y < 4294967296):0≤x*y∧x*y≤18446744065119617025:=by
 refine ⟨Int.mul_nonneg hx.1 hy.1,?_⟩;have h1:x*y≤4294967295*y:=Int.mul_le_mul_of_nonneg_right Z hy.1;omega
theorem vB {p:Nat} {q:Int} (hl:bk l) (hp:p < l.length) (hq:0≤q) (hc:0≤c):
  nv (l.set p ((q+l.getD p 0+c) % 4294967296))+4294967296 ^ (p+1)*((q+l.getD p 0+c) / 4294967296).toNat=nv l+4294967296 ^ p*(q.toNat+c.toNat):=by
 have:=lN (x:=q) (c:=c) hl hp hq hc;rw [Int.add_comm q];exact this
theorem row_step {q:Int} (hl:bk l) (hk:k+1 < l.length) (hq:0≤q) (h0:l.getD (k+1) 0=0):
  nv ((l.set k ((q+l.getD k 0) % 4294967296)).set (k+1) ((q+l.getD k 0) / 4294967296))=nv l+4294967296 ^ k*q.toNat:=by
 have hlt:k < l.length:=Z
 have hne:k≠k+1:=Z
 have h1:=vB (q:=q) (c:=0) hl hlt hq (Int.le_refl 0);have h2:=lM (l:=l.set k ((q+l.getD k 0) % 4294967296)) (k:=k+1) (by rw [List.length_set];exact hk) ((q+l.getD k 0) / 4294967296);rw [eJ _ hne,h0] at h2;rw [show (0:Int).toNat=0 from rfl,Nat.mul_zero,Nat.add_zero] at h2;rw [show (0:Int).toNat=0 from rfl,Nat.add_zero,Int.add_zero] at h1;rw [h2];exact h1
theorem lS (x:Nat) (l:List Int) (h:k < l.length):x*nv (l.take (k+1))=x*nv (l.take k)+4294967296 ^ k*(x*(l.getD k 0).toNat):=by
 rw [dy h,Nat.mul_add,← Nat.mul_assoc,Nat.mul_comm x (4294967296 ^ k),Nat.mul_assoc]
theorem DI (ha:bk la) (hb:bk lb):nv (la.take i)*nv lb < 4294967296 ^ (i+lb.length):=by
 have h1:=bJ (fi ha i);have h2:=bJ hb;have h3:=f5 (show (la.take i).length≤i by rw [List.length_take];omega);rw [Nat.pow_add];exact Nat.mul_lt_mul'' Z h2
theorem Lb (a1:Option Addr) (c1:Nat) (l1:List Int) (a2:Option Addr) (c2:Nat) (l2:List Int) (w:World) (h1:aY .u32 w (.slice a1 l1.length c1) l1) (h2:aY .u32 w (.slice a2 l2.length c2) l2) (hl1:bk l1) (hl2:bk l2) (hc:dG l1 l2=0)
  (hc1:l1.length≤c1) (hm1:c1≤9223372036854775807) (hc2:l2.length≤c2) (hm2:c2≤9223372036854775807) :
  Calls Tryz.prog 160 #[.slice a1 l1.length c1,.slice a2 l2.length c2] w fun e w'=>zQ w w' e (nH (nv l1*nv l2))∧Ext w w':=by
 have hr1:=tH h1;have hr2:=tH h2;obtain ⟨H1,H2,R1,R2,jg,HL2,HC⟩:=Ba h1 h2 hr1 hr2 hl1 hl2 hc;obtain ⟨⟨g1,z1⟩,g2,z2⟩:=px hc;clear h1 h2 hr1 hr2 hl1 hl2 hc z1 z2;go_enter Tryz.func160,Tryz.ntmps160
 go_wp2_with fail;refine (ct _ _ l1 l2 _ H1.o H2.o).mono ?_;rintro e w1 ⟨rfl,hx1⟩;rw [HC.o];have X1:=kI hx1;clear hx1;go_wp2_with (with_reducible refine d6 rfl _ _ rfl _ _ (l1.length+l2.length+1) rfl rfl Z Z Z ?_)
 intro w2 hrow2 hx2 hsz2;have HR2:=kI hrow2;have X2:=kI hx2;have W1:w1.heap.size < w2.heap.size:=Z
 have W0:=X1.o.size;clear hrow2 hx2 hsz2;go_wp2_with fail;go_loopw [8,9,10,11,12,13,29,40] (fun _ _ _ _ _ _ i _ wr=>∃ (k:Nat) (lo:List Int),k≤l1.length∧i=.int .i64 k∧lo.length=l1.length+l2.length+1∧bk lo∧nv lo=nv (l1.take k)*nv l2∧bh wr w1.heap.size (l1.length+l2.length+1) lo∧Ext w1 wr)
  (fun _ _ _ _ _ _ i _ _=>l1.length - (intOf i).toNat)
 case atStart=>exact ⟨0,_,Nat.zero_le _,rfl,List.length_replicate,fP _,by rw [im];simp [nv],HR2.o,X2.o⟩
 case round=>
  obtain ⟨k,lo,hk,rfl,e1,e2,e3,e4,e5⟩:=hrel;obtain ⟨G1,G2,G3,G4,G5⟩:=iR e1 e2 e3 e4 e5;have Wr:=e4.lt;clear e1 e2 e3 e4 e5;by_cases hlt:k < l1.length
  ·obtain ⟨b,off,rfl,hbl,hx⟩:=R1.o k hlt;have hxl:=aI jg.o k;have hx':=((X1.o.trans G5.o).cell (p:=⟨b,off+k,none⟩) hbl).trans hx;obtain ⟨x,hxx⟩:=gN (l1.getD k 0);rw [← hxx] at hx' hxl;have hxn:0≤x:=hxl.1;have Uo:=kI hxx;clear hx hxx;go_wp2_with (with_reducible refine d6 rfl _ _ rfl _ _ (l2.length+1) rfl rfl Z Z Z ?_)
   intro w3 hrow3 hx3 hsz3;have HR3:=kI hrow3;have X3:=kI hx3;have W3:wr.heap.size < w3.heap.size:=Z
   clear hrow3 hx3 hsz3 hx';go_wp2_with fail;obtain ⟨wo,hwo⟩:∃ wo:World,wo=wr:=⟨_,rfl⟩;rw [← hwo] at G4 G5 X3 HR3 Wr W3 ⊢;clear hwo;go_loopw [11,12,13,40] (fun _ _ _ i wq=>∃ (j:Nat) (lr:List Int),j≤l2.length∧i=.int .i64 j∧lr.length=l2.length+1∧bk lr∧nv lr=x.toNat*nv (l2.take j)∧(∀ t,j < t→lr.getD t 0=0)∧bh wq wo.heap.size (l2.length+1) lr∧Ext wo wq)
    (fun _ _ _ i _=>l2.length - (intOf i).toNat)
   case atStart=>
    refine ⟨0,_,Nat.zero_le _,rfl,List.length_replicate,fP _,by rw [im];simp [nv],fun t _=>?_,HR3.o,X3.o⟩;exact Xa
   case round=>
    obtain ⟨j,lr,hj,rfl,e1,e2,e3,ez,e4,e5⟩:=hrel;by_cases hlt2:j < l2.length
    ·obtain ⟨b,off,rfl,hbl,hx⟩:=R2.o j hlt2;have hyl:=aI HL2.o j;have hy':=(((X1.o.trans G5.o).trans e5).cell (p:=⟨b,off+j,none⟩) hbl).trans hx;obtain ⟨y,eQ⟩:=gN (l2.getD j 0);have hmt:=lS x.toNat l2 hlt2;rw [← eQ] at hy' hyl hmt;have hp:=oC hxl hyl;have hst:=row_step e2 (show j+1 < lr.length by omega) hp.1 (ez _ Z);have hzl:=aI e2 j;obtain ⟨z,hzz⟩:=gN (lr.getD j 0);have hz':=e4.getD (i:=j) Z hzz;have hz2:=e4.cell (i:=j+1) Z;rw [← hzz] at hst hzl;obtain ⟨q,hq⟩:=gN (x*y);rw [← hq] at hst hp;have Hm:q.toNat=x.toNat*y.toNat:=by rw [hq];exact Int.toNat_mul hxl.1 hyl.1
     rw [← Hm] at hmt;have fz:=e4.free;have lz:=e4.lt;obtain ⟨G7,G8,G9,N9,Lc,J1,GS,GM,HQ⟩:=JF e1 e2 e3 ez e4 e5 hst hmt hq;have q1:(0:Int)≤(j:Int):=Z
     have q2:(j:Int) < (l2.length:Int):=Z
     have hq0:=hp.1;have hq1:=hp.2;have p1:0≤x*y:=by rw [← hq];exact hp.1
     have p2:x*y≤18446744065119617025:=by rw [← hq];exact hp.2
     obtain ⟨hz0,hz1⟩:=hzl;obtain ⟨hx0,Xu⟩:=hxl;obtain ⟨hy0,hy1'⟩:=hyl;clear e1 e2 e3 e4 e5 ez hx eQ hzz hst hmt Hm hq hp;go_wp2_with fail;go_roundw
     case rel=>
      rw [← HQ.o];refine ⟨j+1,(lr.set j ((q+z) % 4294967296)).set (j+1) ((q+z) / 4294967296),by omega,by go_num,by rw [List.length_set,List.length_set];exact G7.o,jS (er G8.o _ _) _ Z Z,?_,fun t ht=>?_,?_,(J1.o.set (by have:=X3.o.size;dsimp only;omega) _).set (by have:=X3.o.size;dsimp only;omega) _⟩
      ·rw [GS.o,GM.o,G9.o]
      ·rw [eJ _ Z,eJ _ Z];exact N9.o t Z
      ·exact (Lc.o.set j _ (by have:=G7.o;omega)).set (j+1) _ (by rw [List.length_set];have:=G7.o;omega)
     case measure=>simp [intOf];omega
    ·obtain rfl:j=l2.length:=Z
     rw [List.take_length] at e3;obtain ⟨G7,G8,G9,Lc,J1⟩:=iR e1 e2 e3 e4 e5;clear e1 e2 e3 e4 e5 ez;go_wp2_with fail;have Hn:=G4.o.ext J1.o;have hfit:nv lo+4294967296 ^ k*nv lr < 4294967296 ^ lo.length:=by
      rw [G3.o,G9.o,G1.o];have h1:=DI jg.o HL2.o (i:=k+1);have h2:=f5 (show k+1+l2.length≤l1.length+l2.length+1 by omega);rw [dy hlt,← Uo.o,Nat.add_mul,Nat.mul_assoc] at h1;omega
     have Ql:=kI hfit;have HRW:=kI Hn;clear hfit Hn;have hcall:=add_any w1.heap.size (l1.length+l2.length+1) lo (.slice (some ⟨wo.heap.size,0,none⟩) lr.length (l2.length+1)) lr k wr HRW.o G2.o (Lc.o.rd (p:=(·≠w1.heap.size)) Z) G8.o (by have:=G7.o;have:=G1.o;omega) Ql.o;rw [G1.o,G7.o] at hcall;refine hcall.mono ?_;clear hcall;rintro e w5 ⟨rfl,⟨l5,q1,q2,q3,q4⟩,hg5⟩;obtain ⟨P1,P2,P3,P4,P5⟩:=iR q1 q2 q3 q4 hg5;clear q1 q2 q3 q4 hg5;go_wp2_with fail;go_roundw
     case rel=>
      refine ⟨k+1,l5,by omega,by go_num,P1.o,P2.o,?_,P4.o,?_⟩
      ·rw [P3.o,G3.o,G9.o,dy hlt,← Uo.o,Nat.add_mul,Nat.mul_assoc]
      ·exact ((Gr.cj (o:=none) (G5.o.trans J1.o)).fresh P5.o (fun g hg=>by right;cases hg;exact Nat.le_refl _)).ext
     case measure=>simp [intOf];omega
  ·obtain rfl:k=l1.length:=Z
   have e3:=G3.o;rw [List.take_length] at e3;have G9:=kI e3;clear e3;go_wp2_with fail;have hcall:=Af (some w1.heap.size) _ lo wr (eZ.row G4.o) G2.o;rw [G1.o] at hcall;refine hcall.mono ?_;clear hcall;rintro e w5 ⟨⟨v',o',rfl,hO,ho'⟩,hx5⟩;have HO:=kI hO;have Xr:=kI ho';have X5:=kI hx5;clear hO ho' hx5;go_wp2_with fail;go_ret2
   rw [← G9.o];refine ⟨⟨v',rfl,o',HO.o,fun g hg=>?_⟩,(X1.o.trans G5.o).trans X5.o⟩;rcases Xr.out with rfl|rfl
   ·cases hg;exact W0
   ·cases hg
theorem DM (v1 v2:Value) (l1 l2:List Int) (w:World) (h1:aY .u32 w v1 l1) (h2:aY .u32 w v2 l2) (hl1:bk l1) (hl2:bk l2):
  Calls Tryz.prog 160 #[v1,v2] w fun e w'=>zQ w w' e (mulS l1 l2)∧Ext w w':=by
 have H1:=kI h1;have H2:=kI h2;obtain ⟨a1,c1,rfl,hc1,hm1,hr1⟩:=fC h1;obtain ⟨a2,c2,rfl,hc2,hm2,hr2⟩:=fC h2;by_cases hc:dG l1 l2=0
 ·rw [show mulS l1 l2=nH (nv l1*nv l2) from fG hc];exact Lb a1 c1 l1 a2 c2 l2 w h1 h2 hl1 hl2 hc hc1 hm1 hc2 hm2
 ·clear h1 h2 hr1 hr2 hl1 hl2;have e1:=kI (show mulS l1 l2=([],dG l1 l2) from oB hc);have hc':(dG l1 l2 != 0)=true:=by simpa using hc
  obtain ⟨c,hcc⟩:=gN (dG l1 l2);have hk:=fun W h1 h2=>ct (.slice a1 l1.length c1) (.slice a2 l2.length c2) l1 l2 W h1 h2;rw [← hcc] at hk hc' e1;have HK:=kI hk;clear hc hcc hk;go_enter Tryz.func160,Tryz.ntmps160
  exact WD
def cF (w:World) (B:Nat) (v:Value) (l:List Int):Prop:=∃ o,eZ w o v l∧∀ g,o=some g→B≤g
theorem cF.of (h:Gz w B v l):cF w B v l:=eZ.own h
theorem cF.nil (w:World) (B:Nat):cF w B (.slice none 0 0) []:=⟨none,.nil w,fun g h=>by cases h⟩
theorem cF.ext (h:cF w B v l) (x:Ext w w'):cF w' B v l:=by obtain ⟨o,h1,h2⟩:=h;exact ⟨o,h1.ext x,h2⟩
instance:Lx (Ext w w') (cF w B v l) (cF w' B v l):=⟨fun k h=>cF.ext h k⟩
theorem cF.rd (h:cF w B v l):aY .u32 w v l:=by obtain ⟨o,h1,_⟩:=h;exact h1.GQ
theorem cF.mono {B':Nat} (h:cF w B v l) (hB:B'≤B):cF w B' v l:=by obtain ⟨o,h1,h2⟩:=h;exact ⟨o,h1,fun g hg=>Nat.le_trans hB (h2 g hg)⟩
theorem cF.shape (h:cF w B v l):∃ a c,v=.slice a l.length c:=by
 obtain ⟨o,h1,_⟩:=h;exact TQ
theorem Xv (y x:Int) (hy:0≤y∧y < 4294967296) (hx:0≤x∧x≤1):bits .or .u32 (y*2 % 4294967296) x=(2*y+x) % 4294967296:=by
 obtain ⟨a,rfl⟩:=Int.eq_ofNat_of_zero_le hy.1;obtain ⟨b,rfl⟩:=Int.eq_ofNat_of_zero_le hx.1;have ha:a < 4294967296:=Z
 have hb:b≤1:=Z
 rw [show ((a:Int)*2 % 4294967296)=((a*2 % 4294967296:Nat):Int) by omega,(d5 (a*2 % 4294967296) b Z Z).2.1,yw (a*2 % 4294967296) b 1 Z Z];omega
theorem DN {x:Int} (hl:bk l) (hi:i < l.length) (hx:0≤x):
  nv (l.set i ((2*l.getD i 0+x) % 4294967296))+4294967296 ^ (i+1)*((2*l.getD i 0+x) / 4294967296).toNat=nv l+4294967296 ^ i*((l.getD i 0).toNat+x.toNat):=by
 have h2:=aI hl i;have:=lN (x:=l.getD i 0) (c:=x) hl hi h2.1 hx;rw [show 2*l.getD i 0+x=l.getD i 0+l.getD i 0+x by omega];exact this
theorem Bw (hl:bk l) (h:4294967296 ^ (l.length - 1)≤nv l):df l:=by
 intro e;have hne:l≠[]:=by intro h0;subst h0;cases e
 have hlen:0 < l.length:=List.length_pos_iff.2 hne;rw [fI l hlen] at e;injection e with e
 have h1:=dy (l:=l) (k:=l.length - 1) Z;rw [show l.length - 1+1=l.length by omega,List.take_length,e,show (0:Int).toNat=0 from rfl,Nat.mul_zero,Nat.add_zero] at h1;have h2:=bJ (fi hl (l.length - 1));rw [List.length_take_of_le Z] at h2;omega
theorem yF {lk:List Int} {x:Nat} (hl:bk l) (hz:df l) (hk:bk lk) (hlen:lk.length=l.length) (h:nv lk=2*nv l+x):df lk:=by
 by_cases h0:l=[]
 ·subst h0;rw [List.length_eq_zero_iff.1 hlen];simp [df]
 ·refine Bw hk ?_;have:=zY hl hz h0;rw [hlen];omega
theorem yG (B g cap:Nat) (l:List Int) (x:Int) (w:World) (h:bh w g cap l) (hl:bk l) (hz:df l) (hx:0≤x∧x≤1) (hB:B≤w.heap.size) (hg:B≤g) (hs:l.length≤1000000):
  Calls Tryz.prog 187 #[.slice (some ⟨g,0,none⟩) l.length cap,.int .u32 x] w fun e w'=>(∃ v',e=.returned v'∧cF w' B v' (lim (2*nv l+x.toNat)))∧Below B w w':=by
 have hle:=h.le;have o7:=h.most;obtain ⟨H,HL,HZ⟩:=cC h hl hz;clear h hl hz;obtain ⟨x0,hx0⟩:=gN (x);have HX0:=kI hx0;clear hx0;go_enter Tryz.func187,Tryz.ntmps187
 go_wp2_with fail;go_loopw [1,5,6,9] (fun vx _ _ i wr=>∃ (k:Nat) (c:Int) (lk:List Int),k≤l.length∧i=.int .i64 k∧vx=.int .u32 c∧0≤c∧c≤1∧lk.length=l.length∧bk lk∧lk.drop k=l.drop k∧nv lk+4294967296 ^ k*c.toNat=nv l+nv (l.take k)+x0.toNat∧bh wr g cap lk∧Gr (some g) w wr)
  (fun _ _ _ i _=>l.length - (intOf i).toNat)
 case atStart=>exact ⟨0,x,l,Nat.zero_le _,rfl,rfl,hx.1,hx.2,rfl,HL.o,rfl,by rw [HX0.o];simp [nv],H.o,Gr.refl _ _⟩
 case round=>
  obtain ⟨k,c,lk,hk,rfl,rfl,c0,c1,e1,e2,ed,e3,e4,e5⟩:=hrel;by_cases hlt:k < l.length
  ·have hxl:=aI HL.o k;have hgk:lk.getD k 0=l.getD k 0:=by
    have:=congrArg (fun t=>t.getD 0 0) ed;simpa [List.getD_eq_getElem?_getD,List.getElem?_drop] using this
   have ht:=dy hlt;have hst:=DN (x:=c) e2 (show k < lk.length by omega) c0;rw [hgk] at hst;obtain ⟨y,eQ⟩:=gN (l.getD k 0);have hy':=e4.getD (i:=k) Z (eQ.trans hgk.symm);rw [← eQ] at hst ht hxl;have hor:=Xv y c hxl ⟨c0,c1⟩;have fy:=e4.free;have ly:=e4.lt;have hdk:(lk.set k ((2*y+c) % 4294967296)).drop (k+1)=l.drop (k+1):=by
    rw [List.drop_set_of_lt Z];have:=congrArg (List.drop 1) ed;simpa [List.drop_drop,Nat.add_comm] using this
   obtain ⟨G1,G2,G3,G4,G5,GS,GT,GO,GD⟩:=JF e1 e2 e3 e4 e5 hst ht hor hdk;have q1:(0:Int)≤(k:Int):=Z
   have q2:(k:Int) < (l.length:Int):=Z
   obtain ⟨y0,y1⟩:=hxl;clear e1 e2 e3 e4 e5 ed hst ht eQ hgk hor hdk;go_wp2_with fail;go_roundw
   case rel=>
    refine ⟨k+1,(2*y+c) / 4294967296,lk.set k ((2*y+c) % 4294967296),by omega,by go_num,?_,by omega,by omega,(List.length_set).trans G1.o,er G2.o _ _,GD.o,?_,?_,?_⟩
    ·congr 1;omega
    ·have h1:=GS.o;have h2:=GT.o;have h3:=G3.o;rw [Nat.mul_add] at h1;omega
    ·have:=G4.o.set k ((2*y+c) % 4294967296) Dc;rw [← GO.o] at this ⊢;exact this
    ·exact G5.o.set _ _
   case measure=>simp [intOf];omega
  ·obtain rfl:k=l.length:=Z
   rw [List.take_length] at e3;have hb5:=e5.below hB (fun g' hg'=>by cases hg';exact hg);have hsz:=e5.size;by_cases hc0:c=0
   ·subst hc0;have ev:nv lk=2*nv l+x.toNat:=by rw [← HX0.o];simp at e3;omega
    have ec:=dg e2 (yF HL.o HZ.o e2 e1 ev);rw [ev] at ec;obtain ⟨G1,G4,GE,G5⟩:=dW e1 e4 ec hb5;clear e1 e2 e3 e4 e5 ed ev ec hb5;go_wp2_with fail;go_ret;refine ⟨⟨_,rfl,some g,?_,fun g' h=>by cases h;exact hg⟩,G5.o⟩;rw [GE.o,← G1.o];exact eZ.row G4.o
   ·have hc1:c=1:=Z
    subst hc1;have e2':bk (lk ++ [1]):=pB e2 Z Z;have ev:nv (lk ++ [1])=2*nv l+x.toNat:=by
     rw [tG,e1,← HX0.o];rw [show (1:Int).toNat=1 from rfl] at e3 ⊢;omega
    have ec:=dg e2' (by simp [df]);rw [ev] at ec;have hown:=(eZ.row e4).PP (B:=B) (fun g' h=>by cases h;exact hg);rw [e1] at hown;obtain ⟨G1,G4,GE,G5⟩:=dW e1 hown ec hb5;clear e1 e2 e3 e4 e5 ed ev ec hb5 hown e2';go_wp2_with (at_builtin;(refine bY wr rfl _ _ 23 rfl B 157 (.int .u32 0) 1 4 Tryz.underlying23 Tryz.ko rfl ah _ _ _ G4.o rfl [_] rfl iW rfl Z Z Z ?_))
    intro g2 cap2 w3 hown3 hb3;have O8:=kI hown3;have B8:=kI hb3;clear hown3 hb3;go_wp2_with fail;go_ret;refine ⟨⟨_,rfl,cF.of ?_⟩,G5.o.trans B8.o⟩;have:=O8.o;unfold Gz;rw [GE.o,List.length_append,G1.o,List.map_append];exact this
theorem yH (B:Nat) (x:Int) (w:World) (hx:0≤x∧x≤1) (hB:B≤w.heap.size):
  Calls Tryz.prog 187 #[.slice none 0 0,.int .u32 x] w fun e w'=>(∃ v',e=.returned v'∧cF w' B v' (lim x.toNat))∧Below B w w':=by
 by_cases h0:x=0
 ·subst h0;go_enter Tryz.func187,Tryz.ntmps187
  go_wp2_with fail;refine wp_loop_rounds 1 ?_;rw [rounds_succ];go_wp2
  go_ret;exact ⟨⟨_,rfl,cF.nil _ _⟩,Below.refl _ _⟩
 ·have h1:x=1:=Z
  subst h1;go_enter Tryz.func187,Tryz.ntmps187
  go_wp2_with fail;refine wp_loop_rounds 1 ?_;rw [rounds_succ];go_wp2_with (at_builtin;(refine bY w rfl _ _ 23 rfl B 157 (.int .u32 0) 1 4 Tryz.underlying23 Tryz.ko rfl ah _ _ _ (World.ownsRow_nil _ _ _ _) rfl [_] rfl iW rfl Z Z Z ?_))
  intro g2 cap2 w3 hown3 hb3;have O8:=kI hown3;have B8:=kI hb3;clear hown3 hb3;go_wp2_with fail;go_ret;exact ⟨⟨_,rfl,cF.of O8.o⟩,B8.o⟩
theorem oV (B:Nat) (v:Value) (l:List Int) (x:Int) (w:World) (h:cF w B v l) (hl:bk l) (hz:df l) (hx:0≤x∧x≤1) (hB:B≤w.heap.size) (hs:l.length≤1000000):
  Calls Tryz.prog 187 #[v,.int .u32 x] w fun e w'=>(∃ v',e=.returned v'∧cF w' B v' (lim (2*nv l+x.toNat)))∧Below B w w':=by
 obtain ⟨o,h1,h2⟩:=h;rcases h1 with ⟨_,rfl,a,rfl,rfl⟩|⟨g,cap,ho,rfl,hr⟩
 ·have:=yH B x w hx hB;simpa [nv] using this
 ·exact yG B g cap l x w hr hl hz hx hB (h2 g ho) hs
theorem pC:Lib.len8tab.size=256:=by decide +kernel
theorem Ld:∀ n:Fin 256,(Lib.len8tab[n.val]'(by rw [pC];exact n.2)).toNat=Lib.bitLen n.val:=by decide +kernel
theorem Le (k:Nat) (h:k < Lib.len8tab.size):(Lib.len8tab[k]).toNat=Lib.bitLen k:=Ld ⟨k,by rw [pC] at h;exact h⟩
theorem tI (n:Nat) (h:n < 256):Lib.bitLen n≤8:=Lib.bitLen_le8 ⟨n,h⟩
theorem oD (x:Int) (k:Nat) (s t:Int) (h0:0≤t) (ht:t < 256) (hs:0≤s∧s≤24) (hb:t.toNat < Lib.len8tab.size) (he:Lib.bitLen x.toNat=s.toNat+Lib.bitLen t.toNat):
  wrap64 (s+wrap64 ((Lib.len8tab[t.toNat]).toNat:Int))=(Lib.bitLen x.toNat:Int):=by
 rw [Le _ hb,he];have:=tI t.toNat Z;unfold wrap64;omega
theorem By (x:Int) (w:World) (h0:0≤x) (h1:x < 4294967296):
  Calls Tryz.prog 214 #[.int .u32 x] w fun e w'=>e=.returned (.int .i64 (Lib.bitLen x.toNat))∧Ext w w':=by
 have hsz:=pC;by_cases a:65536≤x
 ·by_cases b:256≤x / 65536
  ·have he:=Lib.bitLen_shift24 x.toNat Z Z;rw [show x.toNat / 16777216=(x / 65536 / 256).toNat by omega] at he;have q1:(0:Int)≤x / 65536 / 256:=Z
   have q2:x / 65536 / 256 < (Lib.len8tab.size:Int):=by rw [hsz];omega
   have q3:(x / 65536 / 256).toNat < Lib.len8tab.size:=Z
   have HE:=kI (oD x 0 24 (x / 65536 / 256) q1 Z Z q3 he);exact WK
  ·have he:=Lib.bitLen_shift16 x.toNat Z Z;rw [show x.toNat / 65536=(x / 65536).toNat by omega] at he;have q1:(0:Int)≤x / 65536:=Z
   have q2:x / 65536 < (Lib.len8tab.size:Int):=by rw [hsz];omega
   have q3:(x / 65536).toNat < Lib.len8tab.size:=Z
   have HE:=kI (oD x 0 16 (x / 65536) q1 Z Z q3 he);exact WK
 ·by_cases b:256≤x
  ·have he:=Lib.bitLen_shift8 x.toNat Z Z;rw [show x.toNat / 256=(x / 256).toNat by omega] at he;have q1:(0:Int)≤x / 256:=Z
   have q2:x / 256 < (Lib.len8tab.size:Int):=by rw [hsz];omega
   have q3:(x / 256).toNat < Lib.len8tab.size:=Z
   have HE:=kI (oD x 0 8 (x / 256) q1 Z Z q3 he);exact WK
  ·have q2:x < (Lib.len8tab.size:Int):=by rw [hsz];omega
   have q3:x.toNat < Lib.len8tab.size:=Z
   have HE:=kI (oD x 0 0 x h0 Z Z q3 dc);clear hsz;go_enter Tryz.func214,Tryz.ntmps214
   go_wp2
   go_ret;exact ⟨by rw [← HE.o,Int.zero_add];rfl,Ext.refl w⟩
def dI (n:Nat):Nat:=if n=0 then 0 else n.log2+1
theorem ef:dI n≤k↔n < 2 ^ k:=by
 unfold dI;by_cases h:n=0
 ·subst h;simp [Nat.pow_pos]
 ·rw [if_neg h,← Nat.log2_lt h];omega
theorem Bz (h:n≠0):dI n=1+dI (n / 2):=by
 apply Nat.le_antisymm
 ·refine ef.2 ?_;have h1:=ef.1 (Nat.le_refl (dI (n / 2)));rw [Nat.add_comm,Nat.pow_succ];omega
 ·rcases Nat.eq_zero_or_pos (dI n) with h0|h0
  ·have:=ef.1 (Nat.le_of_eq h0);omega
  ·have h1:=ef.1 (Nat.le_refl (dI n));have:dI (n / 2)≤dI n - 1:=by
    refine ef.2 ?_;rw [show dI n=dI n - 1+1 by omega,Nat.pow_succ] at h1;omega
   omega
theorem pD:∀ (f x:Nat),x < 2 ^ f→Lib.bitLenAux f x=dI x:=by
 intro f;induction f with
 | zero=>
   intro x hx;have:x=0:=by simpa using hx
   subst this;rfl
 | succ f ih=>
  intro x hx;rw [Lib.bitLenAux];by_cases h:x=0
  ·subst h;rfl
  ·rw [if_neg h,Bz h,ih (x / 2) (by rw [Nat.pow_succ] at hx;omega)]
theorem vD (x:Nat) (h:x < 4294967296):Lib.bitLen x=dI x:=pD 64 x (Nat.lt_of_lt_of_le h ah)
theorem DO (h:n≠0):0 < dI n:=by unfold dI;rw [if_neg h];omega
theorem DQ {t r:Nat} (hr:r < 2 ^ j) (ht:t≠0):dI (r+2 ^ j*t)=j+dI t:=by
 apply Nat.le_antisymm
 ·refine ef.2 ?_;have h1:=ef.1 (Nat.le_refl (dI t));have h2:2 ^ j*(t+1)≤2 ^ j*2 ^ dI t:=Nat.mul_le_mul_left _ h1;rw [Nat.mul_add,Nat.mul_one] at h2;rw [Nat.pow_add];omega
 ·rcases Nat.lt_or_ge (dI (r+2 ^ j*t)) (j+dI t) with h|h
  ·exfalso
   have hp:=DO ht;have h1:=ef.1 (show dI (r+2 ^ j*t)≤j+(dI t - 1) by omega);rw [Nat.pow_add] at h1;have h2:¬ t < 2 ^ (dI t - 1):=fun hlt=>by have:=ef.2 hlt;omega
   have h3:2 ^ j*2 ^ (dI t - 1)≤2 ^ j*t:=Nat.mul_le_mul_left _ Z;omega
  ·exact h
theorem pow_two (j:Nat):(4294967296:Nat) ^ j=2 ^ (32*j):=by rw [Nat.pow_mul]
theorem Ho (hl:bk l) (hz:df l) (h0:0 < l.length):dI (nv l)=32*(l.length - 1)+dI (l.getD (l.length - 1) 0).toNat:=by
 have h1:=dy (l:=l) (k:=l.length - 1) Z;rw [show l.length - 1+1=l.length by omega,List.take_length,pow_two] at h1;have h2:=bJ (fi hl (l.length - 1));rw [List.length_take_of_le Z,pow_two] at h2;rw [h1];refine DQ h2 ?_;have h3:=aI hl (l.length - 1);intro e;apply hz;rw [fI l h0,show l.getD (l.length - 1) 0=0 by omega]
theorem yI (v:Value) (l:List Int) (w:World) (h:aY .u32 w v l) (hl:bk l) (hz:df l) (hs:l.length≤1000000):
  Calls Tryz.prog 213 #[v] w fun e w'=>e=.returned (.int .i64 (dI (nv l)))∧Ext w w':=by
 obtain ⟨a,cap,rfl,hc,hm,hr⟩:=fC h;clear h;by_cases h0:0 < l.length
 ·obtain ⟨b,off,rfl,hb,hx⟩:=hr (l.length - 1) Z;have e:=Ho hl hz h0;have hxl:=aI hl (l.length - 1);obtain ⟨x,hxx⟩:=gN (l.getD (l.length - 1) 0);rw [← hxx] at hx e hxl;rw [← vD x.toNat Z] at e;have hbl:Lib.bitLen x.toNat≤32:=Lib.bitLen_le _ 32 Z Z;have HE:=kI e;have hl0:((l.length:Int) == 0)=false:=by simp;intro h;subst h;simp at h0
  clear hr hxx e hl hz;go_enter Tryz.func213,Tryz.ntmps213
  go_wp2_with fail;refine (By x _ hxl.1 hxl.2).mono ?_;rintro e w1 ⟨rfl,hx1⟩;have X1:=kI hx1;clear hx1;obtain ⟨n,hn⟩:=gN (Lib.bitLen x.toNat);rw [← hn] at hbl HE ⊢;clear hn;go_wp2_with fail;go_ret;refine ⟨?_,X1.o⟩;rw [HE.o];refine aV ?_;omega
 ·have e:l=[]:=List.length_eq_zero_iff.1 Z;subst e;go_enter Tryz.func213,Tryz.ntmps213
  go_wp2
  go_ret;exact ⟨rfl,Ext.refl w⟩
section
open Go.RowKit Go.Shelf
attribute [local go_sem] Oper.semAt_some
theorem yJ (a:Option Addr) (n c:Nat) (w:World):
  Calls Tryz.prog 211 #[.slice a n c] w fun e w'=>e=.returned (.func (.func 212) #[] #[.pointer (some ⟨w.heap.size,0,none⟩)])∧w'=w.alloc (.cells #[.slice a n c] 23):=by
 go_enter Tryz.func211,Tryz.ntmps211
 exact KI
def nJ (n k:Nat):Nat:=n / 2 ^ k % 2
def Qo (Bx:Nat) (a:Option Addr) (cap:Nat) (l:List Int) (k:Nat) (W:World) (y:Int):Prop:=
 W.cell? ⟨Bx,0,none⟩=some (.slice a l.length cap)∧(∀ i,i < l.length→∃ b off,a=some ⟨b,off,none⟩∧b < W.heap.size∧W.cell? ⟨b,off+i,none⟩=some (.int .u32 (l.getD i 0)))∧y=nJ (nv l) k
theorem DU (l:List Int) (hl:bk l) (i k:Nat) (hk:k < 32) (hi:i < l.length):nJ (nv l) (32*i+k)=(l.getD i 0).toNat / 2 ^ k % 2:=by
 have h1:=jm l i Z;have h2:=bJ (fi hl i);rw [List.length_take_of_le Z] at h2;have h3:nv (l.drop i)=(l.getD i 0).toNat+4294967296*nv (l.drop (i+1)):=by
  rw [List.drop_eq_getElem_cons hi,dP,List.getD_eq_getElem?_getD,List.getElem?_eq_getElem hi];rfl
 rw [pow_two] at h1 h2;unfold nJ;rw [Nat.pow_add,← Nat.div_div_eq_div_mul,h1,Nat.add_mul_div_left _ _ (Nat.pow_pos Z),Nat.div_eq_of_lt h2,Nat.zero_add,h3];rw [show (4294967296:Nat)=2 ^ k*(2*2 ^ (31 - k)) by rw [show (2:Nat)*2 ^ (31 - k)=2 ^ (32 - k) by rw [← Nat.pow_succ',show (31 - k).succ=32 - k by omega],← Nat.pow_add,show k+(32 - k)=32 by omega],Nat.mul_assoc,Nat.add_mul_div_left _ _ (Nat.pow_pos Z),Nat.mul_assoc,Nat.add_mul_mod_self_left]
theorem and_one (z:Int) (k:Nat) (h:0≤z∧z < 4294967296):bits .and .u32 (z / 2 ^ k) 1=((z.toNat / 2 ^ k % 2:Nat):Int):=by
 obtain ⟨a,rfl⟩:=Int.eq_ofNat_of_zero_le h.1;have e:((a:Int) / 2 ^ k)=((a / 2 ^ k:Nat):Int):=by simp
 have hl:a / 2 ^ k < 4294967296:=Nat.lt_of_le_of_lt (Nat.div_le_self _ _) Z;rw [e,show (1:Int)=((1:Nat):Int) from rfl,(d5 _ 1 hl Z).1,Nat.and_one_is_mod];rfl
theorem vE (n:Nat) (hn:1≤n) (a:Option Addr) (cap Bx lb:Nat) (l:List Int) (W1:World) (hb:W1.cell? ⟨Bx,0,none⟩=some (.slice a l.length cap)) (hc:l.length≤cap) (hm:cap≤9223372036854775807) (hlt:Bx < W1.heap.size)
  (hr:aY .u32 W1 (.slice a l.length cap) l) (hl:bk l) (hz:df l) (hs:l.length≤1000000) :
  jW Fence.wide n Tryz.prog 212 #[.pointer (some ⟨Bx,0,none⟩)] (dI (nv l)) (fun k (x:Int)=>#[.int .i64 k,.int .u32 x]) (Qo Bx a cap l) lb W1:=by
 intro J Jx hJ Um hY h0;obtain ⟨HR,HL,HZ⟩:=cC hr hl hz;have hN:dI (nv l)≤32*l.length:=ef.2 (by rw [← pow_two];exact bJ hl);clear hr hl hz;refine callsIn_of_wp Tryz.func212 rfl trivial ?_ rfl;simp only [Tryz.ntmps212,List.size_toArray,List.length_cons,List.length_nil,Nat.reduceAdd,Nat.reduceSub,Array.replicate_succ,Array.replicate_zero,List.push_toArray,List.append_toArray,List.nil_append,List.cons_append];gi_wp2_with fail;refine ⟨trivial,(callsIn_wide.2 (yI _ l _ HR.o HL.o HZ.o hs)).mono ?_⟩;rintro e w1 ⟨rfl,hx1⟩;have hj1:=hJ _ _ _ h0 hx1;have Xw:=kI hj1;clear hj1 h0 hx1;obtain ⟨N,hNN⟩:=gN (dI (nv l));rw [← hNN] at Xw Um hY hN ⊢;have J2:=kI hNN;clear hNN;gi_wp2_with fail;gi_loopw [3] (fun i wr=>(i=.int .i64 (-1)∧J 0 wr)∨∃ j:Nat,j < N∧i=.int .i64 j∧J (j+1) wr) (fun i _=>(intOf i+1).toNat)
 case atStart=>
  rcases Nat.eq_zero_or_pos N with h|h
  ·subst h;exact .inl ⟨rfl,Xw.o⟩
  ·exact .inr ⟨N - 1,by omega,by go_num,by rw [show N - 1+1=N by omega];exact Xw.o⟩
 case round=>
  rcases hrel with ⟨rfl,hj⟩|⟨j,hj,rfl,Hf⟩
  ·exact kYe
  ·obtain ⟨x,hbx,hcells,hxe⟩:=Um j wr hj Hf;obtain ⟨fn,tmps,assign,body,hy,hR⟩:=hY j wr x hj Hf ⟨hbx,hcells,hxe⟩;have hi:j / 32 < l.length:=Z
   obtain ⟨b,off,rfl,_,hcx⟩:=hcells (j / 32) hi;have hbit:=DU l HL.o (j / 32) (j % 32) Z hi;rw [show 32*(j / 32)+j % 32=j by omega] at hbit;rw [hbit] at hxe;have hzl:=aI HL.o (j / 32);obtain ⟨z,hzz⟩:=gN (l.getD (j / 32) 0);rw [← hzz] at hcx hxe hzl;have q1:(0:Int)≤(j:Int):=Z
   have q2:(j:Int) / 32 < (l.length:Int):=Z
   have q3:(0:Int)≤(j:Int) / 32:=Z
   rw [hxe,← and_one z (j % 32) hzl] at hy;have HJ:=kI Hf;clear Hf hcells hzz hbit hxe;gi_wp2
   refine hR.mono ?_;rintro e W3 (⟨rfl,hJ3⟩|⟨rfl,hJ3⟩)
   ·exact jRh
   ·have yu:=kI hJ3;clear hJ3;gi_wp2
    refine bodyPost_ret (v:=.tuple #[]) ?_ rfl ⟨⟨_,rfl⟩,.inr ⟨j,by rw [← J2.o];exact hj,yu.o⟩⟩;first|rfl|(simp only [results,Tryz.results212];go_simp)
end
section
open Go.RowKit Go.Shelf
attribute [local go_sem] Oper.semAt_some
theorem cF.kz {m:Nat} {C:World} (h:cF A B v l) (k:Kz m A C) (hB:m+1 < B):cF C B v l:=by
 obtain ⟨o,h1,h2⟩:=h;refine ⟨o,?_,h2⟩;rcases h1 with h|⟨g,cap,ho,hv,hr⟩
 ·exact .inl h
 ·exact .inr ⟨g,cap,ho,hv,hr.kz k (.inr (by have:=h2 g ho;omega))⟩
theorem vF (A b x:Nat) (hb:0 < b) (hx:x < 2):2*(A % b)+x < 2*b∧
  (2*A+x) / b=2*(A / b)+(if b≤2*(A % b)+x then 1 else 0)∧(2*A+x) % b=if b≤2*(A % b)+x then 2*(A % b)+x - b else 2*(A % b)+x:=by
 have h1:=Nat.mod_lt A hb;have h2:=Nat.div_add_mod A b;refine ⟨by omega,?_⟩;have e:2*A+x=(2*(A % b)+x)+b*(2*(A / b)):=by
  rw [show b*(2*(A / b))=2*(b*(A / b)) by rw [Nat.mul_left_comm]];omega
 rw [e,Nat.add_mul_div_left _ _ hb,Nat.add_mul_mod_self_left];split
 ·rename_i h;rw [show 2*(A % b)+x=(2*(A % b)+x - b)+b*1 by omega,Nat.add_mul_div_left _ _ hb,Nat.add_mul_mod_self_left,Nat.div_eq_of_lt Z,Nat.mod_eq_of_lt Z];exact ⟨by omega,by omega⟩
 ·rw [Nat.div_eq_of_lt Z,Nat.mod_eq_of_lt Z];exact ⟨by omega,rfl⟩
theorem Ag (n k:Nat):n / 2 ^ k=2*(n / 2 ^ (k+1))+nJ n k:=by
 unfold nJ;rw [Nat.pow_succ,← Nat.div_div_eq_div_mul];omega
theorem or_bit (z:Int) (k:Nat) (hz:0≤z∧z < 4294967296) (hk:k < 32) (hm:z.toNat % 2 ^ (k+1)=0):
  bits .or .u32 z (2 ^ k % 4294967296)=((z.toNat+2 ^ k:Nat):Int)∧z.toNat+2 ^ k < 4294967296:=by
 obtain ⟨a,rfl⟩:=Int.eq_ofNat_of_zero_le hz.1;rw [Int.toNat_natCast] at hm ⊢;have hp:2 ^ (k+1)≤2 ^ 32:=Nat.pow_le_pow_right Z Z;have hs:=Nat.pow_succ 2 k;have ha:a < 2 ^ 32:=Z
 have hk2:2 ^ k < 2 ^ 32:=Nat.pow_lt_pow_right Z hk;have hdvd:2 ^ (k+1)∣2 ^ 32:=Nat.pow_dvd_pow 2 Z;have hle:a+2 ^ (k+1)≤2 ^ 32:=by
  obtain ⟨c,hc⟩:=Nat.dvd_of_mod_eq_zero hm;obtain ⟨d,hd⟩:=hdvd;have hlt:c < d:=by
   apply Nat.lt_of_mul_lt_mul_left (a:=2 ^ (k+1));rw [← hc,← hd];exact ha
  have:=Nat.mul_le_mul_left (2 ^ (k+1)) (show c+1≤d from hlt);rw [Nat.mul_add,Nat.mul_one,← hc,← hd] at this;exact this
 have e:((2:Int) ^ k % 4294967296)=((2 ^ k:Nat):Int):=by
  have:((2:Int) ^ k)=((2 ^ k:Nat):Int):=by simp
  rw [this];have hk3:2 ^ k < 4294967296:=hk2;omega
 have ha':a < 4294967296:=ha;have hk':2 ^ k < 4294967296:=hk2;rw [e,(d5 a (2 ^ k) ha' hk').2.1,yw a (2 ^ k) (k+1) hm Z];exact ⟨rfl,by omega⟩
theorem uP (hl:bk l) (hk:k / 32 < l.length) (h:nv l % 2 ^ (k+1)=0):(l.getD (k / 32) 0).toNat % 2 ^ (k % 32+1)=0:=by
 have h1:=jm l (k / 32) Z;have h2:=bJ (fi hl (k / 32));rw [List.length_take_of_le Z] at h2;have h3:nv (l.drop (k / 32))=(l.getD (k / 32) 0).toNat+4294967296*nv (l.drop (k / 32+1)):=by
  exact kWl
 rw [pow_two] at h1 h2;have hk1:k+1=32*(k / 32)+(k % 32+1):=Z
 rw [hk1,Nat.pow_add] at h;generalize (l.getD (k / 32) 0).toNat=z at *
 generalize nv (l.drop (k / 32+1))=t at *
 generalize nv (l.take (k / 32))=s at *
 have hdv:=Nat.dvd_of_mod_eq_zero h;have h4:2 ^ (32*(k / 32))∣nv l:=Nat.dvd_trans (Nat.dvd_mul_right _ _) hdv;have h5:s=0:=by
  rw [h1] at h4;have:=(Nat.dvd_add_left (Nat.dvd_mul_right _ _)).1 h4;exact Nat.eq_zero_of_dvd_of_lt this h2
 rw [h1,h5,Nat.zero_add] at hdv;have h6:=Nat.dvd_of_mul_dvd_mul_left (Nat.pow_pos Z) hdv;rw [h3] at h6;have h7:2 ^ (k % 32+1)∣4294967296*t:=by
  rw [show (4294967296:Nat)=2 ^ (k % 32+1)*2 ^ (31 - k % 32) by rw [← Nat.pow_add,show k % 32+1+(31 - k % 32)=32 by omega],Nat.mul_assoc];exact Nat.dvd_mul_right _ _
 exact Nat.mod_eq_zero_of_dvd ((Nat.dvd_add_left h7).1 h6)
theorem sj (hl:bk l) (hk:k / 32 < l.length):nv (l.set (k / 32) (((l.getD (k / 32) 0).toNat+2 ^ (k % 32):Nat):Int))=nv l+2 ^ k:=by
 have h:=lM hk (((l.getD (k / 32) 0).toNat+2 ^ (k % 32):Nat):Int);rw [Int.toNat_natCast,Nat.mul_add,pow_two,← Nat.pow_add,show 32*(k / 32)+k % 32=k by omega] at h;generalize 2 ^ (32*(k / 32))*(l.getD (k / 32) 0).toNat=P at h
 omega
theorem nK {o:Oper} 
  (hg:o.guard=none) (l c:Operand) (hop:o.op=Op.makeSlice 23 l c) (L C:Int) (n:Nat) (hl:a.eval l=.int .i64 L) (hc:a.eval c=.int .i64 C) (hL:L=(n:Int)) (hC:C=(n:Int)) (hn:n≤1000000000)
  (hK:∀ w',bh w' w.heap.size n (List.replicate n 0)→Ext w w'→w'.heap.size=w.heap.size+1→wpListIn F nf Tryz.prog ops Q rest (a.put o.dst (.slice (some ⟨w.heap.size,0,none⟩) n n)) w') :
  wpListIn F nf Tryz.prog ops Q (o :: rest) a w:=by
 obtain ⟨i0,hi,hz0,hz1,hz2⟩:=info_parts Tryz.ko;have h63':(n:Int)≤9223372036854775807:=Z
 have hr:=run_make (P:=Tryz.prog) w 23 157 i0 (.int .u32 0) Tryz.underlying23 hi hz0 .i64 .i64 n n Z (Int.le_refl _) (by rw [hz2];omega) h63';simp only [Int.toNat_natCast,hz1] at hr;have hrow:bh (w.alloc (.cells (madeCells (Value.int .u32 0).cells (n*1)) 157)) w.heap.size n (List.replicate n 0):=by
  exact zAf
 refine wpListIn_plain hg fun K hK'=>?_;subst hL;subst hC;unfold Oper.wpIn;refine ⟨?_,?_⟩
 ·simp [Oper.about,hop]
 ·rw [Oper.semAt_plain F _ _ (by rw [hop];intro c hc';cases hc')];simp only [execOp,hop,hl,hc];simp [hr,Result.andThen];rw [Nat.mul_one] at hrow;exact hK' _ _ (hK _ hrow ((Ext.refl w).alloc _) dc)
end
end Go.Proofs.YtnnjbaijcaiohaaGreat
