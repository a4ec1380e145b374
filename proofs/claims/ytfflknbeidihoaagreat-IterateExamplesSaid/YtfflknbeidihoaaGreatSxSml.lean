/- Lemmas and walks. Conditions: as stated. -/
import Derived.Test.YtfflknbeidihoaaGreatSxMdG
import Derived.Test.YtfflknbeidihoaaGreatSxMdH
import Derived.Test.YtfflknbeidihoaaGreatSxItO
import Derived.Test.YtfflknbeidihoaaGreatSxGK
import Derived.Laws.MakeOwn
import Derived.Test.YtfflknbeidihoaaGreatSxGG
set_option linter.unusedVariables false
set_option linter.unusedSimpArgs false
set_option maxRecDepth 100000
set_option maxHeartbeats 16000000
namespace Go.Proofs.YtfflknbeidihoaaGreat
open Go.RowKit
theorem bkV_at {m:MD} {v:List RR} {k:Nat} (h:k < m.states.length):(bkV m v).getD k zR=(rowS m v (m.states.getD k [])).getD (bestI (rowS m v (m.states.getD k []))) zR:=by
 unfold bkV;rw [List.getD_eq_getElem?_getD,List.getElem?_map,List.getD_eq_getElem?_getD (l:=m.states),List.getElem?_eq_getElem h];rfl
theorem bkV_lim (m:MD) (v:List RR):LimL (bkV m v):=fun i hi=>by
 rw [bkV_len] at hi;rw [bkV_at hi];by_cases h0:0 < (rowS m v (m.states.getD i [])).length
 ·exact rowS_lim _ _ _ _ (bestK_le _ _ _ (Nat.le_refl _) h0)
 ·rw [List.getD_eq_getElem?_getD,List.getElem?_eq_none (by omega)];exact zR_lim
theorem backup_lim (m:MD) (v:List RR):LimL (backupS m v).1:=by
 unfold backupS;split
 ·intro i hi;cases hi
 ·split
  ·intro i hi;cases hi
  ·exact bkV_lim m v
theorem backup_ok {m:MD} {v:List RR} (h:(backupS m v).2.2=0):mvE m v=0∧bkE m v=0∧(backupS m v).1=bkV m v∧(backupS m v).2.1=bkA m v:=by
 unfold backupS at h ⊢;split at h
 ·rename_i h1;exact absurd h h1
 ·rename_i h1;rw [if_neg h1];split at h
  ·rename_i h2;exact absurd h h2
  ·rename_i h2;rw [if_neg h2];exact ⟨by simpa using h1,by simpa using h2,rfl,rfl⟩
theorem bkV_chk {m:MD} {v:List RR} (h1:mvE m v=0) (h2:bkE m v=0):∀ i,i < (bkV m v).length→chkR ((bkV m v).getD i zR)=0:=fun i hi=>by
 rw [bkV_len] at hi;rw [bkV_at hi];obtain ⟨_,_,_,h3⟩:=md_valid (mv_valid h1).1;have h4:=(st_valid (h3 i hi)).1;have h5:rowE m v (m.states.getD i [])=0:=frstE_all h2 i hi;have hb:bestI (rowS m v (m.states.getD i [])) < (m.states.getD i []).length:=by
  exact Nat.lt_of_lt_of_eq (bestK_le (rowS m v (m.states.getD i [])) _ _ (Nat.le_refl _) (show 0 < (rowS m v (m.states.getD i [])).length by rw [rowS_len];omega)) (rowS_len _ _ _)
 rw [rowS_at hb];exact score_chk (frstE_all h5 _ hb)
theorem stgV_lim {m:MD} {v:List RR} (h:LimL v):∀ j,LimL (stgV m v j)
 | 0=>h
 | j+1=>backup_lim m _
theorem chkR_len {r:RR} (h:chkR r=0):r.num.length≤1000000∧r.den.length≤1000000:=by
 unfold chkR at h;split at h
 ·cases h
 ·omega
theorem bkV_lenL {m:MD} {v:List RR} (h1:mvE m v=0) (h2:bkE m v=0):LenL (bkV m v):=fun i hi=>chkR_len (bkV_chk h1 h2 i hi)
theorem stages_any (m:MD) (m1:Option Addr) (n1:Nat) (m2:Option Addr) (n2:Nat) (m3:Option Addr) (n3:Nat) (a:Option Addr) (n c:Nat) (k:Int) (w:World) :
  Calls Tryz.prog 48 #[.agg (mdC m m1 n1 m2 n2 m3 n3),.slice a n c,.int .i64 k] w fun e w'=>e=.returned (.func (.func 82) #[] (lb3 w.heap.size))∧w'=((w.alloc (.cells (mdC m m1 n1 m2 n2 m3 n3) 28)).alloc (.cells #[.slice a n c] 29)).alloc (.cells #[.int .i64 k] 3):=by
 go_enter Tryz.func48,Tryz.ntmps48
 go_wp2
 go_ret;exact ⟨rfl,rfl⟩
def TyK (A B:World):Prop:=∀ (i:Nat) (c:Array Value) (t:TypeId),(t=25∨t=118)→Blk A i c t→Blk B i c t
theorem TyK.ext {A B:World} (h:Ext A B):TyK A B:=fun _ _ _ _ b=>b.ext h
theorem TyK.trans {A B C:World} (h:TyK A B) (k:TyK B C):TyK A C:=fun i c t ht b=>k i c t ht (h i c t ht b)
theorem TyK.kq {m:Nat} {A B:World} (h:Kq m A B):TyK A B:=fun i c t _ b=>h.blk i c t b
theorem TyK.keeps {B:Nat} {t:TypeId} {A C:World} (k:Keeps B t A C) (h1:25≠t) (h2:118≠t):TyK A C:=fun i c u hu b=>b.keeps k (by rcases hu with rfl|rfl;exact h1;exact h2)
theorem SfW.ty {B:Nat} {w w':World} {v:Value} {l:List Int} (h:SfW B w v l) (k:TyK w w'):SfW B w' v l:=by
 obtain ⟨⟨a,cap,rfl,h1,h2,h3⟩,h4⟩:=h;refine ⟨⟨a,cap,rfl,h1,h2,fun i hi=>?_⟩,h4.imp id fun ⟨g,c,cur,e,hb,hs,hB⟩=>⟨g,c,cur,e,k g cur _ (.inr rfl) hb,hs,hB⟩⟩;obtain ⟨b,off,e1,e2,e3,e4⟩:=h3 i hi;rcases e4 with e4|⟨cur,e4⟩
 ·omega
 ·have hb:=k b cur _ (.inr rfl) e4;have he:w'.heap[b]?=w.heap[b]?:=by unfold Blk at hb e4;rw [hb,e4]
  exact ⟨b,off,e1,hb.lt,(World.cell?_of_block (a:=⟨b,off+i,none⟩) he).trans e3,.inr ⟨cur,hb⟩⟩
theorem ElN.ty {B:Nat} {w w':World} {h:List Value} {r:RR} (e:ElN B w h r) (k:TyK w w'):ElN B w' h r:=by
 obtain ⟨a1,c1,a2,c2,rfl,h1,h2⟩:=e;exact ⟨a1,c1,a2,c2,rfl,h1.ty k,h2.ty k⟩
theorem OwN.ty {B:Nat} {w w':World} {v:Value} {l:List RR} (h:OwN B w v l) (k:TyK w w'):OwN B w' v l:=by
 obtain ⟨hs,h1,h2,h3,h4⟩:=h;refine ⟨hs,⟨h1.1,?_⟩,h2,h3,fun i y hi=>by obtain ⟨h,e1,e2⟩:=h4 i y hi;exact ⟨h,e1,e2.ty k⟩⟩;rcases h1.2 with hn|⟨g,cap,cur,rfl,hb,hg,rest⟩
 ·exact .inl hn
 ·exact .inr ⟨g,cap,cur,rfl,hb,k g cur _ (.inl rfl) hg,rest⟩
structure StR (n:Nat) (X:Nat→Prop) (A B:World):Prop where
 kp:KpB n X A B
 ty:TyK A B
theorem StR.refl (n:Nat) (X:Nat→Prop) (A:World):StR n X A A:=⟨KpB.refl _ _ _,fun _ _ _ _ b=>b⟩
theorem StR.trans {n:Nat} {X:Nat→Prop} {A B C:World} (h:StR n X A B) (k:StR n X B C):StR n X A C:=⟨h.kp.trans k.kp,h.ty.trans k.ty⟩
theorem StR.ext {n:Nat} {X:Nat→Prop} {A B:World} (h:Ext A B):StR n X A B:=⟨.ext h,.ext h⟩
def StNx (w0:World) (m:MD) (vals:List RR) (k:Nat) (pre:List (Value × Value)) (x:Value × Value) (W:World):Prop:=
 pre.length < k∧(backupS m (stgV m vals pre.length)).2.2=0∧OwN w0.heap.size W x.1 (stgV m vals (pre.length+1))∧OwZ w0.heap.size W x.2 (backupS m (stgV m vals pre.length)).2.1
def StPn (m:MD) (vals:List RR) (k:Nat) (pre:List (Value × Value)) (ch:List PanicEntry):Prop:=
 pre.length < k∧(backupS m (stgV m vals pre.length)).2.2≠0∧ch=[errP (backupS m (stgV m vals pre.length)).2.2]
structure KpO (o:Nat) (A B:World):Prop where
 zero:Below 0 A B
 block:∀ i,i < A.heap.size→i≠o→B.heap[i]?=A.heap[i]?
theorem KpO.ext {o:Nat} {A B:World} (h:Ext A B):KpO o A B:=⟨h.mono (Nat.zero_le _),fun i hi _=>h.block i hi⟩
theorem KpO.set {o:Nat} {A B:World} (h:KpO o A B) (p:Nat) (v:Value):KpO o A (B.setCell ⟨o,p,none⟩ v):=⟨h.zero.setCell (Nat.zero_le _) v,fun i hi hn=>(Below.heap_setCell B ⟨o,p,none⟩ v i hn).trans (h.block i hi hn)⟩
theorem KpO.trans {o:Nat} {A B C:World} (h:KpO o A B) (k:KpO o B C):KpO o A C:=⟨h.zero.trans k.zero,fun i hi hn=>(k.block i (Nat.lt_of_lt_of_le hi h.zero.size) hn).trans (h.block i hi hn)⟩
structure KpK (o:Nat) (A B:World):Prop where
 o:KpO o A B
 k:Keeps 0 29 A B
theorem KpK.ext {o:Nat} {A B:World} (h:Ext A B):KpK o A B:=⟨.ext h,Keeps.ext h⟩
theorem OwZ.mono {B C:Nat} {w:World} {v:Value} {l:List Int} (h:OwZ B w v l) (hB:C≤B):OwZ C w v l:=by
 obtain ⟨hs,h1,h2,h3,h4⟩:=h;exact ⟨hs,own_mono h1 hB,h2,h3,h4⟩
theorem stages1_seq (n:Nat) (hn:1≤n) (m:MD) (m1:Option Addr) (n1:Nat) (m2:Option Addr) (n2:Nat) (m3:Option Addr) (n3:Nat) (a:Option Addr) (c:Nat) (vals:List RR) (k H N lb:Nat) (X:Nat→Prop) (w0 W1:World)
  (hm:RdM w0 (.agg (mdC m m1 n1 m2 n2 m3 n3)) m) (hv:RdRs w0 (.slice a vals.length c) vals) (hlm:LimM m) (hlv:LimL vals) (hk:k≤24)
  (hx:Ext w0 W1) (hX:∀ i,X i→w0.heap.size≤i∧i < H) (hwH:w0.heap.size≤H) (hH:H+2 < N) (hN:N≤W1.heap.size)
  (hb0:Blk W1 H (mdC m m1 n1 m2 n2 m3 n3) 28) (hb1:Blk W1 (H+1) #[.slice a vals.length c] 29) (hb2:Blk W1 (H+2) #[.int .i64 k] 3) :
  UpSeqR Fence.wide n Tryz.prog 82 (lb3 H) (StR N X) (KpK (H+1)) (fun x:Value × Value=>#[x.1,x.2]) (StNx w0 m vals k) (fun xs=>xs.length=k) (StPn m vals k) lb W1:=by
 intro J Jx hJ hY h0;have hbk:=fun W vv l (x:Ext w0 W) (h:RdRs W vv l) (hl:LimL l)=>backup_any _ vv m l W (hm.ext x) h hlm hl;have hsl:=fun j=>stgV_lim (m:=m) (v:=vals) hlv j;have HBK:=kI hbk;have HSL:=kI hsl;have HV:=kI hv;have HB0:=kI hb0;have HX:=kI hx;have HJ0:=kI hJ;have HY:=kI hY;have hw0:w0.heap.size≤W1.heap.size:=HX.o.size;have HB1:=kI hb1;clear hm hv hbk hsl hx hlm hlv hJ hY hb0 hb1;refine callsIn_of_wp Tryz.func82 rfl trivial ?_ rfl;simp only [Tryz.ntmps82,List.size_toArray,List.length_cons,List.length_nil,Nat.reduceAdd,Nat.reduceSub,Array.replicate_succ,Array.replicate_zero,List.push_toArray,List.append_toArray,List.nil_append,List.cons_append];have d0:=hb2.cell;have d1:=hb2.lt;gi_wp2_with fail;clear d0 d1 hb2;gi_loopw [9] (fun i wr=>∃ (j:Nat) (pre:List (Value × Value)) (vv:Value),j≤k∧i=.int .i64 j∧pre.length=j∧J pre wr∧Ext w0 wr∧N≤wr.heap.size∧Blk wr H (mdC m m1 n1 m2 n2 m3 n3) 28∧Blk wr (H+1) #[vv] 29∧RdRs wr vv (stgV m vals j)∧StR N (fun i=>X i∨i=H+1) W1 wr) (fun i _=>k - (intOf i).toNat)
 case atStart=>exact ⟨0,[],_,by omega,rfl,rfl,h0,HX.o,hN,HB0.o,HB1.o,HV.o.ext HX.o,StR.refl _ _ _⟩
 case round=>
  obtain ⟨wk,hwk⟩:=gN (wr);subst hwk;obtain ⟨j,pre,vv,hjk,rfl,hpl,hj,hxk,hNk,b0,b1,hrd,hst⟩:=hrel;have XK:=kI hxk;have HJ:=kI hj;have HPL:=kI hpl;have B0:=kI b0;have B1:=kI b1;have RD:=kI hrd;have ST:=kI hst;clear hxk hj hpl b0 b1 hrd hst;by_cases hlt:j < k
  ·obtain ⟨av,cv,rfl,-,-,-⟩:=RD.o.get;have hr:=fun W (x:Ext wk W)=>HBK.o W _ _ (XK.o.trans x) (RD.o.ext x) (HSL.o j);obtain ⟨R,hR⟩:=gN (backupS m (stgV m vals j));rw [← hR] at hr;have HR:=kI hR;obtain ⟨vs,as2,e⟩:=R;have HBK2:=kI hr;have kb0:=B0.o.cell;have kb1:=B1.o.cell;have kb2:=B0.o.lt;have kb3:=B1.o.lt;obtain ⟨sl,hsl⟩:=gN ((stgV m vals j).length);clear hr hR;clear hsl;gi_wp2_with fail;refine ⟨trivial,(callsIn_wide.2 (HBK2.o wk (Ext.refl _))).mono ?_⟩;rintro e9 w2 ⟨⟨v,aw,rfl,ov,oz⟩,hx2⟩;dsimp only at ov oz;have X2:=kI hx2;have OV:=kI (OwN.mono ov XK.o.size);have OZ:=kI oz;have XK2:Hid (Ext w0 w2):=kI (XK.o.trans hx2);have HE:Hid ((backupS m (stgV m vals j)).2.2=e):=kI (by rw [← HR.o]);have HVS:Hid (stgV m vals (j+1)=vs):=kI (by show (backupS m (stgV m vals j)).1=vs;rw [← HR.o]);have HAS:Hid ((backupS m (stgV m vals j)).2.1=as2):=kI (by rw [← HR.o]);have b1:=B1.o.ext hx2;have c1:=b1.cell;have f1:=b1.free;have l1:=b1.lt;obtain ⟨x1,x2,rfl⟩:=OV.o.shape;clear ov oz hx2 kb0 kb1 kb2 kb3 b1;by_cases he:e=0
   ·subst he;gi_wp2_with fail;refine ⟨trivial,(callsIn_wide.2 (must_ok w2)).mono ?_⟩;rintro e9 w3 ⟨rfl,rfl⟩;have B13:=kI (B1.o.ext X2.o);have B03:=kI (B0.o.ext X2.o);gi_wp2_with fail;obtain ⟨ws,hws⟩:=gN (w3.setCell ⟨H+1,0,none⟩ (.slice x1 vs.length x2));have hks:Keeps 0 29 w3 ws:=by rw [hws];exact keeps_setC B13.o 0 _
    have hos:KpO (H+1) wk ws:=by rw [hws];exact (KpO.ext X2.o).set 0 _
    have hps:KpB N (fun i=>X i∨i=H+1) wk ws:=by rw [hws];exact (KpB.ext X2.o).set (.inl (.inr rfl)) 0 _
    have hxs:Ext w0 ws:=by rw [hws];exact Below.setCell XK2.o (by dsimp only;omega) _
    have b0s:Blk ws H (mdC m m1 n1 m2 n2 m3 n3) 28:=by rw [hws];exact B03.o.setOther (a:=⟨H+1,0,none⟩) (by dsimp only;omega) _
    have b1s:Blk ws (H+1) #[.slice x1 vs.length x2] 29:=by rw [hws];exact B13.o.set 0 _
    have hsz:wk.heap.size≤ws.heap.size:=hos.zero.size;rw [← hws];have HOS:=kI hos;have HPS:=kI hps;have HXS:=kI hxs;have B0S:=kI b0s;have B1S:=kI b1s;have HKS:=kI hks;have HSZ:=kI hsz;have OVS:=kI (OwN.keeps OV.o hks (by decide) (by decide));have OZS:=kI (OwZ.keeps OZ.o hks (by decide));have hok:=backup_ok HE.o;have hvs:vs=bkV m (stgV m vals j):=HVS.o.symm.trans hok.2.2.1;have hlen:LenL vs:=by rw [hvs];exact bkV_lenL hok.1 hok.2.1
    have hl200:vs.length≤1000000:=by
     rw [hvs,bkV_len];have:=(md_valid (mv_valid hok.1).1).2.2.1;omega
    have HLEN:=kI hlen;have HL2:=kI hl200;clear hws hos hps hxs b0s b1s hks hsz hok hvs hlen hl200 c1 f1 l1;refine ⟨trivial,(callsIn_wide.2 (own_any _ vs ws OVS.o.rd HL2.o HLEN.o)).mono ?_⟩;rintro e9 w4 ⟨⟨v4,rfl,ow⟩,hx4⟩;have X4:=kI hx4;have hw4:w0.heap.size≤ws.heap.size:=HXS.o.size;have OW4:Hid (OwN w0.heap.size w4 v4 (stgV m vals (j+1))):=kI (by rw [HVS.o];exact OwN.mono ow hw4);have OZ4:Hid (OwZ w0.heap.size w4 aw (backupS m (stgV m vals j)).2.1):=kI (by rw [HAS.o];exact OwZ.mono (OwZ.ext' OZS.o hx4) XK.o.size);obtain ⟨fn,tmps,assign,body,hy,hR⟩:=HY.o pre (v4,aw) w4 (HJ0.o _ _ _ HJ.o ⟨HOS.o.trans (.ext hx4),((Keeps.ext X2.o).trans HKS.o).trans (Keeps.ext hx4)⟩) ⟨by rw [HPL.o];exact hlt,by rw [HPL.o];exact HE.o,by rw [HPL.o];exact OW4.o,by rw [HPL.o];exact OZ4.o⟩;have HRR:=kI hR;dsimp only at hy HRR;clear hR ow hx4;gi_wp2_with fail;refine HRR.o.mono ?_;rintro e9 W5 ⟨hb5,(⟨rfl,hJ5⟩|⟨rfl,hJ5⟩)⟩
    ·have HJ5:=kI hJ5;have HB5:=kI hb5;clear hJ5 hb5 hy HRR;gi_wp2_with fail;go_roundw
     case rel=>
      have hxw4:Ext w0 w4:=HXS.o.trans X4.o;have h5:=HB5.o;refine ⟨j+1,_,_,by omega,by go_num,by have:=HPL.o;simp [this],HJ5.o,Below.trans hxw4 (h5.kp.below (fun i h=>(hX i h).1) (by omega) hxw4.size),Nat.le_trans hNk (Nat.le_trans (Nat.le_trans HSZ.o X4.o.size) h5.kp.zero.size),(B0S.o.ext X4.o).kpB h5.kp (by omega) (fun h=>by have:=(hX _ h).2;omega),(B1S.o.ext X4.o).kpB h5.kp (by omega) (fun h=>by have:=(hX _ h).2;omega),?_,?_⟩
      ·rw [HVS.o];exact ((OwN.ext' OVS.o X4.o).ty h5.ty).rd
      ·exact (ST.o.trans ⟨HPS.o.trans (.ext X4.o),(TyK.ext X2.o).trans ((TyK.keeps HKS.o (by decide) (by decide)).trans (.ext X4.o))⟩).trans ⟨h5.kp.mono (fun i h=>.inl h),h5.ty⟩
     case measure=>simp [intOf];omega
    ·have HJ5:=kI hJ5;clear hJ5 hb5 hy HRR;gi_wp2_with fail;refine bodyPost_ret (v:=.tuple #[]) ?_ rfl (.inl ⟨⟨_,rfl⟩,.inr ⟨_,HJ5.o⟩⟩);first|rfl|(simp only [results,Tryz.results82];go_simp)
   ·gi_wp2_with fail;refine ⟨trivial,(callsIn_wide.2 (must_bad he w2)).mono ?_⟩;rintro e9 w3 ⟨rfl,rfl⟩;simp (config:={zetaDelta:=true}) only [Exit.then,Exit.inBlock];exact bodyPost_panic rfl (.inr ⟨_,pre,rfl,⟨by rw [HPL.o];exact hlt,by rw [HPL.o,HE.o];exact he,by rw [HPL.o,HE.o]⟩,HJ0.o _ _ _ HJ.o (.ext X2.o)⟩)
  ·obtain rfl:j=k:=by omega
   have q6:¬ (j:Int) < (j:Int):=by omega
   gi_wp2_with fail;go_end0
   exact .inl ⟨⟨_,rfl⟩,.inl ⟨_,HPL.o,HJ.o⟩⟩
def ElV (B:Nat) (w:World) (h:List Value) (l:List RR):Prop:=∃ a c,h=[.slice a l.length c]∧OwN B w (.slice a l.length c) l
theorem ElV.keeps {B C:Nat} {t:TypeId} (ht:25≠t) (hu:118≠t) (w w':World) (h:List Value) (l:List RR) (e:ElV B w h l) (k:Keeps C t w w'):ElV B w' h l:=by
 obtain ⟨a,c,rfl,h1⟩:=e;exact ⟨a,c,rfl,h1.keeps k ht hu⟩
theorem ElV.ext {B:Nat} {w w':World} {h:List Value} {l:List RR} (e:ElV B w h l) (x:Ext w w'):ElV B w' h l:=by
 obtain ⟨a,c,rfl,h1⟩:=e;exact ⟨a,c,rfl,OwN.ext' h1 x⟩
theorem ElV.of {B:Nat} {w:World} {v:Value} {l:List RR} (h:OwN B w v l):ElV B w [v] l:=by
 obtain ⟨a,c,rfl⟩:=h.shape;exact ⟨a,c,rfl,h⟩
abbrev OwVR (B:Nat) (w:World) (v:Value) (g:List (List RR)):Prop:=OwRow 29 1 (ElV B) B w v g
theorem OwVR.nil (B:Nat) (w:World):OwVR B w (.slice none 0 0) []:=OwRow.nil _ _ _ _ _
theorem OwVR.ext' {B:Nat} {w w':World} {v:Value} {g:List (List RR)} (h:OwVR B w v g) (x:Ext w w'):OwVR B w' v g:=OwRow.ext h x (fun _ _ e=>e.ext x)
theorem OwVR.keeps {B C:Nat} {t:TypeId} {w w':World} {v:Value} {g:List (List RR)} (h:OwVR B w v g) (k:Keeps C t w w') (ht:29≠t) (hr:25≠t) (hu:118≠t):OwVR B w' v g:=OwRow.keepsG h k ht (fun _ _ e=>e.keeps hr hu _ _ _ _ k)
theorem OwVR.shape {B:Nat} {w:World} {v:Value} {g:List (List RR)} (h:OwVR B w v g):∃ a c,v=.slice a g.length c:=by
 obtain ⟨a,c,h,_⟩:=OwRow.rdN h;exact ⟨a,c,h⟩
theorem OwVR.keptO {B o:Nat} {w w':World} {v:Value} {g:List (List RR)} (h:OwVR B w v g) (k:KpK o w w') (hne:v.ownBlock≠some o):OwVR B w' v g:=by
 obtain ⟨hs,h1,h2,h3,h4⟩:=h;refine ⟨hs,⟨h1.1,?_⟩,h2,h3,fun i y hi=>by obtain ⟨h,e1,e2⟩:=h4 i y hi;exact ⟨h,e1,e2.keeps (by decide) (by decide) _ _ _ _ k.k⟩⟩;rcases h1.2 with hn|⟨q,cap,cur,rfl,hb,hg,rest⟩
 ·exact .inl hn
 ·have hq:q≠o:=fun e=>hne (by rw [e];rfl);have hlt:q < w.heap.size:=(Array.getElem?_eq_some_iff.1 hg).1;exact .inr ⟨q,cap,cur,rfl,hb,(k.o.block q hlt hq).trans hg,rest⟩
theorem OwPl.keeps {B C:Nat} {t:TypeId} {w w':World} {v:Value} {g:List (List Int)} (h:OwPl B w v g) (k:Keeps C t w w') (ht:64≠t) (hi:3≠t):OwPl B w' v g:=OwRow.keepsG h k ht (fun _ _ e=>e.keeps hi _ _ _ _ k)
theorem OwPl.nil (B:Nat) (w:World):OwPl B w (.slice none 0 0) []:=OwRow.nil _ _ _ _ _
theorem OwPl.shape {B:Nat} {w:World} {v:Value} {g:List (List Int)} (h:OwPl B w v g):∃ a c,v=.slice a g.length c:=by
 obtain ⟨a,c,h,_⟩:=OwRow.rdN h;exact ⟨a,c,h⟩
theorem ElPl.of {B:Nat} {w:World} {v:Value} {l:List Int} (h:OwZ B w v l):ElPl B w [v] l:=by
 obtain ⟨a,c,rfl⟩:=h.shape;exact ⟨a,c,rfl,h.owI⟩
def Aside (v:Value) (H N:Nat):Prop:=∀ q,v.ownBlock=some q→q < H∨N≤q
theorem Tryz.infoRowV:(Tryz.prog.info? 29).map (fun i=>(i.zero,i.size,i.bytes))=some (some (.slice none 0 0),1,24):=by kernel_rfl
theorem OwRow.own_at {α:Type} {e:TypeId} {size:Nat} {El:World→List Value→α→Prop} {B:Nat} {w:World} {v:Value} {l:List α} (h:OwRow e size El B w v l) {q:Nat} (hq:v.ownBlock=some q):(∃ cur,Blk w q cur e)∧B≤q∧q < w.heap.size:=by
 obtain ⟨hs,h1,_⟩:=h;rcases h1.2 with ⟨rfl,_⟩|⟨g,cap,cur,rfl,hb,hg,_⟩
 ·cases hq
 ·injection hq with hq
  dsimp only at hq;subst hq;exact ⟨⟨cur,hg⟩,hb,(Array.getElem?_eq_some_iff.1 hg).1⟩
theorem OwRow.gKeeps {α:Type} {e:TypeId} {size:Nat} {El:World→List Value→α→Prop} {B:Nat} {w w':World} {v:Value} {l:List α} (h:OwRow e size El B w v l) (hg:w.grownBy w' v.ownBlock):Keeps B e w w':=
 ⟨⟨hg.os,hg.tape,hg.output,hg.size,fun i hi=>by omega⟩,fun i hi ho=>hg.block i hi (fun e9=>by
  obtain ⟨⟨cur,hb⟩,hq,_⟩:=h.own_at e9.symm;rcases ho with ho|⟨c2,u,h5,h6⟩
  ·omega
  ·unfold Blk at hb h5;rw [hb] at h5;injection h5 with h5
   injection h5 with _ h7
   exact h6 h7.symm)⟩
theorem OwVR.rd {B:Nat} {w:World} {v:Value} {g:List (List RR)} (h:OwVR B w v g):RdGR w v g:=by
 obtain ⟨a,cap,hv,hc,hm,hr⟩:=OwRow.rdN h;refine ⟨a,cap,hv,hc,hm,fun i hi=>?_⟩;have hl:g[i]?=some (g.getD i []):=by rw [List.getD_eq_getElem?_getD,List.getElem?_eq_getElem hi];rfl
 obtain ⟨b,h,e1,_,e2,e3,e4,a1,c1,e5,e6⟩:=hr i _ hl;subst e5;refine ⟨b,0,a1,c1,e1,e2,?_,e6.rd⟩;have:=e4 0 (by omega);rw [Nat.mul_one,Nat.add_zero] at this;rw [Nat.zero_add];exact this
def ResG (w w':World) (e:Ending) (r:List (List RR) × List (List Int) × Int):Prop:=∃ v p,e=.returned (.tuple #[v,p,.int .i64 r.2.2])∧OwVR w.heap.size w' v r.1∧OwPl w.heap.size w' p r.2.1
theorem ResG.mk {w w':World} {v p:Value} {g:List (List RR)} {q:List (List Int)} {x:Int} {r:List (List RR) × List (List Int) × Int} (h:OwVR w.heap.size w' v g) (k:OwPl w.heap.size w' p q) (e:r=(g,q,x)):ResG w w' (.returned (.tuple #[v,p,.int .i64 x])) r:=by subst e;exact ⟨v,p,rfl,h,k⟩
def ResV (w w':World) (e:Ending) (r:List (List RR) × Int):Prop:=∃ v,e=.returned (.tuple #[v,.int .i64 r.2])∧OwVR w.heap.size w' v r.1
theorem ResV.mk {w w':World} {v:Value} {g:List (List RR)} {x:Int} {r:List (List RR) × Int} (h:OwVR w.heap.size w' v g) (e:r=(g,x)):ResV w w' (.returned (.tuple #[v,.int .i64 x])) r:=by subst e;exact ⟨v,rfl,h⟩
theorem und_ok {m:MD} {p:List Int} {v:List RR} (h:(underS m p v).2=0):mvE m v=0∧p.length=m.states.length∧(∀ j,j < p.length→unE m p v j=0)∧(underS m p v).1=unV m p v:=by
 unfold underS at h ⊢;by_cases h1:mvE m v=0
 ·rw [if_neg (by simpa using h1)] at h ⊢;by_cases h2:p.length=m.states.length
  ·rw [if_neg (by simpa using h2)] at h ⊢;by_cases h3:frstE (unE m p v) p.length=0
   ·rw [if_neg (by simpa using h3)];exact ⟨h1,h2,frstE_all h3,rfl⟩
   ·rw [if_pos h3] at h;exact absurd h h3
  ·rw [if_pos h2] at h;cases h
 ·rw [if_pos h1] at h;exact absurd h h1
theorem out_mem {n:Nat} {l:List Out} (h:∀ i,i < l.length→outE n l i=0):∀ o ∈ l,0≤o.1∧o.1 < n∧chkR o.2=0∧o.2.neg=false:=fun o ho=>by
 obtain ⟨i,hi,e⟩:=List.mem_iff_getElem.1 ho;have:=out_valid (h i hi);rw [List.getD_eq_getElem?_getD,List.getElem?_eq_getElem hi,e] at this;exact this
theorem md_act {m:MD} (h:mdE m=0) {s a:Nat} (hs:s < m.states.length) (ha:a < (m.states.getD s []).length):actE m.states.length (m.act s a)=0:=(st_valid ((md_valid h).2.2.2 s hs)).2.2 a ha
theorem unV_at {m:MD} {p:List Int} {u:List RR} {s:Nat} (h:s < p.length):(unV m p u).getD s zR=(scoreS m u (m.act s (p.getD s 0).toNat)).1:=by
 unfold unV;rw [List.getD_eq_getElem?_getD,List.getElem?_map,List.getElem?_range h];rfl
theorem frstE_mem {f:Nat→Int}:∀ {n:Nat},frstE f n≠0→∃ i,i < n∧(∀ j,j < i→f j=0)∧frstE f n=f i
 | 0,h=>absurd rfl h
 | n+1,h=>by
  by_cases h0:frstE f n=0
  ·refine ⟨n,by omega,frstE_all h0,?_⟩;unfold frstE;rw [h0,if_neg (fun h=>h rfl)]
  ·obtain ⟨i,h1,h2,h3⟩:=frstE_mem h0;refine ⟨i,by omega,h2,?_⟩;unfold frstE;rw [if_pos h0];exact h3
theorem OwN.keptT {B:Nat} {w w':World} {v:Value} {l:List RR} {row:Option Nat} (h:OwN B w v l) (hg:w.grownBy w' row) (hne:v.ownBlock=none∨v.ownBlock≠row) (hB:∀ q,row=some q→∃ cur,Blk w q cur 25∧B≤q):OwN B w' v l:=by
 obtain ⟨hs,h1,h2,h3,h4⟩:=h;have hk:Keeps B 25 w w':=⟨⟨hg.os,hg.tape,hg.output,hg.size,fun i hi=>by omega⟩,fun i hi ho=>hg.block i hi (fun e=>by
  obtain ⟨cur,hb,hq⟩:=hB i e.symm;rcases ho with ho|⟨c2,u,h5,h6⟩
  ·omega
  ·unfold Blk at hb h5;rw [hb] at h5;injection h5 with h5
   injection h5 with _ h7
   exact h6 h7.symm)⟩
 exact ⟨hs,World.ownsRow.kept h1 hg hne,h2,h3,fun i y hi=>by obtain ⟨q,e1,e2⟩:=h4 i y hi;exact ⟨q,e1,ElN.keeps (by decide) _ _ _ _ e2 hk⟩⟩
structure RowsAt (B:Nat) (W:World) (L:Nat) (vs:List Value) (f:Nat→List RR):Prop where
 blk:Blk W L vs.toArray 29
 base:B≤L
 row:∀ t,t < vs.length→OwN B W (vs.getD t undef) (f t)
 apart:∀ t u,t < vs.length→u < vs.length→t≠u→∀ q,(vs.getD t undef).ownBlock=some q→(vs.getD u undef).ownBlock≠some q
theorem RowsAt.ext {B:Nat} {W W':World} {L:Nat} {vs:List Value} {f:Nat→List RR} (h:RowsAt B W L vs f) (x:Ext W W'):RowsAt B W' L vs f:=⟨h.blk.ext x,h.base,fun t ht=>OwN.ext' (h.row t ht) x,h.apart⟩
theorem RowsAt.keeps {B C:Nat} {t:TypeId} {W W':World} {L:Nat} {vs:List Value} {f:Nat→List RR} (h:RowsAt B W L vs f) (k:Keeps C t W W') (h1:29≠t) (h2:25≠t) (h3:118≠t):RowsAt B W' L vs f:=⟨h.blk.keeps k h1,h.base,fun t ht=>OwN.keeps (h.row t ht) k h2 h3,h.apart⟩
theorem RowsAt.congr {B:Nat} {W:World} {L:Nat} {vs:List Value} {f g:Nat→List RR} (h:RowsAt B W L vs f) (e:∀ t,t < vs.length→f t=g t):RowsAt B W L vs g:=⟨h.blk,h.base,fun t ht=>by rw [← e t ht];exact h.row t ht,h.apart⟩
theorem RowsAt.new {B:Nat} {W:World} {L n:Nat} (hb:Blk W L (List.replicate n (Value.slice none 0 0)).toArray 29) (hB:B≤L):RowsAt B W L (List.replicate n (Value.slice none 0 0)) (fun _=>[]):=
 ⟨hb,hB,fun t ht=>by
  simp at ht;rw [List.getD_eq_getElem?_getD,List.getElem?_replicate,if_pos ht];exact OwN.nil _ _,fun t u ht hu _ q hq=>by
  simp at ht;rw [List.getD_eq_getElem?_getD,List.getElem?_replicate,if_pos ht] at hq;cases hq⟩
theorem RowsAt.cell {B:Nat} {W:World} {L:Nat} {vs:List Value} {f:Nat→List RR} (h:RowsAt B W L vs f) {t:Nat} (ht:t < vs.length):W.cell? ⟨L,t,none⟩=some (vs.getD t undef):=by
 rw [h.blk.cell t,List.getD_eq_getElem?_getD];simp [ht]
theorem RowsAt.grow {B:Nat} {W W':World} {L:Nat} {vs:List Value} {f:Nat→List RR} (h:RowsAt B W L vs f) {s:Nat} (hs:s < vs.length) {u:Value} {l:List RR} (hg:W.grownBy W' (vs.getD s undef).ownBlock) (hu:OwN B W' u l) {g:Nat} (hub:u.ownBlock=some g) (hfr:(vs.getD s undef).ownBlock=some g∨W.heap.size≤g) :
  RowsAt B (W'.setCell ⟨L,s,none⟩ u) L (vs.set s u) (fun t=>if t=s then l else f t):=by
 have hown:∀ q,(vs.getD s undef).ownBlock=some q→∃ cur,Blk W q cur 25∧B≤q:=fun q hq=>by
  obtain ⟨⟨cur,h1⟩,h2,_⟩:=OwRow.own_at (h.row s hs) hq;exact ⟨cur,h1,h2⟩
 have hkg:Keeps B 25 W W':=(h.row s hs).gKeeps hg;have hbl:Blk W' L vs.toArray 29:=h.blk.keeps hkg (by decide);have hks:Keeps 0 29 W' (W'.setCell ⟨L,s,none⟩ u):=keeps_setC hbl s u;refine ⟨?_,h.base,fun t ht=>?_,fun t v ht hv hn q hq=>?_⟩
 ·have:=hbl.set s u;simpa using this
 ·rw [List.length_set] at ht;by_cases e:t=s
  ·subst e;rw [if_pos rfl,List.getD_eq_getElem?_getD,List.getElem?_set_self (by omega)];exact OwN.keeps hu hks (by decide) (by decide)
  ·rw [if_neg e,List.getD_eq_getElem?_getD,List.getElem?_set_ne (Ne.symm e),← List.getD_eq_getElem?_getD];refine OwN.keeps (OwN.keptT (h.row t ht) hg ?_ hown) hks (by decide) (by decide);cases e9:(vs.getD t undef).ownBlock with
   | none=>exact .inl rfl
   | some q=>exact .inr (fun e8=>h.apart t s ht hs e q e9 e8.symm)
 ·rw [List.length_set] at ht hv;have key:∀ r,r < vs.length→r≠s→(vs.getD r undef).ownBlock≠some g:=fun r hr hrs e9=>by
   rcases hfr with h1|h1
   ·exact h.apart r s hr hs hrs g e9 h1
   ·have:=(OwRow.own_at (h.row r hr) e9).2.2;omega
  by_cases e:t=s
  ·subst e;rw [List.getD_eq_getElem?_getD,List.getElem?_set_self (by omega)] at hq;have hq':u.ownBlock=some q:=hq;rw [hub] at hq';injection hq' with hq'
   rw [List.getD_eq_getElem?_getD,List.getElem?_set_ne hn,← List.getD_eq_getElem?_getD,← hq'];exact key v hv (Ne.symm hn)
  ·rw [List.getD_eq_getElem?_getD,List.getElem?_set_ne (Ne.symm e),← List.getD_eq_getElem?_getD] at hq;by_cases e2:v=s
   ·subst e2;rw [List.getD_eq_getElem?_getD,List.getElem?_set_self (by omega)];show u.ownBlock≠some q;rw [hub];intro e3;injection e3 with e3
    subst e3;exact key t ht e hq
   ·rw [List.getD_eq_getElem?_getD,List.getElem?_set_ne (Ne.symm e2),← List.getD_eq_getElem?_getD];exact h.apart t v ht hv hn q hq
theorem RowsAt.fin {B:Nat} {W:World} {L:Nat} {vs:List Value} {f:Nat→List RR} (h:RowsAt B W L vs f) (hn:vs.length≤1000000):OwVR B W (.slice (some ⟨L,0,none⟩) vs.length vs.length) ((List.range vs.length).map f):=by
 have hf:(vs.map fun v=>[v]).flatten=vs:=by
  clear h hn;induction vs with
  | nil=>rfl
  | cons a r ih=>simp only [List.map_cons,List.flatten_cons,ih];rfl
 refine ⟨vs.map fun v=>[v],⟨?_,.inr ⟨L,vs.length,vs.toArray,by simp,h.base,h.blk,by simp,by unfold maxLen;omega,by simp,?_⟩⟩,by simp,fun q hq=>?_,fun i x hi=>?_⟩
 ·rw [hf];simp
 ·rw [hf];simp
 ·obtain ⟨v,_,rfl⟩:=List.mem_map.1 hq;rfl
 ·have hlt:i < vs.length:=by
   have:=(List.getElem?_eq_some_iff.1 hi).1;simpa using this
  have e1:((List.range vs.length).map f)[i]?=some (f i):=by rw [List.getElem?_map,List.getElem?_range hlt];rfl
  rw [e1] at hi;injection hi with hi
  subst hi;refine ⟨[vs.getD i undef],by rw [List.getElem?_map,List.getD_eq_getElem?_getD,List.getElem?_eq_getElem hlt];rfl,ElV.of (h.row i hlt)⟩
theorem rdI_blkS {w:World} {b:Nat} {t:TypeId} (l:List Int) (n:Nat) (h:Blk w b (l.map (Value.int .i64)).toArray t) (hn:l.length=n) (hs:l.length≤1000):RdI .i64 w (.slice (some ⟨b,0,none⟩) n n) l:=by
 subst hn;refine ⟨some ⟨b,0,none⟩,l.length,by simp,by simp,by omega,fun i hi=>?_⟩;simp only [List.length_map] at hi;exact ⟨b,0,rfl,h.lt,by rw [h.cell];simp [hi]⟩
theorem OwN.atS {B:Nat} {w:World} {v:Value} {l:List RR} (h:OwN B w v l) {i:Nat} (hi:i < l.length):∃ g n cap a1 c1 a2 c2,v=.slice (some ⟨g,0,none⟩) n cap∧g < w.heap.size∧w.cell? ⟨g,i*3,none⟩=some (.bool (l.getD i zR).neg)∧w.cell? ⟨g,i*3+1,none⟩=some (.slice a1 (l.getD i zR).num.length c1)∧w.cell? ⟨g,i*3+2,none⟩=some (.slice a2 (l.getD i zR).den.length c2)∧
  ElN B w [.bool (l.getD i zR).neg,.slice a1 (l.getD i zR).num.length c1,.slice a2 (l.getD i zR).den.length c2] (l.getD i zR):=by
 obtain ⟨a,cap,hv,_,_,hr⟩:=OwRow.rdN h;have hl:l[i]?=some (l.getD i zR):=by rw [List.getD_eq_getElem?_getD,List.getElem?_eq_getElem hi];rfl
 obtain ⟨b,h',e1,hb,e2,e3,e4,hel⟩:=hr i _ hl;have hel2:=hel;obtain ⟨a1,c1,a2,c2,rfl,s1,s2⟩:=hel2;subst hv;subst e1;have x0:=e4 0 (by omega);have x1:=e4 1 (by omega);have x2:=e4 2 (by omega);exact ⟨b,_,_,a1,c1,a2,c2,rfl,e2,x0,x1,x2,hel⟩
theorem madeNil (n:Nat):madeCells (Value.slice none 0 0).cells (n*1)=(List.replicate n (Value.slice none 0 0)).toArray:=by
 rw [Nat.mul_one];apply Array.ext
 ·simp [madeCells]
 ·intro i h1 h2;simp [madeCells,Value.cells,Nat.mod_one]
theorem madeZero (n:Nat):madeCells (Value.int .i64 0).cells (n*1)=((List.replicate n (0:Int)).map (Value.int .i64)).toArray:=by
 rw [Nat.mul_one];apply Array.ext
 ·simp [madeCells]
 ·intro i h1 h2;simp [madeCells,Value.cells,Nat.mod_one]
def polA (m:MD) (a:Nat):List Int:=m.states.map fun ac=>((min a (ac.length - 1):Nat):Int)
theorem polA_len (m:MD) (a:Nat):(polA m a).length=m.states.length:=by simp [polA]
theorem polA_at {m:MD} {a s:Nat} (h:s < m.states.length):(polA m a).getD s 0=((min a ((m.states.getD s []).length - 1):Nat):Int):=by
 unfold polA;rw [List.getD_eq_getElem?_getD,List.getElem?_map,List.getD_eq_getElem?_getD (l:=m.states),List.getElem?_eq_getElem h];rfl
theorem polA_scr {m:MD} {v:List RR} (h:mvE m v=0) {a s:Nat} (hs:s < m.states.length):unE m (polA m a) v s=(scoreS m v (m.act s (min a ((m.states.getD s []).length - 1)))).2:=by
 have hl:=(st_valid ((md_valid (mv_valid h).1).2.2.2 s hs)).1;unfold unE polE;rw [polA_at hs,if_neg (by omega),Int.toNat_natCast]
theorem scores_under {m:MD} {v:List RR} (h:mvE m v=0) (a:Nat):(underS m (polA m a) v).2=frstE (fun s=>(scoreS m v (m.act s (min a ((m.states.getD s []).length - 1)))).2) m.states.length:=by
 have e:frstE (unE m (polA m a) v) (polA m a).length=frstE (fun s=>(scoreS m v (m.act s (min a ((m.states.getD s []).length - 1)))).2) m.states.length:=by
  rw [polA_len];exact frstE_congr (fun s hs=>polA_scr h hs)
 unfold underS;rw [if_neg (by simpa using h),if_neg (by simpa using polA_len m a),e];split
 ·rfl
 ·rename_i h1;simpa using (Classical.not_not.1 h1).symm
theorem scores_bad {m:MD} {v:List RR} (h:mvE m v=0) {a:Nat} (hu:(underS m (polA m a) v).2≠0):bkE m v≠0:=fun e=>by
 rw [scores_under h] at hu;obtain ⟨s,hs,_,e1⟩:=frstE_mem hu;rw [e1] at hu;refine hu ?_;have hl:=(st_valid ((md_valid (mv_valid h).1).2.2.2 s hs)).1;exact frstE_all (f:=fun a=>(scoreS m v ((m.states.getD s []).getD a dA)).2) (frstE_all e s hs) _ (by omega)
theorem scores_good {m:MD} {v:List RR} (h:mvE m v=0) {a:Nat} (hu:(underS m (polA m a) v).2=0):∀ s,s < m.states.length→a < (m.states.getD s []).length→(scoreS m v (m.act s a)).2=0:=fun s hs ha=>by
 rw [scores_under h] at hu;have:=frstE_all hu s hs;rwa [show min a ((m.states.getD s []).length - 1)=a by omega] at this
theorem scores_val {m:MD} {v:List RR} (h:mvE m v=0) {a:Nat} (hu:(underS m (polA m a) v).2=0):(underS m (polA m a) v).1.length=m.states.length∧∀ s,s < m.states.length→a < (m.states.getD s []).length→(underS m (polA m a) v).1.getD s zR=(scoreS m v (m.act s a)).1:=by
 obtain ⟨_,h2,_,h4⟩:=und_ok hu;rw [h4];refine ⟨by rw [unV_len,h2],fun s hs ha=>?_⟩;rw [unV_at (by rw [h2];exact hs),polA_at hs,Int.toNat_natCast,show min a ((m.states.getD s []).length - 1)=a by omega]
theorem scores_1 {m:MD} {v:List RR} {c:Int} (h:c=mvE m v) (hc:c≠0):scoresS m v=([],c):=by unfold scoresS;rw [← h,if_pos hc]
theorem scores_2 {m:MD} {v:List RR} {c:Int} (h:mvE m v=0) (h2:bkE m v=c) (hc:c≠0):scoresS m v=([],c):=by unfold scoresS;rw [if_neg (by simpa using h),h2,if_pos hc]
theorem bkE_zeroS {m:MD} {v:List RR} (h:∀ s,s < m.states.length→∀ a,a < (m.states.getD s []).length→(scoreS m v (m.act s a)).2=0):bkE m v=0:=frstE_zero (fun s hs=>frstE_zero (h s hs))
theorem scores_3 {m:MD} {v:List RR} (h:mvE m v=0) (h1:∀ s,s < m.states.length→∀ a,a < (m.states.getD s []).length→(scoreS m v (m.act s a)).2=0):scoresS m v=((List.range m.states.length).map fun s=>rowS m v (m.states.getD s []),0):=by
 have e:=bkE_zeroS h1;unfold scoresS;rw [if_neg (by simpa using h),e,if_neg (fun h=>h rfl)];refine congrArg (fun x=>(x,(0:Int))) (List.ext_getElem (by simp) (fun i h5 h6=>?_));simp at h5;rw [List.getElem_map,List.getElem_map,List.getElem_range,List.getD_eq_getElem?_getD,List.getElem?_eq_getElem h5];rfl
theorem row_take_ge {m:MD} {v:List RR} {ac:List DAct} {a:Nat} (h:ac.length≤a):(rowS m v ac).take a=rowS m v ac:=List.take_of_length_le (by rw [rowS_len];exact h)
def smG (one three:RR):MD:=⟨one,[[⟨one,[((0:Int),one)]⟩,⟨three,[((1:Int),one)]⟩],[⟨zR,[((1:Int),one)]⟩]]⟩
def smM:MD:=smG (rep ((1:Int):Rat)) (rep ((3:Int):Rat))
theorem NewR.sfS {B:Nat} {w0 w:World} {a1 a2:Option Addr} {c1 c2:Nat} {r:RR} (h:NewR w0 w (.agg #[.bool r.neg,.slice a1 r.num.length c1,.slice a2 r.den.length c2]) r) (hB:B≤w0.heap.size):SfW B w (.slice a1 r.num.length c1) r.num∧SfW B w (.slice a2 r.den.length c2) r.den:=by
 obtain ⟨vn,vd,e,h1,h2⟩:=h;injection e with e
 simp only [Array.mk.injEq,List.cons.injEq,and_true,true_and] at e;obtain ⟨rfl,rfl⟩:=e;exact ⟨SfW.new h1 hB,SfW.new h2 hB⟩
theorem rdOs_one {W:World} {b:Nat} {t:Int} {r:RR} {a1:Option Addr} {c1:Nat} {a2:Option Addr} {c2:Nat} {ty:TypeId} (hb:Blk W b #[.int .i64 t,.bool r.neg,.slice a1 r.num.length c1,.slice a2 r.den.length c2] ty) (h:RdR W (.agg #[.bool r.neg,.slice a1 r.num.length c1,.slice a2 r.den.length c2]) r):RdOs W (.slice (some ⟨b,0,none⟩) 1 1) [(t,r)]:=
 ⟨_,_,rfl,Nat.le_refl _,by decide,fun i hi=>by
  obtain rfl:i=0:=by simp at hi;omega
  exact ⟨b,0,a1,c1,a2,c2,rfl,hb.lt,hb.cell 0,hb.cell 1,hb.cell 2,hb.cell 3,h⟩⟩
theorem rdAs_one {W:World} {b:Nat} {x:DAct} {a1:Option Addr} {c1:Nat} {a2:Option Addr} {c2:Nat} {a3:Option Addr} {c3:Nat} {ty:TypeId} (hb:Blk W b #[.bool x.cost.neg,.slice a1 x.cost.num.length c1,.slice a2 x.cost.den.length c2,.slice a3 x.next.length c3] ty) (h:RdR W (.agg #[.bool x.cost.neg,.slice a1 x.cost.num.length c1,.slice a2 x.cost.den.length c2]) x.cost) (g:RdOs W (.slice a3 x.next.length c3) x.next):RdAs W (.slice (some ⟨b,0,none⟩) 1 1) [x]:=
 ⟨_,_,rfl,Nat.le_refl _,by decide,fun i hi=>by
  obtain rfl:i=0:=by simp at hi;omega
  exact ⟨b,0,a1,c1,a2,c2,a3,c3,rfl,⟨hb.lt,hb.cell 0,hb.cell 1,hb.cell 2,h⟩,hb.cell 3,g⟩⟩
theorem rdAs_two {W:World} {b:Nat} {x y:DAct} {a1:Option Addr} {c1:Nat} {a2:Option Addr} {c2:Nat} {a3:Option Addr} {c3:Nat} {b1:Option Addr} {d1:Nat} {b2:Option Addr} {d2:Nat} {b3:Option Addr} {d3:Nat} {ty:TypeId}
  (hb:Blk W b #[.bool x.cost.neg,.slice a1 x.cost.num.length c1,.slice a2 x.cost.den.length c2,.slice a3 x.next.length c3,.bool y.cost.neg,.slice b1 y.cost.num.length d1,.slice b2 y.cost.den.length d2,.slice b3 y.next.length d3] ty) (h:RdR W (.agg #[.bool x.cost.neg,.slice a1 x.cost.num.length c1,.slice a2 x.cost.den.length c2]) x.cost) (g:RdOs W (.slice a3 x.next.length c3) x.next)
  (h2:RdR W (.agg #[.bool y.cost.neg,.slice b1 y.cost.num.length d1,.slice b2 y.cost.den.length d2]) y.cost) (g2:RdOs W (.slice b3 y.next.length d3) y.next):RdAs W (.slice (some ⟨b,0,none⟩) 2 2) [x,y]:=
 ⟨_,_,rfl,Nat.le_refl _,by decide,fun i hi=>by
  match i,hi with
  | 0,_=>exact ⟨b,0,a1,c1,a2,c2,a3,c3,rfl,⟨hb.lt,hb.cell 0,hb.cell 1,hb.cell 2,h⟩,hb.cell 3,g⟩
  | 1,_=>exact ⟨b,0,b1,d1,b2,d2,b3,d3,rfl,⟨hb.lt,hb.cell 4,hb.cell 5,hb.cell 6,h2⟩,hb.cell 7,g2⟩⟩
theorem rdSt_two {W:World} {b:Nat} {x y:List DAct} {a1:Option Addr} {c1:Nat} {a2:Option Addr} {c2:Nat} {ty:TypeId} (hb:Blk W b #[.slice a1 x.length c1,.slice a2 y.length c2] ty) (h:RdAs W (.slice a1 x.length c1) x) (g:RdAs W (.slice a2 y.length c2) y):RdSt W (.slice (some ⟨b,0,none⟩) 2 2) [x,y]:=
 ⟨_,_,rfl,Nat.le_refl _,by decide,fun i hi=>by
  match i,hi with
  | 0,_=>exact ⟨b,0,a1,c1,rfl,hb.lt,hb.cell 0,h⟩
  | 1,_=>exact ⟨b,0,a2,c2,rfl,hb.lt,hb.cell 1,g⟩⟩
def smJ (one three:RR) (o1 o3:Option Addr) (o2 o4:Nat) (j:Nat) (v:Value) (W:World):Prop:=
 match j with
 | 0=>v=.agg #[.bool one.neg,.slice o1 one.num.length o2,.slice o3 one.den.length o4]
 | 1=>v=.agg #[.bool one.neg,.slice o1 one.num.length o2,.slice o3 one.den.length o4]
 | 2=>v=.agg #[.bool one.neg,.slice o1 one.num.length o2,.slice o3 one.den.length o4]
 | 3=>v=.agg #[.int .i64 0,.bool one.neg,.slice o1 one.num.length o2,.slice o3 one.den.length o4]
 | 4=>∀ W9,Keeps 0 28 W W9→RdOs W9 v [((0:Int),one)]
 | 5=>∀ W9,Keeps 0 28 W W9→RdAct W9 v ⟨one,[((0:Int),one)]⟩
 | 6=>∃ s1 s2 s3 s4,v=.agg #[.bool three.neg,.slice s1 three.num.length s2,.slice s3 three.den.length s4]∧∀ W9,Keeps 0 28 W W9→RdR W9 (.agg #[.bool three.neg,.slice s1 three.num.length s2,.slice s3 three.den.length s4]) three
 | 7=>v=.agg #[.bool one.neg,.slice o1 one.num.length o2,.slice o3 one.den.length o4]
 | 8=>v=.agg #[.int .i64 1,.bool one.neg,.slice o1 one.num.length o2,.slice o3 one.den.length o4]
 | 9=>∀ W9,Keeps 0 28 W W9→RdOs W9 v [((1:Int),one)]
 | 10=>∀ W9,Keeps 0 28 W W9→RdAct W9 v ⟨three,[((1:Int),one)]⟩
 | 11=>∀ W9,Keeps 0 28 W W9→RdAs W9 v [⟨one,[((0:Int),one)]⟩,⟨three,[((1:Int),one)]⟩]
 | 12=>v=.agg #[.bool one.neg,.slice o1 one.num.length o2,.slice o3 one.den.length o4]
 | 13=>v=.agg #[.int .i64 1,.bool one.neg,.slice o1 one.num.length o2,.slice o3 one.den.length o4]
 | 14=>∀ W9,Keeps 0 28 W W9→RdOs W9 v [((1:Int),one)]
 | 15=>∀ W9,Keeps 0 28 W W9→RdAct W9 v ⟨zR,[((1:Int),one)]⟩
 | 16=>∀ W9,Keeps 0 28 W W9→RdAs W9 v [⟨zR,[((1:Int),one)]⟩]
 | 17=>∀ W9,Keeps 0 28 W W9→RdSt W9 v [[⟨one,[((0:Int),one)]⟩,⟨three,[((1:Int),one)]⟩],[⟨zR,[((1:Int),one)]⟩]]
 | 18=>∀ W9,Keeps 0 28 W W9→RdM W9 v (smG one three)
 | _=>True
theorem smJ_ext {one three:RR} {o1 o3:Option Addr} {o2 o4:Nat} {j:Nat} {v:Value} {W W':World} (h:smJ one three o1 o3 o2 o4 j v W) (x:Ext W W'):smJ one three o1 o3 o2 o4 j v W':=by
 match j,h with
 | 0,h=>exact h
 | 1,h=>exact h
 | 2,h=>exact h
 | 3,h=>exact h
 | 4,h=>exact fun W9 k=>h W9 ((Keeps.ext x).trans k)
 | 5,h=>exact fun W9 k=>h W9 ((Keeps.ext x).trans k)
 | 6,⟨s1,s2,s3,s4,h1,h2⟩=>exact ⟨s1,s2,s3,s4,h1,fun W9 k=>h2 W9 ((Keeps.ext x).trans k)⟩
 | 7,h=>exact h
 | 8,h=>exact h
 | 9,h=>exact fun W9 k=>h W9 ((Keeps.ext x).trans k)
 | 10,h=>exact fun W9 k=>h W9 ((Keeps.ext x).trans k)
 | 11,h=>exact fun W9 k=>h W9 ((Keeps.ext x).trans k)
 | 12,h=>exact h
 | 13,h=>exact h
 | 14,h=>exact fun W9 k=>h W9 ((Keeps.ext x).trans k)
 | 15,h=>exact fun W9 k=>h W9 ((Keeps.ext x).trans k)
 | 16,h=>exact fun W9 k=>h W9 ((Keeps.ext x).trans k)
 | 17,h=>exact fun W9 k=>h W9 ((Keeps.ext x).trans k)
 | 18,h=>exact fun W9 k=>h W9 ((Keeps.ext x).trans k)
 | _+19,_=>trivial
theorem small_any (w:World) :
  Calls Tryz.prog 33 #[] w fun e w'=>(∃ v,e=.returned v∧RdM w' v smM)∧Ext w w':=by
 have bb0:=(Blk.new w #[.bool false,.slice none 0 0,.slice none 0 0,.slice none 0 0] 28);have x0:Ext w (w.alloc (.cells #[.bool false,.slice none 0 0,.slice none 0 0,.slice none 0 0] 28)):=((Ext.refl w).alloc _);have A0:=kI bb0;have X:=kI x0;clear x0 bb0;go_enter Tryz.func33,Tryz.ntmps33
 go_wp2_with fail;refine (fromR_any 1 _ (by decide) (by decide)).mono ?_;rintro e w1 ⟨⟨v,rfl,nn⟩,hx⟩;obtain ⟨one,hone⟩:=gN (rep ((1:Int):Rat));rw [← hone] at nn;have HONE:=kI hone;obtain ⟨o1,o2,o3,o4,rfl⟩:=nn.shape;obtain ⟨hs1,hs2⟩:=nn.sfS (B:=0) (Nat.zero_le _);have ORK:Hid (∀ W9,Keeps 0 28 w1 W9→RdR W9 (.agg #[.bool one.neg,.slice o1 one.num.length o2,.slice o3 one.den.length o4]) one):=kI (fun W9 k=>⟨_,_,rfl,(hs1.keeps k (by decide)).rd,(hs2.keeps k (by decide)).rd⟩);replace A0:=kI (A0.o.ext hx);replace X:=kI (X.o.trans hx);clear nn hx hone hs1 hs2;go_wp2_with fail;obtain ⟨bo,hbo⟩:=gN (w1.heap.size);obtain ⟨w2,hw2⟩:=gN (w1.alloc (.cells #[.bool one.neg,.slice o1 one.num.length o2,.slice o3 one.den.length o4] 25));have hx:Ext w1 w2:=by rw [hw2];exact (Ext.refl _).alloc _
 have hb:Blk w2 bo #[.bool one.neg,.slice o1 one.num.length o2,.slice o3 one.den.length o4] 25:=by rw [hw2,hbo];exact Blk.new _ _ _
 rw [← hbo,← hw2];have OR:=kI (fun W9 (k:Keeps 0 28 w2 W9)=>ORK.o W9 ((Keeps.ext hx).trans k));have BY:=kI hb;obtain ⟨three,hthree⟩:=gN (rep ((3:Int):Rat));have HTHREE:=kI hthree;have hc3:=fun W=>fromR_any 3 W (by decide) (by decide);simp only [← hthree] at hc3;have HC3:=kI hc3;replace A0:=kI (A0.o.ext hx);replace X:=kI (X.o.trans hx);clear hw2 hbo hx hb hthree hc3;refine wp_region_each_tail 19 (smJ one three o1 o3 o2 o4) (by kernel_rfl) (by kernel_rfl) (by kernel_rfl) (fun _ _ _ _ h x=>smJ_ext h x) ?_ ?_
 ·refine ⟨?_,?_,?_,?_,?_,?_,?_,?_,?_,?_,?_,?_,?_,?_,?_,?_,?_,?_,?_,trivial⟩
  ·intro a W hW hB hD K hK;have b1:=hB 1 rfl;simp only [sB] at b1;have q9:=(BY.o.ext hW).cell;have l9:=(BY.o.ext hW).lt;go_simp;exact hK _ _ (Ext.refl _) rfl
  ·intro a W hW hB hD K hK;have b1:=hB 1 rfl;simp only [sB] at b1;have q9:=(BY.o.ext hW).cell;have l9:=(BY.o.ext hW).lt;go_simp;exact hK _ _ (Ext.refl _) rfl
  ·intro a W hW hB hD K hK;have b1:=hB 1 rfl;simp only [sB] at b1;have q9:=(BY.o.ext hW).cell;have l9:=(BY.o.ext hW).lt;go_simp;exact hK _ _ (Ext.refl _) rfl
  ·intro a W hW hB hD K hK;obtain ⟨v5,e5,h5⟩:=dpE (hD 2 _ 5 rfl rfl (by kernel_rfl));obtain rfl:=h5;go_simp;exact hK _ _ (Ext.refl _) rfl
  ·intro a W hW hB hD K hK;obtain ⟨v6,e6,h6⟩:=dpE (hD 3 _ 6 rfl rfl (by kernel_rfl));obtain rfl:=h6;go_simp;refine hK _ _ ((Ext.refl _).alloc _) (fun W9 k=>?_);have kk:=(Keeps.ext ((Ext.refl W).alloc _)).trans k;have bb:=(Blk.new W _ _).keeps k (by decide);exact rdOs_one bb (OR.o W9 ((Keeps.ext hW).trans kk))
  ·intro a W hW hB hD K hK;obtain ⟨v4,e4,h4⟩:=dpE (hD 1 _ 4 rfl rfl (by kernel_rfl));obtain rfl:=h4;obtain ⟨v7,e7,h7⟩:=dpE (hD 4 _ 7 rfl rfl (by kernel_rfl));have hh:=h7 W (Keeps.ext (Ext.refl W));obtain ⟨a9,c9,rfl,l9,m9,r9⟩:=hh;have h7':∀ W9,Keeps 0 28 W W9→RdOs W9 (.slice a9 1 c9) [((0:Int),one)]:=h7;go_simp;exact hK _ _ (Ext.refl _) (fun W9 k=>⟨_,_,_,_,_,_,rfl,(OR.o W9 ((Keeps.ext hW).trans k)),h7' W9 k⟩)
  ·intro a W hW hB hD K hK;go_simp;refine (HC3.o _).mono ?_;rintro e w9 ⟨⟨v,rfl,nn⟩,hx⟩;obtain ⟨s1,s2,s3,s4,rfl⟩:=nn.shape;obtain ⟨hs1,hs2⟩:=nn.sfS (B:=0) (Nat.zero_le _);exact hK _ _ hx ⟨_,_,_,_,rfl,fun W9 k=>⟨_,_,rfl,(hs1.keeps k (by decide)).rd,(hs2.keeps k (by decide)).rd⟩⟩
  ·intro a W hW hB hD K hK;have b1:=hB 1 rfl;simp only [sB] at b1;have q9:=(BY.o.ext hW).cell;have l9:=(BY.o.ext hW).lt;go_simp;exact hK _ _ (Ext.refl _) rfl
  ·intro a W hW hB hD K hK;obtain ⟨v10,e10,h10⟩:=dpE (hD 7 _ 10 rfl rfl (by kernel_rfl));obtain rfl:=h10;go_simp;exact hK _ _ (Ext.refl _) rfl
  ·intro a W hW hB hD K hK;obtain ⟨v11,e11,h11⟩:=dpE (hD 8 _ 11 rfl rfl (by kernel_rfl));obtain rfl:=h11;go_simp;refine hK _ _ ((Ext.refl _).alloc _) (fun W9 k=>?_);have kk:=(Keeps.ext ((Ext.refl W).alloc _)).trans k;have bb:=(Blk.new W _ _).keeps k (by decide);exact rdOs_one bb (OR.o W9 ((Keeps.ext hW).trans kk))
  ·intro a W hW hB hD K hK;obtain ⟨v9,e9,h9⟩:=dpE (hD 6 _ 9 rfl rfl (by kernel_rfl));obtain ⟨s1,s2,s3,s4,rfl,h2⟩:=h9;obtain ⟨v12,e12,h12⟩:=dpE (hD 9 _ 12 rfl rfl (by kernel_rfl));have hh:=h12 W (Keeps.ext (Ext.refl W));obtain ⟨a9,c9,rfl,l9,m9,r9⟩:=hh;have h12':∀ W9,Keeps 0 28 W W9→RdOs W9 (.slice a9 1 c9) [((1:Int),one)]:=h12;go_simp;exact hK _ _ (Ext.refl _) (fun W9 k=>⟨_,_,_,_,_,_,rfl,h2 W9 k,h12' W9 k⟩)
  ·intro a W hW hB hD K hK;obtain ⟨v8,e8,h8⟩:=dpE (hD 5 _ 8 rfl rfl (by kernel_rfl));obtain ⟨v13,e13,h13⟩:=dpE (hD 10 _ 13 rfl rfl (by kernel_rfl));have hh8:=h8 W (Keeps.ext (Ext.refl W));obtain ⟨x81,x82,x83,x84,x85,x86,rfl,-,-⟩:=hh8;have g8:∀ W9,Keeps 0 28 W W9→RdR W9 (.agg #[.bool (⟨one,[((0:Int),one)]⟩:DAct).cost.neg,.slice x81 (⟨one,[((0:Int),one)]⟩:DAct).cost.num.length x82,.slice x83 (⟨one,[((0:Int),one)]⟩:DAct).cost.den.length x84]) (⟨one,[((0:Int),one)]⟩:DAct).cost∧RdOs W9 (.slice x85 (⟨one,[((0:Int),one)]⟩:DAct).next.length x86) (⟨one,[((0:Int),one)]⟩:DAct).next:=fun W9 k=>by
    obtain ⟨_,_,_,_,_,_,e,f1,f2⟩:=h8 W9 k;injection e with e
    simp only [Array.mk.injEq,List.cons.injEq,Value.slice.injEq,and_true,true_and] at e;obtain ⟨⟨rfl,rfl⟩,⟨rfl,rfl⟩,⟨rfl,rfl⟩⟩:=e;exact ⟨f1,f2⟩
   have hh13:=h13 W (Keeps.ext (Ext.refl W));obtain ⟨x131,x132,x133,x134,x135,x136,rfl,-,-⟩:=hh13;have g13:∀ W9,Keeps 0 28 W W9→RdR W9 (.agg #[.bool (⟨three,[((1:Int),one)]⟩:DAct).cost.neg,.slice x131 (⟨three,[((1:Int),one)]⟩:DAct).cost.num.length x132,.slice x133 (⟨three,[((1:Int),one)]⟩:DAct).cost.den.length x134]) (⟨three,[((1:Int),one)]⟩:DAct).cost∧RdOs W9 (.slice x135 (⟨three,[((1:Int),one)]⟩:DAct).next.length x136) (⟨three,[((1:Int),one)]⟩:DAct).next:=fun W9 k=>by
    obtain ⟨_,_,_,_,_,_,e,f1,f2⟩:=h13 W9 k;injection e with e
    simp only [Array.mk.injEq,List.cons.injEq,Value.slice.injEq,and_true,true_and] at e;obtain ⟨⟨rfl,rfl⟩,⟨rfl,rfl⟩,⟨rfl,rfl⟩⟩:=e;exact ⟨f1,f2⟩
   go_simp;refine hK _ _ ((Ext.refl _).alloc _) (fun W9 k=>?_);have kk:=(Keeps.ext ((Ext.refl W).alloc _)).trans k;have bb:=(Blk.new W _ _).keeps k (by decide);exact rdAs_two (x:=⟨one,[((0:Int),one)]⟩) (y:=⟨three,[((1:Int),one)]⟩) bb (g8 W9 kk).1 (g8 W9 kk).2 (g13 W9 kk).1 (g13 W9 kk).2
  ·intro a W hW hB hD K hK;have b1:=hB 1 rfl;simp only [sB] at b1;have q9:=(BY.o.ext hW).cell;have l9:=(BY.o.ext hW).lt;go_simp;exact hK _ _ (Ext.refl _) rfl
  ·intro a W hW hB hD K hK;obtain ⟨v15,e15,h15⟩:=dpE (hD 12 _ 15 rfl rfl (by kernel_rfl));obtain rfl:=h15;go_simp;exact hK _ _ (Ext.refl _) rfl
  ·intro a W hW hB hD K hK;obtain ⟨v16,e16,h16⟩:=dpE (hD 13 _ 16 rfl rfl (by kernel_rfl));obtain rfl:=h16;go_simp;refine hK _ _ ((Ext.refl _).alloc _) (fun W9 k=>?_);have kk:=(Keeps.ext ((Ext.refl W).alloc _)).trans k;have bb:=(Blk.new W _ _).keeps k (by decide);exact rdOs_one bb (OR.o W9 ((Keeps.ext hW).trans kk))
  ·intro a W hW hB hD K hK;obtain ⟨v17,e17,h17⟩:=dpE (hD 14 _ 17 rfl rfl (by kernel_rfl));have hh:=h17 W (Keeps.ext (Ext.refl W));obtain ⟨a9,c9,rfl,l9,m9,r9⟩:=hh;have h17':∀ W9,Keeps 0 28 W W9→RdOs W9 (.slice a9 1 c9) [((1:Int),one)]:=h17;go_simp;exact hK _ _ (Ext.refl _) (fun W9 k=>⟨_,_,_,_,_,_,rfl,NewR.rd (NewR.zero W9 W9),h17' W9 k⟩)
  ·intro a W hW hB hD K hK;obtain ⟨v18,e18,h18⟩:=dpE (hD 15 _ 18 rfl rfl (by kernel_rfl));have hh18:=h18 W (Keeps.ext (Ext.refl W));obtain ⟨x181,x182,x183,x184,x185,x186,rfl,-,-⟩:=hh18;have g18:∀ W9,Keeps 0 28 W W9→RdR W9 (.agg #[.bool (⟨zR,[((1:Int),one)]⟩:DAct).cost.neg,.slice x181 (⟨zR,[((1:Int),one)]⟩:DAct).cost.num.length x182,.slice x183 (⟨zR,[((1:Int),one)]⟩:DAct).cost.den.length x184]) (⟨zR,[((1:Int),one)]⟩:DAct).cost∧RdOs W9 (.slice x185 (⟨zR,[((1:Int),one)]⟩:DAct).next.length x186) (⟨zR,[((1:Int),one)]⟩:DAct).next:=fun W9 k=>by
    obtain ⟨_,_,_,_,_,_,e,f1,f2⟩:=h18 W9 k;injection e with e
    simp only [Array.mk.injEq,List.cons.injEq,Value.slice.injEq,and_true,true_and] at e;obtain ⟨⟨rfl,rfl⟩,⟨rfl,rfl⟩,⟨rfl,rfl⟩⟩:=e;exact ⟨f1,f2⟩
   go_simp;refine hK _ _ ((Ext.refl _).alloc _) (fun W9 k=>?_);have kk:=(Keeps.ext ((Ext.refl W).alloc _)).trans k;have bb:=(Blk.new W _ _).keeps k (by decide);exact rdAs_one (x:=⟨zR,[((1:Int),one)]⟩) bb (g18 W9 kk).1 (g18 W9 kk).2
  ·intro a W hW hB hD K hK;obtain ⟨v14,e14,h14⟩:=dpE (hD 11 _ 14 rfl rfl (by kernel_rfl));obtain ⟨v19,e19,h19⟩:=dpE (hD 16 _ 19 rfl rfl (by kernel_rfl));have hh:=h14 W (Keeps.ext (Ext.refl W));obtain ⟨a9,c9,rfl,-,-,-⟩:=hh;have hh:=h19 W (Keeps.ext (Ext.refl W));obtain ⟨b9,d9,rfl,-,-,-⟩:=hh;have k1:∀ W9,Keeps 0 28 W W9→RdAs W9 (.slice a9 2 c9) [⟨one,[((0:Int),one)]⟩,⟨three,[((1:Int),one)]⟩]:=h14;have k2:∀ W9,Keeps 0 28 W W9→RdAs W9 (.slice b9 1 d9) [⟨zR,[((1:Int),one)]⟩]:=h19;go_simp;refine hK _ _ ((Ext.refl _).alloc _) (fun W9 k=>?_);have kk:=(Keeps.ext ((Ext.refl W).alloc _)).trans k;have bb:=(Blk.new W _ _).keeps k (by decide);exact rdSt_two (x:=[⟨one,[((0:Int),one)]⟩,⟨three,[((1:Int),one)]⟩]) (y:=[⟨zR,[((1:Int),one)]⟩]) bb (k1 W9 kk) (k2 W9 kk)
  ·intro a W hW hB hD K hK;obtain ⟨v3,e3,h3⟩:=dpE (hD 0 _ 3 rfl rfl (by kernel_rfl));obtain rfl:=h3;obtain ⟨v20,e20,h20⟩:=dpE (hD 17 _ 20 rfl rfl (by kernel_rfl));have hh:=h20 W (Keeps.ext (Ext.refl W));obtain ⟨a9,c9,rfl,-,-,-⟩:=hh;have k1:∀ W9,Keeps 0 28 W W9→RdSt W9 (.slice a9 2 c9) [[⟨one,[((0:Int),one)]⟩,⟨three,[((1:Int),one)]⟩],[⟨zR,[((1:Int),one)]⟩]]:=h20;go_simp;exact hK _ _ (Ext.refl _) (fun W9 k=>⟨_,_,_,_,_,_,rfl,(OR.o W9 ((Keeps.ext hW).trans k)),k1 W9 k⟩)
 intro w9 hx;simp only [Vals,List.take_succ_cons,List.take_zero,List.drop_succ_cons,List.drop_zero];rintro u0 - u1 - u2 - u3 - u4 - u5 - u6 - u7 - u8 - u9 - u10 - u11 - u12 - u13 - u14 - u15 - u16 - u17 - u18 h18;obtain ⟨e1,e2,e3,e4,e5,e6,rfl,-,-⟩:=h18 w9 (Keeps.ext (Ext.refl w9));simp only [Act.put,List.setIfInBounds_toArray,List.set_cons_zero,List.set_cons_succ];have G1:=kI h18;replace A0:=kI (A0.o.ext hx);replace X:=kI (X.o.trans hx);clear hx h18;obtain ⟨qA0,fA0,lA0⟩:=A0.o.q3;go_wp2_with fail;clear qA0 fA0 lA0;obtain ⟨wf,hwf⟩:=gN ((((w9.setCell ⟨w.heap.size,0,none⟩ (.bool (smG one three).disc.neg)).setCell ⟨w.heap.size,1,none⟩ (.slice e1 (smG one three).disc.num.length e2)).setCell ⟨w.heap.size,2,none⟩ (.slice e3 (smG one three).disc.den.length e4)).setCell ⟨w.heap.size,3,none⟩ (.slice e5 (smG one three).states.length e6));have hk:Keeps 0 28 w9 wf:=by
  rw [hwf];exact (((keeps_setC A0.o 0 _).trans (keeps_setC (A0.o.set 0 _) 1 _)).trans (keeps_setC ((A0.o.set 0 _).set 1 _) 2 _)).trans (keeps_setC (((A0.o.set 0 _).set 1 _).set 2 _) 3 _)
 have hbf:Blk wf w.heap.size #[.bool (smG one three).disc.neg,.slice e1 (smG one three).disc.num.length e2,.slice e3 (smG one three).disc.den.length e4,.slice e5 (smG one three).states.length e6] 28:=by rw [hwf];exact (((A0.o.set 0 _).set 1 _).set 2 _).set 3 _
 have hxf:Ext w wf:=by
  rw [hwf];exact Below.setCell (Below.setCell (Below.setCell (Below.setCell X.o (Nat.le_refl _) _) (Nat.le_refl _) _) (Nat.le_refl _) _) (Nat.le_refl _) _
 have hrd:=G1.o wf hk;rw [← hwf];clear hwf;have hsm:smM=smG one three:=by unfold smM;rw [HONE.o,HTHREE.o]
 rw [hsm];have c0:=hbf.cell 0;have c1:=hbf.cell 1;have c2:=hbf.cell 2;have c3:=hbf.cell 3;have lf:=hbf.lt;simp only [List.getElem?_toArray,List.getElem?_cons_zero,List.getElem?_cons_succ] at c0 c1 c2 c3;refine bodyPost_ret (v:=.agg #[.bool (smG one three).disc.neg,.slice e1 (smG one three).disc.num.length e2,.slice e3 (smG one three).disc.den.length e4,.slice e5 (smG one three).states.length e6]) (by simp only [results,Tryz.results33];go_simp) rfl ?_;exact ⟨⟨_,rfl,hrd⟩,hxf⟩
end Go.Proofs.YtfflknbeidihoaaGreat
