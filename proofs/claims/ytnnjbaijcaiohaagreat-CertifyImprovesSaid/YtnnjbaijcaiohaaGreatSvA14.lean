/- Walks and lemmas. -/
import Derived.Test.YtnnjbaijcaiohaaGreatSvA13
import Derived.Test.YtnnjbaijcaiohaaGreatSvA3
import Derived.Test.YtnnjbaijcaiohaaGreatSvA7
import Derived.OwnWalkIn
import Derived.OrdersHeld
import Derived.Deep.RegionHeld
import Derived.Test.YtnnjbaijcaiohaaGreatSvA0
set_option linter.unusedVariables false
set_option linter.unusedSimpArgs false
set_option maxRecDepth 100000
set_option maxHeartbeats 16000000
namespace Go.Proofs.YtnnjbaijcaiohaaGreat
open Go.RowKit
section
abbrev vk (m:MD) (m1:Option Addr) (n1:Nat) (m2:Option Addr) (n2:Nat) (m3:Option Addr) (n3:Nat):Array Value:=#[.bool m.ah.neg,.slice m1 m.ah.num.length n1,.slice m2 m.ah.den.length n2,.slice m3 m.states.length n3]
abbrev It (H:Nat):Array Value:=#[.pointer (some ⟨H+2,0,none⟩),.pointer (some ⟨H,0,none⟩),.pointer (some ⟨H+1,0,none⟩)]
theorem tl (m:MD) (m1:Option Addr) (n1:Nat) (m2:Option Addr) (n2:Nat) (m3:Option Addr) (n3:Nat) (a:Option Addr) (n c:Nat) (a2:Option Addr) (k2 c2:Nat) (w:World) :
  Calls Tryz.prog 146 #[.agg (vk m m1 n1 m2 n2 m3 n3),.slice a n c,.slice a2 k2 c2] w fun e w'=>e=.returned (.func (.func 182) #[] (It w.heap.size))∧w'=((w.alloc (.cells (vk m m1 n1 m2 n2 m3 n3) 28)).alloc (.cells #[.slice a n c] 29)).alloc (.cells #[.slice a2 k2 c2] 84):=by
 go_enter Tryz.func146,Tryz.ntmps146
 go_wp2
 go_ret;exact ⟨rfl,rfl⟩
def JN (w0:World) (m:MD) (vals:List RR) (s:Nat) (pre:List (Value × Int)) (x:Value × Int) (W:World):Prop:=
 pre.length < (m.states.getD s []).length∧x.2=(aU m vals (m.act s pre.length)).2∧aV w0 W x.1 (aU m vals (m.act s pre.length)).1
def zm (m:MD) (s:Nat) (xs:List (Value × Int)):Prop:=xs.length=(m.states.getD s []).length∨∃ y ∈ xs,y.2≠0
theorem qQ (n:Nat) (hn:1≤n) (m:MD) (m1:Option Addr) (n1:Nat) (m2:Option Addr) (n2:Nat) (m3:Option Addr) (n3:Nat) (a:Option Addr) (c:Nat) (a2:Option Addr) (c2:Nat) (vals:List RR) (s H N lb:Nat) (X:Nat→Prop) (w0 W1:World)
  (hm:eY w0 (.agg (vk m m1 n1 m2 n2 m3 n3)) m) (hv:cH w0 (.slice a vals.length c) vals) (hac:iL w0 (.slice a2 (m.states.getD s []).length c2) (m.states.getD s [])) (hlm:iY m) (hlv:dm vals) (hE:gJ m vals=0) (hs:s < m.states.length)
  (hx:Ext w0 W1) (hX:∀ i,X i→w0.heap.size≤i∧i < H) (Xh:w0.heap.size≤H) (hH:H+2 < N) (hN:N≤W1.heap.size)
  (hb0:ag W1 H (vk m m1 n1 m2 n2 m3 n3) 28) (hb1:ag W1 (H+1) #[.slice a vals.length c] 29) (hb2:ag W1 (H+2) #[.slice a2 (m.states.getD s []).length c2] 84) :
  pP Fence.wide n Tryz.prog 182 (It H) (gQ N X) Ext (fun x:Value × Int=>#[x.1,.int .i64 x.2]) (JN w0 m vals s) (zm m s) (fun _ _=>False) lb W1:=by
 intro J Jx hJ hY h0;have hsc:=fun W xv k (x:Ext w0 W) (hx:iu W xv (m.act s k)) (hk:k < (m.states.getD s []).length)=>uZ _ _ xv m vals s k W (hm.ext x) (hv.ext x) hx hlm hlv hE hs hk;have hll:(m.states.getD s []).length≤9223372036854775807:=by obtain ⟨_,_,_,h⟩:=hac.shape;exact h
 have hnx:∀ (pre:List (Value × Int)) (k:Nat) (v:Value) (r:RR) (e:Int) (W:World),pre.length=k→k < (m.states.getD s []).length→aU m vals (m.act s k)=(r,e)→aV w0 W v r→JN w0 m vals s pre (v,e) W:=by
  intro pre k v r e W h1 h2 h3 h4;subst h1;exact ⟨h2,by rw [h3],by rw [h3];exact h4⟩
 have hat:∀ k,(m.states.getD s []).getD k dA=m.act s k:=fun _=>rfl;have hfin:∀ xs:List (Value × Int),zm m s xs↔(xs.length=(m.states.getD s []).length∨∃ y ∈ xs,y.2≠0):=fun _=>Iff.rfl;obtain ⟨ac,JO⟩:=gN (m.states.getD s []);rw [← JO] at hac hb2 hsc hll hnx hat;simp only [← JO] at hfin;have rP:=kI hac;have Jv:=kI hsc;have HNX:=kI hnx;have HAT:=kI hat;have OQ:=kI hfin;have HB0:=kI hb0;have HB1:=kI hb1;have HB2:=kI hb2;have HX:=kI hx;have Rv:=kI hJ;have HY:=kI hY;clear hm hv hac hsc hnx hat hfin JO hx hlm hlv hE hs hJ hY;have hw0:w0.heap.size≤W1.heap.size:=HX.o.size;refine callsIn_of_wp Tryz.func182 rfl trivial ?_ rfl;simp only [Tryz.ntmps182,List.size_toArray,List.length_cons,List.length_nil,Nat.reduceAdd,Nat.reduceSub,Array.replicate_succ,Array.replicate_zero,List.push_toArray,List.append_toArray,List.nil_append,List.cons_append];have d0:=hb2.cell;have d1:=hb2.lt;gi_wp2_with fail;clear d0 d1 hb0 hb1 hb2;gi_loopw [11] (fun i wr=>∃ (k:Nat) (pre:List (Value × Int)),k≤ac.length∧i=.int .i64 k∧pre.length=k∧J pre wr∧gQ N X W1 wr) (fun i _=>ac.length - (intOf i).toNat)
 case atStart=>exact ⟨0,[],by omega,rfl,rfl,h0,gQ.refl _ _ _⟩
 case round=>
  obtain ⟨wk,hwk⟩:=gN (wr);subst hwk;obtain ⟨k,pre,hk,rfl,hpl,hj,hkp⟩:=hrel;have XK:Hid (Ext w0 wk):=kI (Below.trans HX.o (hkp.below (fun i h=>(hX i h).1) Z hw0));have KP:=kI hkp;have HJ:=kI hj;have nH:=kI hpl;have Xi:=kI (HB0.o.xQ hkp Z (fun h=>by have:=(hX _ h).2;omega));have bk1:=kI (HB1.o.xQ hkp Z (fun h=>by have:=(hX _ h).2;omega));have bk2:=kI (HB2.o.xQ hkp Z (fun h=>by have:=(hX _ h).2;omega));clear hkp hj hpl;by_cases hlt:k < ac.length
  ·obtain ⟨b,off,p1,e1,p2,e2,p3,e3,rfl,zz⟩:=(rP.o.ext XK.o).at hlt;have hrd:=zz.rd;obtain ⟨⟨y0,y1,y2,y3,-⟩,y4,-⟩:=zz;have hsc:=fun W xv (x:Ext w0 W) (hx:iu W xv (m.act s k))=>Jv.o W xv k x hx hlt;have hnx:=fun (v:Value) (r:RR) (e:Int) (W:World)=>HNX.o pre k v r e W nH.o hlt;rw [HAT.o k] at y1 y2 y3 y4 hrd;obtain ⟨x,hxx⟩:=gN (m.act s k);rw [← hxx] at y1 y2 y3 y4 hrd hsc hnx;obtain ⟨R,hR⟩:=gN (aU m vals x);rw [← hR] at hsc hnx;obtain ⟨r,e⟩:=R;unfold bU at hsc;dsimp only at hsc;have TV:=kI hsc;have TW:=kI (fun v W=>hnx v r e W rfl);have RX:=kI hrd;have q4:(0:Int)≤(k:Int):=Z
   have q5:(k:Int) < (ac.length:Int):=Z
   clear hsc hnx hrd hxx hR;have TX:=Xi.out.cell;have rS:=bk1.out.cell;have kb2:=Xi.out.lt;have MI:=bk1.out.lt;gi_wp2_with fail;obtain ⟨wa,TY⟩:=gN (wk.alloc (.cells #[.bool x.cost.neg,.slice p1 x.cost.num.length e1,.slice p2 x.cost.den.length e2,.slice p3 x.next.length e3] 83));have hxa:Ext wk wa:=by rw [TY];exact (Ext.refl _).alloc _
   rw [← TY];clear TY;refine ⟨trivial,(callsIn_wide.2 (TV.o wa _ (XK.o.trans hxa) (RX.o.ext hxa))).mono ?_⟩;rintro e9 w2 ⟨⟨v,rfl,nn⟩,hx2⟩;obtain ⟨s1,s2,s3,s4,rfl⟩:=nn.shape;have NN:=kI (nn.from (XK.o.trans hxa));have X2:=kI (hxa.trans hx2);clear nn hx2 hxa y0 y1 y2 y3 y4 TX rS kb2 MI;obtain ⟨fn,tmps,assign,body,hy,hR⟩:=HY.o pre (.agg #[.bool r.neg,.slice s1 r.num.length s2,.slice s3 r.den.length s4],e) (w2.alloc (.cells #[.bool r.neg,.slice s1 r.num.length s2,.slice s3 r.den.length s4] 25)) (Rv.o _ _ _ HJ.o (X2.o.alloc _)) (TW.o _ _ (NN.o.ext ((Ext.refl _).alloc _)));have HRR:=kI hR;have KA:Hid (gQ N X W1 (w2.alloc (.cells #[.bool r.neg,.slice s1 r.num.length s2,.slice s3 r.den.length s4] 25))):=kI (KP.o.trans (.ext (X2.o.alloc _)));dsimp only at hy HRR;clear hR;by_cases he:e=0
   ·subst he;gi_wp2_with fail;refine HRR.o.mono ?_;rintro e9 W3 ⟨hb3,(⟨rfl,hJ3⟩|⟨rfl,hJ3⟩)⟩
    ·have uA:=kI hJ3;have KP3:=kI (KA.o.trans hb3);clear hJ3 hb3 hy HRR;gi_wp2_with fail;go_roundw
     case rel=>exact ⟨k+1,_,by omega,by go_num,by have:=nH.o;simp [this],uA.o,KP3.o⟩
     case measure=>simp [intOf];omega
    ·have uA:=kI hJ3;clear hJ3 hb3 hy HRR;gi_wp2_with fail;refine bodyPost_ret (v:=.tuple #[]) ?_ rfl (.inl ⟨⟨_,rfl⟩,.inr ⟨_,uA.o⟩⟩);first|rfl|(simp only [results,Tryz.results182];go_simp)
   ·have q6:(e != 0)=true:=by simpa using he
    gi_wp2_with fail;refine HRR.o.mono ?_;rintro e9 W3 ⟨hb3,(⟨rfl,hJ3⟩|⟨rfl,hJ3⟩)⟩
    ·have uA:=kI hJ3;have F3:=kI ((OQ.o (pre ++ [(.agg #[.bool r.neg,.slice s1 r.num.length s2,.slice s3 r.den.length s4],e)])).2 (.inr ⟨_,List.mem_append_right _ (List.mem_singleton_self _),he⟩));clear hJ3 hb3 hy HRR he;gi_wp2_with fail;refine bodyPost_ret (v:=.tuple #[]) ?_ rfl (.inl ⟨⟨_,rfl⟩,.inl ⟨_,F3.o,uA.o⟩⟩);first|rfl|(simp only [results,Tryz.results182];go_simp)
    ·have uA:=kI hJ3;clear hJ3 hb3 hy HRR he;gi_wp2_with fail;refine bodyPost_ret (v:=.tuple #[]) ?_ rfl (.inl ⟨⟨_,rfl⟩,.inr ⟨_,uA.o⟩⟩);first|rfl|(simp only [results,Tryz.results182];go_simp)
  ·obtain rfl:k=ac.length:=Z
   have F3:=kI ((OQ.o pre).2 (.inl nH.o));have q6:¬ (ac.length:Int) < (ac.length:Int):=Z
   gi_wp2_with fail;go_end0
   exact ⟨⟨_,rfl⟩,.inl ⟨_,F3.o,HJ.o⟩⟩
theorem kh {A B:World} (t:TypeId) (h0:Below 0 A B) (h:∀ (i:Nat) (c:Array Value) (u:TypeId),ag A i c u→ag B i c u):Keeps 0 t A B:=
 ⟨h0,fun i hi ho=>by
  rcases ho with ho|⟨cur,u,h1,_⟩
  ·omega
  ·have h2:=h i cur u h1;unfold ag at h1 h2;rw [h1,h2]⟩
theorem Kq.keeps {m:Nat} {A B:World} (h:Kq m A B) (t:TypeId):Keeps 0 t A B:=kh t h.kz.zero h.blk
theorem aD.pR {α:Type} {e t:TypeId} {size:Nat} {El:World→List Value→α→Prop} {B C:Nat} {w w':World} {v:Value} {l:List α} (h:aD e size El B w v l) (k:Keeps C t w w') (ht:e≠t) (hEl:∀ h y,El w h y→El w' h y):aD e size El B w' v l:=by
 obtain ⟨hs,h1,h2,h3,h4⟩:=h;exact ⟨hs,px h1 k ht,h2,h3,fun i y hi=>by obtain ⟨h,e1,e2⟩:=h4 i y hi;exact ⟨h,e1,hEl _ _ e2⟩⟩
def Xj (_:World) (h:List Value) (y:Int):Prop:=h=[.int .i64 y]
abbrev cQ (B:Nat) (w:World) (v:Value) (l:List Int):Prop:=aD 3 1 Xj B w v l
theorem cQ.nil (B:Nat) (w:World):cQ B w (.slice none 0 0) []:=aD.nil _ _ _ _ _
theorem cQ.ext' {B:Nat} {w w':World} {v:Value} {l:List Int} (h:cQ B w v l) (x:Ext w w'):cQ B w' v l:=aD.ext h x (fun _ _ e=>e)
theorem cQ.keeps {B C:Nat} {t:TypeId} {w w':World} {v:Value} {l:List Int} (h:cQ B w v l) (k:Keeps C t w w') (ht:3≠t):cQ B w' v l:=aD.pR h k ht (fun _ _ e=>e)
theorem cQ.shape {B:Nat} {w:World} {v:Value} {l:List Int} (h:cQ B w v l):∃ a c,v=.slice a l.length c:=by
 obtain ⟨a,c,h,_⟩:=aD.wI h;exact ⟨a,c,h⟩
theorem cQ.owI {B:Nat} {w:World} {v:Value} {l:List Int} (h:cQ B w v l):w.ownsRow B 3 1 v l.length (l.map (Value.int .i64)):=by
 obtain ⟨hs,h1,h2,h3,h4⟩:=h;have e:hs.flatten=l.map (Value.int .i64):=by
  have key:∀ (l:List Int) (hs:List (List Value)),hs.length=l.length→(∀ (i:Nat) x,l[i]?=some x→∃ h,hs[i]?=some h∧Xj w h x)→hs.flatten=l.map (Value.int .i64):=by
   intro l;induction l with
   | nil=>intro hs h _;rw [List.length_eq_zero_iff.1 h];rfl
   | cons x r ih=>
    intro hs h hk;cases hs with
    | nil=>cases h
    | cons y t=>
     obtain ⟨h0,e0,e1⟩:=hk 0 x rfl;injection e0 with e0
     subst e0;rw [List.flatten_cons,List.map_cons,ih t kN (fun i x hi=>hk (i+1) x hi),show y=[.int .i64 x] from e1];rfl
  exact key l hs h2 h4
 rw [← e];exact h1
abbrev iy (B C:Nat) (w:World) (v:Value) (l:List RR):Prop:=aD 25 3 (bI B) C w v l
theorem iy.nil (B C:Nat) (w:World):iy B C w (.slice none 0 0) []:=aD.nil _ _ _ _ _
theorem iy.ext' {B C:Nat} {w w':World} {v:Value} {l:List RR} (h:iy B C w v l) (x:Ext w w'):iy B C w' v l:=aD.ext h x (fun _ _ e=>e.ext x)
theorem iy.keeps {B C D:Nat} {t:TypeId} {w w':World} {v:Value} {l:List RR} (h:iy B C w v l) (k:Keeps D t w w') (ht:25≠t) (hu:157≠t):iy B C w' v l:=aD.pR h k ht (fun _ _ e=>bI.keeps hu _ _ _ _ e k)
theorem iy.rd {B C:Nat} {w:World} {v:Value} {l:List RR} (h:iy B C w v l):cH w v l:=by
 obtain ⟨hs,h1,h2,h3,h4⟩:=h;exact bS.rd (B:=C) ⟨hs,h1,h2,h3,fun i x hi=>by
  obtain ⟨h,e1,a1,c1,a2,c2,e2,s1,s2⟩:=h4 i x hi;exact ⟨h,e1,a1,c1,a2,c2,e2,s1.1.mono (Nat.zero_le _),s2.1.mono (Nat.zero_le _)⟩⟩
theorem iy.shape {B C:Nat} {w:World} {v:Value} {l:List RR} (h:iy B C w v l):∃ a c,v=.slice a l.length c:=by
 obtain ⟨a,c,h,_⟩:=aD.wI h;exact ⟨a,c,h⟩
theorem iy.at {B C:Nat} {w:World} {v:Value} {l:List RR} (h:iy B C w v l) {i:Nat} (hi:i < l.length):∃ g n cap cur a1 c1 a2 c2,v=.slice (some ⟨g,0,none⟩) n cap∧C≤g∧ag w g cur 25∧w.cell? ⟨g,i*3,none⟩=some (.bool (l.getD i zR).neg)∧w.cell? ⟨g,i*3+1,none⟩=some (.slice a1 (l.getD i zR).num.length c1)∧w.cell? ⟨g,i*3+2,none⟩=some (.slice a2 (l.getD i zR).den.length c2)∧
  bI B w [.bool (l.getD i zR).neg,.slice a1 (l.getD i zR).num.length c1,.slice a2 (l.getD i zR).den.length c2] (l.getD i zR):=by
 obtain ⟨a,cap,hv,_,_,hr⟩:=aD.wI h;have hl:l[i]?=some (l.getD i zR):=by rw [List.getD_eq_getElem?_getD,List.getElem?_eq_getElem hi];rfl
 obtain ⟨b,h',e1,hb,e2,e3,e4,hel⟩:=hr i _ hl;have JQ:=hel;obtain ⟨a1,c1,a2,c2,rfl,s1,s2⟩:=JQ;obtain ⟨hs,h1,_⟩:=h;rcases h1.2 with ⟨rfl,h0⟩|⟨g,cap',cur,rfl,hg1,hg,_⟩
 ·rw [e1] at hv;cases hv
 ·injection hv with f1 f2 f3
  rw [e1] at f1;injection f1 with f1
  injection f1 with f1
  subst f1;have x0:=e4 0 Z;have x1:=e4 1 Z;have x2:=e4 2 Z;exact ⟨g,_,_,cur,a1,c1,a2,c2,rfl,hb,hg,x0,x1,x2,hel⟩
section
variable {P:Program} {n:Nat}
theorem qR {F:Fence} {fn:Func} {tmps:Array Value} {R:Ending→World→Prop} {B:Nat}:∀ (rs:List Nat) (W:World),rs.Nodup→(∀ r ∈ rs,B < r∧W.heap[r]?=some (.deferred (some [])))→
  (∀ W',Below (B+1) W W'→(∀ (i:Nat) (c:Array Value) (t:TypeId),ag W i c t→ag W' i c t)→LeavesInM F n P fn tmps R [] .returning W')→LeavesInM F n P fn tmps R (rs.map (fun r=>{ target:=.collected r,args:=#[] })) .returning W:=by
 intro rs;induction rs with
 | nil=>intro W _ _ h;exact h W (Below.refl _ _) (fun _ _ _ h=>h)
 | cons r rs ih=>
  intro W hn hm h;obtain ⟨hr,hk⟩:=hm r cp;refine ⟨by simp,.inl ⟨r,_,rfl,run_takeDeferred hk,?_⟩⟩;have hb:Below (B+1) W (W.putObj r (.deferred none)):=⟨rfl,rfl,rfl,by simp,fun i hi=>World.putObj_heap_other Z⟩;have hk2:∀ (i:Nat) (c:Array Value) (t:TypeId),ag W i c t→ag (W.putObj r (.deferred none)) i c t:=fun i c t b=>by
   have e:i≠r:=fun e=>by subst e;unfold ag at b;rw [b] at hk;cases hk
   exact (World.putObj_heap_other e).trans b
  refine ih _ (List.nodup_cons.1 hn).2 (fun r' hr'=>⟨(hm r' (by simp [hr'])).1,?_⟩) (fun W' hb' hk'=>h W' (hb.trans hb') (fun i c t b=>hk' i c t (hk2 i c t b)));have hne:r'≠r:=fun e=>by subst e;exact (List.nodup_cons.1 hn).1 hr'
  exact (World.putObj_heap_other hne).trans (hm r' (by simp [hr'])).2
theorem Marks.tm {F:Fence} {fn:Func} {tmps:Array Value} {R:Ending→World→Prop} {B:Nat} {ds:List Deferred} {W:World} (h:Marks B ds W)
  (hr:∀ W',Below (B+1) W W'→(∀ (i:Nat) (c:Array Value) (t:TypeId),ag W i c t→ag W' i c t)→LeavesInM F n P fn tmps R [] .returning W'):LeavesInM F n P fn tmps R ds .returning W:=by
 obtain ⟨rs,rfl,h2,h3⟩:=h;exact qR rs W h2 h3 hr
end
def m7 (w w':World) (e:Ending) (r:List RR × List Int × Int):Prop:=∃ v a,e=.returned (.tuple #[v,a,.int .i64 r.2.2])∧bV w.heap.size w' v r.1∧cQ w.heap.size w' a r.2.1
theorem m7.mk {w w':World} {v a:Value} {l:List RR} {p:List Int} {x:Int} {r:List RR × List Int × Int} (h:bV w.heap.size w' v l) (k:cQ w.heap.size w' a p) (e:r=(l,p,x)):m7 w w' (.returned (.tuple #[v,a,.int .i64 x])) r:=by subst e;exact ⟨v,a,rfl,h,k⟩
theorem dH (m:MD) (v:List RR) (ac:List bg):(dW m v ac).length=ac.length:=by simp [dW]
theorem ki {m:MD} {v:List RR} {ac:List bg} {i:Nat} (h:i < ac.length):(dW m v ac).getD i zR=(aU m v (ac.getD i dA)).1:=by
 unfold dW;rw [List.getD_eq_getElem?_getD,List.getElem?_map,List.getD_eq_getElem?_getD (l:=ac),List.getElem?_eq_getElem h];rfl
theorem As {m:MD} {v:List RR} {ac:List bg} {k:Nat} (h:k < ac.length):(dW m v ac).take (k+1)=(dW m v ac).take k ++ [(aU m v (ac.getD k dA)).1]:=by
 rw [dC _ k zR (by rw [dH];exact h),ki h]
theorem vm (m:MD) (v:List RR) (ac:List bg):dm (dW m v ac):=fun i hi=>by
 rw [dH] at hi;rw [ki hi];exact Ao _ _ _
theorem fe (m:MD) (v:List RR):(nL m v).length=m.states.length:=by simp [nL]
theorem ms (m:MD) (v:List RR):(nK m v).length=m.states.length:=by simp [nK]
theorem CQ {m:MD} {v:List RR} {k:Nat} (h:k < m.states.length):(nL m v).take (k+1)=(nL m v).take k ++ [(dW m v (m.states.getD k [])).getD (jB (dW m v (m.states.getD k []))) zR]:=by
 rw [dC _ k zR (by rw [fe];exact h)];congr 2
 unfold nL;rw [List.getD_eq_getElem?_getD,List.getElem?_map,List.getD_eq_getElem?_getD (l:=m.states),List.getElem?_eq_getElem h];rfl
theorem CS {m:MD} {v:List RR} {k:Nat} (h:k < m.states.length):(nK m v).take (k+1)=(nK m v).take k ++ [(jB (dW m v (m.states.getD k [])):Int)]:=by
 rw [dC _ k 0 (by rw [ms];exact h)];congr 2
 unfold nK;rw [List.getD_eq_getElem?_getD,List.getElem?_map,List.getD_eq_getElem?_getD (l:=m.states),List.getElem?_eq_getElem h];rfl
theorem CT {m:MD} {v:List RR} (h:gJ m v≠0):am m v=([],[],gJ m v):=if_pos h
theorem CU {m:MD} {v:List RR} (h:gJ m v=0) {k j:Nat} (hk:k < m.states.length) (h1:∀ i,i < k→qN m v (m.states.getD i [])=0) (hj:j < (m.states.getD k []).length) (h2:∀ i,i < j→(aU m v (m.act k i)).2=0) {c:Int} (h3:(aU m v (m.act k j)).2=c) (hc:c≠0):am m v=([],[],c):=by
 have e1:qN m v (m.states.getD k [])=c:=by
  have:=dF (f:=fun a=>(aU m v ((m.states.getD k []).getD a dA)).2) (k:=j) h2 (by rw [show (aU m v ((m.states.getD k []).getD j dA)).2=c from h3];exact hc) hj;exact this.trans h3
 have e2:FM m v=c:=by
  have:=dF (f:=fun s=>qN m v (m.states.getD s [])) (k:=k) h1 (by rw [e1];exact hc) hk;exact this.trans e1
 unfold am;rw [if_neg kN,e2,if_pos hc]
theorem row_zero {m:MD} {v:List RR} {k:Nat} (h2:∀ i,i < (m.states.getD k []).length→(aU m v (m.act k i)).2=0):qN m v (m.states.getD k [])=0:=bH h2
theorem CW {m:MD} {v:List RR} (h:gJ m v=0) (h1:∀ i,i < m.states.length→qN m v (m.states.getD i [])=0):am m v=(nL m v,nK m v,0):=by
 have e:=bH h1;unfold am;rw [if_neg kN,show FM m v=0 from e,if_neg (fun h=>h rfl)]
end
section
theorem ky {F:Fence} {nf:Nat} {P:Program} (W:World) {ops:Array Oper} {rest:List Oper} {o:Oper} {a:Act} {Q:Exit→Act→World→Prop} (hgd:o.guard=none) (s x:Operand) (t:TypeId)
  (ho:o.op=.call { callee:=.builtin .append,args:=#[s,x],argTypes:=#[t,t] })
  (B:Nat) (e:TypeId) (z:Value) (size bytes:Nat) (ht:P.underlying t=some (.slice e)) (hinfo:(P.info? e).map (fun i=>(i.zero,i.size,i.bytes))=some (some z,size,bytes))
  (hzs:z.cells.size=size) (hsz:0 < size) {α:Type} {El:World→List Value→α→Prop} (hEl:∀ w w' h y,El w h y→Keeps B e w w'→El w' h y) (v:Value) (l:List α) (hown:aD e size El B W v l) (hs:a.eval s=v)
  (cs:List Value) (hcs:cs.length=size) (h1c:∀ u ∈ cs,u.oneCell'=true) (y:α) (hy:El W cs y) (hx:a.eval x=.slice (some ⟨W.heap.size,0,none⟩) 1 1)
  (h63:l.length+1≤9223372036854775807) (hbytes:(l.length+1)*bytes≤140737488355328) (hB:B≤W.heap.size)
  (h:∀ g cap w',aD e size El B w' (.slice (some ⟨g,0,none⟩) (l.length+1) cap) (l ++ [y])→Keeps B e W w'→wpListIn F nf P ops Q rest (a.put o.dst (.slice (some ⟨g,0,none⟩) (l.length+1) cap)) w') :
  wpListIn F nf P ops Q (o :: rest) a (W.alloc (.cells cs.toArray e)):=by
 obtain ⟨i0,hi,hz0,hz1,hz2⟩:=info_parts hinfo;obtain ⟨hs0,h1,h2,h3,h4⟩:=hown;refine wpListIn_append_own _ hgd s x t ho B e i0 z size bytes ht hi hz0 hz1 hz2 hzs hsz v l.length hs0.flatten hs (h1.alloc _) ⟨W.heap.size,0,none⟩ 1 1 cs hx Ni ?_ h1c Nf hbytes qC ?_
 ·intro j u hj;have hlt:j < cs.length:=(List.getElem?_eq_some_iff.1 hj).1;have hadd:(⟨W.heap.size,0,none⟩:Addr).add j=⟨W.heap.size,j,none⟩:=by unfold Addr.add;split <;> simp_all
  rw [hadd,World.cell?_alloc_at _ _ _ _ rfl];simpa using hj
 ·intro v' w' hown' hgrow _;have hk0:Keeps B e (W.alloc (.cells cs.toArray e)) w':=by
   refine ⟨⟨hgrow.os,hgrow.tape,hgrow.output,hgrow.size,fun i hi=>by omega⟩,fun i hi ho=>hgrow.block i hi ?_⟩;intro heq;rcases h1.2 with ⟨rfl,_⟩|⟨g,cap,cur,rfl,hb,hg,_⟩
   ·simp [Value.ownBlock] at heq
   ·simp [Value.ownBlock] at heq;subst heq;have hg2:ag (W.alloc (.cells cs.toArray e)) i cur e:=ag.alloc (show ag W i cur e from hg) _;rcases ho with ho|⟨c2,u,h5,h6⟩
    ·omega
    ·unfold ag at hg2 h5;rw [hg2] at h5;injection h5 with h5
     injection h5 with _ h7
     exact h6 h7.symm
  have hk:Keeps B e W w':=(Keeps.ext ((Ext.refl W).alloc _)).trans hk0;have hrow:aD e size El B w' v' (l ++ [y]):=by
   refine ⟨hs0 ++ [cs],?_,by simp [h2],?_,?_⟩
   ·rw [List.flatten_append,List.length_append];simpa using hown'
   ·intro q hq;rcases List.mem_append.1 hq with hq|hq
    ·exact h3 q hq
    ·rw [List.mem_singleton.1 hq];exact hcs
   ·intro i x0 hi0;by_cases hlt:i < l.length
    ·rw [List.getElem?_append_left hlt] at hi0;obtain ⟨q,e1,e2⟩:=h4 i x0 hi0;exact ⟨q,by rw [List.getElem?_append_left Z];exact e1,hEl _ _ _ _ e2 hk⟩
    ·have hil:i=l.length:=by
      have:=(List.getElem?_eq_some_iff.1 hi0).1;simp at this;omega
     subst hil;rw [List.getElem?_append_right (Nat.le_refl _)] at hi0;simp at hi0;subst hi0;exact ⟨cs,by rw [List.getElem?_append_right Z,h2];simp,hEl _ _ _ _ hy hk⟩
  have h5:=hown'.2;rcases h5 with ⟨_,h0⟩|⟨g,cap,cur,rfl,_⟩
  ·omega
  ·exact h g cap w' hrow hk
section
variable {P:Program} {ops:Array Oper} {Q:Exit→Act→World→Prop} {md:Region.Mode} {T:Array Bool→World→Prop}
def cY (P:Program) (md:Region.Mode) (ops:Array Oper) (Q:Exit→Act→World→Prop) (T:Array Bool→World→Prop):Nat→Array Bool→Act→World→Prop
 | 0,listed,a,w=>Region.ready md ops listed=[]∧Q .normal a w
 | fuel+1,listed,a,w=>
  (Region.ready md ops listed=[]→Q .normal a w)∧
  ∀ i ∈ Region.ready md ops listed,wpOp P ops Q i (fun a' w'=>T (listed.setIfInBounds i true) w'∧cY P md ops Q T fuel (listed.setIfInBounds i true) a' w') a w
theorem rT:∀ (fuel:Nat) (listed:Array Bool) (a:Act) (w:World),cY P md ops Q T fuel listed a w→wpAny P md ops Q fuel listed a w
 | 0,_,_,_,h=>h
 | fuel+1,_,_,_,h=>⟨h.1,fun i hi=>wpOp_mono (fun a' w' h'=>rT fuel _ a' w' h'.2) (h.2 i hi)⟩
theorem mt {S:World→Prop} {C:Array Bool→Prop} {i:Nat} {oi:Oper} {v:Value} (hi:ops[i]?=some oi) (hsel:∀ (j:Nat) (o:Oper) cs b,ops[j]?=some o→o.op≠.select cs b)
  (hQ:∀ c a w,Q (.panic c) (a.put oi.dst v) w→Q (.panic c) a w)
  (hC:∀ l j oj,ops[j]?=some oj→(∀ e ∈ oj.after,Region.binds md e=true→e.on≠i)→C l→C (l.setIfInBounds j true)) (hS:∀ l w,C l→T l w→S w) (hT:∀ l w,T (l.setIfInBounds i true) w↔T l w) :
  ∀ (fuel:Nat) (listed:Array Bool) (a:Act) (w:World),
   (∀ j oj,ops[j]?=some oj→j≠i→listed.getD j true=false→(∀ e ∈ oj.after,Region.binds md e=true→e.on≠i)→oi.apart ops oj=true)→
   i ∈ Region.ready md ops listed→YieldsIf P ops S oi v a→C listed→T listed w→
   cY P md ops Q T fuel (listed.setIfInBounds i true) (a.put oi.dst v) w→cY P md ops Q T (fuel+1) listed a w:=by
 intro fuel;induction fuel with
 | zero=>
  intro listed a w _ hr hy hc ht H;refine ⟨fun h=>Ml,fun j hj=>?_⟩;by_cases hji:j=i
  ·subst hji;exact hy.wpOp hi (hS _ _ hc ht) ⟨(hT _ _).2 ht,H⟩
  ·have:=ready_mono hj hji;rw [H.1] at this;cases this
 | succ fuel ih=>
  intro listed a w hfree hr hy hc ht H;refine ⟨fun h=>Ml,fun j hj=>?_⟩;by_cases hji:j=i
  ·subst hji;exact hy.wpOp hi (hS _ _ hc ht) ⟨(hT _ _).2 ht,H⟩
  ·have h1:=H.2 j (ready_mono hj hji);obtain ⟨hjun,oj,hoj,hall⟩:=mem_ready.1 hj;have hnot:∀ e ∈ oj.after,Region.binds md e=true→e.on≠i:=fun e he hb heq=>by
    have h1:=hall e he hb;have h0:=(mem_ready.1 hr).1;rw [heq] at h1;rcases Nat.lt_or_ge i listed.size with h'|h'
    ·simp [h'] at h0 h1;rw [h0] at h1;cases h1
    ·simp [Array.getElem?_eq_none h'] at h1
   have h2:=wpOp_putIf hoj (hfree j oj hoj hji hjun hnot) (fun cs b=>hsel i oi cs b hi) (fun cs b=>hsel j oj cs b hoj) hQ hy h1;have hfree':∀ k ok,ops[k]?=some ok→k≠i→(listed.setIfInBounds j true).getD k true=false→
     (∀ e ∈ ok.after,Region.binds md e=true→e.on≠i)→oi.apart ops ok=true:=fun k ok hk hki hun hno=>by
    refine hfree k ok hk hki ?_ hno;by_cases hjk:j=k
    ·subst hjk;exact hjun
    ·rw [getD_set_ne true hjk] at hun;exact hun
   refine wpOp_mono (fun a' w' h3=>?_) h2;have h4:T (listed.setIfInBounds j true) w':=by
    have:=h3.2.1;rw [Array.setIfInBounds_comm _ _ (Ne.symm hji)] at this;exact (hT _ _).1 this
   refine ⟨h4,ih (listed.setIfInBounds j true) a' w' hfree' (ready_mono hr (Ne.symm hji)) h3.1 (hC _ j oj hoj hnot hc) h4 ?_⟩;rw [Array.setIfInBounds_comm _ _ hji];exact h3.2.2
def T2 (m1 m2:Nat) (S1 S2:World→Prop) (l:Array Bool) (w:World):Prop:=(l.getD m1 false=false→S1 w)∧(l.getD m2 false=false→S2 w)
theorem T2.both {m1 m2:Nat} {S1 S2:World→Prop} {l:Array Bool} {w:World} (h1:S1 w) (h2:S2 w):T2 m1 m2 S1 S2 l w:=⟨fun _=>h1,fun _=>h2⟩
theorem fX {l:Array Bool} {i m:Nat} (h:i≠m):(l.setIfInBounds i true).getD m false=l.getD m false:=by
 simp only [Array.getD_eq_getD_getElem?,Array.getElem?_setIfInBounds_ne h]
theorem T2.set {m1 m2 i:Nat} {S1 S2:World→Prop} (h1:i≠m1) (h2:i≠m2) (l:Array Bool) (w:World):T2 m1 m2 S1 S2 (l.setIfInBounds i true) w↔T2 m1 m2 S1 S2 l w:=by
 unfold T2;rw [fX h1,fX h2]
theorem tp {i m:Nat} {om:Oper} (hm:ops[m]?=some om) (hw:om.after.any (fun e=>Region.binds md e && e.on == i)=true) {j:Nat} {oj:Oper} (hj:ops[j]?=some oj) (hn:∀ e ∈ oj.after,Region.binds md e=true→e.on≠i):j≠m:=fun e=>by
 subst e;rw [hm] at hj;injection hj with hj
 subst hj;obtain ⟨e,he,h⟩:=Array.any_eq_true'.1 hw;simp only [Bool.and_eq_true,beq_iff_eq] at h;exact hn e he h.1 h.2
theorem fO {S1 S2:World→Prop} {m1 m2:Nat} {i:Nat} {oi om:Oper} {v:Value} {fuel:Nat} {listed:Array Bool} {a:Act} {w:World} (hi:ops[i]?=some oi) (hm:ops[m1]?=some om) (hw:om.after.any (fun e=>Region.binds md e && e.on == i)=true)
  (h1:i≠m1) (h2:i≠m2) (hs:Region.noSelect ops=true) (hf:Region.free md ops listed i=true) (hr:(Region.ready md ops listed).contains i=true)
  (hQ:∀ c a w,Q (.panic c) (a.put oi.dst v) w→Q (.panic c) a w) (hy:YieldsIf P ops S1 oi v a) (hc:listed.getD m1 false=false) (ht:T2 m1 m2 S1 S2 listed w)
  (h:cY P md ops Q (T2 m1 m2 S1 S2) fuel (listed.setIfInBounds i true) (a.put oi.dst v) w):cY P md ops Q (T2 m1 m2 S1 S2) (fuel+1) listed a w:=
 mt (S:=S1) (C:=fun l=>l.getD m1 false=false) hi (Region.noSelect_spec hs) hQ (fun l j oj hj hn hc=>(fX (tp hm hw hj hn)).trans hc) (fun l w hc ht=>ht.1 hc) (T2.set h1 h2) fuel listed a w (Region.free_spec hi hf) Q6 hy hc ht h
theorem tq {S1 S2:World→Prop} {m1 m2:Nat} {i:Nat} {oi om:Oper} {v:Value} {fuel:Nat} {listed:Array Bool} {a:Act} {w:World} (hi:ops[i]?=some oi) (hm:ops[m2]?=some om) (hw:om.after.any (fun e=>Region.binds md e && e.on == i)=true)
  (h1:i≠m1) (h2:i≠m2) (hs:Region.noSelect ops=true) (hf:Region.free md ops listed i=true) (hr:(Region.ready md ops listed).contains i=true)
  (hQ:∀ c a w,Q (.panic c) (a.put oi.dst v) w→Q (.panic c) a w) (hy:YieldsIf P ops S2 oi v a) (hc:listed.getD m2 false=false) (ht:T2 m1 m2 S1 S2 listed w)
  (h:cY P md ops Q (T2 m1 m2 S1 S2) fuel (listed.setIfInBounds i true) (a.put oi.dst v) w):cY P md ops Q (T2 m1 m2 S1 S2) (fuel+1) listed a w:=
 mt (S:=S2) (C:=fun l=>l.getD m2 false=false) hi (Region.noSelect_spec hs) hQ (fun l j oj hj hn hc=>(fX (tp hm hw hj hn)).trans hc) (fun l w hc ht=>ht.2 hc) (T2.set h1 h2) fuel listed a w (Region.free_spec hi hf) Q6 hy hc ht h
def bQ (P:Program) (md:Region.Mode) (ops:Array Oper) (Q:Exit→Act→World→Prop) (T:Array Bool→World→Prop) (fuel:Nat) (listed:Array Bool) (a:Act) (w:World) (rs:List Nat):Prop:=
 ∀ i ∈ rs,wpOp P ops Q i (fun a' w'=>T (listed.setIfInBounds i true) w'∧cY P md ops Q T fuel (listed.setIfInBounds i true) a' w') a w
theorem bQ.nil {fuel:Nat} {listed:Array Bool} {a:Act} {w:World}:bQ P md ops Q T fuel listed a w []:=fun _ h=>by cases h
theorem bQ.cons {fuel:Nat} {listed:Array Bool} {a:Act} {w:World} {i:Nat} {o:Oper} {rs:List Nat} (ho:ops[i]?=some o)
  (h:∀ K':Act→World→Prop,Shut (∀ a w,T (listed.setIfInBounds i true) w→cY P md ops Q T fuel (listed.setIfInBounds i true) a w→K' a w)→if Region.wanted o (yielded ops a.tmps)=true then Oper.wp P o a w K' Q else K' (a.put o.dst undef) w)
  (hs:bQ P md ops Q T fuel listed a w rs):bQ P md ops Q T fuel listed a w (i :: rs):=fun j hj=>by
 rcases List.mem_cons.1 hj with rfl|hj
 ·exact wpOp_step ho (fun K' hK=>h K' (fun a w hS hW=>hK a w ⟨hS,hW⟩))
 ·exact hs j hj
theorem xc {P:Program} {md:Region.Mode} {ops:Array Oper} {Q:Exit→Act→World→Prop} {T:Array Bool→World→Prop} {fuel:Nat} {l:Array Bool} {a:Act} {w:World} {i:Nat} {o:Oper} (h:∀ K:Act→World→Prop,Shut (∀ a w,T (l.setIfInBounds i true) w→cY P md ops Q T fuel (l.setIfInBounds i true) a w→K a w)→if Region.wanted o (yielded ops a.tmps)=true then Oper.wp P o a w K Q else K (a.put o.dst undef) w) (ho:ops[i]?=some o:=by rfl):bQ P md ops Q T fuel l a w [i]:=bQ.cons ho h bQ.nil
theorem tr {rs:List Nat} {fuel:Nat} {listed:Array Bool} {a:Act} {w:World} (hr:Region.ready md ops listed=rs) (hne:rs≠[])
  (h:bQ P md ops Q T fuel listed a w rs):cY P md ops Q T (fuel+1) listed a w:=⟨fun h0=>absurd (hr ▸ h0) hne,hr ▸ h⟩
theorem xr (rs:List Nat) {P:Program} {md:Region.Mode} {ops:Array Oper} {Q:Exit→Act→World→Prop} {T:Array Bool→World→Prop} {fuel:Nat} {l:Array Bool} {a:Act} {w:World} (h:bQ P md ops Q T fuel l a w rs) (hr:Region.ready md ops l=rs:=by kernel_rfl) (hn:rs≠[]:=by simp):cY P md ops Q T (fuel+1) l a w:=tr hr hn h
theorem gR {listed:Array Bool} {a:Act} {w:World} (hr:Region.ready md ops listed=[]) (h:Q .normal a w) :
  ∀ fuel,cY P md ops Q T fuel listed a w
 | 0=>⟨hr,h⟩
 | _+1=>⟨fun _=>h,by rw [hr];simp⟩
theorem nN {id:Nat} {a:Act} {w:World} (hm:P.follows .mixedOrders=true) (h:cY P .any ops Q T ops.size (Array.replicate ops.size false) a w.drew):(Code.region id ops true).wp P Q a w:=
 wp_region_any hm (rT _ _ _ _ h)
def Qn (Q:Exit→Act→World→Prop):Exit→Act→World→Prop:=fun e a w=>e=.normal∧Q .normal a w
theorem Qn.Rw {Q:Exit→Act→World→Prop} {d:Option Tmp} {v:Value}:∀ c (a:Act) w,Qn Q (.panic c) (a.put d v) w→Qn Q (.panic c) a w:=fun c a w h=>by cases h.1
theorem Rx (i:Nat) {P:Program} {md:Region.Mode} {ops:Array Oper} {Q:Exit→Act→World→Prop} {oi:Oper} {v:Value} {fuel:Nat} {l:Array Bool} {a:Act} {w:World} {R:Prop} {m1 m2:Nat} {S1 S2:World→Prop} {om:Oper} (r:R) (hi:ops[i]?=some oi:=by rfl) (hm:ops[m2]?=some om:=by rfl) (hw:om.after.any (fun e=>Region.binds md e && e.on == i)=true:=by kernel_rfl) (h1:i≠m1:=by decide) (h2:i≠m2:=by decide) (hs:Region.noSelect ops=true:=by kernel_rfl) (hf:Region.free md ops l i=true:=by kernel_rfl) (hr:(Region.ready md ops l).contains i=true:=by kernel_rfl) (hy:YieldsIf P ops S2 oi v a:=by refine Or.inl ⟨by rfl,?_⟩;intro w hSw;(try dsimp only at hSw);go_simp;first|done|with_reducible rfl) (hc:l.getD m2 false=false:=by kernel_rfl) (hT:T2 m1 m2 S1 S2 l w:=by exact ht _) (k:R→cY P md ops (Qn Q) (T2 m1 m2 S1 S2) fuel (l.setIfInBounds i true) (a.put oi.dst v) w:=by intro k;(try simp only [sP]);exact k):cY P md ops (Qn Q) (T2 m1 m2 S1 S2) (fuel+1) l a w:=tq hi hm hw h1 h2 hs hf hr Qn.Rw hy hc hT (k r)
theorem EN (i:Nat) {P:Program} {md:Region.Mode} {ops:Array Oper} {Q:Exit→Act→World→Prop} {oi:Oper} {v:Value} {fuel:Nat} {l:Array Bool} {a:Act} {w:World} {R:Prop} {m1 m2:Nat} {S1 S2:World→Prop} {om:Oper} (r:R) (hi:ops[i]?=some oi:=by rfl) (hm:ops[m1]?=some om:=by rfl) (hw:om.after.any (fun e=>Region.binds md e && e.on == i)=true:=by kernel_rfl) (h1:i≠m1:=by decide) (h2:i≠m2:=by decide) (hs:Region.noSelect ops=true:=by kernel_rfl) (hf:Region.free md ops l i=true:=by kernel_rfl) (hr:(Region.ready md ops l).contains i=true:=by kernel_rfl) (hy:YieldsIf P ops S1 oi v a:=by refine Or.inl ⟨by rfl,?_⟩;intro w hSw;(try dsimp only at hSw);go_simp;first|done|with_reducible rfl) (hc:l.getD m1 false=false:=by kernel_rfl) (hT:T2 m1 m2 S1 S2 l w:=by exact ht _) (k:R→cY P md ops (Qn Q) (T2 m1 m2 S1 S2) fuel (l.setIfInBounds i true) (a.put oi.dst v) w:=by intro k;(try simp only [sP]);exact k):cY P md ops (Qn Q) (T2 m1 m2 S1 S2) (fuel+1) l a w:=fO hi hm hw h1 h2 hs hf hr Qn.Rw hy hc hT (k r)
theorem fP {id:Nat} {a:Act} {w:World} (hm:P.follows .mixedOrders=true) (h:cY P .any ops (Qn Q) T ops.size (Array.replicate ops.size false) a w.drew):(Code.region id ops true).wp P Q a w:=
 wp_mono (nN hm h) (fun e a w h=>by obtain ⟨rfl,h⟩:=h;exact h)
end
end
end Go.Proofs.YtnnjbaijcaiohaaGreat
