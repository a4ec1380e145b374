/- Walks and lemmas. -/
import Derived.Test.YtnnjbaijcaiohaaGreatSvA0
import Derived.Test.YtnnjbaijcaiohaaGreatSvA1
import Derived.Test.YtnnjbaijcaiohaaGreatSvA6
import Derived.Test.YtnnjbaijcaiohaaGreatSvA5
import Derived.Test.YtnnjbaijcaiohaaGreatSvA4
set_option linter.unusedVariables false
set_option linter.unusedSimpArgs false
set_option maxRecDepth 100000
set_option maxHeartbeats 16000000
namespace Go.Proofs.YtnnjbaijcaiohaaGreat
open Go.RowKit
structure Keeps (B:Nat) (t:TypeId) (w w':World):Prop where
 zero:Below 0 w w'
 block:∀ i,i < w.heap.size→(i < B∨∃ cur u,ag w i cur u∧u≠t)→w'.heap[i]?=w.heap[i]?
theorem Keeps.size {B:Nat} {t:TypeId} {w w':World} (h:Keeps B t w w'):w.heap.size≤w'.heap.size:=h.zero.size
theorem Keeps.ext {B:Nat} {t:TypeId} {w w':World} (h:Ext w w'):Keeps B t w w':=⟨h.mono (Nat.zero_le _),fun i hi _=>h.block i hi⟩
theorem Keeps.trans {B:Nat} {t:TypeId} {a b c:World} (h:Keeps B t a b) (k:Keeps B t b c):Keeps B t a c:=
 ⟨h.zero.trans k.zero,fun i hi ho=>(k.block i (Nat.lt_of_lt_of_le hi h.size) (by
  rcases ho with ho|⟨cur,u,h1,h2⟩
  ·exact .inl ho
  ·exact .inr ⟨cur,u,(h.block i hi (.inr ⟨cur,u,h1,h2⟩)).trans h1,h2⟩)).trans (h.block i hi ho)⟩
theorem Keeps.below {B:Nat} {t:TypeId} {w w':World} (h:Keeps B t w w') (hB:B≤w.heap.size):Below B w w':=
 ⟨h.zero.os,h.zero.tape,h.zero.output,h.zero.size,fun i hi=>h.block i (Nat.lt_of_lt_of_le hi hB) (.inl hi)⟩
theorem Keeps.mono {B C:Nat} {t:TypeId} {w w':World} (h:Keeps B t w w') (hB:C≤B):Keeps C t w w':=
 ⟨h.zero,fun i hi ho=>h.block i hi (ho.imp (fun h=>Nat.lt_of_lt_of_le h hB) id)⟩
theorem ag.keeps {B b:Nat} {t u:TypeId} {c:Array Value} {w w':World} (h:ag w b c u) (k:Keeps B t w w') (hu:u≠t):ag w' b c u:=(k.block b h.lt (.inr ⟨c,u,h,hu⟩)).trans h
def ku (B:Nat) (w:World) (v:Value) (l:List Int):Prop:=
 ∃ a cap,v=.slice a l.length cap∧l.length≤cap∧cap≤9223372036854775807∧
  ∀ i,i < l.length→∃ b off,a=some ⟨b,off,none⟩∧b < w.heap.size∧w.cell? ⟨b,off+i,none⟩=some (.int .u32 (l.getD i 0))∧(b < B∨∃ cur,ag w b cur 157)
theorem ku.rd {B:Nat} {w:World} {v:Value} {l:List Int} (h:ku B w v l):bj .u32 w v l:=by
 obtain ⟨a,cap,rfl,h1,h2,h3⟩:=h;exact no.to (p:=fun _=>True) ⟨a,cap,rfl,h1,h2,fun i hi=>by obtain ⟨b,off,e1,e2,e3,_⟩:=h3 i hi;exact ⟨b,off,e1,trivial,e2,e3⟩⟩
theorem ku.keeps {B:Nat} {t:TypeId} {w w':World} {v:Value} {l:List Int} (h:ku B w v l) (k:Keeps B t w w') (ht:157≠t):ku B w' v l:=by
 obtain ⟨a,cap,rfl,h1,h2,h3⟩:=h;refine ⟨a,cap,rfl,h1,h2,fun i hi=>?_⟩;obtain ⟨b,off,e1,e2,e3,e4⟩:=h3 i hi;have hb:w'.heap[b]?=w.heap[b]?:=k.block b e2 (e4.imp id fun ⟨cur,hc⟩=>⟨cur,_,hc,ht⟩);exact ⟨b,off,e1,Nat.lt_of_lt_of_le e2 k.size,(World.cell?_of_block hb).trans e3,e4.imp id fun ⟨cur,hc⟩=>⟨cur,hb.trans hc⟩⟩
theorem ku.old {B:Nat} {w:World} {v:Value} {l:List Int} (h:bj .u32 w v l) (hB:w.heap.size≤B):ku B w v l:=by
 obtain ⟨a,cap,rfl,h1,h2,h3⟩:=jZ h;refine ⟨a,cap,rfl,h1,h2,fun i hi=>?_⟩;obtain ⟨b,off,e1,e2,e3⟩:=h3 i hi;exact ⟨b,off,e1,e2,e3,.inl (Nat.lt_of_lt_of_le e2 hB)⟩
theorem ku.ext {B:Nat} {w w':World} {v:Value} {l:List Int} (h:ku B w v l) (k:Ext w w'):ku B w' v l:=by
 obtain ⟨a,cap,rfl,h1,h2,h3⟩:=h;refine ⟨a,cap,rfl,h1,h2,fun i hi=>?_⟩;obtain ⟨b,off,e1,e2,e3,e4⟩:=h3 i hi;have hb:w'.heap[b]?=w.heap[b]?:=k.block b e2;exact ⟨b,off,e1,Nat.lt_of_lt_of_le e2 k.size,(World.cell?_of_block hb).trans e3,e4.imp id fun ⟨cur,hc⟩=>⟨cur,hb.trans hc⟩⟩
theorem ku.mono {B C:Nat} {w:World} {v:Value} {l:List Int} (h:ku B w v l) (hB:B≤C):ku C w v l:=by
 obtain ⟨a,cap,rfl,h1,h2,h3⟩:=h;refine ⟨a,cap,rfl,h1,h2,fun i hi=>?_⟩;obtain ⟨b,off,e1,e2,e3,e4⟩:=h3 i hi;exact ⟨b,off,e1,e2,e3,e4.imp (fun h=>Nat.lt_of_lt_of_le h hB) id⟩
theorem ku.new {B:Nat} {w0 w:World} {v:Value} {l:List Int} (h:bM w0 w v l):ku B w v l:=by
 obtain ⟨o,h1,h2⟩:=h;rcases h1 with ⟨_,rfl,a,ha,rfl⟩|⟨g,cap,ho,rfl,hr⟩
 ·exact ⟨a,0,rfl,Nat.le_refl _,by omega,fun i hi=>by cases hi⟩
 ·refine ⟨_,cap,rfl,hr.le,hr.most,fun i hi=>⟨g,0,rfl,hr.lt,by rw [Nat.zero_add];exact hr.cell hi,.inr ?_⟩⟩;obtain ⟨cur,hb,_⟩:=hr.blk;exact ⟨cur,hb⟩
def cD (B:Nat) (w:World) (v:Value) (l:List Int):Prop:=
 ku 0 w v l∧((l.length=0∧∃ a c,v=.slice a 0 c)∨∃ g c cur,v=.slice (some ⟨g,0,none⟩) l.length c∧ag w g cur 157∧l.length≤cur.size∧B≤g)
theorem cD.rd {B:Nat} {w:World} {v:Value} {l:List Int} (h:cD B w v l):bj .u32 w v l:=h.1.rd
theorem cD.keeps {B C:Nat} {t:TypeId} {w w':World} {v:Value} {l:List Int} (h:cD B w v l) (k:Keeps C t w w') (ht:157≠t):cD B w' v l:=
 ⟨h.1.keeps (k.mono (Nat.zero_le _)) ht,h.2.imp id fun ⟨g,c,cur,e,hb,hs,hB⟩=>⟨g,c,cur,e,hb.keeps k ht,hs,hB⟩⟩
theorem cD.ext {B:Nat} {w w':World} {v:Value} {l:List Int} (h:cD B w v l) (k:Ext w w'):cD B w' v l:=
 ⟨h.1.ext k,h.2.imp id fun ⟨g,c,cur,e,hb,hs,hB⟩=>⟨g,c,cur,e,hb.ext k,hs,hB⟩⟩
theorem cD.mono {B C:Nat} {w:World} {v:Value} {l:List Int} (h:cD B w v l) (hB:C≤B):cD C w v l:=
 ⟨h.1,h.2.imp id fun ⟨g,c,cur,e,hb,hs,hB'⟩=>⟨g,c,cur,e,hb,hs,Nat.le_trans hB hB'⟩⟩
theorem cD.new {B:Nat} {w0 w:World} {v:Value} {l:List Int} (h:bM w0 w v l) (hB:B≤w0.heap.size):cD B w v l:=by
 refine ⟨ku.new h,?_⟩;obtain ⟨o,h1,h2⟩:=h;rcases h1 with ⟨_,rfl,a,ha,rfl⟩|⟨g,cap,ho,rfl,hr⟩
 ·exact .inl ⟨rfl,_,_,rfl⟩
 ·obtain ⟨cur,hb,hs,ht⟩:=hr.blk;exact .inr ⟨g,cap,cur,rfl,hb,by rw [hs];exact hr.le,Nat.le_trans hB (h2 g ho)⟩
def aD {α:Type} (e:TypeId) (size:Nat) (El:World→List Value→α→Prop) (B:Nat) (w:World) (v:Value) (l:List α):Prop:=
 ∃ hs:List (List Value),w.ownsRow B e size v l.length hs.flatten∧hs.length=l.length∧(∀ h ∈ hs,h.length=size)∧∀ (i:Nat) x,l[i]?=some x→∃ h,hs[i]?=some h∧El w h x
theorem aD.nil {α:Type} (e:TypeId) (size:Nat) (El:World→List Value→α→Prop) (B:Nat) (w:World):aD e size El B w (.slice none 0 0) []:=
 ⟨[],World.ownsRow_nil _ _ _ _,rfl,(fun h hh=>by cases hh),fun i x h=>by simp at h⟩
theorem aD.ext {α:Type} {e:TypeId} {size:Nat} {El:World→List Value→α→Prop} {B:Nat} {w w':World} {v:Value} {l:List α} (h:aD e size El B w v l) (x:Ext w w')
  (hEl:∀ h y,El w h y→El w' h y):aD e size El B w' v l:=by
 obtain ⟨hs,h1,h2,h3,h4⟩:=h;exact ⟨hs,yC h1 x,h2,h3,fun i y hi=>by obtain ⟨h,e1,e2⟩:=h4 i y hi;exact ⟨h,e1,hEl _ _ e2⟩⟩
theorem aD.wI {α:Type} {e:TypeId} {size:Nat} {El:World→List Value→α→Prop} {B:Nat} {w:World} {v:Value} {l:List α} (h:aD e size El B w v l) :
  ∃ a cap,v=.slice a l.length cap∧l.length≤cap∧cap≤9223372036854775807∧∀ (i:Nat) x,l[i]?=some x→∃ b h,a=some ⟨b,0,none⟩∧B≤b∧b < w.heap.size∧h.length=size∧(∀ j,j < size→w.cell? ⟨b,i*size+j,none⟩=h[j]?)∧El w h x:=by
 obtain ⟨hs,h1,h2,h3,h4⟩:=h;rw [← h2] at h1;have hr:=EY h1 h3;rcases h1.2 with ⟨rfl,h0⟩|⟨g,cap,cur,rfl,hb,hg,hn,hm,hs',ht⟩
 ·refine ⟨none,0,by rw [← h2,h0],by omega,by omega,fun i x hi=>?_⟩;have:=(List.getElem?_eq_some_iff.1 hi).1;omega
 ·obtain ⟨a,cap',hv,hc,hm2,hr⟩:=hr;injection hv with e1 e2 e3
  subst e1;subst e3;refine ⟨_,cap,by rw [h2],by omega,hm2,fun i x hi=>?_⟩;have hil:=(List.getElem?_eq_some_iff.1 hi).1;obtain ⟨h,e4,e5⟩:=h4 i x hi;obtain ⟨b,off,e6,e7,e8⟩:=hr i Z;injection e6 with e6
  injection e6 with e6 e9
  subst e6;subst e9;refine ⟨g,h,rfl,hb,e7,h3 h (List.mem_of_getElem? e4),fun j hj=>?_,e5⟩;have:=e8 j hj;rw [Nat.zero_add] at this;rw [this,List.getD_eq_getElem?_getD,e4];rfl
theorem eC {P:Program} (W:World) {ops:Array Oper} {rest:List Oper} {o:Oper} {a:Act} {Q:Exit→Act→World→Prop} (hgd:o.guard=none) (s x:Operand) (t:TypeId)
  (ho:o.op=.call { callee:=.builtin .append,args:=#[s,x],argTypes:=#[t,t] })
  (B:Nat) (e:TypeId) (z:Value) (size bytes:Nat) (ht:P.underlying t=some (.slice e)) (hinfo:(P.info? e).map (fun i=>(i.zero,i.size,i.bytes))=some (some z,size,bytes))
  (hzs:z.cells.size=size) (hsz:0 < size) {α:Type} {El:World→List Value→α→Prop} (hEl:∀ w w' h y,El w h y→Keeps B e w w'→El w' h y) (v:Value) (l:List α) (hown:aD e size El B W v l) (hs:a.eval s=v)
  (cs:List Value) (hcs:cs.length=size) (h1c:∀ u ∈ cs,u.oneCell'=true) (y:α) (hy:El W cs y) (hx:a.eval x=.slice (some ⟨W.heap.size,0,none⟩) 1 1)
  (h63:l.length+1≤9223372036854775807) (hbytes:(l.length+1)*bytes≤140737488355328) (hB:B≤W.heap.size)
  (h:∀ g cap w',aD e size El B w' (.slice (some ⟨g,0,none⟩) (l.length+1) cap) (l ++ [y])→Keeps B e W w'→wpList P ops Q rest (a.put o.dst (.slice (some ⟨g,0,none⟩) (l.length+1) cap)) w') :
  wpList P ops Q (o :: rest) a (W.alloc (.cells cs.toArray e)):=by
 obtain ⟨i0,hi,hz0,hz1,hz2⟩:=info_parts hinfo;obtain ⟨hs0,h1,h2,h3,h4⟩:=hown;refine wpList_append_own _ hgd s x t ho B e i0 z size bytes ht hi hz0 hz1 hz2 hzs hsz v l.length hs0.flatten hs (h1.alloc _) ⟨W.heap.size,0,none⟩ 1 1 cs hx Ni ?_ h1c Nf hbytes qC ?_
 ·intro j u hj;have hlt:j < cs.length:=(List.getElem?_eq_some_iff.1 hj).1;have hadd:(⟨W.heap.size,0,none⟩:Addr).add j=⟨W.heap.size,j,none⟩:=by unfold Addr.add;split <;> simp_all
  rw [hadd,World.cell?_alloc_at _ _ _ _ rfl];simpa using hj
 ·intro v' w' hown' hgrow _;have hk0:Keeps B e (W.alloc (.cells cs.toArray e)) w':=by
   refine ⟨⟨hgrow.os,hgrow.tape,hgrow.output,hgrow.size,fun i hi=>by omega⟩,fun i hi ho=>hgrow.block i hi ?_⟩;intro heq;rcases h1.2 with ⟨rfl,_⟩|⟨g,cap,cur,rfl,hb,hg,_⟩
   ·simp [Value.ownBlock] at heq
   ·simp [Value.ownBlock] at heq;subst heq;have hg2:ag (W.alloc (.cells cs.toArray e)) i cur e:=ag.alloc (show ag W i cur e from hg) _;rcases ho with ho|⟨c2,u,h5,h6⟩
    ·omega
    ·unfold ag at hg2 h5;rw [hg2] at h5;injection h5 with h5
     injection h5 with _ h7
     exact h6 h7.symm
  have hk:Keeps B e W w':=(Keeps.ext ((Ext.refl W).alloc _)).trans hk0;have hrow:aD e size El B w' v' (l ++ [y]):=by
   refine ⟨hs0 ++ [cs],?_,by simp [h2],?_,?_⟩
   ·rw [List.flatten_append,List.length_append];simpa using hown'
   ·intro q hq;rcases List.mem_append.1 hq with hq|hq
    ·exact h3 q hq
    ·rw [List.mem_singleton.1 hq];exact hcs
   ·intro i x0 hi0;by_cases hlt:i < l.length
    ·rw [List.getElem?_append_left hlt] at hi0;obtain ⟨q,e1,e2⟩:=h4 i x0 hi0;exact ⟨q,by rw [List.getElem?_append_left Z];exact e1,hEl _ _ _ _ e2 hk⟩
    ·have hil:i=l.length:=by
      have:=(List.getElem?_eq_some_iff.1 hi0).1;simp at this;omega
     subst hil;rw [List.getElem?_append_right (Nat.le_refl _)] at hi0;simp at hi0;subst hi0;exact ⟨cs,by rw [List.getElem?_append_right Z,h2];simp,hEl _ _ _ _ hy hk⟩
  have h5:=hown'.2;rcases h5 with ⟨_,h0⟩|⟨g,cap,cur,rfl,_⟩
  ·omega
  ·exact h g cap w' hrow hk
def cH (w:World) (v:Value) (l:List RR):Prop:=
 ∃ a cap,v=.slice a l.length cap∧l.length≤cap∧cap≤9223372036854775807∧
  ∀ i,i < l.length→∃ b off a1 c1 a2 c2,a=some ⟨b,off,none⟩∧b < w.heap.size∧
   w.cell? ⟨b,off+i*3,none⟩=some (.bool (l.getD i zR).neg)∧w.cell? ⟨b,off+i*3+1,none⟩=some (.slice a1 (l.getD i zR).num.length c1)∧w.cell? ⟨b,off+i*3+2,none⟩=some (.slice a2 (l.getD i zR).den.length c2)∧
   bj .u32 w (.slice a1 (l.getD i zR).num.length c1) (l.getD i zR).num∧bj .u32 w (.slice a2 (l.getD i zR).den.length c2) (l.getD i zR).den
theorem cH.ext {w w':World} {v:Value} {l:List RR} (h:cH w v l) (e:Ext w w'):cH w' v l:=by
 obtain ⟨a,cap,hv,hc,hm,hr⟩:=h;refine ⟨a,cap,hv,hc,hm,fun i hi=>?_⟩;obtain ⟨b,off,a1,c1,a2,c2,ha,hb,x0,x1,x2,r1,r2⟩:=hr i hi;exact ⟨b,off,a1,c1,a2,c2,ha,Nat.lt_of_lt_of_le hb e.size,(e.cell (p:=⟨b,off+i*3,none⟩) hb).trans x0,(e.cell (p:=⟨b,off+i*3+1,none⟩) hb).trans x1,(e.cell (p:=⟨b,off+i*3+2,none⟩) hb).trans x2,r1.ext e,r2.ext e⟩
theorem cH.get {w:World} {v:Value} {l:List RR} (h:cH w v l):∃ a cap,v=.slice a l.length cap∧l.length≤cap∧cap≤9223372036854775807∧
  ∃ f:Nat→(Option Addr × Nat) × (Option Addr × Nat),∀ i,i < l.length→∃ b off,a=some ⟨b,off,none⟩∧b < w.heap.size∧
   w.cell? ⟨b,off+i*3,none⟩=some (.bool (l.getD i zR).neg)∧w.cell? ⟨b,off+i*3+1,none⟩=some (.slice (f i).1.1 (l.getD i zR).num.length (f i).1.2)∧w.cell? ⟨b,off+i*3+2,none⟩=some (.slice (f i).2.1 (l.getD i zR).den.length (f i).2.2)∧
   bh w (.agg #[.bool (l.getD i zR).neg,.slice (f i).1.1 (l.getD i zR).num.length (f i).1.2,.slice (f i).2.1 (l.getD i zR).den.length (f i).2.2]) (l.getD i zR):=by
 obtain ⟨a,cap,hv,hc,hm,hr⟩:=h;have h2:∀ i:Nat,∃ y:(Option Addr × Nat) × (Option Addr × Nat),i < l.length→∃ b off,a=some ⟨b,off,none⟩∧b < w.heap.size∧
   w.cell? ⟨b,off+i*3,none⟩=some (.bool (l.getD i zR).neg)∧w.cell? ⟨b,off+i*3+1,none⟩=some (.slice y.1.1 (l.getD i zR).num.length y.1.2)∧w.cell? ⟨b,off+i*3+2,none⟩=some (.slice y.2.1 (l.getD i zR).den.length y.2.2)∧
   bh w (.agg #[.bool (l.getD i zR).neg,.slice y.1.1 (l.getD i zR).num.length y.1.2,.slice y.2.1 (l.getD i zR).den.length y.2.2]) (l.getD i zR):=by
  intro i;by_cases hi:i < l.length
  ·obtain ⟨b,off,a1,c1,a2,c2,ha,hb,x0,x1,x2,r1,r2⟩:=hr i hi;exact ⟨((a1,c1),(a2,c2)),fun _=>⟨b,off,ha,hb,x0,x1,x2,_,_,rfl,r1,r2⟩⟩
  ·exact ⟨((none,0),(none,0)),fun h=>absurd h hi⟩
 exact ⟨a,cap,hv,hc,hm,fun i=>Classical.choose (h2 i),fun i hi=>Classical.choose_spec (h2 i) hi⟩
-- WALKS (written by ZS.py)
theorem jo (v:Value) (r:RR) (w:World) (h:bh w v r) (hs:r.num.length≤1000000∧r.den.length≤1000000) :
  Calls Tryz.prog 61 #[v] w fun e w'=>(∃ v',e=.returned v'∧aV w w' v' r)∧Ext w w':=by
 obtain ⟨a1,c1,a2,c2,rfl,hn,hd⟩:=h.parts;obtain ⟨b,l1,l2⟩:=r;dsimp only at hn hd hs ⊢;obtain ⟨hs1,hs2⟩:=hs;have HN:=kI hn;have HD:=kI hd;clear hn hd h;have bb0:=((ag.new w #[.bool b,.slice a1 l1.length c1,.slice a2 l2.length c2] 25).alloc (.cells #[.bool false,.slice none 0 0,.slice none 0 0] 25));have bb1:=(ag.new (w.alloc (.cells #[.bool b,.slice a1 l1.length c1,.slice a2 l2.length c2] 25)) #[.bool false,.slice none 0 0,.slice none 0 0] 25);rw [World.size_alloc] at bb1;have x0:Ext w ((w.alloc (.cells #[.bool b,.slice a1 l1.length c1,.slice a2 l2.length c2] 25)).alloc (.cells #[.bool false,.slice none 0 0,.slice none 0 0] 25)):=(((Ext.refl w).alloc _).alloc _);have A0:=kI bb0;have A1:=kI bb1;have X:=kI x0;clear x0 bb0 bb1;have HN:=kI (HN.o.ext X.o);have HD:=kI (HD.o.ext X.o);go_enter Tryz.func61,Tryz.ntmps61
 go_wp2_with fail;refine wp_region_held_drew (S:=(fun W=>(ag W w.heap.size #[.bool b,.slice a1 l1.length c1,.slice a2 l2.length c2] 25∧W.cell? ⟨w.heap.size,0,none⟩=some (.bool b)∧W.cell? ⟨w.heap.size,1,none⟩=some (.slice a1 l1.length c1)∧W.cell? ⟨w.heap.size,2,none⟩=some (.slice a2 l2.length c2)))) ax ?_ (fun hHeld=>?_)
 ·exact ag.s3 A0.o.drew
 refine tk 0 ?_;refine tk 1 ?_;refine tk 2 ?_;refine tk 3 ?_;refine tk 5 ?_;refine tk 6 ?_;have x1:=X.o;refine lK [4] ?_;refine rc (fun K hK=>?_);go_simp;refine (nw (.slice a1 l1.length c1) l1 _ (HN.o.ext Mc) Z).mono ?_;rintro e w1 ⟨⟨v,rfl,nn⟩,hx⟩;have hx:=Ext.trans (show Ext ((w.alloc (.cells #[.bool b,.slice a1 l1.length c1,.slice a2 l2.length c2] 25)).alloc (.cells #[.bool false,.slice none 0 0,.slice none 0 0] 25)) _ from by first|exact Ext.refl _|exact (Ext.refl _).drew) hx;have A0:=kI (A0.o.ext hx);have A1:=kI (A1.o.ext hx);have HN:=kI (HN.o.ext hx);have HD:=kI (HD.o.ext hx);have X:=kI (X.o.trans hx);obtain ⟨n1,n2,rfl⟩:=nn.shape;have On:=kI (nn.from (Ext.trans x1 eX));clear nn hx x1;(try go_wp2_with fail);refine hK.out _ _ ?_ (fun hHeld=>?_)
 ·exact ag.s3 A0.o
 clear hK K;(try simp only [sP]);have x1:=X.o;refine lK [7] ?_;refine rc (fun K hK=>?_);go_simp;refine (nw (.slice a2 l2.length c2) l2 _ (HD.o.ext Mc) Z).mono ?_;rintro e w2 ⟨⟨v,rfl,nn⟩,hx⟩;have hx:=Ext.trans (show Ext w1 _ from by first|exact Ext.refl _|exact (Ext.refl _).drew) hx;have A0:=kI (A0.o.ext hx);have A1:=kI (A1.o.ext hx);have HN:=kI (HN.o.ext hx);have HD:=kI (HD.o.ext hx);have On:=kI (On.o.ext hx);have X:=kI (X.o.trans hx);obtain ⟨d1,d2,rfl⟩:=nn.shape;have Od:=kI (nn.from (Ext.trans x1 eX));clear nn hx x1;(try go_wp2_with fail);refine hK.out _ _ ?_ (fun hHeld=>?_)
 ·exact ag.s3 A0.o
 clear hK K;(try simp only [sP]);refine tk 8 ?_;have q2:=A1.o.cell;have f2:=A1.o.free;have WH:=A1.o.lt;refine lK [9] ?_;refine rc (fun K hK=>?_);go_simp;(try go_wp2_with fail);refine hK.out _ _ ?_ (fun hHeld=>?_)
 ·((try dsimp only);(refine ag.s3 ?_ <;> (repeat (first|exact A0.o|refine ag.setOther ?_ au _|refine ag.alloc ?_ _|refine ag.drew ?_))))
 clear hK K;(try simp only [sP]);refine wpAnyH_done ax ?_ _;go_wp2_with fail;refine bodyPost_ret (v:=.agg #[.bool b,.slice n1 l1.length n2,.slice d1 l2.length d2]) (by simp only [results,Tryz.results61];go_simp) rfl ⟨⟨_,rfl,?_⟩,?_⟩
 ·exact ⟨_,_,rfl,bZ.cM On.o A1.o ap _ _ _,bZ.cM Od.o A1.o ap _ _ _⟩
 ·have:=X.o;exact eX
def qD (B:Nat) (w:World) (h:List Value) (r:RR):Prop:=∃ a1 c1 a2 c2,h=[.bool r.neg,.slice a1 r.num.length c1,.slice a2 r.den.length c2]∧ku B w (.slice a1 r.num.length c1) r.num∧ku B w (.slice a2 r.den.length c2) r.den
theorem qD.keeps {B:Nat} {t:TypeId} (ht:157≠t) (w w':World) (h:List Value) (r:RR) (e:qD B w h r) (k:Keeps B t w w'):qD B w' h r:=by
 obtain ⟨a1,c1,a2,c2,e1,e2,e3⟩:=e;exact ⟨a1,c1,a2,c2,e1,e2.keeps k ht,e3.keeps k ht⟩
theorem qD.ext {B:Nat} {w w':World} {h:List Value} {r:RR} (e:qD B w h r) (k:Ext w w'):qD B w' h r:=by
 obtain ⟨a1,c1,a2,c2,e1,e2,e3⟩:=e;exact ⟨a1,c1,a2,c2,e1,e2.ext k,e3.ext k⟩
theorem qD.old {B:Nat} {w:World} {a1 a2:Option Addr} {c1 c2:Nat} {r:RR} (h:bh w (.agg #[.bool r.neg,.slice a1 r.num.length c1,.slice a2 r.den.length c2]) r) (hB:w.heap.size≤B):qD B w [.bool r.neg,.slice a1 r.num.length c1,.slice a2 r.den.length c2] r:=by
 obtain ⟨vn,vd,e,h1,h2⟩:=h;injection e with e
 simp only [Array.mk.injEq,List.cons.injEq,and_true,true_and] at e;obtain ⟨rfl,rfl⟩:=e;exact ⟨a1,c1,a2,c2,rfl,ku.old h1 hB,ku.old h2 hB⟩
abbrev bS (B:Nat) (w:World) (v:Value) (l:List RR):Prop:=aD 25 3 (qD B) B w v l
theorem bS.ext' {B:Nat} {w w':World} {v:Value} {l:List RR} (h:bS B w v l) (x:Ext w w'):bS B w' v l:=aD.ext h x (fun _ _ e=>e.ext x)
theorem bS.rd {B:Nat} {w:World} {v:Value} {l:List RR} (h:bS B w v l):cH w v l:=by
 obtain ⟨a,cap,hv,hc,hm,hr⟩:=aD.wI h;refine ⟨a,cap,hv,hc,hm,fun i hi=>?_⟩;have hl:l[i]?=some (l.getD i zR):=by rw [List.getD_eq_getElem?_getD,List.getElem?_eq_getElem hi];rfl
 obtain ⟨b,h,e1,_,e2,e3,e4,a1,c1,a2,c2,e5,e6,e7⟩:=hr i _ hl;subst e5;refine ⟨b,0,a1,c1,a2,c2,e1,e2,?_,?_,?_,e6.rd,e7.rd⟩
 ·rw [Nat.zero_add];exact e4 0 Z
 ·rw [Nat.zero_add];exact e4 1 Z
 ·rw [Nat.zero_add];exact e4 2 Z
theorem Tryz.fH:(Tryz.prog.info? 25).map (fun i=>(i.zero,i.size,i.bytes))=some (some (.agg #[.bool false,.slice none 0 0,.slice none 0 0]),3,56):=ax
theorem dC {α:Type} (l:List α) (k:Nat) (d:α) (h:k < l.length):l.take (k+1)=l.take k ++ [l.getD k d]:=by
 rw [List.take_succ_eq_append_getElem h,List.getD_eq_getElem?_getD,List.getElem?_eq_getElem h];rfl
theorem fd (v1 v2:Value) (l1 l2:List RR) (w:World) (h1:cH w v1 l1) (h2:cH w v2 l2) :
  Calls Tryz.prog 24 #[v1,v2] w fun e w'=>e=.returned (.bool (decide (l1=l2)))∧Ext w w':=by
 obtain ⟨a1,c1,rfl,hc1,hm1,f1,hr1⟩:=h1.get;obtain ⟨a2,c2,rfl,hc2,hm2,f2,hr2⟩:=h2.get;clear h1 h2;by_cases hlen:l1.length=l2.length
 ·have H1:=kI hr1;clear hr1;have H2:=kI hr2;clear hr2;rw [← hlen];rw [← hlen] at H2 hc2;have HL:=kI hlen;clear hlen;go_enter Tryz.func24,Tryz.ntmps24
  go_wp2
  go_loopw [5] (fun i wr=>∃ k:Nat,k≤l1.length∧i=.int .i64 k∧l1.take k=l2.take k∧Ext w wr) (fun i _=>l1.length - (intOf i).toNat)
  case atStart=>exact ⟨0,Nat.zero_le _,rfl,rfl,Ext.refl w⟩
  case round=>
   obtain ⟨k,hk,rfl,htake,hext⟩:=hrel;have HT:=kI htake;clear htake;by_cases hlt:k < l1.length
   ·obtain ⟨b1,o1,rfl,hb1,x0,x1,x2,Oc⟩:=H1.o k hlt;obtain ⟨b2,o2,rfl,hb2,z0,z1,z2,hZ⟩:=H2.o k hlt;have y0:=(hext.cell (p:=⟨b1,o1+k*3,none⟩) hb1).trans x0;have y1:=(hext.cell (p:=⟨b1,o1+k*3+1,none⟩) hb1).trans x1;have y2:=(hext.cell (p:=⟨b1,o1+k*3+2,none⟩) hb1).trans x2;have y3:=(hext.cell (p:=⟨b2,o2+k*3,none⟩) hb2).trans z0;have y4:=(hext.cell (p:=⟨b2,o2+k*3+1,none⟩) hb2).trans z1;have y5:=(hext.cell (p:=⟨b2,o2+k*3+2,none⟩) hb2).trans z2;have heq:=fun W (x:Ext wr W)=>iK _ _ _ _ W (Oc.ext (hext.trans x)) (hZ.ext (hext.trans x));have g1:l1.take (k+1)=l1.take k ++ [l1.getD k zR]:=dC l1 k zR hlt;have g2:l2.take (k+1)=l2.take k ++ [l2.getD k zR]:=dC l2 k zR (HL.o ▸ hlt);obtain ⟨r1,hr1⟩:=gN (l1.getD k zR);obtain ⟨r2,hr2⟩:=gN (l2.getD k zR);rw [← hr1] at y0 y1 y2 heq g1;rw [← hr2] at y3 y4 y5 heq g2;have q1:(0:Int)≤(k:Int):=Z
    have q2:(k:Int) < (l1.length:Int):=Z
    have hz:=hext.size;have Q9:b1 < wr.heap.size:=by have:=hext.size;omega
    have S5:b2 < wr.heap.size:=by have:=hext.size;omega
    have G1:=kI g1;have G2:=kI g2;have HX:=kI hext;clear x0 x1 x2 z0 z1 z2 Oc hZ hr1 hr2 g1 g2 hext;by_cases he:r1=r2
    ·rw [decide_eq_true he] at heq;have HE:=kI he;have HQ:=kI heq;clear he heq;go_wp2_with fail;(refine io ax ax ?_;(repeat (go_big_quiet_step ((go_at_call 52;exact wT (HQ.o _ (Later.ext _))))));refine wpQuiet_nil ?_;rintro w1 ⟨⟨_,hx1⟩,rfl⟩;(try dsimp only);have hz1:=hx1.size;(try simp only [World.size_alloc,World.size_setCell,World.size_drew,gh] at hz1);obtain ⟨hc1,hf1⟩:=hx1.old (B:=w.heap.size) QP)
     have ME:=kI (HX.o.trans hx1);clear hx1;go_wp2
     go_roundw
     case rel=>exact ⟨k+1,by omega,by go_num,by rw [G1.o,G2.o,HT.o,HE.o],ME.o⟩
     case measure=>simp [intOf];omega
    ·rw [decide_eq_false he] at heq;have HE:=kI he;have HQ:=kI heq;clear he heq;go_wp2_with fail;(refine io ax ax ?_;(repeat (go_big_quiet_step ((go_at_call 52;exact wT (HQ.o _ (Later.ext _))))));refine wpQuiet_nil ?_;rintro w1 ⟨⟨_,hx1⟩,rfl⟩;(try dsimp only);have hz1:=hx1.size;(try simp only [World.size_alloc,World.size_setCell,World.size_drew,gh] at hz1);obtain ⟨hc1,hf1⟩:=hx1.old (B:=w.heap.size) QP)
     have ME:=kI (HX.o.trans hx1);clear hx1;go_wp2
     go_ret;refine ⟨cT ?_,ME.o⟩;rw [eq_comm,decide_eq_false_iff_not];rintro rfl;have:=G1.o.symm.trans G2.o;have:=List.append_cancel_left this;exact HE.o (by injection this)
   ·have HX:=kI hext;clear hext;go_wp2
    go_ret;refine ⟨cT ?_,HX.o⟩;have:=HT.o;rw [List.take_of_length_le Z,List.take_of_length_le Q5] at this;simp [this]
 ·have hb:(l1.length != l2.length)=true:=by simpa using hlen
  go_enter Tryz.func24,Tryz.ntmps24
  go_wp2
  go_ret;refine ⟨cT ?_,Ext.refl w⟩;rw [eq_comm,decide_eq_false_iff_not];rintro rfl;exact hlen rfl
section
def Jm (e l:Int):Bool:=decide (0≤e) && (decide (e≤l) && decide (l≤50000))
def chk (de dl se sl ae al r:Int):Int:=if Jm de dl && Jm se sl && Jm ae al && decide (0≤r) && decide (r≤100) then 0 else 1
section
variable {de dl se sl ae al r:Int}
end
section
variable {de dl se sl ae al r:Int} {bd bs ba:Bool} {z:Int}
end
section
variable {c r:Int} {bd bs ba:Bool} {s rt:Int} {kp:Bool}
end
end
section
open Go.RowKit Go.ChangeShapes Go.WideShapes Go.ChangeAt Go.Deep
section
variable {H:Type} {enc:TypeId × Value→H} {w:World} {base:Nat} {spare:Nat→Bool} {held:Bool}
/-- A slice, by its reading: m cells an element, each of which has a property. -/
theorem jq {n m:Nat} {t e:TypeId} {Pp:List Value→Prop} {cs:List Value} {x:DataW H × List MemPlace} (ht:Tryz.prog.underlying t=some (.slice e)) (hm:Tryz.prog.cellsOf e=m) (hm0:0 < m)
  (hel:∀ n cs x,DataW.trod enc Tryz.prog w base spare held n e cs=some x→Pp cs∧cs.length=m) (h:DataW.trod enc Tryz.prog w base spare held n t cs=some x) :
  ∃ (a:Option Addr) (len cap:Nat),cs=[.slice a len cap]∧len≤cap∧cap≤9223372036854775807∧∀ i,i < len→∃ b off es,a=some ⟨b,off,none⟩∧b < w.heap.size∧Pp es∧es.length=m∧∀ j,j < m→w.cell? ⟨b,off+i*m+j,none⟩=es[j]?:=by
 rcases open_slice ht h with ⟨rfl,_⟩|⟨a,len,cap,k,n',D,Pl,rfl,hb,hlc,hcm,hk,_,hall⟩
 ·exact ⟨none,0,0,rfl,by omega,by omega,fun i hi=>by omega⟩
 ·have hlk:len≤k:=by rw [hk];split <;> omega
  have hex:∀ i,i < len→∃ es,w.cells? base (a.add (i*m)) m=some es∧Pp es∧es.length=m:=by
   intro i hi;obtain ⟨cs',h1,h2⟩:=hall i Z;obtain ⟨h3,h4⟩:=hel _ _ _ h2;exact ⟨cs',by rw [hm] at h1;exact h1,h3,h4⟩
  refine ⟨some a,len,cap,rfl,hlc,by unfold maxLen at hcm;omega,fun i hi=>?_⟩;obtain ⟨es,h1,h2,h3⟩:=hex i hi;obtain ⟨es0,g1,g2,g3⟩:=hex 0 Z;obtain ⟨_,_,hcell⟩:=World.cells?_some h1;have hblk:=World.cells?_block h1 hm0;obtain ⟨b,off,spot⟩:=a;obtain ⟨_,_,hc0⟩:=World.cells?_some g1;have hsome:w.cell? (((Addr.mk b off spot).add (0*m)).add 0)=some (es0[0]'(by rw [g3];exact hm0)):=by rw [hc0 0 hm0,List.getElem?_eq_getElem]
  have hspot:spot=none:=by simpa [Addr.add] using World.cell?_spot hsome
  subst hspot;rw [Go.WideShapes.add_plain] at hblk;refine ⟨b,off,es,rfl,hblk,h2,h3,fun j hj=>?_⟩;have h5:=hcell j hj;rw [Go.WideShapes.add_plain,Go.WideShapes.add_plain] at h5;exact h5
end
end
section
def bI (B:Nat) (w:World) (h:List Value) (r:RR):Prop:=∃ a1 c1 a2 c2,h=[.bool r.neg,.slice a1 r.num.length c1,.slice a2 r.den.length c2]∧cD B w (.slice a1 r.num.length c1) r.num∧cD B w (.slice a2 r.den.length c2) r.den
theorem bI.keeps {B C:Nat} {t:TypeId} (ht:157≠t) (w w':World) (h:List Value) (r:RR) (e:bI B w h r) (k:Keeps C t w w'):bI B w' h r:=by
 obtain ⟨a1,c1,a2,c2,rfl,h1,h2⟩:=e;exact ⟨a1,c1,a2,c2,rfl,h1.keeps k ht,h2.keeps k ht⟩
theorem bI.ext {B:Nat} {w w':World} {h:List Value} {r:RR} (e:bI B w h r) (k:Ext w w'):bI B w' h r:=by
 obtain ⟨a1,c1,a2,c2,rfl,h1,h2⟩:=e;exact ⟨a1,c1,a2,c2,rfl,h1.ext k,h2.ext k⟩
theorem bI.new {B:Nat} {w0 w:World} {a1 a2:Option Addr} {c1 c2:Nat} {r:RR} (h:aV w0 w (.agg #[.bool r.neg,.slice a1 r.num.length c1,.slice a2 r.den.length c2]) r) (hB:B≤w0.heap.size):bI B w [.bool r.neg,.slice a1 r.num.length c1,.slice a2 r.den.length c2] r:=by
 obtain ⟨vn,vd,e,h1,h2⟩:=h;injection e with e
 simp only [Array.mk.injEq,List.cons.injEq,and_true,true_and] at e;obtain ⟨rfl,rfl⟩:=e;exact ⟨_,_,_,_,rfl,cD.new h1 hB,cD.new h2 hB⟩
theorem bI.rs {B:Nat} {w:World} {h:List Value} {r:RR} (e:bI B w h r):qD B w h r:=by
 obtain ⟨a1,c1,a2,c2,rfl,h1,h2⟩:=e;exact ⟨a1,c1,a2,c2,rfl,h1.1.mono (Nat.zero_le _),h2.1.mono (Nat.zero_le _)⟩
abbrev bV (B:Nat) (w:World) (v:Value) (l:List RR):Prop:=aD 25 3 (bI B) B w v l
theorem bV.ext' {B:Nat} {w w':World} {v:Value} {l:List RR} (h:bV B w v l) (x:Ext w w'):bV B w' v l:=aD.ext h x (fun _ _ e=>e.ext x)
theorem bV.rs {B:Nat} {w:World} {v:Value} {l:List RR} (h:bV B w v l):bS B w v l:=by
 obtain ⟨hs,h1,h2,h3,h4⟩:=h;exact ⟨hs,h1,h2,h3,fun i x hi=>by obtain ⟨h,e1,e2⟩:=h4 i x hi;exact ⟨h,e1,e2.rs⟩⟩
theorem bV.rd {B:Nat} {w:World} {v:Value} {l:List RR} (h:bV B w v l):cH w v l:=bS.rd h.rs
theorem bV.shape {B:Nat} {w:World} {v:Value} {l:List RR} (h:bV B w v l):∃ a c,v=.slice a l.length c:=by
 obtain ⟨a,c,h,_⟩:=aD.wI h;exact ⟨a,c,h⟩
theorem px {B C size n:Nat} {e t:TypeId} {w w':World} {v:Value} {xs:List Value} (h:w.ownsRow B e size v n xs) (k:Keeps C t w w') (ht:e≠t):w'.ownsRow B e size v n xs:=by
 refine ⟨h.1,?_⟩;rcases h.2 with hn|⟨g,cap,cur,rfl,hb,hg,rest⟩
 ·exact .inl hn
 ·exact .inr ⟨g,cap,cur,rfl,hb,ag.keeps (show ag w g cur e from hg) k ht,rest⟩
theorem bV.keeps {B C:Nat} {t:TypeId} {w w':World} {v:Value} {l:List RR} (h:bV B w v l) (k:Keeps C t w w') (ht:25≠t) (hu:157≠t):bV B w' v l:=by
 obtain ⟨hs,h1,h2,h3,h4⟩:=h;exact ⟨hs,px h1 k ht,h2,h3,fun i x hi=>by obtain ⟨h,e1,e2⟩:=h4 i x hi;exact ⟨h,e1,e2.keeps hu _ _ _ _ k⟩⟩
theorem bV.mono {B C:Nat} {w:World} {v:Value} {l:List RR} (h:bV B w v l) (hB:C≤B):bV C w v l:=by
 obtain ⟨hs,h1,h2,h3,h4⟩:=h;refine ⟨hs,jg h1 hB,h2,h3,fun i x hi=>?_⟩;obtain ⟨h,e1,a1,c1,a2,c2,e2,s1,s2⟩:=h4 i x hi;exact ⟨h,e1,a1,c1,a2,c2,e2,s1.mono hB,s2.mono hB⟩
theorem bV.nil (B:Nat) (w:World):bV B w (.slice none 0 0) []:=aD.nil _ _ _ _ _
theorem bV.Jn {B:Nat} {w:World} {v:Value} {l:List RR} (h:bV B w v l) {q:Nat} (hq:w.heap.size≤q):v.ownBlock≠some q:=by
 obtain ⟨hs,h1,_⟩:=h;rcases h1.2 with ⟨rfl,_⟩|⟨g,cap,cur,rfl,hb,hg,_⟩
 ·intro e;cases e
 ·intro e;have h2:g < w.heap.size:=(Array.getElem?_eq_some_iff.1 hg).1;injection e with e
  dsimp only at e;omega
def sZ (w w':World) (e:Ending) (r:List RR × Int):Prop:=∃ v,e=.returned (.tuple #[v,.int .i64 r.2])∧bV w.heap.size w' v r.1
theorem sZ.mk {w w':World} {v:Value} {l:List RR} {x:Int} {r:List RR × Int} (h:bV w.heap.size w' v l) (e:r=(l,x)):sZ w w' (.returned (.tuple #[v,.int .i64 x])) r:=by subst e;exact ⟨v,rfl,h⟩
def waits (o:Oper):List Nat:=(o.after.toList.filter fun e=>Region.binds .any e).map (·.on)
def fills (l:List Oper):List Tmp:=l.filterMap (·.dst)
def fI:Nat→List Oper→List Tmp→Bool
 | _,[],_=>true
 | k,o :: r,seen=>(waits o).all (fun e=>decide (e < k)) && (match o.dst with|some d=>!seen.contains d && fI (k+1) r (d :: seen)|none=>fI (k+1) r seen)
theorem gx:∀ (l:List Oper) (k:Nat) (seen:List Tmp),fI k l seen=true→
  (∀ (j:Nat) (o:Oper),l[j]?=some o→∀ e ∈ waits o,e < k+j)∧(∀ (j:Nat) (o:Oper) (d:Tmp),l[j]?=some o→o.dst=some d→d ∉ seen)∧(∀ (i j:Nat) (oi oj:Oper) (d:Tmp),l[i]?=some oi→l[j]?=some oj→oi.dst=some d→oj.dst=some d→i=j)
 | [],_,_,_=>⟨fun _ _ h=>by simp at h,fun _ _ _ h=>by simp at h,fun _ _ _ _ _ h=>by simp at h⟩
 | o :: r,k,seen,h=>by
  simp only [fI,Bool.and_eq_true,List.all_eq_true,decide_eq_true_eq] at h;obtain ⟨h1,h2⟩:=h;have key:∃ s2,fI (k+1) r s2=true∧(∀ d,d ∈ seen→d ∈ s2)∧(∀ d,o.dst=some d→d ∉ seen∧d ∈ s2):=by
   revert h2
   cases hd:o.dst with
   | none=>intro h2;exact ⟨seen,h2,fun _ h=>h,fun _ h=>by cases h⟩
   | some d=>
    intro h2;simp only [Bool.and_eq_true,Bool.not_eq_true',List.contains_eq_mem,decide_eq_false_iff_not] at h2;exact ⟨d :: seen,h2.2,fun _ h=>List.mem_cons_of_mem _ h,fun d' h=>by cases h;exact ⟨h2.1,List.mem_cons_self⟩⟩
  obtain ⟨s2,h3,h4,h5⟩:=key;obtain ⟨a1,a2,a3⟩:=gx r (k+1) s2 h3;refine ⟨fun j o' hj e he=>?_,fun j o' d hj hd hm=>?_,fun i j oi oj d hi hj hdi hdj=>?_⟩
  ·cases j with
   | zero=>
    simp only [List.getElem?_cons_zero,Option.some.injEq] at hj;subst hj;exact h1 e he
   | succ j=>have:=a1 j o' Bu e he;omega
  ·cases j with
   | zero=>
    simp only [List.getElem?_cons_zero,Option.some.injEq] at hj;subst hj;exact (h5 d hd).1 hm
   | succ j=>exact a2 j o' d Bu hd (h4 d hm)
  ·cases i with
   | zero=>
    simp only [List.getElem?_cons_zero,Option.some.injEq] at hi;subst hi;cases j with
    | zero=>rfl
    | succ j=>exact absurd (h5 d hdi).2 (a2 j oj d Bu hdj)
   | succ i=>
    cases j with
    | zero=>
     simp only [List.getElem?_cons_zero,Option.some.injEq] at hj;subst hj;exact absurd (h5 d hdj).2 (a2 i oi d Ia hdi)
    | succ j=>rw [a3 i j oi oj d Ia Bu hdi hdj]
def cW (J:Nat→Value→World→Prop) (W:World) (G:Act→Prop):Nat→List Oper→Act→Prop
 | _,[],a=>G a
 | k,o :: r,a=>match o.dst with
  | some d=>∀ v,J k v W→cW J W G (k+1) r (a.put (some d) v)
  | none=>cW J W G (k+1) r a
theorem ig {t:Array Value} {d:Nat} {v:Value} (h:d < t.size):(t.setIfInBounds d v).getD d undef=v:=by
 simp [Array.getD_eq_getD_getElem?,h]
theorem fN {t:Array Value} {d i:Nat} {v:Value} (h:d≠i):(t.setIfInBounds d v).getD i undef=t.getD i undef:=by
 simp only [Array.getD_eq_getD_getElem?,Array.getElem?_setIfInBounds_ne h]
theorem Cm {t u:Array Value} (hs:t.size=u.size) (h:∀ i,t.getD i undef=u.getD i undef):t=u:=by
 apply Array.ext hs;intro i h1 h2;have:=h i;simpa [Array.getD_eq_getD_getElem?,h1,h2] using this
theorem cW.o {J:Nat→Value→World→Prop} {W:World} {G:Act→Prop} {a:Act}:∀ (r:List Oper) (k:Nat) (b:Act),b.tmps.size=a.tmps.size→b.defers=a.defers→
  (∀ i,(∀ o ∈ r,o.dst≠some i)→b.tmps.getD i undef=a.tmps.getD i undef)→(∀ (j:Nat) (o:Oper) (d:Tmp),r[j]?=some o→o.dst=some d→J (k+j) (a.tmps.getD d undef) W)→cW J W G k r b→G a
 | [],k,b,hs,hd,he,_,h=>by
  have:b=a:=by
   cases b;cases a;simp only at hs hd he;subst hd;rw [Cm hs fun i=>he i cp]
  exact this ▸ h
 | o :: r,k,b,hs,hd,he,hJ,h=>by
  unfold cW at h;cases ho:o.dst with
  | none=>
   rw [ho] at h;exact cW.o r (k+1) b hs hd (fun i hi=>he i (fun o' ho'=>(List.mem_cons.1 ho').elim (fun e=>by rw [e,ho];simp) (fun h2=>hi o' h2))) (fun j o' d hj hd'=>by have:=hJ (j+1) o' d Bu hd';rwa [show k+(j+1)=k+1+j by omega] at this) h
  | some d=>
   rw [ho] at h;have h2:=h (a.tmps.getD d undef) (by have:=hJ 0 o d cp ho;simpa using this);refine cW.o r (k+1) (b.put (some d) (a.tmps.getD d undef)) (by simp [Act.put,hs]) (by simp [Act.put,hd]) (fun i hi=>?_) (fun j o' d' hj hd'=>by have:=hJ (j+1) o' d' Bu hd';rwa [show k+(j+1)=k+1+j by omega] at this) h2;by_cases e:d=i
   ·subst e;simp only [Act.put];by_cases hlt:d < b.tmps.size
    ·exact ig hlt
    ·have h1:(b.tmps.setIfInBounds d (a.tmps.getD d undef)).getD d undef=undef:=by simp [Array.getD_eq_getD_getElem?,Nat.le_of_not_lt hlt]
     have h3:a.tmps.getD d undef=undef:=by rw [Array.getD_eq_getD_getElem?,Array.getElem?_eq_none (hs ▸ Nat.le_of_not_lt hlt)];rfl
     rw [h1,h3]
   ·simp only [Act.put];rw [fN e];exact he i (fun o' ho'=>(List.mem_cons.1 ho').elim (fun e2=>by rw [e2,ho];simpa using e) (fun h3=>hi o' h3))
section
variable {P:Program} {l:List Oper} {n:Nat} {Q:Exit→Act→World→Prop} {J:Nat→Value→World→Prop}
def uS (P:Program) (l:List Oper) (n:Nat) (Q:Exit→Act→World→Prop) (J:Nat→Value→World→Prop) (a0:Act) (w:World) (j:Nat) (o:Oper):Prop:=
 ∀ (a:Act) (W:World),Ext w W→(∀ i,(fills (l.take n)).contains i=false→a.tmps.getD i undef=a0.tmps.getD i undef)→
  (∀ (e:Nat) (oe:Oper) (d:Tmp),l[e]?=some oe→oe.dst=some d→((waits o).contains e && decide (e < n))=true→J e (a.tmps.getD d undef) W)→
  ∀ K:Act→World→Prop,(∀ v W',Ext W W'→J j v W'→K (a.put o.dst v) W')→if Region.wanted o (yielded l.toArray a.tmps)=true then Oper.wp P o a W K Q else K (a.put o.dst undef) W
def cX (P:Program) (l:List Oper) (n:Nat) (Q:Exit→Act→World→Prop) (J:Nat→Value→World→Prop) (a0:Act) (w:World):Nat→List Oper→Prop
 | _,[]=>True
 | k,o :: r=>uS P l n Q J a0 w k o∧cX P l n Q J a0 w (k+1) r
theorem cX.get {a0:Act} {w:World}:∀ (r:List Oper) (k:Nat),cX P l n Q J a0 w k r→∀ (j:Nat) (o:Oper),r[j]?=some o→uS P l n Q J a0 w (k+j) o
 | [],_,_,_,_,h=>by simp at h
 | o :: r,k,h,0,o',hj=>by
  simp only [List.getElem?_cons_zero,Option.some.injEq] at hj;subst hj;exact h.1
 | o :: r,k,h,j+1,o',hj=>by
  have:=cX.get r (k+1) h.2 j o' Bu;rwa [show k+(j+1)=k+1+j by omega]
structure bW (l:List Oper) (n:Nat) (J:Nat→Value→World→Prop) (a0:Act) (w:World) (listed:Array Bool) (a:Act) (W:World):Prop where
 ext:Ext w W
 size:a.tmps.size=a0.tmps.size
 defers:a.defers=a0.defers
 base:∀ i,(fills (l.take n)).contains i=false→a.tmps.getD i undef=a0.tmps.getD i undef
 done:∀ (j:Nat) (o:Oper) (d:Tmp),(l.take n)[j]?=some o→o.dst=some d→listed.getD j false=true→J j (a.tmps.getD d undef) W
 head:HeadInv .any l.toArray n listed
def still (n:Nat) (listed:Array Bool):List Nat:=(List.range n).filter fun j=>!listed.getD j true
theorem iq {listed:Array Bool} {i:Nat} (hi:i < n) (hs:n≤listed.size) (h:listed.getD i true=false):(still n (listed.setIfInBounds i true)).length+1=(still n listed).length:=by
 have h1:still n (listed.setIfInBounds i true)=(still n listed).erase i:=by
  unfold still;rw [List.Nodup.erase_eq_filter (List.nodup_range.filter _)];rw [List.filter_filter];apply List.filter_congr;intro j _;by_cases e:i=j
  ·subst e;simp [Array.getD_eq_getD_getElem?,show i < listed.size by omega]
  ·rw [getD_set_ne true e];have:(j != i)=true:=by simp;exact fun h=>e h.symm
   simp [this]
 have h2:i ∈ still n listed:=by unfold still;rw [List.mem_filter];exact ⟨List.mem_range.2 hi,by rw [h];rfl⟩
 rw [h1,List.length_erase_of_mem h2];have:=List.length_pos_of_mem h2;omega
theorem uT {o:Oper} {e:Edge} (he:e ∈ o.after) (hb:Region.binds .any e=true):e.on ∈ waits o:=by
 unfold waits;exact List.mem_map.2 ⟨e,List.mem_filter.2 ⟨by simpa using he,hb⟩,rfl⟩
theorem jr {o:Oper} {k:Nat} (h:k ∈ waits o):∃ e ∈ o.after,Region.binds .any e=true∧e.on=k:=by
 unfold waits at h;obtain ⟨e,h1,h2⟩:=List.mem_map.1 h;obtain ⟨h3,h4⟩:=List.mem_filter.1 h1;exact ⟨e,by simpa using h3,h4,h2⟩
theorem je {j:Nat} (h:j < n):(l.take n)[j]?=l[j]?:=by rw [List.getElem?_take,if_pos h]
theorem dD {listed:Array Bool} (hn:n≤l.length) (hB:fI 0 (l.take n) []=true) (hs:listed.size=l.length) (hr:∀ j,j < n→j ∉ Region.ready .any l.toArray listed):∀ j,j < n→listed.getD j false=true:=by
 intro j;induction j using Nat.strongRecOn with
 | _ j ih=>
  intro hj;refine Classical.byContradiction fun hc=>?_;have hc':listed.getD j false=false:=by simpa using hc
  have hjl:j < l.length:=Z
  exact hr j hj (mem_ready.2 ⟨getD_in Z hc',l[j],by simp [hjl],fun e he hb=>by
   have h1:=(gx (l.take n) 0 [] hB).1 j l[j] (by rw [je hj];simp [hjl]) e.on (uT he hb);exact ih e.on Z Z⟩)
theorem bW.step {a0 a:Act} {w W:World} {listed:Array Bool} {j:Nat} {o:Oper} (hB:fI 0 (l.take n) []=true) (hR:∀ d ∈ fills (l.take n),d < a0.tmps.size) (hJ:∀ j v W W',J j v W→Ext W W'→J j v W') (inv:bW l n J a0 w listed a W) (hjn:j < n)
  (hj:l[j]?=some o) (hm:j ∈ Region.ready .any l.toArray listed) {v:Value} {W':World} (hx:Ext W W') (hv:J j v W'):bW l n J a0 w (listed.setIfInBounds j true) (a.put o.dst v) W':=by
 obtain ⟨hw,Oe,Jo⟩:=gx (l.take n) 0 [] hB;obtain ⟨h1,h2,h3,h4,h5,h6⟩:=inv;have hj':(l.take n)[j]?=some o:=by rw [je hjn];exact hj
 cases hd:o.dst with
 | none=>
  refine ⟨h1.trans hx,h2,h3,h4,fun i oi d hi hdi hl=>?_,h6.set hm hjn⟩;have:j≠i:=fun e=>by subst e;rw [hj'] at hi;cases hi;rw [hd] at hdi;cases hdi
  rw [getD_set_ne false this] at hl;exact hJ _ _ _ _ (h5 i oi d hi hdi hl) hx
 | some d=>
  refine ⟨h1.trans hx,by simp [Act.put,h2],h3,fun i hi=>?_,fun i oi d' hi hdi hl=>?_,h6.set hm hjn⟩
  ·have hne:d≠i:=fun e=>by
    subst e;have:d ∈ fills (l.take n):=List.mem_filterMap.2 ⟨o,List.mem_of_getElem? hj',hd⟩;simp [this] at hi
   simp only [Act.put];rw [fN hne];exact h4 i hi
  ·by_cases e:j=i
   ·subst e;rw [hj'] at hi;cases hi;rw [hd] at hdi;cases hdi;simp only [Act.put];rw [ig (by rw [h2];exact hR d (List.mem_filterMap.2 ⟨o,List.mem_of_getElem? hj',hd⟩))];exact hv
   ·rw [getD_set_ne false e] at hl;have hne:d≠d':=fun e2=>e (Jo j i o oi d hj' hi hd (e2 ▸ hdi));simp only [Act.put];rw [fN hne];exact hJ _ _ _ _ (h5 i oi d' hi hdi hl) hx
theorem bW.fin {a0 a:Act} {w W:World} {listed:Array Bool} {G:Act→Prop} (hn:n≤l.length) (inv:bW l n J a0 w listed a W) (hall:∀ j,j < n→listed.getD j false=true) (hend:cW J W G 0 (l.take n) a0):G a:=by
 refine cW.o (J:=J) (W:=W) (G:=G) (a:=a) (l.take n) 0 a0 inv.size.symm inv.defers.symm (fun i hi=>(inv.base i ?_).symm) (fun j o d hj hd=>?_) hend
 ·simp only [fills,List.contains_eq_mem,decide_eq_false_iff_not,List.mem_filterMap,not_exists,not_and];exact fun o ho=>hi o ho
 ·have hlt:j < n:=by
   have:=(List.getElem?_eq_some_iff.1 hj).1;rw [List.length_take] at this;omega
  have:=inv.done j o d hj hd (hall j hlt);rwa [Nat.zero_add]
theorem pz {a0:Act} {w:World} {g:Nat} (hn:n≤l.length) (hB:fI 0 (l.take n) []=true) (hR:∀ d ∈ fills (l.take n),d < a0.tmps.size) (hJ:∀ j v W W',J j v W→Ext W W'→J j v W') (hS:cX P l n Q J a0 w 0 (l.take n))
  (pA:∀ listed,HeadInv .any l.toArray n listed→∀ i,i < n→listed.getD i true=false→∀ j ∈ Region.ready .any l.toArray listed,j < n)
  (hfin:∀ listed a W,bW l n J a0 w listed a W→(∀ j,j < n→listed.getD j false=true)→wpAny P .any l.toArray Q g listed a W):∀ (k:Nat) (listed:Array Bool) (a:Act) (W:World),(still n listed).length=k→bW l n J a0 w listed a W→wpAny P .any l.toArray Q (k+g) listed a W:=by
 intro k;induction k with
 | zero=>
  intro listed a W hf inv;rw [Nat.zero_add];refine hfin listed a W inv (dD hn hB Bm fun j hj hm=>?_);have h1:=(mem_ready.1 hm).1;have h3:j ∈ still n listed:=List.mem_filter.2 ⟨List.mem_range.2 hj,by rw [h1];rfl⟩;rw [List.length_eq_zero_iff.1 hf] at h3;cases h3
 | succ k ih=>
  intro listed a W hf inv;rw [show k+1+g=(k+g)+1 by omega];obtain ⟨i,hi,hiu⟩:∃ i,i < n∧listed.getD i true=false:=by
   have hne:still n listed≠[]:=fun e=>by rw [e] at hf;cases hf
   obtain ⟨i,hi⟩:=List.exists_mem_of_ne_nil _ hne;obtain ⟨h1,h2⟩:=List.mem_filter.1 hi;exact ⟨i,List.mem_range.1 h1,by simpa using h2⟩
  refine ⟨fun hr=>?_,fun j hj=>?_⟩
  ·exfalso
   have:=dD hn hB Bm (fun j _ hm=>by rw [hr] at hm;cases hm) i hi;rw [getD_both hiu] at this;cases this
  ·have hjn:=pA listed inv.head i hi hiu j hj;obtain ⟨h1,o,h2,h3⟩:=mem_ready.1 hj;have h2':l[j]?=some o:=by simpa using h2
   have hst:=cX.get (l.take n) 0 hS j o Nd;rw [Nat.zero_add] at hst;refine wpOp_step h2 fun K' hK=>hst a W inv.ext inv.base (fun e oe d he hd hwt=>?_) K' fun v W' hx hv=>hK _ _ (ih _ _ _ ?_ (inv.step hB hR hJ hjn h2' hj hx hv))
   ·simp only [Bool.and_eq_true,decide_eq_true_eq] at hwt;obtain ⟨eg,k1,k2,k3⟩:=jr Ng;exact inv.done e oe d Nc hd QY
   ·have:=iq hjn Mg h1;omega
theorem bW.start (a0:Act) (w:World):bW l n J a0 w (Array.replicate l.toArray.size false) a0 w.drew:=
 ⟨(Ext.refl w).drew,rfl,rfl,fun _ _=>rfl,fun j o d hj hd hl=>absurd hl Na,⟨by simp,fun j oj _ hl=>absurd hl Na,fun t _ ht=>getD_in (by simpa using ht) (getD_replicate_false _ _)⟩⟩
theorem er (hn:n≤l.length):(still n (Array.replicate l.toArray.size false)).length=n:=by
 unfold still;rw [List.filter_eq_self.2 fun j hj=>?_]
 ·simp
 ·have:=List.mem_range.1 hj;rw [getD_in qC (getD_replicate_false _ _)];rfl
theorem gy {id:Nat} {a0:Act} {w:World} (J:Nat→Value→World→Prop) (hm:P.follows .mixedOrders=true) (hB:fI 0 l []=true) (hR0:(fills l).all (fun d=>decide (d < a0.tmps.size))=true) (hJ:∀ j v W W',J j v W→Ext W W'→J j v W')
  (hS:cX P l l.length Q J a0 w 0 l) (hend:∀ W,Ext w W→cW J W (fun a=>Q .normal a W) 0 l a0):(Code.region id l.toArray true).wp P Q a0 w:=by
 have hR:∀ d ∈ fills l,d < a0.tmps.size:=fun d hd=>by simpa using List.all_eq_true.1 hR0 d hd
 have ht:l.take l.length=l:=List.take_length;have h:=pz (P:=P) (l:=l) (n:=l.length) (Q:=Q) (J:=J) (a0:=a0) (w:=w) (g:=0) (Nat.le_refl _) (by rw [ht];exact hB) (by rw [ht];exact hR) hJ (by rw [ht];exact hS)
  (fun listed _ _ _ _ j hj=>by obtain ⟨_,o,h2,_⟩:=mem_ready.1 hj;simpa using (Array.getElem?_eq_some_iff.1 h2).1)
  (fun listed a W inv hall=>⟨List.eq_nil_iff_forall_not_mem.2 (fun j hj=>by
   obtain ⟨h1,o,h2,_⟩:=mem_ready.1 hj;have hlt:j < l.length:=by simpa using (Array.getElem?_eq_some_iff.1 h2).1
   have h3:=hall j hlt;rw [getD_both h1] at h3;cases h3),inv.fin (G:=fun a=>Q .normal a W) (Nat.le_refl _) hall (by rw [ht];exact hend W inv.ext)⟩) l.length _ _ _ (er (Nat.le_refl _)) (bW.start a0 w)
 rw [Nat.add_zero] at h;exact wp_region_any hm kN
def dE (n m:Nat):Array Bool:=(List.replicate n true ++ List.replicate (m - n) false).toArray
def fU (l:List Oper) (n:Nat):Bool:=
 decide (n < l.length) && Region.sinkB .any l.toArray n && Region.chainB .any l.toArray n && Region.seqB .any l.toArray (l.length - n) n (dE n l.length) && fI 0 (l.take n) []
theorem s9 {n m i:Nat} (h:i < (dE n m).size):(dE n m)[i]=decide (i < n):=by
 simp only [dE,List.getElem_toArray,List.getElem_append,List.length_replicate,List.getElem_replicate];split <;> simp [*]
theorem gP {listed:Array Bool} (hn:n≤l.length) (hs:listed.size=l.length) (hall:∀ j,j < n→listed.getD j false=true) (ht:∀ t,n≤t→t < l.length→listed.getD t true=false):listed=dE n l.length:=by
 apply Array.ext
 ·unfold dE;simp [hs];omega
 ·intro i h1 h2;rw [s9];by_cases hi:i < n
  ·have:=hall i hi;simp [h1] at this;simp [this,hi]
  ·have:=ht i Z Z;simp [h1] at this;simp [this,hi]
theorem cm {id:Nat} {a0:Act} {w:World} (n:Nat) (J:Nat→Value→World→Prop) (hm:P.follows .mixedOrders=true) (hT:fU l n=true) (hR0:(fills (l.take n)).all (fun d=>decide (d < a0.tmps.size))=true) (hJ:∀ j v W W',J j v W→Ext W W'→J j v W')
  (hS:cX P l n Q J a0 w 0 (l.take n)) (hend:∀ W,Ext w W→cW J W (fun a=>wpList P l.toArray Q (l.drop n) a W) 0 (l.take n) a0):(Code.region id l.toArray true).wp P Q a0 w:=by
 have hR:∀ d ∈ fills (l.take n),d < a0.tmps.size:=fun d hd=>by simpa using List.all_eq_true.1 hR0 d hd
 simp only [fU,Bool.and_eq_true,decide_eq_true_eq] at hT;obtain ⟨⟨⟨⟨hn,hs⟩,hc⟩,hq⟩,hB⟩:=hT;have h:=pz (P:=P) (l:=l) (n:=n) (Q:=Q) (J:=J) (a0:=a0) (w:=w) (g:=l.length - n) Z hB hR hJ hS
  (fun listed hi i hin hun j hj=>Nat.lt_of_not_le fun hge=>tail_waits hs hc (by simpa using hn) hi _ i rfl hin hun j hge hj)
  (fun listed a W inv hall=>by
   have he:=gP (l:=l) Z Bm hall (fun t h1 h2=>inv.head.tail t h1 yB);subst he;have:=wpAny_of_seq (md:=.any) (Q':=Q) (l.drop n) n (dE n l.length) a W (fun j=>by simp [List.getElem?_drop]) QX (inv.fin (G:=fun a=>wpList P l.toArray Q (l.drop n) a W) Z hall (hend W inv.ext));rwa [List.length_drop] at this) n _ _ _ (er Z) (bW.start a0 w)
 rw [show n+(l.length - n)=l.toArray.size by simp;omega] at h;exact wp_region_any hm h
end
theorem aO {o:Oper} {f:Nat→Option Bool} (h:o.guard=none):Region.wanted o f=true:=by unfold Region.wanted;rw [h]
theorem pB {t e:TypeId} {z:Value} {k bytes:Nat} (W:World) (n:Nat) (ht:Tryz.prog.underlying t=some (.slice e)) (hinfo:(Tryz.prog.info? e).map (fun i=>(i.zero,i.size,i.bytes))=some (some z,k,bytes)) (hn:bytes*n≤1000000000000) (hn2:n≤1000000000) :
  (Instr.makeSlice t (.int .i64 (n:Int)) (.int .i64 (n:Int))).run Tryz.prog W=.ok (.slice (some ⟨W.heap.size,0,none⟩) n n) (W.alloc (.cells (madeCells z.cells (n*k)) e)):=by
 obtain ⟨i0,hi,hz0,hz1,hz2⟩:=info_parts hinfo;have hr:=run_make (P:=Tryz.prog) W t e i0 z ht hi hz0 .i64 .i64 n n Z (Int.le_refl _) (by rw [hz2,← Int.natCast_mul];omega) Z;simp only [Int.toNat_natCast,hz1] at hr;exact hr
end
end Go.Proofs.YtnnjbaijcaiohaaGreat
