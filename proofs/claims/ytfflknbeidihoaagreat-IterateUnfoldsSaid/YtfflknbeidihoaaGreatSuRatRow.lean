/- Lemmas and walks. Conditions: as stated. -/
import Derived.Test.YtfflknbeidihoaaGreatSuBigRow
import Derived.Test.YtfflknbeidihoaaGreatSuGG
set_option linter.unusedVariables false
set_option linter.unusedSimpArgs false
set_option maxRecDepth 100000
set_option maxHeartbeats 16000000
namespace Go.Proofs.YtfflknbeidihoaaGreat
open Go.RowKit Go.ChangeShapes Go.WideShapes Go.ChangeAt Go.Deep
section
variable {H:Type} {enc:TypeId × Value→H} {w:World} {base:Nat} {spare:Nat→Bool} {held:Bool}
theorem Tryz.cellsB:Tryz.prog.cellsOf 4=1:=by kernel_rfl
theorem Tryz.cellsN:Tryz.prog.cellsOf 23=1:=by kernel_rfl
theorem Tryz.cellsR:Tryz.prog.cellsOf 25=3:=by kernel_rfl
theorem lst3 {α:Type} {l:List α} (h:l.length=3):∃ a b c,l=[a,b,c]:=by match l,h with|[a,b,c],_=>exact ⟨a,b,c,rfl⟩
theorem trod_limbs {n:Nat} {cs:List Value} {x:DataW H × List MemPlace} (h:DataW.trod enc Tryz.prog w base spare held n 23 cs=some x):∃ (v:Value) (l:List Int),cs=[v]∧RdI .u32 w v l∧Lim l:=by
 have inst:Inhabited { x:Int // (Lit.int .u32 x).wf=true }:=⟨⟨0,by decide⟩⟩;obtain ⟨v',l,hcs,hr⟩:=rdN_of_trod (m:=1) (f:=fun x:{ x:Int // (Lit.int .u32 x).wf=true }=>[Value.int .u32 x.1]) Tryz.underlying23 Tryz.cells50 (by omega) (fun _=>rfl)
  (fun n cs x hx=>by obtain ⟨a,e0,_,wa⟩:=DataW.trod_int Tryz.underlying118 hx;exact ⟨⟨a,wa⟩,e0⟩) h
 refine ⟨v',l.map (·.1),hcs,?_,fun y hy=>?_⟩
 ·have:=rd_of_rdN1 (f:=fun x:{ x:Int // (Lit.int .u32 x).wf=true }=>Value.int .u32 x.1) hr;unfold RdI;rw [List.map_map];exact this
 ·obtain ⟨z,_,rfl⟩:=List.mem_map.1 hy;have:=z.2;simp [Lit.wf,IntKind.min,IntKind.max,IntKind.signed,IntKind.bits] at this
  omega
theorem trod_rat {n:Nat} {cs:List Value} {x:DataW H × List MemPlace} (h:DataW.trod enc Tryz.prog w base spare held n 25 cs=some x) :
  ∃ (b:Bool) (v u:Value) (l m:List Int),cs=[.bool b,v,u]∧RdI .u32 w v l∧Lim l∧RdI .u32 w u m∧Lim m:=by
 obtain ⟨xs,m,_,_,hl,hx,hf⟩:=DataW.trod_struct Tryz.underlying25 h;obtain ⟨c0,c1,c2,rfl⟩:=lst3 (hl.trans Tryz.cellsR);obtain ⟨y0,y1,y2,rfl⟩:=lst3 hx;have h0:=hf 0 _ rfl;have h1:=hf 1 _ rfl;have h2:=hf 2 _ rfl;simp [Tryz.cellsB,Tryz.cellsN] at h0 h1 h2
 obtain ⟨a,e0,_⟩:=DataW.trod_bool Tryz.underlying4 h0;obtain ⟨v,l,e1,k1,k2⟩:=trod_limbs h1;obtain ⟨u,m,e2,k3,k4⟩:=trod_limbs h2;simp at e0 e1 e2
 exact ⟨a,v,u,l,m,by rw [e0,e1,e2],k1,k2,k3,k4⟩
end
end Go.Proofs.YtfflknbeidihoaaGreat
