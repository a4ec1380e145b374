/- Lemmas and walks. Conditions: as stated. -/
import Derived.Test.YtfflknbeidihoaaGreatSxAw22
import Derived.Test.YtfflknbeidihoaaGreatSxExP
import Derived.Test.YtfflknbeidihoaaGreatSxRatRb
import Derived.Test.YtfflknbeidihoaaGreatSxMr21
import Derived.KernelRfl
set_option linter.unusedVariables false
set_option linter.unusedSimpArgs false
set_option maxRecDepth 100000
set_option maxHeartbeats 16000000
namespace Go.Proofs.YtfflknbeidihoaaGreat
open Go.RowKit
theorem exM_rd {W:World} {b1 b2 b3:Nat} {a1 a2:Option Addr} {c1 c2:Nat} (h:RdR W (.agg #[.bool exO.neg,.slice a1 exO.num.length c1,.slice a2 exO.den.length c2]) exO)
  (hb1:Blk W b1 #[.int .i64 0,.bool exO.neg,.slice a1 exO.num.length c1,.slice a2 exO.den.length c2] 59) (hb2:Blk W b2 #[.bool exO.neg,.slice a1 exO.num.length c1,.slice a2 exO.den.length c2,.slice (some ⟨b1,0,none⟩) 1 1] 62) (hb3:Blk W b3 #[.slice (some ⟨b2,0,none⟩) 1 1] 63) :
  RdM W (.agg #[.bool exO.neg,.slice a1 exO.num.length c1,.slice a2 exO.den.length c2,.slice (some ⟨b3,0,none⟩) 1 1]) exM:=by
 refine ⟨a1,c1,a2,c2,some ⟨b3,0,none⟩,1,rfl,h,some ⟨b3,0,none⟩,1,rfl,Nat.le_refl _,by decide,fun i hi=>?_⟩;obtain rfl:i=0:=by have:i < 1:=hi;omega
 refine ⟨b3,0,some ⟨b2,0,none⟩,1,rfl,hb3.lt,by rw [hb3.cell];rfl,some ⟨b2,0,none⟩,1,rfl,Nat.le_refl _,by decide,fun a ha=>?_⟩;obtain rfl:a=0:=by have:a < 1:=ha;omega
 refine ⟨b2,0,a1,c1,a2,c2,some ⟨b1,0,none⟩,1,rfl,⟨hb2.lt,by rw [hb2.cell];rfl,by rw [hb2.cell];rfl,by rw [hb2.cell];rfl,h⟩,by rw [hb2.cell];rfl,some ⟨b1,0,none⟩,1,rfl,Nat.le_refl _,by decide,fun j hj=>?_⟩;obtain rfl:j=0:=by have:j < 1:=hj;omega
 exact ⟨b1,0,a1,c1,a2,c2,rfl,hb1.lt,by rw [hb1.cell];rfl,by rw [hb1.cell];rfl,by rw [hb1.cell];rfl,by rw [hb1.cell];rfl,h⟩
theorem exW_rd {W:World} {a1 a2:Option Addr} {c1 c2:Nat} (h:RdR W (.agg #[.bool exO.neg,.slice a1 exO.num.length c1,.slice a2 exO.den.length c2]) exO) :
  RdM W (.agg #[.bool exO.neg,.slice a1 exO.num.length c1,.slice a2 exO.den.length c2,.slice none 0 0]) exW:=
 ⟨a1,c1,a2,c2,none,0,rfl,h,none,0,rfl,Nat.le_refl _,by decide,fun i hi=>by cases hi⟩
theorem exB_rd (W:World):RdR W (.agg #[.bool exB.neg,.slice none exB.num.length 0,.slice none exB.den.length 0]) exB:=⟨_,_,rfl,⟨none,0,rfl,Nat.le_refl _,by decide,fun i hi=>by cases hi⟩,⟨none,0,rfl,Nat.le_refl _,by decide,fun i hi=>by cases hi⟩⟩
theorem exO_lim:LimR exO:=limR_rep _
theorem exB_lim:LimR exB:=⟨fun x h=>(by cases h),fun x h=>(by cases h)⟩
theorem exM_lim:LimM exM:=by
 refine ⟨limR_rep _,fun s a=>?_⟩;have h0:LimA dA:=⟨zR_lim,fun i=>by cases i <;> exact zR_lim⟩;match s,a with
 | 0,0=>exact ⟨limR_rep _,fun i=>by
   match i with
   | 0=>exact limR_rep _
   | _+1=>exact zR_lim⟩
 | 0,_+1=>exact h0
 | _+1,_=>exact h0
theorem exW_lim:LimM exW:=⟨limR_rep _,fun s a=>⟨zR_lim,fun i=>by cases i <;> exact zR_lim⟩⟩
theorem limL_nil:LimL []:=fun i hi=>by cases hi
theorem lenL_nil:LenL []:=fun i hi=>by cases hi
theorem lenL_O:LenL [exO]:=lenL_small (by kernel_rfl)
theorem lenL_B:LenL [exB]:=lenL_small (by kernel_rfl)
theorem lenL_BB:LenL [exB,exB]:=lenL_small (by kernel_rfl)
theorem stg_res {w w':World} {e:Ending} {r:List (List RR) × List (List Int) × Int} {c:Int} (h:ResG w w' e r) (hc:r.2.2=c):∃ a1 c1 a2 c2,e=.returned (.tuple #[.slice a1 r.1.length c1,.slice a2 r.2.1.length c2,.int .i64 c])∧RdGR w' (.slice a1 r.1.length c1) r.1:=by
 obtain ⟨v,p,rfl,h1,h2⟩:=h;obtain ⟨a1,c1,rfl⟩:=h1.shape;obtain ⟨a2,c2,rfl⟩:=h2.shape;exact ⟨a1,c1,a2,c2,by rw [hc],h1.rd⟩
theorem stg_resF {w w':World} {e:Ending} (h:ResG w w' e (stagesS exM [exO] 24)):∃ a1 c1 a2 c2,e=.returned (.tuple #[.slice a1 25 c1,.slice a2 24 c2,.int .i64 0])∧∃ g,g.length=25∧g.getD 24 []=exR∧RdGR w' (.slice a1 25 c1) g:=by
 obtain ⟨a1,c1,a2,c2,rfl,h1⟩:=stg_res h kF;refine ⟨a1,c1,a2,c2,by rw [kF1,kF2],_,kF1,kF3,?_⟩;rw [kF1] at h1;exact h1
theorem stg_resE {w w':World} {e:Ending} (h:ResG w w' e (stagesS exM [exB] 0)):∃ a1 c1 a2 c2,e=.returned (.tuple #[.slice a1 1 c1,.slice a2 0 c2,.int .i64 0]):=by
 rw [kE] at h;obtain ⟨a1,c1,a2,c2,rfl,h1⟩:=stg_res h rfl;exact ⟨a1,c1,a2,c2,rfl⟩
theorem pln_res {w w':World} {e:Ending} {r:List RR × Int} {c:Int} (h:ResN w w' e r) (hc:r.2=c):∃ a1 c1,e=.returned (.tuple #[.slice a1 r.1.length c1,.int .i64 c])∧RdRs w' (.slice a1 r.1.length c1) r.1:=by
 obtain ⟨v,rfl,h1⟩:=h;obtain ⟨a1,c1,rfl⟩:=h1.shape;exact ⟨a1,c1,by rw [hc],h1.rd⟩
theorem cha_resS {w w':World} {e:Ending} (h:ResN w w' e (chancesS exM [] 0)):∃ a1 c1,e=.returned (.tuple #[.slice a1 1 c1,.int .i64 0])∧RdRs w' (.slice a1 1 c1) [exO]:=by
 rw [kS] at h;exact pln_res h rfl
theorem scr_res {w w':World} {e:Ending} {r:List (List RR) × Int} {c:Int} (h:ResV w w' e r) (hc:r.2=c):∃ a1 c1,e=.returned (.tuple #[.slice a1 r.1.length c1,.int .i64 c]):=by
 obtain ⟨v,rfl,h1⟩:=h;obtain ⟨a1,c1,rfl⟩:=h1.shape;exact ⟨a1,c1,by rw [hc]⟩
theorem rdPl_nil (w:World):RdPl w (.slice none 0 0) []:=⟨none,0,rfl,Nat.le_refl _,by decide,fun i hi=>by cases hi⟩
theorem rdPl25 {W:World} {b:Nat} {t:TypeId} (h:Blk W b (madeCells (Value.slice none 0 0).cells (25*1)) t):RdPl W (.slice (some ⟨b,0,none⟩) 25 25) exN:=by
 rw [madeCells_one _ rfl] at h;refine rdPl_blk exN 25 h rfl (by decide) (fun i hi=>⟨none,0,?_,?_⟩)
 ·rw [List.getElem?_toArray,List.getElem?_replicate,if_pos hi];have:exN.getD i []=[]:=by unfold exN;rw [List.getD_eq_getElem?_getD,List.getElem?_replicate];split <;> rfl
  rw [this];rfl
 ·have:exN.getD i []=[]:=by unfold exN;rw [List.getD_eq_getElem?_getD,List.getElem?_replicate];split <;> rfl
  rw [this];exact ⟨none,0,rfl,Nat.le_refl _,by decide,fun i hi=>by cases hi⟩
theorem getD_boolX {o:Option Value} {b:Bool} (h:o.getD undef=.bool b):o=some (.bool b):=by
 cases o with
 | none=>cases h
 | some v=>exact congrArg some h
def exA (mv ov:Value) (j:Nat) (v:Value) (W:World):Prop:=
 match j with
 | 0=>v=mv
 | 1=>v=ov
 | 2=>∃ b,v=.slice (some ⟨b,0,none⟩) 1 1∧RdRs W (.slice (some ⟨b,0,none⟩) 1 1) [exO]
 | 3=>∃ b,v=.slice (some ⟨b,0,none⟩) 25 25∧RdPl W (.slice (some ⟨b,0,none⟩) 25 25) exN
 | 4=>∃ a1 n1 c1,v=.tuple #[.slice a1 n1 c1,.int .i64 4]
 | 5=>∃ a1 n1 c1,v=.tuple #[.slice a1 n1 c1,.int .i64 4]
 | 6=>∃ a1 n1 c1,v=.slice a1 n1 c1
 | 7=>v=.int .i64 4
 | _=>True
theorem exA_ext {mv ov:Value} {j:Nat} {v:Value} {W W':World} (h:exA mv ov j v W) (x:Ext W W'):exA mv ov j v W':=by
 match j,h with
 | 0,h=>exact h
 | 1,h=>exact h
 | 2,⟨b,h1,h2⟩=>exact ⟨b,h1,h2.ext x⟩
 | 3,⟨b,h1,h2⟩=>exact ⟨b,h1,h2.ext x⟩
 | 4,h=>exact h
 | 5,h=>exact h
 | 6,h=>exact h
 | 7,h=>exact h
 | _+8,_=>trivial
def exC (mv:Value) (j:Nat) (v:Value) (W:World):Prop:=
 match j with
 | 0=>v=mv
 | 1=>v=.agg #[.bool true,.slice none 0 0,.slice none 0 0]
 | 2=>v=.agg #[.bool true,.slice none 0 0,.slice none 0 0]
 | 3=>∃ b,v=.slice (some ⟨b,0,none⟩) 2 2∧RdRs W (.slice (some ⟨b,0,none⟩) 2 2) [exB,exB]
 | 4=>∃ b,v=.slice (some ⟨b,0,none⟩) 25 25∧RdPl W (.slice (some ⟨b,0,none⟩) 25 25) exN
 | 5=>∃ a1 n1 c1,v=.tuple #[.slice a1 n1 c1,.int .i64 16]
 | 6=>∃ a1 n1 c1,v=.tuple #[.slice a1 n1 c1,.int .i64 16]
 | 7=>∃ a1 n1 c1,v=.slice a1 n1 c1
 | 8=>v=.int .i64 16
 | _=>True
theorem exC_ext {mv:Value} {j:Nat} {v:Value} {W W':World} (h:exC mv j v W) (x:Ext W W'):exC mv j v W':=by
 match j,h with
 | 0,h=>exact h
 | 1,h=>exact h
 | 2,h=>exact h
 | 3,⟨b,h1,h2⟩=>exact ⟨b,h1,h2.ext x⟩
 | 4,⟨b,h1,h2⟩=>exact ⟨b,h1,h2.ext x⟩
 | 5,h=>exact h
 | 6,h=>exact h
 | 7,h=>exact h
 | 8,h=>exact h
 | _+9,_=>trivial
def exD (mv:Value) (c:Int) (j:Nat) (v:Value) (W:World):Prop:=
 match j with
 | 0=>v=mv
 | 1=>∃ b,v=.slice (some ⟨b,0,none⟩) 25 25∧RdPl W (.slice (some ⟨b,0,none⟩) 25 25) exN
 | 2=>∃ a1 n1 c1,v=.tuple #[.slice a1 n1 c1,.int .i64 c]
 | 3=>∃ a1 n1 c1,v=.tuple #[.slice a1 n1 c1,.int .i64 c]
 | 4=>∃ a1 n1 c1,v=.slice a1 n1 c1
 | 5=>v=.int .i64 c
 | _=>True
theorem exD_ext {mv:Value} {c:Int} {j:Nat} {v:Value} {W W':World} (h:exD mv c j v W) (x:Ext W W'):exD mv c j v W':=by
 match j,h with
 | 0,h=>exact h
 | 1,⟨b,h1,h2⟩=>exact ⟨b,h1,h2.ext x⟩
 | 2,h=>exact h
 | 3,h=>exact h
 | 4,h=>exact h
 | 5,h=>exact h
 | _+6,_=>trivial
def exE (la:Option Addr) (lc bL oL:Nat) (r:RR) (sa:Option Addr) (sc:Nat) (ov mv:Value) (j:Nat) (v:Value) (W:World):Prop:=
 match j with
 | 0=>v=.slice la 1 lc
 | 1=>v=.int .i64 1
 | 2=>v=.bool true
 | 3=>v=.bool true
 | 4=>v=.slice la 1 lc
 | 5=>v=.pointer (some ⟨bL,oL,none⟩)
 | 6=>∃ s1 s2 s3 s4,v=.agg #[.bool r.neg,.slice s1 r.num.length s2,.slice s3 r.den.length s4]∧RdR W (.agg #[.bool r.neg,.slice s1 r.num.length s2,.slice s3 r.den.length s4]) r
 | 7=>∃ s1 s2 s3 s4,v=.agg #[.bool r.neg,.slice s1 r.num.length s2,.slice s3 r.den.length s4]∧RdR W (.agg #[.bool r.neg,.slice s1 r.num.length s2,.slice s3 r.den.length s4]) r
 | 8=>v=.bool true
 | 9=>v=.bool true
 | 10=>v=.bool true
 | 11=>v=.int .i64 3
 | 12=>v=.bool true
 | 13=>v=.bool true
 | 14=>v=.bool true
 | 15=>v=.int .i64 8
 | 16=>v=.bool true
 | 17=>v=.bool true
 | 18=>v=.bool true
 | 19=>v=.int .i64 4
 | 20=>v=.bool true
 | 21=>v=.bool true
 | 22=>v=.bool true
 | 23=>v=.int .i64 16
 | 24=>v=.bool true
 | 25=>v=.bool true
 | 26=>v=.bool true
 | 27=>v=.int .i64 8
 | 28=>v=.bool true
 | 29=>v=.bool true
 | 30=>v=.bool true
 | 31=>v=.int .i64 0
 | 32=>v=.bool true
 | 33=>v=.bool true
 | 34=>v=.bool true
 | 35=>v=.slice sa 1 sc
 | 36=>v=ov
 | 37=>∃ b,v=.slice (some ⟨b,0,none⟩) 1 1∧RdRs W (.slice (some ⟨b,0,none⟩) 1 1) [exO]
 | 38=>v=.bool true
 | 39=>v=.bool true
 | 40=>v=.bool true
 | 41=>v=mv
 | 42=>v=.int .i64 0
 | 43=>v=.bool true
 | 44=>v=.bool true
 | _=>True
theorem exE_ext {la:Option Addr} {lc bL oL:Nat} {r:RR} {sa:Option Addr} {sc:Nat} {ov mv:Value} {j:Nat} {v:Value} {W W':World} (h:exE la lc bL oL r sa sc ov mv j v W) (x:Ext W W'):exE la lc bL oL r sa sc ov mv j v W':=by
 match j,h with
 | 0,h=>exact h
 | 1,h=>exact h
 | 2,h=>exact h
 | 3,h=>exact h
 | 4,h=>exact h
 | 5,h=>exact h
 | 6,⟨s1,s2,s3,s4,h1,h2⟩=>exact ⟨s1,s2,s3,s4,h1,h2.ext x⟩
 | 7,⟨s1,s2,s3,s4,h1,h2⟩=>exact ⟨s1,s2,s3,s4,h1,h2.ext x⟩
 | 8,h=>exact h
 | 9,h=>exact h
 | 10,h=>exact h
 | 11,h=>exact h
 | 12,h=>exact h
 | 13,h=>exact h
 | 14,h=>exact h
 | 15,h=>exact h
 | 16,h=>exact h
 | 17,h=>exact h
 | 18,h=>exact h
 | 19,h=>exact h
 | 20,h=>exact h
 | 21,h=>exact h
 | 22,h=>exact h
 | 23,h=>exact h
 | 24,h=>exact h
 | 25,h=>exact h
 | 26,h=>exact h
 | 27,h=>exact h
 | 28,h=>exact h
 | 29,h=>exact h
 | 30,h=>exact h
 | 31,h=>exact h
 | 32,h=>exact h
 | 33,h=>exact h
 | 34,h=>exact h
 | 35,h=>exact h
 | 36,h=>exact h
 | 37,⟨b,h1,h2⟩=>exact ⟨b,h1,h2.ext x⟩
 | 38,h=>exact h
 | 39,h=>exact h
 | 40,h=>exact h
 | 41,h=>exact h
 | 42,h=>exact h
 | 43,h=>exact h
 | 44,h=>exact h
 | _+45,_=>trivial
theorem exmL_any (w:World):Calls Tryz.prog 5 #[] w fun e w'=>e=.returned (.bool true)∧Ext w w':=by
 have HA:=kI (fun W mv vv (h:RdM W mv exW) (k:RdRs W vv [])=>stagesI_any mv vv exW [] (-1) W h k exW_lim limL_nil lenL_nil);have HB:=kI (fun W mv vv (h:RdM W mv exM) (k:RdRs W vv [])=>stagesI_any mv vv exM [] (-1) W h k exM_lim limL_nil lenL_nil);have HC:=kI (fun W mv vv (h:RdM W mv exM) (k:RdRs W vv [exB])=>stagesI_any mv vv exM [exB] 25 W h k exM_lim (limL_one exB_lim) lenL_B);have HD:=kI (fun W mv vv (h:RdM W mv exM) (k:RdRs W vv [exB])=>stagesI_any mv vv exM [exB] 1 W h k exM_lim (limL_one exB_lim) lenL_B);have HE:=kI (fun W mv vv (h:RdM W mv exM) (k:RdRs W vv [exB])=>stagesI_any mv vv exM [exB] 0 W h k exM_lim (limL_one exB_lim) lenL_B);have HF:=kI (fun W mv vv (h:RdM W mv exM) (k:RdRs W vv [exO])=>stagesI_any mv vv exM [exO] 24 W h k exM_lim (limL_one exO_lim) lenL_O);have HG:=kI (fun W mv vv pv (h:RdM W mv exM) (k:RdRs W vv [exO]) (g:RdPl W pv exN)=>planI_any mv vv pv exM [exO] exN W h k g exM_lim (limL_one exO_lim) lenL_O);have HH:=kI (fun W mv vv pv (h:RdM W mv exM) (k:RdRs W vv [exB,exB]) (g:RdPl W pv exN)=>planI_any mv vv pv exM [exB,exB] exN W h k g exM_lim (limL_two exB_lim exB_lim) lenL_BB);have HI:=kI (fun W mv vv pv (h:RdM W mv exM) (k:RdRs W vv [exO]) (g:RdPl W pv [[0],[0,0]])=>planI_any mv vv pv exM [exO] [[0],[0,0]] W h k g exM_lim (limL_one exO_lim) lenL_O);have HJ:=kI (fun W mv vv pv (h:RdM W mv exM) (k:RdRs W vv [exB]) (g:RdPl W pv [[1]])=>planI_any mv vv pv exM [exB] [[1]] W h k g exM_lim (limL_one exB_lim) lenL_B);have HK:=kI (fun W mv vv (h:RdM W mv exM) (k:RdRs W vv [])=>scoresI_any mv vv exM [] W h k exM_lim limL_nil lenL_nil);have HL:=kI (fun W mv vv (h:RdM W mv exM) (k:RdRs W vv [exB])=>scoresI_any mv vv exM [exB] W h k exM_lim (limL_one exB_lim) lenL_B);have HN:=kI (fun W mv pv (h:RdM W mv exW) (g:RdPl W pv [])=>chancesI_any mv pv exW [] 0 W h g exW_lim);have HO:=kI (fun W mv pv (h:RdM W mv exM) (g:RdPl W pv exN)=>chancesI_any mv pv exM exN 1 W h g exM_lim);have HP:=kI (fun W mv pv (h:RdM W mv exM) (g:RdPl W pv exN)=>chancesI_any mv pv exM exN 0 W h g exM_lim)
 have HQ:=kI (fun W mv pv (h:RdM W mv exM) (g:RdPl W pv [[7],[0,0]])=>chancesI_any mv pv exM [[7],[0,0]] 0 W h g exM_lim);have HR:=kI (fun W mv pv (h:RdM W mv exM) (g:RdPl W pv [[0,0],[7]])=>chancesI_any mv pv exM [[0,0],[7]] 0 W h g exM_lim);have HS:=kI (fun W mv pv (h:RdM W mv exM) (g:RdPl W pv [])=>chancesI_any mv pv exM [] 0 W h g exM_lim);have X:Hid (Ext w w):=kI (Ext.refl w);go_enter Tryz.func5,Tryz.ntmps5
 go_wp2_with fail;refine (awake22_any w).mono ?_;rintro e w1 ⟨rfl,hx⟩;replace X:=kI (X.o.trans hx);clear hx;go_wp2_with fail;refine (refFromR_any 1 w1 (by decide) (by decide)).mono ?_;rintro e w2 ⟨⟨v,rfl,nn⟩,hx⟩;replace X:=kI (X.o.trans hx);change NewR _ _ _ exO at nn;obtain ⟨oa1,oc1,oa2,oc2,rfl⟩:=nn.shape;have OR:=kI nn.rd;clear nn;clear hx;go_wp2_with fail;obtain ⟨s3,hs3⟩:=gN (w2.heap.size);rw [← hs3];obtain ⟨w3,hw3⟩:=gN ((((((((w2.alloc (.cells #[.bool exO.neg,.slice oa1 exO.num.length oc1,.slice oa2 exO.den.length oc2] 25)).alloc (.cells #[.bool true,.slice none 0 0,.slice none 0 0] 25)).alloc (.cells #[.int .i64 0,.bool exO.neg,.slice oa1 exO.num.length oc1,.slice oa2 exO.den.length oc2] 59)).alloc (.cells #[.bool exO.neg,.slice oa1 exO.num.length oc1,.slice oa2 exO.den.length oc2,.slice (some ⟨s3+1+1,0,none⟩) 1 1] 62)).alloc (.cells #[.slice (some ⟨s3+1+1+1,0,none⟩) 1 1] 63)).alloc (.cells #[.bool exO.neg,.slice oa1 exO.num.length oc1,.slice oa2 exO.den.length oc2,.slice (some ⟨s3+1+1+1+1,0,none⟩) 1 1] 28)).alloc (.cells #[.bool exO.neg,.slice oa1 exO.num.length oc1,.slice oa2 exO.den.length oc2,.slice none 0 0] 28)));have hx:Ext w2 w3:=by rw [hw3];exact (((((((Ext.refl _).alloc _).alloc _).alloc _).alloc _).alloc _).alloc _).alloc _
 have bb0:Blk w3 (s3) #[.bool exO.neg,.slice oa1 exO.num.length oc1,.slice oa2 exO.den.length oc2] 25:=by
  have h:=(((((((Blk.new w2 #[.bool exO.neg,.slice oa1 exO.num.length oc1,.slice oa2 exO.den.length oc2] 25).alloc (.cells #[.bool true,.slice none 0 0,.slice none 0 0] 25)).alloc (.cells #[.int .i64 0,.bool exO.neg,.slice oa1 exO.num.length oc1,.slice oa2 exO.den.length oc2] 59)).alloc (.cells #[.bool exO.neg,.slice oa1 exO.num.length oc1,.slice oa2 exO.den.length oc2,.slice (some ⟨s3+1+1,0,none⟩) 1 1] 62)).alloc (.cells #[.slice (some ⟨s3+1+1+1,0,none⟩) 1 1] 63)).alloc (.cells #[.bool exO.neg,.slice oa1 exO.num.length oc1,.slice oa2 exO.den.length oc2,.slice (some ⟨s3+1+1+1+1,0,none⟩) 1 1] 28)).alloc (.cells #[.bool exO.neg,.slice oa1 exO.num.length oc1,.slice oa2 exO.den.length oc2,.slice none 0 0] 28));rw [← hw3,← hs3] at h;exact h
 have bb1:Blk w3 (s3+1) #[.bool true,.slice none 0 0,.slice none 0 0] 25:=by
  have h:=((((((Blk.new (w2.alloc (.cells #[.bool exO.neg,.slice oa1 exO.num.length oc1,.slice oa2 exO.den.length oc2] 25)) #[.bool true,.slice none 0 0,.slice none 0 0] 25).alloc (.cells #[.int .i64 0,.bool exO.neg,.slice oa1 exO.num.length oc1,.slice oa2 exO.den.length oc2] 59)).alloc (.cells #[.bool exO.neg,.slice oa1 exO.num.length oc1,.slice oa2 exO.den.length oc2,.slice (some ⟨s3+1+1,0,none⟩) 1 1] 62)).alloc (.cells #[.slice (some ⟨s3+1+1+1,0,none⟩) 1 1] 63)).alloc (.cells #[.bool exO.neg,.slice oa1 exO.num.length oc1,.slice oa2 exO.den.length oc2,.slice (some ⟨s3+1+1+1+1,0,none⟩) 1 1] 28)).alloc (.cells #[.bool exO.neg,.slice oa1 exO.num.length oc1,.slice oa2 exO.den.length oc2,.slice none 0 0] 28));rw [World.size_alloc] at h;rw [← hw3,← hs3] at h;exact h
 have bb2:Blk w3 (s3+1+1) #[.int .i64 0,.bool exO.neg,.slice oa1 exO.num.length oc1,.slice oa2 exO.den.length oc2] 59:=by
  have h:=(((((Blk.new ((w2.alloc (.cells #[.bool exO.neg,.slice oa1 exO.num.length oc1,.slice oa2 exO.den.length oc2] 25)).alloc (.cells #[.bool true,.slice none 0 0,.slice none 0 0] 25)) #[.int .i64 0,.bool exO.neg,.slice oa1 exO.num.length oc1,.slice oa2 exO.den.length oc2] 59).alloc (.cells #[.bool exO.neg,.slice oa1 exO.num.length oc1,.slice oa2 exO.den.length oc2,.slice (some ⟨s3+1+1,0,none⟩) 1 1] 62)).alloc (.cells #[.slice (some ⟨s3+1+1+1,0,none⟩) 1 1] 63)).alloc (.cells #[.bool exO.neg,.slice oa1 exO.num.length oc1,.slice oa2 exO.den.length oc2,.slice (some ⟨s3+1+1+1+1,0,none⟩) 1 1] 28)).alloc (.cells #[.bool exO.neg,.slice oa1 exO.num.length oc1,.slice oa2 exO.den.length oc2,.slice none 0 0] 28));rw [World.size_alloc,World.size_alloc] at h;rw [← hw3,← hs3] at h;exact h
 have bb3:Blk w3 (s3+1+1+1) #[.bool exO.neg,.slice oa1 exO.num.length oc1,.slice oa2 exO.den.length oc2,.slice (some ⟨s3+1+1,0,none⟩) 1 1] 62:=by
  have h:=((((Blk.new (((w2.alloc (.cells #[.bool exO.neg,.slice oa1 exO.num.length oc1,.slice oa2 exO.den.length oc2] 25)).alloc (.cells #[.bool true,.slice none 0 0,.slice none 0 0] 25)).alloc (.cells #[.int .i64 0,.bool exO.neg,.slice oa1 exO.num.length oc1,.slice oa2 exO.den.length oc2] 59)) #[.bool exO.neg,.slice oa1 exO.num.length oc1,.slice oa2 exO.den.length oc2,.slice (some ⟨s3+1+1,0,none⟩) 1 1] 62).alloc (.cells #[.slice (some ⟨s3+1+1+1,0,none⟩) 1 1] 63)).alloc (.cells #[.bool exO.neg,.slice oa1 exO.num.length oc1,.slice oa2 exO.den.length oc2,.slice (some ⟨s3+1+1+1+1,0,none⟩) 1 1] 28)).alloc (.cells #[.bool exO.neg,.slice oa1 exO.num.length oc1,.slice oa2 exO.den.length oc2,.slice none 0 0] 28));rw [World.size_alloc,World.size_alloc,World.size_alloc] at h;rw [← hw3,← hs3] at h;exact h
 have bb4:Blk w3 (s3+1+1+1+1) #[.slice (some ⟨s3+1+1+1,0,none⟩) 1 1] 63:=by
  have h:=(((Blk.new ((((w2.alloc (.cells #[.bool exO.neg,.slice oa1 exO.num.length oc1,.slice oa2 exO.den.length oc2] 25)).alloc (.cells #[.bool true,.slice none 0 0,.slice none 0 0] 25)).alloc (.cells #[.int .i64 0,.bool exO.neg,.slice oa1 exO.num.length oc1,.slice oa2 exO.den.length oc2] 59)).alloc (.cells #[.bool exO.neg,.slice oa1 exO.num.length oc1,.slice oa2 exO.den.length oc2,.slice (some ⟨s3+1+1,0,none⟩) 1 1] 62)) #[.slice (some ⟨s3+1+1+1,0,none⟩) 1 1] 63).alloc (.cells #[.bool exO.neg,.slice oa1 exO.num.length oc1,.slice oa2 exO.den.length oc2,.slice (some ⟨s3+1+1+1+1,0,none⟩) 1 1] 28)).alloc (.cells #[.bool exO.neg,.slice oa1 exO.num.length oc1,.slice oa2 exO.den.length oc2,.slice none 0 0] 28));rw [World.size_alloc,World.size_alloc,World.size_alloc,World.size_alloc] at h;rw [← hw3,← hs3] at h;exact h
 have bb5:Blk w3 (s3+1+1+1+1+1) #[.bool exO.neg,.slice oa1 exO.num.length oc1,.slice oa2 exO.den.length oc2,.slice (some ⟨s3+1+1+1+1,0,none⟩) 1 1] 28:=by
  have h:=((Blk.new (((((w2.alloc (.cells #[.bool exO.neg,.slice oa1 exO.num.length oc1,.slice oa2 exO.den.length oc2] 25)).alloc (.cells #[.bool true,.slice none 0 0,.slice none 0 0] 25)).alloc (.cells #[.int .i64 0,.bool exO.neg,.slice oa1 exO.num.length oc1,.slice oa2 exO.den.length oc2] 59)).alloc (.cells #[.bool exO.neg,.slice oa1 exO.num.length oc1,.slice oa2 exO.den.length oc2,.slice (some ⟨s3+1+1,0,none⟩) 1 1] 62)).alloc (.cells #[.slice (some ⟨s3+1+1+1,0,none⟩) 1 1] 63)) #[.bool exO.neg,.slice oa1 exO.num.length oc1,.slice oa2 exO.den.length oc2,.slice (some ⟨s3+1+1+1+1,0,none⟩) 1 1] 28).alloc (.cells #[.bool exO.neg,.slice oa1 exO.num.length oc1,.slice oa2 exO.den.length oc2,.slice none 0 0] 28));rw [World.size_alloc,World.size_alloc,World.size_alloc,World.size_alloc,World.size_alloc] at h;rw [← hw3,← hs3] at h;exact h
 have bb6:Blk w3 (s3+1+1+1+1+1+1) #[.bool exO.neg,.slice oa1 exO.num.length oc1,.slice oa2 exO.den.length oc2,.slice none 0 0] 28:=by
  have h:=(Blk.new ((((((w2.alloc (.cells #[.bool exO.neg,.slice oa1 exO.num.length oc1,.slice oa2 exO.den.length oc2] 25)).alloc (.cells #[.bool true,.slice none 0 0,.slice none 0 0] 25)).alloc (.cells #[.int .i64 0,.bool exO.neg,.slice oa1 exO.num.length oc1,.slice oa2 exO.den.length oc2] 59)).alloc (.cells #[.bool exO.neg,.slice oa1 exO.num.length oc1,.slice oa2 exO.den.length oc2,.slice (some ⟨s3+1+1,0,none⟩) 1 1] 62)).alloc (.cells #[.slice (some ⟨s3+1+1+1,0,none⟩) 1 1] 63)).alloc (.cells #[.bool exO.neg,.slice oa1 exO.num.length oc1,.slice oa2 exO.den.length oc2,.slice (some ⟨s3+1+1+1+1,0,none⟩) 1 1] 28)) #[.bool exO.neg,.slice oa1 exO.num.length oc1,.slice oa2 exO.den.length oc2,.slice none 0 0] 28);rw [World.size_alloc,World.size_alloc,World.size_alloc,World.size_alloc,World.size_alloc,World.size_alloc] at h;rw [← hw3,← hs3] at h;exact h
 rw [← hw3];replace OR:=kI (OR.o.ext hx);replace X:=kI (X.o.trans hx);have B1:=kI bb0;have B2:=kI bb1;have M1:=kI bb2;have M2:=kI bb3;have M3:=kI bb4;have BM:=kI bb5;have BW:=kI bb6;clear hx hw3 hs3 bb0 bb1 bb2 bb3 bb4 bb5 bb6;have MR:Hid (RdM w3 (.agg #[.bool exO.neg,.slice oa1 exO.num.length oc1,.slice oa2 exO.den.length oc2,.slice (some ⟨s3+1+1+1+1,0,none⟩) 1 1]) exM):=kI (exM_rd OR.o M1.o M2.o M3.o);have WR:Hid (RdM w3 (.agg #[.bool exO.neg,.slice oa1 exO.num.length oc1,.slice oa2 exO.den.length oc2,.slice none 0 0]) exW):=kI (exW_rd OR.o);clear M1 M2 M3;refine (HA.o w3 _ _ WR.o (RdRs.nil w3 none)).mono ?_;rintro e w4 ⟨hr,hx⟩;replace OR:=kI (OR.o.ext hx);replace B1:=kI (B1.o.ext hx);replace B2:=kI (B2.o.ext hx);replace BM:=kI (BM.o.ext hx);replace BW:=kI (BW.o.ext hx);replace MR:=kI (MR.o.ext hx);replace WR:=kI (WR.o.ext hx);replace X:=kI (X.o.trans hx);obtain ⟨rA1,rA2,rA3,rA4,rfl,-⟩:=stg_res hr kA;clear hr;clear hx;obtain ⟨qB1,fB1,lB1⟩:=B1.o.q3;obtain ⟨qB2,fB2,lB2⟩:=B2.o.q3;obtain ⟨qBM,fBM,lBM⟩:=BM.o.q3;obtain ⟨qBW,fBW,lBW⟩:=BW.o.q3;go_wp2_with fail;refine (HB.o w4 _ _ MR.o (RdRs.nil w4 none)).mono ?_;rintro e w5 ⟨hr,hx⟩;clear qB1 fB1 lB1 qB2 fB2 lB2 qBM fBM lBM qBW fBW lBW;replace OR:=kI (OR.o.ext hx);replace B1:=kI (B1.o.ext hx);replace B2:=kI (B2.o.ext hx);replace BM:=kI (BM.o.ext hx);replace BW:=kI (BW.o.ext hx);replace MR:=kI (MR.o.ext hx);replace WR:=kI (WR.o.ext hx);replace X:=kI (X.o.trans hx);obtain ⟨rB1,rB2,rB3,rB4,rfl,-⟩:=stg_res hr kB;clear hr;clear hx;obtain ⟨qB1,fB1,lB1⟩:=B1.o.q3;obtain ⟨qB2,fB2,lB2⟩:=B2.o.q3;obtain ⟨qBM,fBM,lBM⟩:=BM.o.q3;obtain ⟨qBW,fBW,lBW⟩:=BW.o.q3;go_wp2_with fail;obtain ⟨s6,hs6⟩:=gN (w5.heap.size);rw [← hs6];obtain ⟨w6,hw6⟩:=gN ((w5.alloc (.cells #[.bool true,.slice none 0 0,.slice none 0 0] 25)));have hx:Ext w5 w6:=by rw [hw6];exact (Ext.refl _).alloc _
 have bb0:Blk w6 (s6) #[.bool true,.slice none 0 0,.slice none 0 0] 25:=by
  have h:=(Blk.new w5 #[.bool true,.slice none 0 0,.slice none 0 0] 25);rw [← hw6,← hs6] at h;exact h
 rw [← hw6];clear qB1 fB1 lB1 qB2 fB2 lB2 qBM fBM lBM qBW fBW lBW;replace OR:=kI (OR.o.ext hx);replace B1:=kI (B1.o.ext hx);replace B2:=kI (B2.o.ext hx);replace BM:=kI (BM.o.ext hx);replace BW:=kI (BW.o.ext hx);replace MR:=kI (MR.o.ext hx);replace WR:=kI (WR.o.ext hx);replace X:=kI (X.o.trans hx);have LC:=kI bb0;clear hx hw6 hs6 bb0;have VC:Hid (RdRs w6 (.slice (some ⟨s6,0,none⟩) 1 1) [exB]):=kI (rdRs_one LC.o (exB_rd _));refine (HC.o w6 _ _ MR.o VC.o).mono ?_;rintro e w7 ⟨hr,hx⟩;replace OR:=kI (OR.o.ext hx);replace B1:=kI (B1.o.ext hx);replace B2:=kI (B2.o.ext hx);replace BM:=kI (BM.o.ext hx);replace BW:=kI (BW.o.ext hx);replace MR:=kI (MR.o.ext hx);replace WR:=kI (WR.o.ext hx);replace VC:=kI (VC.o.ext hx);replace X:=kI (X.o.trans hx);obtain ⟨rC1,rC2,rC3,rC4,rfl,-⟩:=stg_res hr kC;clear hr;clear hx;obtain ⟨qB1,fB1,lB1⟩:=B1.o.q3;obtain ⟨qB2,fB2,lB2⟩:=B2.o.q3;obtain ⟨qBM,fBM,lBM⟩:=BM.o.q3;obtain ⟨qBW,fBW,lBW⟩:=BW.o.q3;go_wp2_with fail;obtain ⟨s8,hs8⟩:=gN (w7.heap.size);rw [← hs8];obtain ⟨w8,hw8⟩:=gN ((w7.alloc (.cells #[.bool true,.slice none 0 0,.slice none 0 0] 25)));have hx:Ext w7 w8:=by rw [hw8];exact (Ext.refl _).alloc _
 have bb0:Blk w8 (s8) #[.bool true,.slice none 0 0,.slice none 0 0] 25:=by
  have h:=(Blk.new w7 #[.bool true,.slice none 0 0,.slice none 0 0] 25);rw [← hw8,← hs8] at h;exact h
 rw [← hw8];clear qB1 fB1 lB1 qB2 fB2 lB2 qBM fBM lBM qBW fBW lBW;replace OR:=kI (OR.o.ext hx);replace B1:=kI (B1.o.ext hx);replace B2:=kI (B2.o.ext hx);replace BM:=kI (BM.o.ext hx);replace BW:=kI (BW.o.ext hx);replace MR:=kI (MR.o.ext hx);replace WR:=kI (WR.o.ext hx);replace VC:=kI (VC.o.ext hx);replace X:=kI (X.o.trans hx);have LD:=kI bb0;clear hx hw8 hs8 bb0;have VD:Hid (RdRs w8 (.slice (some ⟨s8,0,none⟩) 1 1) [exB]):=kI (rdRs_one LD.o (exB_rd _));refine (HD.o w8 _ _ MR.o VD.o).mono ?_;rintro e w9 ⟨hr,hx⟩;replace OR:=kI (OR.o.ext hx);replace B1:=kI (B1.o.ext hx);replace B2:=kI (B2.o.ext hx);replace BM:=kI (BM.o.ext hx);replace BW:=kI (BW.o.ext hx);replace MR:=kI (MR.o.ext hx);replace WR:=kI (WR.o.ext hx);replace VC:=kI (VC.o.ext hx);replace VD:=kI (VD.o.ext hx);replace X:=kI (X.o.trans hx);obtain ⟨rD1,rD2,rD3,rD4,rfl,-⟩:=stg_res hr kD;clear hr;clear hx;obtain ⟨qB1,fB1,lB1⟩:=B1.o.q3;obtain ⟨qB2,fB2,lB2⟩:=B2.o.q3;obtain ⟨qBM,fBM,lBM⟩:=BM.o.q3;obtain ⟨qBW,fBW,lBW⟩:=BW.o.q3;go_wp2_with fail;obtain ⟨s10,hs10⟩:=gN (w9.heap.size);rw [← hs10];obtain ⟨w10,hw10⟩:=gN ((w9.alloc (.cells #[.bool true,.slice none 0 0,.slice none 0 0] 25)));have hx:Ext w9 w10:=by rw [hw10];exact (Ext.refl _).alloc _
 have bb0:Blk w10 (s10) #[.bool true,.slice none 0 0,.slice none 0 0] 25:=by
  have h:=(Blk.new w9 #[.bool true,.slice none 0 0,.slice none 0 0] 25);rw [← hw10,← hs10] at h;exact h
 rw [← hw10];clear qB1 fB1 lB1 qB2 fB2 lB2 qBM fBM lBM qBW fBW lBW;replace OR:=kI (OR.o.ext hx);replace B1:=kI (B1.o.ext hx);replace B2:=kI (B2.o.ext hx);replace BM:=kI (BM.o.ext hx);replace BW:=kI (BW.o.ext hx);replace MR:=kI (MR.o.ext hx);replace WR:=kI (WR.o.ext hx);replace VC:=kI (VC.o.ext hx);replace VD:=kI (VD.o.ext hx);replace X:=kI (X.o.trans hx);have LE:=kI bb0;clear hx hw10 hs10 bb0;have VE:Hid (RdRs w10 (.slice (some ⟨s10,0,none⟩) 1 1) [exB]):=kI (rdRs_one LE.o (exB_rd _));refine (HE.o w10 _ _ MR.o VE.o).mono ?_;rintro e w11 ⟨hr,hx⟩;replace OR:=kI (OR.o.ext hx);replace B1:=kI (B1.o.ext hx);replace B2:=kI (B2.o.ext hx);replace BM:=kI (BM.o.ext hx);replace BW:=kI (BW.o.ext hx);replace MR:=kI (MR.o.ext hx);replace WR:=kI (WR.o.ext hx);replace VC:=kI (VC.o.ext hx);replace VD:=kI (VD.o.ext hx);replace VE:=kI (VE.o.ext hx);replace X:=kI (X.o.trans hx);obtain ⟨rE1,rE2,rE3,rE4,rfl⟩:=stg_resE hr;clear hr;clear hx;obtain ⟨qB1,fB1,lB1⟩:=B1.o.q3;obtain ⟨qB2,fB2,lB2⟩:=B2.o.q3;obtain ⟨qBM,fBM,lBM⟩:=BM.o.q3;obtain ⟨qBW,fBW,lBW⟩:=BW.o.q3;go_wp2_with fail;obtain ⟨s12,hs12⟩:=gN (w11.heap.size);rw [← hs12];obtain ⟨w12,hw12⟩:=gN ((w11.alloc (.cells #[.bool exO.neg,.slice oa1 exO.num.length oc1,.slice oa2 exO.den.length oc2] 25)));have hx:Ext w11 w12:=by rw [hw12];exact (Ext.refl _).alloc _
 have bb0:Blk w12 (s12) #[.bool exO.neg,.slice oa1 exO.num.length oc1,.slice oa2 exO.den.length oc2] 25:=by
  have h:=(Blk.new w11 #[.bool exO.neg,.slice oa1 exO.num.length oc1,.slice oa2 exO.den.length oc2] 25);rw [← hw12,← hs12] at h;exact h
 rw [← hw12];clear qB1 fB1 lB1 qB2 fB2 lB2 qBM fBM lBM qBW fBW lBW;replace OR:=kI (OR.o.ext hx);replace B1:=kI (B1.o.ext hx);replace B2:=kI (B2.o.ext hx);replace BM:=kI (BM.o.ext hx);replace BW:=kI (BW.o.ext hx);replace MR:=kI (MR.o.ext hx);replace WR:=kI (WR.o.ext hx);replace VC:=kI (VC.o.ext hx);replace VD:=kI (VD.o.ext hx);replace VE:=kI (VE.o.ext hx);replace X:=kI (X.o.trans hx);have LF:=kI bb0;clear hx hw12 hs12 bb0;have VF:Hid (RdRs w12 (.slice (some ⟨s12,0,none⟩) 1 1) [exO]):=kI (rdRs_one LF.o OR.o);refine (HF.o w12 _ _ MR.o VF.o).mono ?_;rintro e w13 ⟨hr,hx⟩;replace OR:=kI (OR.o.ext hx);replace B1:=kI (B1.o.ext hx);replace B2:=kI (B2.o.ext hx);replace BM:=kI (BM.o.ext hx);replace BW:=kI (BW.o.ext hx);replace MR:=kI (MR.o.ext hx);replace WR:=kI (WR.o.ext hx);replace VC:=kI (VC.o.ext hx);replace VD:=kI (VD.o.ext hx);replace VE:=kI (VE.o.ext hx);replace VF:=kI (VF.o.ext hx);replace X:=kI (X.o.trans hx);obtain ⟨rF1,rF2,rF3,rF4,rfl,gF,hg1,hg2,hg3⟩:=stg_resF hr;have GF1:=kI hg1;have GF2:=kI hg2;have RGF:=kI hg3;clear hr hg1 hg2 hg3;clear hx;obtain ⟨qB1,fB1,lB1⟩:=B1.o.q3;obtain ⟨qB2,fB2,lB2⟩:=B2.o.q3;obtain ⟨qBM,fBM,lBM⟩:=BM.o.q3;obtain ⟨qBW,fBW,lBW⟩:=BW.o.q3;go_wp2_with fail;clear qB1 fB1 lB1 qB2 fB2 lB2 qBM fBM lBM qBW fBW lBW;refine wp_region_each_float 8 7 (exA (.agg #[.bool exO.neg,.slice oa1 exO.num.length oc1,.slice oa2 exO.den.length oc2,.slice (some ⟨s3+1+1+1+1,0,none⟩) 1 1]) (.agg #[.bool exO.neg,.slice oa1 exO.num.length oc1,.slice oa2 exO.den.length oc2])) rfl (by kernel_rfl) (by kernel_rfl) (by kernel_rfl) (fun _ _ _ _ h x=>exA_ext h x) (fun _ _ d _ _ h=>by cases d <;> exact h) ?_ ?_ ?_
 ·refine ⟨?_,?_,?_,?_,?_,?_,?_,?_,trivial⟩
  ·intro a W hW hB hD K hK;have b3:=hB 3 rfl;simp only [sB] at b3;have q9:=(BM.o.ext hW).cell;have l9:=(BM.o.ext hW).lt;go_simp;exact hK _ _ (Ext.refl _) rfl
  ·intro a W hW hB hD K hK;have b1:=hB 1 rfl;simp only [sB] at b1;have q9:=(B1.o.ext hW).cell;have l9:=(B1.o.ext hW).lt;go_simp;exact hK _ _ (Ext.refl _) rfl
  ·intro a W hW hB hD K hK;obtain ⟨v111,e111,h111⟩:=dpE (hD 1 _ 111 rfl rfl (by kernel_rfl));obtain rfl:=h111;go_simp;exact hK _ _ ((Ext.refl _).alloc _) ⟨_,rfl,rdRs_one (Blk.new _ _ _) (OR.o.ext (hW.trans ((Ext.refl _).alloc _)))⟩
  ·intro a W hW hB hD K hK;have hr:=make_run W 25 Tryz.underlying30 Tryz.infoRowP (by decide) (by decide);go_simp;rw [show (Instr.makeSlice 30 (.int .i64 25) (.int .i64 25)).run Tryz.prog W=_ from hr];exact hK _ _ ((Ext.refl _).alloc _) ⟨_,rfl,rdPl25 (Blk.new _ _ _)⟩
  ·intro a W hW hB hD K hK;obtain ⟨v110,e110,h110⟩:=dpE (hD 0 _ 110 rfl rfl (by kernel_rfl));obtain rfl:=h110;obtain ⟨v112,e112,h112⟩:=dpE (hD 2 _ 112 rfl rfl (by kernel_rfl));obtain ⟨b9,rfl,d2⟩:=h112;obtain ⟨v113,e113,h113⟩:=dpE (hD 3 _ 113 rfl rfl (by kernel_rfl));obtain ⟨b8,rfl,d3⟩:=h113;go_simp;refine (HG.o _ _ _ _ (MR.o.ext hW) d2 d3).mono ?_;rintro e w9 ⟨hr,hx⟩;obtain ⟨a1,c1,rfl,-⟩:=pln_res hr kG;exact hK _ _ hx ⟨_,_,_,rfl⟩
  ·intro a W hW hB hD K hK;obtain ⟨v114,e114,h114⟩:=dpE (hD 4 _ 114 rfl rfl (by kernel_rfl));obtain ⟨a1,c0,c1,rfl⟩:=h114;go_simp;exact hK _ _ (Ext.refl _) ⟨_,_,_,rfl⟩
  ·intro a W hW hB hD K hK;obtain ⟨v109,e109,h109⟩:=dpE (hD 5 _ 109 rfl rfl (by kernel_rfl));obtain ⟨a1,c0,c1,rfl⟩:=h109;go_simp;exact hK _ _ (Ext.refl _) ⟨_,_,_,rfl⟩
  ·intro a W hW hB hD K hK;obtain ⟨v109,e109,h109⟩:=dpE (hD 5 _ 109 rfl rfl (by kernel_rfl));obtain ⟨a1,c0,c1,rfl⟩:=h109;go_simp;exact hK _ _ (Ext.refl _) rfl
 ·intro a W hW hB hD;have h109:=hD 5 _ 109 rfl rfl (by kernel_rfl);obtain ⟨v109,e109⟩:∃ x,a.tmps.getD 109 undef=x:=⟨_,rfl⟩;rw [e109] at h109;obtain ⟨a1,c0,c1,rfl⟩:=h109;exact ⟨.int .i64 4,fun w9=>run_extract9 e109 rfl rfl w9,rfl⟩
 intro w14 hx;simp only [Vals,List.take_succ_cons,List.take_zero,List.drop_succ_cons,List.drop_zero];rintro u0 - u1 - u2 - u3 - u4 - u5 - u6 h6 u7 h7;obtain ⟨x1101,x1102,x1103,rfl⟩:=h6;obtain rfl:u7=.int .i64 4:=h7;simp only [Act.put,List.setIfInBounds_toArray,List.set_cons_zero,List.set_cons_succ];replace OR:=kI (OR.o.ext hx);replace B1:=kI (B1.o.ext hx);replace B2:=kI (B2.o.ext hx);replace BM:=kI (BM.o.ext hx);replace BW:=kI (BW.o.ext hx);replace MR:=kI (MR.o.ext hx);replace WR:=kI (WR.o.ext hx);replace VC:=kI (VC.o.ext hx);replace VD:=kI (VD.o.ext hx);replace VE:=kI (VE.o.ext hx);replace VF:=kI (VF.o.ext hx);replace RGF:=kI (RGF.o.ext hx);replace X:=kI (X.o.trans hx);clear hx;obtain ⟨qB1,fB1,lB1⟩:=B1.o.q3;obtain ⟨qB2,fB2,lB2⟩:=B2.o.q3;obtain ⟨qBM,fBM,lBM⟩:=BM.o.q3;obtain ⟨qBW,fBW,lBW⟩:=BW.o.q3;go_wp2_with fail;clear qB1 fB1 lB1 qB2 fB2 lB2 qBM fBM lBM qBW fBW lBW;refine wp_region_each_float 9 8 (exC (.agg #[.bool exO.neg,.slice oa1 exO.num.length oc1,.slice oa2 exO.den.length oc2,.slice (some ⟨s3+1+1+1+1,0,none⟩) 1 1])) rfl (by kernel_rfl) (by kernel_rfl) (by kernel_rfl) (fun _ _ _ _ h x=>exC_ext h x) (fun _ _ d _ _ h=>by cases d <;> exact h) ?_ ?_ ?_
 ·refine ⟨?_,?_,?_,?_,?_,?_,?_,?_,?_,trivial⟩
  ·intro a W hW hB hD K hK;have b3:=hB 3 rfl;simp only [sB] at b3;have q9:=(BM.o.ext hW).cell;have l9:=(BM.o.ext hW).lt;go_simp;exact hK _ _ (Ext.refl _) rfl
  ·intro a W hW hB hD K hK;have b2:=hB 2 rfl;simp only [sB] at b2;have q9:=(B2.o.ext hW).cell;have l9:=(B2.o.ext hW).lt;go_simp;exact hK _ _ (Ext.refl _) rfl
  ·intro a W hW hB hD K hK;have b2:=hB 2 rfl;simp only [sB] at b2;have q9:=(B2.o.ext hW).cell;have l9:=(B2.o.ext hW).lt;go_simp;exact hK _ _ (Ext.refl _) rfl
  ·intro a W hW hB hD K hK;obtain ⟨v119,e119,h119⟩:=dpE (hD 1 _ 119 rfl rfl (by kernel_rfl));obtain rfl:=h119;obtain ⟨v120,e120,h120⟩:=dpE (hD 2 _ 120 rfl rfl (by kernel_rfl));obtain rfl:=h120;go_simp;exact hK _ _ ((Ext.refl _).alloc _) ⟨_,rfl,rdRs_two (Blk.new _ _ _) (exB_rd _) (exB_rd _)⟩
  ·intro a W hW hB hD K hK;have hr:=make_run W 25 Tryz.underlying30 Tryz.infoRowP (by decide) (by decide);go_simp;rw [show (Instr.makeSlice 30 (.int .i64 25) (.int .i64 25)).run Tryz.prog W=_ from hr];exact hK _ _ ((Ext.refl _).alloc _) ⟨_,rfl,rdPl25 (Blk.new _ _ _)⟩
  ·intro a W hW hB hD K hK;obtain ⟨v118,e118,h118⟩:=dpE (hD 0 _ 118 rfl rfl (by kernel_rfl));obtain rfl:=h118;obtain ⟨v121,e121,h121⟩:=dpE (hD 3 _ 121 rfl rfl (by kernel_rfl));obtain ⟨b9,rfl,d2⟩:=h121;obtain ⟨v122,e122,h122⟩:=dpE (hD 4 _ 122 rfl rfl (by kernel_rfl));obtain ⟨b8,rfl,d3⟩:=h122;go_simp;refine (HH.o _ _ _ _ (MR.o.ext hW) d2 d3).mono ?_;rintro e w9 ⟨hr,hx⟩;obtain ⟨a1,c1,rfl,-⟩:=pln_res hr kH;exact hK _ _ hx ⟨_,_,_,rfl⟩
  ·intro a W hW hB hD K hK;obtain ⟨v123,e123,h123⟩:=dpE (hD 5 _ 123 rfl rfl (by kernel_rfl));obtain ⟨a1,c0,c1,rfl⟩:=h123;go_simp;exact hK _ _ (Ext.refl _) ⟨_,_,_,rfl⟩
  ·intro a W hW hB hD K hK;obtain ⟨v117,e117,h117⟩:=dpE (hD 6 _ 117 rfl rfl (by kernel_rfl));obtain ⟨a1,c0,c1,rfl⟩:=h117;go_simp;exact hK _ _ (Ext.refl _) ⟨_,_,_,rfl⟩
  ·intro a W hW hB hD K hK;obtain ⟨v117,e117,h117⟩:=dpE (hD 6 _ 117 rfl rfl (by kernel_rfl));obtain ⟨a1,c0,c1,rfl⟩:=h117;go_simp;exact hK _ _ (Ext.refl _) rfl
 ·intro a W hW hB hD;have h117:=hD 6 _ 117 rfl rfl (by kernel_rfl);obtain ⟨v117,e117⟩:∃ x,a.tmps.getD 117 undef=x:=⟨_,rfl⟩;rw [e117] at h117;obtain ⟨a1,c0,c1,rfl⟩:=h117;exact ⟨.int .i64 16,fun w9=>run_extract9 e117 rfl rfl w9,rfl⟩
 intro w15 hx;simp only [Vals,List.take_succ_cons,List.take_zero,List.drop_succ_cons,List.drop_zero];rintro u0 - u1 - u2 - u3 - u4 - u5 - u6 - u7 h7 u8 h8;obtain ⟨x1181,x1182,x1183,rfl⟩:=h7;obtain rfl:u8=.int .i64 16:=h8;simp only [Act.put,List.setIfInBounds_toArray,List.set_cons_zero,List.set_cons_succ];replace OR:=kI (OR.o.ext hx);replace B1:=kI (B1.o.ext hx);replace B2:=kI (B2.o.ext hx);replace BM:=kI (BM.o.ext hx);replace BW:=kI (BW.o.ext hx);replace MR:=kI (MR.o.ext hx);replace WR:=kI (WR.o.ext hx);replace VC:=kI (VC.o.ext hx);replace VD:=kI (VD.o.ext hx);replace VE:=kI (VE.o.ext hx);replace VF:=kI (VF.o.ext hx);replace RGF:=kI (RGF.o.ext hx);replace X:=kI (X.o.trans hx);clear hx;obtain ⟨qB1,fB1,lB1⟩:=B1.o.q3;obtain ⟨qB2,fB2,lB2⟩:=B2.o.q3;obtain ⟨qBM,fBM,lBM⟩:=BM.o.q3;obtain ⟨qBW,fBW,lBW⟩:=BW.o.q3;go_wp2_with fail;obtain ⟨s16,hs16⟩:=gN (w15.heap.size);rw [← hs16];obtain ⟨w16,hw16⟩:=gN (((((w15.alloc (.cells #[.bool exO.neg,.slice oa1 exO.num.length oc1,.slice oa2 exO.den.length oc2] 25)).alloc (.cells #[.int .i64 0] 3)).alloc (.cells #[.int .i64 0,.int .i64 0] 3)).alloc (.cells #[.slice (some ⟨s16+1,0,none⟩) 1 1,.slice (some ⟨s16+1+1,0,none⟩) 2 2] 64)));have hx:Ext w15 w16:=by rw [hw16];exact ((((Ext.refl _).alloc _).alloc _).alloc _).alloc _
 have bb0:Blk w16 (s16) #[.bool exO.neg,.slice oa1 exO.num.length oc1,.slice oa2 exO.den.length oc2] 25:=by
  have h:=((((Blk.new w15 #[.bool exO.neg,.slice oa1 exO.num.length oc1,.slice oa2 exO.den.length oc2] 25).alloc (.cells #[.int .i64 0] 3)).alloc (.cells #[.int .i64 0,.int .i64 0] 3)).alloc (.cells #[.slice (some ⟨s16+1,0,none⟩) 1 1,.slice (some ⟨s16+1+1,0,none⟩) 2 2] 64));rw [← hw16,← hs16] at h;exact h
 have bb1:Blk w16 (s16+1) #[.int .i64 0] 3:=by
  have h:=(((Blk.new (w15.alloc (.cells #[.bool exO.neg,.slice oa1 exO.num.length oc1,.slice oa2 exO.den.length oc2] 25)) #[.int .i64 0] 3).alloc (.cells #[.int .i64 0,.int .i64 0] 3)).alloc (.cells #[.slice (some ⟨s16+1,0,none⟩) 1 1,.slice (some ⟨s16+1+1,0,none⟩) 2 2] 64));rw [World.size_alloc] at h;rw [← hw16,← hs16] at h;exact h
 have bb2:Blk w16 (s16+1+1) #[.int .i64 0,.int .i64 0] 3:=by
  have h:=((Blk.new ((w15.alloc (.cells #[.bool exO.neg,.slice oa1 exO.num.length oc1,.slice oa2 exO.den.length oc2] 25)).alloc (.cells #[.int .i64 0] 3)) #[.int .i64 0,.int .i64 0] 3).alloc (.cells #[.slice (some ⟨s16+1,0,none⟩) 1 1,.slice (some ⟨s16+1+1,0,none⟩) 2 2] 64));rw [World.size_alloc,World.size_alloc] at h;rw [← hw16,← hs16] at h;exact h
 have bb3:Blk w16 (s16+1+1+1) #[.slice (some ⟨s16+1,0,none⟩) 1 1,.slice (some ⟨s16+1+1,0,none⟩) 2 2] 64:=by
  have h:=(Blk.new (((w15.alloc (.cells #[.bool exO.neg,.slice oa1 exO.num.length oc1,.slice oa2 exO.den.length oc2] 25)).alloc (.cells #[.int .i64 0] 3)).alloc (.cells #[.int .i64 0,.int .i64 0] 3)) #[.slice (some ⟨s16+1,0,none⟩) 1 1,.slice (some ⟨s16+1+1,0,none⟩) 2 2] 64);rw [World.size_alloc,World.size_alloc,World.size_alloc] at h;rw [← hw16,← hs16] at h;exact h
 rw [← hw16];clear qB1 fB1 lB1 qB2 fB2 lB2 qBM fBM lBM qBW fBW lBW;replace OR:=kI (OR.o.ext hx);replace B1:=kI (B1.o.ext hx);replace B2:=kI (B2.o.ext hx);replace BM:=kI (BM.o.ext hx);replace BW:=kI (BW.o.ext hx);replace MR:=kI (MR.o.ext hx);replace WR:=kI (WR.o.ext hx);replace VC:=kI (VC.o.ext hx);replace VD:=kI (VD.o.ext hx);replace VE:=kI (VE.o.ext hx);replace VF:=kI (VF.o.ext hx);replace RGF:=kI (RGF.o.ext hx);replace X:=kI (X.o.trans hx);have LI:=kI bb0;have PI0:=kI bb1;have PI1:=kI bb2;have PIR:=kI bb3;clear hx hw16 hs16 bb0 bb1 bb2 bb3;have PI:Hid (RdPl w16 (.slice (some ⟨s16+1+1+1,0,none⟩) 2 2) [[0],[0,0]]):=kI (rdPl_blk _ 2 PIR.o rfl (by decide) (fun i hi=>by
  match i,hi with
  | 0,_=>exact ⟨_,_,rfl,rdI_blkS [0] 1 PI0.o rfl (by decide)⟩
  | 1,_=>exact ⟨_,_,rfl,rdI_blkS [0,0] 2 PI1.o rfl (by decide)⟩))
 have VI:Hid (RdRs w16 (.slice (some ⟨s16,0,none⟩) 1 1) [exO]):=kI (rdRs_one LI.o OR.o);refine (HI.o w16 _ _ _ MR.o VI.o PI.o).mono ?_;rintro e w17 ⟨hr,hx⟩;replace OR:=kI (OR.o.ext hx);replace B1:=kI (B1.o.ext hx);replace B2:=kI (B2.o.ext hx);replace BM:=kI (BM.o.ext hx);replace BW:=kI (BW.o.ext hx);replace MR:=kI (MR.o.ext hx);replace WR:=kI (WR.o.ext hx);replace VC:=kI (VC.o.ext hx);replace VD:=kI (VD.o.ext hx);replace VE:=kI (VE.o.ext hx);replace VF:=kI (VF.o.ext hx);replace RGF:=kI (RGF.o.ext hx);replace PI:=kI (PI.o.ext hx);replace VI:=kI (VI.o.ext hx);replace X:=kI (X.o.trans hx);obtain ⟨rI1,rI2,rfl,-⟩:=pln_res hr kI9;clear hr;clear hx;obtain ⟨qB1,fB1,lB1⟩:=B1.o.q3;obtain ⟨qB2,fB2,lB2⟩:=B2.o.q3;obtain ⟨qBM,fBM,lBM⟩:=BM.o.q3;obtain ⟨qBW,fBW,lBW⟩:=BW.o.q3;go_wp2_with fail;obtain ⟨s18,hs18⟩:=gN (w17.heap.size);rw [← hs18];obtain ⟨w18,hw18⟩:=gN ((((w17.alloc (.cells #[.bool true,.slice none 0 0,.slice none 0 0] 25)).alloc (.cells #[.int .i64 1] 3)).alloc (.cells #[.slice (some ⟨s18+1,0,none⟩) 1 1] 64)));have hx:Ext w17 w18:=by rw [hw18];exact (((Ext.refl _).alloc _).alloc _).alloc _
 have bb0:Blk w18 (s18) #[.bool true,.slice none 0 0,.slice none 0 0] 25:=by
  have h:=(((Blk.new w17 #[.bool true,.slice none 0 0,.slice none 0 0] 25).alloc (.cells #[.int .i64 1] 3)).alloc (.cells #[.slice (some ⟨s18+1,0,none⟩) 1 1] 64));rw [← hw18,← hs18] at h;exact h
 have bb1:Blk w18 (s18+1) #[.int .i64 1] 3:=by
  have h:=((Blk.new (w17.alloc (.cells #[.bool true,.slice none 0 0,.slice none 0 0] 25)) #[.int .i64 1] 3).alloc (.cells #[.slice (some ⟨s18+1,0,none⟩) 1 1] 64));rw [World.size_alloc] at h;rw [← hw18,← hs18] at h;exact h
 have bb2:Blk w18 (s18+1+1) #[.slice (some ⟨s18+1,0,none⟩) 1 1] 64:=by
  have h:=(Blk.new ((w17.alloc (.cells #[.bool true,.slice none 0 0,.slice none 0 0] 25)).alloc (.cells #[.int .i64 1] 3)) #[.slice (some ⟨s18+1,0,none⟩) 1 1] 64);rw [World.size_alloc,World.size_alloc] at h;rw [← hw18,← hs18] at h;exact h
 rw [← hw18];clear qB1 fB1 lB1 qB2 fB2 lB2 qBM fBM lBM qBW fBW lBW;replace OR:=kI (OR.o.ext hx);replace B1:=kI (B1.o.ext hx);replace B2:=kI (B2.o.ext hx);replace BM:=kI (BM.o.ext hx);replace BW:=kI (BW.o.ext hx);replace MR:=kI (MR.o.ext hx);replace WR:=kI (WR.o.ext hx);replace VC:=kI (VC.o.ext hx);replace VD:=kI (VD.o.ext hx);replace VE:=kI (VE.o.ext hx);replace VF:=kI (VF.o.ext hx);replace RGF:=kI (RGF.o.ext hx);replace PI:=kI (PI.o.ext hx);replace VI:=kI (VI.o.ext hx);replace X:=kI (X.o.trans hx);have LJ:=kI bb0;have PJ0:=kI bb1;have PJR:=kI bb2;clear hx hw18 hs18 bb0 bb1 bb2;have PJ:Hid (RdPl w18 (.slice (some ⟨s18+1+1,0,none⟩) 1 1) [[1]]):=kI (rdPl_blk _ 1 PJR.o rfl (by decide) (fun i hi=>by
  match i,hi with
  | 0,_=>exact ⟨_,_,rfl,rdI_blkS [1] 1 PJ0.o rfl (by decide)⟩))
 have VJ:Hid (RdRs w18 (.slice (some ⟨s18,0,none⟩) 1 1) [exB]):=kI (rdRs_one LJ.o (exB_rd _));refine (HJ.o w18 _ _ _ MR.o VJ.o PJ.o).mono ?_;rintro e w19 ⟨hr,hx⟩;replace OR:=kI (OR.o.ext hx);replace B1:=kI (B1.o.ext hx);replace B2:=kI (B2.o.ext hx);replace BM:=kI (BM.o.ext hx);replace BW:=kI (BW.o.ext hx);replace MR:=kI (MR.o.ext hx);replace WR:=kI (WR.o.ext hx);replace VC:=kI (VC.o.ext hx);replace VD:=kI (VD.o.ext hx);replace VE:=kI (VE.o.ext hx);replace VF:=kI (VF.o.ext hx);replace RGF:=kI (RGF.o.ext hx);replace PI:=kI (PI.o.ext hx);replace VI:=kI (VI.o.ext hx);replace PJ:=kI (PJ.o.ext hx);replace VJ:=kI (VJ.o.ext hx);replace X:=kI (X.o.trans hx);obtain ⟨rJ1,rJ2,rfl,-⟩:=pln_res hr kJ;clear hr;clear hx;obtain ⟨qB1,fB1,lB1⟩:=B1.o.q3;obtain ⟨qB2,fB2,lB2⟩:=B2.o.q3;obtain ⟨qBM,fBM,lBM⟩:=BM.o.q3;obtain ⟨qBW,fBW,lBW⟩:=BW.o.q3;go_wp2_with fail;refine (HK.o w19 _ _ MR.o (RdRs.nil w19 none)).mono ?_;rintro e w20 ⟨hr,hx⟩;clear qB1 fB1 lB1 qB2 fB2 lB2 qBM fBM lBM qBW fBW lBW;replace OR:=kI (OR.o.ext hx);replace B1:=kI (B1.o.ext hx);replace B2:=kI (B2.o.ext hx);replace BM:=kI (BM.o.ext hx);replace BW:=kI (BW.o.ext hx);replace MR:=kI (MR.o.ext hx);replace WR:=kI (WR.o.ext hx);replace VC:=kI (VC.o.ext hx);replace VD:=kI (VD.o.ext hx);replace VE:=kI (VE.o.ext hx);replace VF:=kI (VF.o.ext hx);replace RGF:=kI (RGF.o.ext hx);replace PI:=kI (PI.o.ext hx);replace VI:=kI (VI.o.ext hx);replace PJ:=kI (PJ.o.ext hx);replace VJ:=kI (VJ.o.ext hx);replace X:=kI (X.o.trans hx);obtain ⟨rK1,rK2,rfl⟩:=scr_res hr kK;clear hr;clear hx;obtain ⟨qB1,fB1,lB1⟩:=B1.o.q3;obtain ⟨qB2,fB2,lB2⟩:=B2.o.q3;obtain ⟨qBM,fBM,lBM⟩:=BM.o.q3;obtain ⟨qBW,fBW,lBW⟩:=BW.o.q3;go_wp2_with fail;obtain ⟨s21,hs21⟩:=gN (w20.heap.size);rw [← hs21];obtain ⟨w21,hw21⟩:=gN ((w20.alloc (.cells #[.bool true,.slice none 0 0,.slice none 0 0] 25)));have hx:Ext w20 w21:=by rw [hw21];exact (Ext.refl _).alloc _
 have bb0:Blk w21 (s21) #[.bool true,.slice none 0 0,.slice none 0 0] 25:=by
  have h:=(Blk.new w20 #[.bool true,.slice none 0 0,.slice none 0 0] 25);rw [← hw21,← hs21] at h;exact h
 rw [← hw21];clear qB1 fB1 lB1 qB2 fB2 lB2 qBM fBM lBM qBW fBW lBW;replace OR:=kI (OR.o.ext hx);replace B1:=kI (B1.o.ext hx);replace B2:=kI (B2.o.ext hx);replace BM:=kI (BM.o.ext hx);replace BW:=kI (BW.o.ext hx);replace MR:=kI (MR.o.ext hx);replace WR:=kI (WR.o.ext hx);replace VC:=kI (VC.o.ext hx);replace VD:=kI (VD.o.ext hx);replace VE:=kI (VE.o.ext hx);replace VF:=kI (VF.o.ext hx);replace RGF:=kI (RGF.o.ext hx);replace PI:=kI (PI.o.ext hx);replace VI:=kI (VI.o.ext hx);replace PJ:=kI (PJ.o.ext hx);replace VJ:=kI (VJ.o.ext hx);replace X:=kI (X.o.trans hx);have LL:=kI bb0;clear hx hw21 hs21 bb0;have VL:Hid (RdRs w21 (.slice (some ⟨s21,0,none⟩) 1 1) [exB]):=kI (rdRs_one LL.o (exB_rd _));refine (HL.o w21 _ _ MR.o VL.o).mono ?_;rintro e w22 ⟨hr,hx⟩;replace OR:=kI (OR.o.ext hx);replace B1:=kI (B1.o.ext hx);replace B2:=kI (B2.o.ext hx);replace BM:=kI (BM.o.ext hx);replace BW:=kI (BW.o.ext hx);replace MR:=kI (MR.o.ext hx);replace WR:=kI (WR.o.ext hx);replace VC:=kI (VC.o.ext hx);replace VD:=kI (VD.o.ext hx);replace VE:=kI (VE.o.ext hx);replace VF:=kI (VF.o.ext hx);replace RGF:=kI (RGF.o.ext hx);replace PI:=kI (PI.o.ext hx);replace VI:=kI (VI.o.ext hx);replace PJ:=kI (PJ.o.ext hx);replace VJ:=kI (VJ.o.ext hx);replace VL:=kI (VL.o.ext hx);replace X:=kI (X.o.trans hx);obtain ⟨rL1,rL2,rfl⟩:=scr_res hr kL;clear hr;clear hx;obtain ⟨qB1,fB1,lB1⟩:=B1.o.q3;obtain ⟨qB2,fB2,lB2⟩:=B2.o.q3;obtain ⟨qBM,fBM,lBM⟩:=BM.o.q3;obtain ⟨qBW,fBW,lBW⟩:=BW.o.q3;go_wp2_with fail;refine (HN.o w22 _ _ WR.o (rdPl_nil w22)).mono ?_;rintro e w23 ⟨hr,hx⟩;clear qB1 fB1 lB1 qB2 fB2 lB2 qBM fBM lBM qBW fBW lBW;replace OR:=kI (OR.o.ext hx);replace B1:=kI (B1.o.ext hx);replace B2:=kI (B2.o.ext hx);replace BM:=kI (BM.o.ext hx);replace BW:=kI (BW.o.ext hx);replace MR:=kI (MR.o.ext hx);replace WR:=kI (WR.o.ext hx);replace VC:=kI (VC.o.ext hx);replace VD:=kI (VD.o.ext hx);replace VE:=kI (VE.o.ext hx);replace VF:=kI (VF.o.ext hx);replace RGF:=kI (RGF.o.ext hx);replace PI:=kI (PI.o.ext hx);replace VI:=kI (VI.o.ext hx);replace PJ:=kI (PJ.o.ext hx);replace VJ:=kI (VJ.o.ext hx);replace VL:=kI (VL.o.ext hx);replace X:=kI (X.o.trans hx)
 obtain ⟨rN1,rN2,rfl,hg⟩:=pln_res hr kN;clear hr hg;clear hx;obtain ⟨qB1,fB1,lB1⟩:=B1.o.q3;obtain ⟨qB2,fB2,lB2⟩:=B2.o.q3;obtain ⟨qBM,fBM,lBM⟩:=BM.o.q3;obtain ⟨qBW,fBW,lBW⟩:=BW.o.q3;go_wp2_with fail;clear qB1 fB1 lB1 qB2 fB2 lB2 qBM fBM lBM qBW fBW lBW;refine wp_region_each_float 6 5 (exD (.agg #[.bool exO.neg,.slice oa1 exO.num.length oc1,.slice oa2 exO.den.length oc2,.slice (some ⟨s3+1+1+1+1,0,none⟩) 1 1]) 8) rfl (by kernel_rfl) (by kernel_rfl) (by kernel_rfl) (fun _ _ _ _ h x=>exD_ext h x) (fun _ _ d _ _ h=>by cases d <;> exact h) ?_ ?_ ?_
 ·refine ⟨?_,?_,?_,?_,?_,?_,trivial⟩
  ·intro a W hW hB hD K hK;have b3:=hB 3 rfl;simp only [sB] at b3;have q9:=(BM.o.ext hW).cell;have l9:=(BM.o.ext hW).lt;go_simp;exact hK _ _ (Ext.refl _) rfl
  ·intro a W hW hB hD K hK;have hr:=make_run W 25 Tryz.underlying30 Tryz.infoRowP (by decide) (by decide);go_simp;rw [show (Instr.makeSlice 30 (.int .i64 25) (.int .i64 25)).run Tryz.prog W=_ from hr];exact hK _ _ ((Ext.refl _).alloc _) ⟨_,rfl,rdPl25 (Blk.new _ _ _)⟩
  ·intro a W hW hB hD K hK;obtain ⟨v163,e163,h163⟩:=dpE (hD 0 _ 163 rfl rfl (by kernel_rfl));obtain rfl:=h163;obtain ⟨v164,e164,h164⟩:=dpE (hD 1 _ 164 rfl rfl (by kernel_rfl));obtain ⟨b8,rfl,d3⟩:=h164;go_simp;refine (HO.o _ _ _ (MR.o.ext hW) d3).mono ?_;rintro e w9 ⟨hr,hx⟩;obtain ⟨a1,c1,rfl,-⟩:=pln_res hr kO;exact hK _ _ hx ⟨_,_,_,rfl⟩
  ·intro a W hW hB hD K hK;obtain ⟨v165,e165,h165⟩:=dpE (hD 2 _ 165 rfl rfl (by kernel_rfl));obtain ⟨a1,c0,c1,rfl⟩:=h165;go_simp;exact hK _ _ (Ext.refl _) ⟨_,_,_,rfl⟩
  ·intro a W hW hB hD K hK;obtain ⟨v162,e162,h162⟩:=dpE (hD 3 _ 162 rfl rfl (by kernel_rfl));obtain ⟨a1,c0,c1,rfl⟩:=h162;go_simp;exact hK _ _ (Ext.refl _) ⟨_,_,_,rfl⟩
  ·intro a W hW hB hD K hK;obtain ⟨v162,e162,h162⟩:=dpE (hD 3 _ 162 rfl rfl (by kernel_rfl));obtain ⟨a1,c0,c1,rfl⟩:=h162;go_simp;exact hK _ _ (Ext.refl _) rfl
 ·intro a W hW hB hD;have h162:=hD 3 _ 162 rfl rfl (by kernel_rfl);obtain ⟨v162,e162⟩:∃ x,a.tmps.getD 162 undef=x:=⟨_,rfl⟩;rw [e162] at h162;obtain ⟨a1,c0,c1,rfl⟩:=h162;exact ⟨.int .i64 8,fun w9=>run_extract9 e162 rfl rfl w9,rfl⟩
 intro w24 hx;simp only [Vals,List.take_succ_cons,List.take_zero,List.drop_succ_cons,List.drop_zero];rintro u0 - u1 - u2 - u3 - u4 h4 u5 h5;obtain ⟨x1631,x1632,x1633,rfl⟩:=h4;obtain rfl:u5=.int .i64 8:=h5;simp only [Act.put,List.setIfInBounds_toArray,List.set_cons_zero,List.set_cons_succ];replace OR:=kI (OR.o.ext hx);replace B1:=kI (B1.o.ext hx);replace B2:=kI (B2.o.ext hx);replace BM:=kI (BM.o.ext hx);replace BW:=kI (BW.o.ext hx);replace MR:=kI (MR.o.ext hx);replace WR:=kI (WR.o.ext hx);replace VC:=kI (VC.o.ext hx);replace VD:=kI (VD.o.ext hx);replace VE:=kI (VE.o.ext hx);replace VF:=kI (VF.o.ext hx);replace RGF:=kI (RGF.o.ext hx);replace PI:=kI (PI.o.ext hx);replace VI:=kI (VI.o.ext hx);replace PJ:=kI (PJ.o.ext hx);replace VJ:=kI (VJ.o.ext hx);replace VL:=kI (VL.o.ext hx);replace X:=kI (X.o.trans hx);clear hx;obtain ⟨qB1,fB1,lB1⟩:=B1.o.q3;obtain ⟨qB2,fB2,lB2⟩:=B2.o.q3;obtain ⟨qBM,fBM,lBM⟩:=BM.o.q3;obtain ⟨qBW,fBW,lBW⟩:=BW.o.q3;go_wp2_with fail;clear qB1 fB1 lB1 qB2 fB2 lB2 qBM fBM lBM qBW fBW lBW;refine wp_region_each_float 6 5 (exD (.agg #[.bool exO.neg,.slice oa1 exO.num.length oc1,.slice oa2 exO.den.length oc2,.slice (some ⟨s3+1+1+1+1,0,none⟩) 1 1]) 4) rfl (by kernel_rfl) (by kernel_rfl) (by kernel_rfl) (fun _ _ _ _ h x=>exD_ext h x) (fun _ _ d _ _ h=>by cases d <;> exact h) ?_ ?_ ?_
 ·refine ⟨?_,?_,?_,?_,?_,?_,trivial⟩
  ·intro a W hW hB hD K hK;have b3:=hB 3 rfl;simp only [sB] at b3;have q9:=(BM.o.ext hW).cell;have l9:=(BM.o.ext hW).lt;go_simp;exact hK _ _ (Ext.refl _) rfl
  ·intro a W hW hB hD K hK;have hr:=make_run W 25 Tryz.underlying30 Tryz.infoRowP (by decide) (by decide);go_simp;rw [show (Instr.makeSlice 30 (.int .i64 25) (.int .i64 25)).run Tryz.prog W=_ from hr];exact hK _ _ ((Ext.refl _).alloc _) ⟨_,rfl,rdPl25 (Blk.new _ _ _)⟩
  ·intro a W hW hB hD K hK;obtain ⟨v169,e169,h169⟩:=dpE (hD 0 _ 169 rfl rfl (by kernel_rfl));obtain rfl:=h169;obtain ⟨v170,e170,h170⟩:=dpE (hD 1 _ 170 rfl rfl (by kernel_rfl));obtain ⟨b8,rfl,d3⟩:=h170;go_simp;refine (HP.o _ _ _ (MR.o.ext hW) d3).mono ?_;rintro e w9 ⟨hr,hx⟩;obtain ⟨a1,c1,rfl,-⟩:=pln_res hr kP9;exact hK _ _ hx ⟨_,_,_,rfl⟩
  ·intro a W hW hB hD K hK;obtain ⟨v171,e171,h171⟩:=dpE (hD 2 _ 171 rfl rfl (by kernel_rfl));obtain ⟨a1,c0,c1,rfl⟩:=h171;go_simp;exact hK _ _ (Ext.refl _) ⟨_,_,_,rfl⟩
  ·intro a W hW hB hD K hK;obtain ⟨v168,e168,h168⟩:=dpE (hD 3 _ 168 rfl rfl (by kernel_rfl));obtain ⟨a1,c0,c1,rfl⟩:=h168;go_simp;exact hK _ _ (Ext.refl _) ⟨_,_,_,rfl⟩
  ·intro a W hW hB hD K hK;obtain ⟨v168,e168,h168⟩:=dpE (hD 3 _ 168 rfl rfl (by kernel_rfl));obtain ⟨a1,c0,c1,rfl⟩:=h168;go_simp;exact hK _ _ (Ext.refl _) rfl
 ·intro a W hW hB hD;have h168:=hD 3 _ 168 rfl rfl (by kernel_rfl);obtain ⟨v168,e168⟩:∃ x,a.tmps.getD 168 undef=x:=⟨_,rfl⟩;rw [e168] at h168;obtain ⟨a1,c0,c1,rfl⟩:=h168;exact ⟨.int .i64 4,fun w9=>run_extract9 e168 rfl rfl w9,rfl⟩
 intro w25 hx;simp only [Vals,List.take_succ_cons,List.take_zero,List.drop_succ_cons,List.drop_zero];rintro u0 - u1 - u2 - u3 - u4 h4 u5 h5;obtain ⟨x1691,x1692,x1693,rfl⟩:=h4;obtain rfl:u5=.int .i64 4:=h5;simp only [Act.put,List.setIfInBounds_toArray,List.set_cons_zero,List.set_cons_succ];replace OR:=kI (OR.o.ext hx);replace B1:=kI (B1.o.ext hx);replace B2:=kI (B2.o.ext hx);replace BM:=kI (BM.o.ext hx);replace BW:=kI (BW.o.ext hx);replace MR:=kI (MR.o.ext hx);replace WR:=kI (WR.o.ext hx);replace VC:=kI (VC.o.ext hx);replace VD:=kI (VD.o.ext hx);replace VE:=kI (VE.o.ext hx);replace VF:=kI (VF.o.ext hx);replace RGF:=kI (RGF.o.ext hx);replace PI:=kI (PI.o.ext hx);replace VI:=kI (VI.o.ext hx);replace PJ:=kI (PJ.o.ext hx);replace VJ:=kI (VJ.o.ext hx);replace VL:=kI (VL.o.ext hx);replace X:=kI (X.o.trans hx);clear hx;obtain ⟨qB1,fB1,lB1⟩:=B1.o.q3;obtain ⟨qB2,fB2,lB2⟩:=B2.o.q3;obtain ⟨qBM,fBM,lBM⟩:=BM.o.q3;obtain ⟨qBW,fBW,lBW⟩:=BW.o.q3;go_wp2_with fail;obtain ⟨s26,hs26⟩:=gN (w25.heap.size);rw [← hs26];obtain ⟨w26,hw26⟩:=gN ((((w25.alloc (.cells #[.int .i64 7] 3)).alloc (.cells #[.int .i64 0,.int .i64 0] 3)).alloc (.cells #[.slice (some ⟨s26,0,none⟩) 1 1,.slice (some ⟨s26+1,0,none⟩) 2 2] 64)));have hx:Ext w25 w26:=by rw [hw26];exact (((Ext.refl _).alloc _).alloc _).alloc _
 have bb0:Blk w26 (s26) #[.int .i64 7] 3:=by
  have h:=(((Blk.new w25 #[.int .i64 7] 3).alloc (.cells #[.int .i64 0,.int .i64 0] 3)).alloc (.cells #[.slice (some ⟨s26,0,none⟩) 1 1,.slice (some ⟨s26+1,0,none⟩) 2 2] 64));rw [← hw26,← hs26] at h;exact h
 have bb1:Blk w26 (s26+1) #[.int .i64 0,.int .i64 0] 3:=by
  have h:=((Blk.new (w25.alloc (.cells #[.int .i64 7] 3)) #[.int .i64 0,.int .i64 0] 3).alloc (.cells #[.slice (some ⟨s26,0,none⟩) 1 1,.slice (some ⟨s26+1,0,none⟩) 2 2] 64));rw [World.size_alloc] at h;rw [← hw26,← hs26] at h;exact h
 have bb2:Blk w26 (s26+1+1) #[.slice (some ⟨s26,0,none⟩) 1 1,.slice (some ⟨s26+1,0,none⟩) 2 2] 64:=by
  have h:=(Blk.new ((w25.alloc (.cells #[.int .i64 7] 3)).alloc (.cells #[.int .i64 0,.int .i64 0] 3)) #[.slice (some ⟨s26,0,none⟩) 1 1,.slice (some ⟨s26+1,0,none⟩) 2 2] 64);rw [World.size_alloc,World.size_alloc] at h;rw [← hw26,← hs26] at h;exact h
 rw [← hw26];clear qB1 fB1 lB1 qB2 fB2 lB2 qBM fBM lBM qBW fBW lBW;replace OR:=kI (OR.o.ext hx);replace B1:=kI (B1.o.ext hx);replace B2:=kI (B2.o.ext hx);replace BM:=kI (BM.o.ext hx);replace BW:=kI (BW.o.ext hx);replace MR:=kI (MR.o.ext hx);replace WR:=kI (WR.o.ext hx);replace VC:=kI (VC.o.ext hx);replace VD:=kI (VD.o.ext hx);replace VE:=kI (VE.o.ext hx);replace VF:=kI (VF.o.ext hx);replace RGF:=kI (RGF.o.ext hx);replace PI:=kI (PI.o.ext hx);replace VI:=kI (VI.o.ext hx);replace PJ:=kI (PJ.o.ext hx);replace VJ:=kI (VJ.o.ext hx);replace VL:=kI (VL.o.ext hx);replace X:=kI (X.o.trans hx);have PQ0:=kI bb0;have PQ1:=kI bb1;have PQR:=kI bb2;clear hx hw26 hs26 bb0 bb1 bb2;have PQ:Hid (RdPl w26 (.slice (some ⟨s26+1+1,0,none⟩) 2 2) [[7],[0,0]]):=kI (rdPl_blk _ 2 PQR.o rfl (by decide) (fun i hi=>by
  match i,hi with
  | 0,_=>exact ⟨_,_,rfl,rdI_blkS [7] 1 PQ0.o rfl (by decide)⟩
  | 1,_=>exact ⟨_,_,rfl,rdI_blkS [0,0] 2 PQ1.o rfl (by decide)⟩))
 refine (HQ.o w26 _ _ MR.o PQ.o).mono ?_;rintro e w27 ⟨hr,hx⟩;replace OR:=kI (OR.o.ext hx);replace B1:=kI (B1.o.ext hx);replace B2:=kI (B2.o.ext hx);replace BM:=kI (BM.o.ext hx);replace BW:=kI (BW.o.ext hx);replace MR:=kI (MR.o.ext hx);replace WR:=kI (WR.o.ext hx);replace VC:=kI (VC.o.ext hx);replace VD:=kI (VD.o.ext hx);replace VE:=kI (VE.o.ext hx);replace VF:=kI (VF.o.ext hx);replace RGF:=kI (RGF.o.ext hx);replace PI:=kI (PI.o.ext hx);replace VI:=kI (VI.o.ext hx);replace PJ:=kI (PJ.o.ext hx);replace VJ:=kI (VJ.o.ext hx);replace VL:=kI (VL.o.ext hx);replace PQ:=kI (PQ.o.ext hx);replace X:=kI (X.o.trans hx);obtain ⟨rQ1,rQ2,rfl,hg⟩:=pln_res hr kQ;clear hr hg;clear hx;obtain ⟨qB1,fB1,lB1⟩:=B1.o.q3;obtain ⟨qB2,fB2,lB2⟩:=B2.o.q3;obtain ⟨qBM,fBM,lBM⟩:=BM.o.q3;obtain ⟨qBW,fBW,lBW⟩:=BW.o.q3;go_wp2_with fail;obtain ⟨s28,hs28⟩:=gN (w27.heap.size);rw [← hs28];obtain ⟨w28,hw28⟩:=gN ((((w27.alloc (.cells #[.int .i64 0,.int .i64 0] 3)).alloc (.cells #[.int .i64 7] 3)).alloc (.cells #[.slice (some ⟨s28,0,none⟩) 2 2,.slice (some ⟨s28+1,0,none⟩) 1 1] 64)));have hx:Ext w27 w28:=by rw [hw28];exact (((Ext.refl _).alloc _).alloc _).alloc _
 have bb0:Blk w28 (s28) #[.int .i64 0,.int .i64 0] 3:=by
  have h:=(((Blk.new w27 #[.int .i64 0,.int .i64 0] 3).alloc (.cells #[.int .i64 7] 3)).alloc (.cells #[.slice (some ⟨s28,0,none⟩) 2 2,.slice (some ⟨s28+1,0,none⟩) 1 1] 64));rw [← hw28,← hs28] at h;exact h
 have bb1:Blk w28 (s28+1) #[.int .i64 7] 3:=by
  have h:=((Blk.new (w27.alloc (.cells #[.int .i64 0,.int .i64 0] 3)) #[.int .i64 7] 3).alloc (.cells #[.slice (some ⟨s28,0,none⟩) 2 2,.slice (some ⟨s28+1,0,none⟩) 1 1] 64));rw [World.size_alloc] at h;rw [← hw28,← hs28] at h;exact h
 have bb2:Blk w28 (s28+1+1) #[.slice (some ⟨s28,0,none⟩) 2 2,.slice (some ⟨s28+1,0,none⟩) 1 1] 64:=by
  have h:=(Blk.new ((w27.alloc (.cells #[.int .i64 0,.int .i64 0] 3)).alloc (.cells #[.int .i64 7] 3)) #[.slice (some ⟨s28,0,none⟩) 2 2,.slice (some ⟨s28+1,0,none⟩) 1 1] 64);rw [World.size_alloc,World.size_alloc] at h;rw [← hw28,← hs28] at h;exact h
 rw [← hw28];clear qB1 fB1 lB1 qB2 fB2 lB2 qBM fBM lBM qBW fBW lBW;replace OR:=kI (OR.o.ext hx);replace B1:=kI (B1.o.ext hx);replace B2:=kI (B2.o.ext hx);replace BM:=kI (BM.o.ext hx);replace BW:=kI (BW.o.ext hx);replace MR:=kI (MR.o.ext hx);replace WR:=kI (WR.o.ext hx);replace VC:=kI (VC.o.ext hx);replace VD:=kI (VD.o.ext hx);replace VE:=kI (VE.o.ext hx);replace VF:=kI (VF.o.ext hx);replace RGF:=kI (RGF.o.ext hx);replace PI:=kI (PI.o.ext hx);replace VI:=kI (VI.o.ext hx);replace PJ:=kI (PJ.o.ext hx);replace VJ:=kI (VJ.o.ext hx);replace VL:=kI (VL.o.ext hx);replace PQ:=kI (PQ.o.ext hx);replace X:=kI (X.o.trans hx);have PR0:=kI bb0;have PR1:=kI bb1;have PRR:=kI bb2;clear hx hw28 hs28 bb0 bb1 bb2;have PR:Hid (RdPl w28 (.slice (some ⟨s28+1+1,0,none⟩) 2 2) [[0,0],[7]]):=kI (rdPl_blk _ 2 PRR.o rfl (by decide) (fun i hi=>by
  match i,hi with
  | 0,_=>exact ⟨_,_,rfl,rdI_blkS [0,0] 2 PR0.o rfl (by decide)⟩
  | 1,_=>exact ⟨_,_,rfl,rdI_blkS [7] 1 PR1.o rfl (by decide)⟩))
 refine (HR.o w28 _ _ MR.o PR.o).mono ?_;rintro e w29 ⟨hr,hx⟩;replace OR:=kI (OR.o.ext hx);replace B1:=kI (B1.o.ext hx);replace B2:=kI (B2.o.ext hx);replace BM:=kI (BM.o.ext hx);replace BW:=kI (BW.o.ext hx);replace MR:=kI (MR.o.ext hx);replace WR:=kI (WR.o.ext hx);replace VC:=kI (VC.o.ext hx);replace VD:=kI (VD.o.ext hx);replace VE:=kI (VE.o.ext hx);replace VF:=kI (VF.o.ext hx);replace RGF:=kI (RGF.o.ext hx);replace PI:=kI (PI.o.ext hx);replace VI:=kI (VI.o.ext hx);replace PJ:=kI (PJ.o.ext hx);replace VJ:=kI (VJ.o.ext hx);replace VL:=kI (VL.o.ext hx);replace PQ:=kI (PQ.o.ext hx);replace PR:=kI (PR.o.ext hx);replace X:=kI (X.o.trans hx);obtain ⟨rR1,rR2,rfl,hg⟩:=pln_res hr kR;clear hr hg;clear hx;obtain ⟨qB1,fB1,lB1⟩:=B1.o.q3;obtain ⟨qB2,fB2,lB2⟩:=B2.o.q3;obtain ⟨qBM,fBM,lBM⟩:=BM.o.q3;obtain ⟨qBW,fBW,lBW⟩:=BW.o.q3;go_wp2_with fail;refine (HS.o w29 _ _ MR.o (rdPl_nil w29)).mono ?_;rintro e w30 ⟨hr,hx⟩;clear qB1 fB1 lB1 qB2 fB2 lB2 qBM fBM lBM qBW fBW lBW;replace OR:=kI (OR.o.ext hx);replace B1:=kI (B1.o.ext hx);replace B2:=kI (B2.o.ext hx);replace BM:=kI (BM.o.ext hx);replace BW:=kI (BW.o.ext hx);replace MR:=kI (MR.o.ext hx);replace WR:=kI (WR.o.ext hx);replace VC:=kI (VC.o.ext hx);replace VD:=kI (VD.o.ext hx);replace VE:=kI (VE.o.ext hx);replace VF:=kI (VF.o.ext hx);replace RGF:=kI (RGF.o.ext hx);replace PI:=kI (PI.o.ext hx);replace VI:=kI (VI.o.ext hx);replace PJ:=kI (PJ.o.ext hx);replace VJ:=kI (VJ.o.ext hx);replace VL:=kI (VL.o.ext hx);replace PQ:=kI (PQ.o.ext hx);replace PR:=kI (PR.o.ext hx);replace X:=kI (X.o.trans hx);obtain ⟨rS1,rS2,rfl,hg⟩:=cha_resS hr;have RrS:=kI hg;clear hr hg;clear hx;obtain ⟨bF,oF,aF,cF,eF,f1,f2,f3⟩:=RGF.o.at (i:=24) (by rw [GF1.o];decide);subst eF;rw [GF2.o] at f2 f3;change _=some (Value.slice aF 1 cF) at f2;change RdRs _ (Value.slice aF 1 cF) exR at f3;have RL:=kI f3;clear f3 GF2;obtain ⟨qB1,fB1,lB1⟩:=B1.o.q3;obtain ⟨qB2,fB2,lB2⟩:=B2.o.q3;obtain ⟨qBM,fBM,lBM⟩:=BM.o.q3;obtain ⟨qBW,fBW,lBW⟩:=BW.o.q3;go_wp2_with fail
 clear qB1 fB1 lB1 qB2 fB2 lB2 qBM fBM lBM qBW fBW lBW;clear f1 f2;obtain ⟨bL,oL,d1,d2,d3,d4,eL,hn⟩:=RL.o.at (i:=0) (by decide);subst eL;obtain ⟨n0,n1,n2,n3,n4⟩:=hn;obtain ⟨r25,hr25⟩:=gN (rep ((25:Int):Rat));have hg0:exR.getD 0 zR=r25:=by rw [hr25];rfl
 rw [hg0] at n1 n2 n3 n4;simp only [Nat.zero_mul,Nat.add_zero] at n1 n2 n3;have HR25:=kI hr25;have CL:Hid (bL < w30.heap.size∧w30.cell? ⟨bL,oL,none⟩=some (.bool r25.neg)∧w30.cell? ⟨bL,oL+1,none⟩=some (.slice d1 r25.num.length d2)∧w30.cell? ⟨bL,oL+2,none⟩=some (.slice d3 r25.den.length d4)∧RdR w30 (.agg #[.bool r25.neg,.slice d1 r25.num.length d2,.slice d3 r25.den.length d4]) r25):=kI ⟨n0,n1,n2,n3,n4⟩;clear n0 n1 n2 n3 n4 hr25 hg0;refine wp_region_each_tail 45 (exE (some ⟨bL,oL,none⟩) cF bL oL r25 rS1 rS2 (.agg #[.bool exO.neg,.slice oa1 exO.num.length oc1,.slice oa2 exO.den.length oc2]) (.agg #[.bool exO.neg,.slice oa1 exO.num.length oc1,.slice oa2 exO.den.length oc2,.slice (some ⟨s3+1+1+1+1,0,none⟩) 1 1])) (by kernel_rfl) (by kernel_rfl) (by kernel_rfl) (fun _ _ _ _ h x=>exE_ext h x) ?_ ?_
 ·refine ⟨?_,?_,?_,?_,?_,?_,?_,?_,?_,?_,?_,?_,?_,?_,?_,?_,?_,?_,?_,?_,?_,?_,?_,?_,?_,?_,?_,?_,?_,?_,?_,?_,?_,?_,?_,?_,?_,?_,?_,?_,?_,?_,?_,?_,?_,trivial⟩
  ·intro a W hW hB hD K hK;have b47:=hB 47 rfl;simp only [sB] at b47;go_simp;exact hK _ _ (Ext.refl _) rfl
  ·intro a W hW hB hD K hK;obtain ⟨v264,e264,h264⟩:=dpE (hD 0 _ 264 rfl rfl (by kernel_rfl));obtain rfl:=h264;go_simp;exact hK _ _ (Ext.refl _) rfl
  ·intro a W hW hB hD K hK;obtain ⟨v265,e265,h265⟩:=dpE (hD 1 _ 265 rfl rfl (by kernel_rfl));obtain rfl:=h265;go_simp;exact hK _ _ (Ext.refl _) rfl
  ·intro a W hW hB hD K hK;obtain ⟨v266,e266,h266⟩:=dpE (hD 2 _ 266 rfl rfl (by kernel_rfl));obtain rfl:=h266;go_simp;exact hK _ _ (Ext.refl _) rfl
  ·intro a W hW hB hD K hK;have b47:=hB 47 rfl;simp only [sB] at b47;obtain ⟨v267,e267,h267⟩:=dpE (hD 3 _ 267 rfl rfl (by kernel_rfl));obtain rfl:=h267;have z9:=getD_boolX e267;go_simp;exact hK _ _ (Ext.refl _) rfl
  ·intro a W hW hB hD K hK;obtain ⟨v268,e268,h268⟩:=dpE (hD 4 _ 268 rfl rfl (by kernel_rfl));obtain rfl:=h268;obtain ⟨v267,e267,h267⟩:=dpE (hD 3 _ 267 rfl rfl (by kernel_rfl));obtain rfl:=h267;have z9:=getD_boolX e267;go_simp;exact hK _ _ (Ext.refl _) rfl
  ·intro a W hW hB hD K hK;obtain ⟨v269,e269,h269⟩:=dpE (hD 5 _ 269 rfl rfl (by kernel_rfl));obtain rfl:=h269;obtain ⟨v267,e267,h267⟩:=dpE (hD 3 _ 267 rfl rfl (by kernel_rfl));obtain rfl:=h267;have z9:=getD_boolX e267;have m0:=(hW.cell (p:=⟨bL,oL,none⟩) CL.o.1).trans CL.o.2.1;have m1:=(hW.cell (p:=⟨bL,oL+1,none⟩) CL.o.1).trans CL.o.2.2.1;have m2:=(hW.cell (p:=⟨bL,oL+2,none⟩) CL.o.1).trans CL.o.2.2.2.1;have ml:=Nat.lt_of_lt_of_le CL.o.1 hW.size;go_simp;exact hK _ _ (Ext.refl _) ⟨_,_,_,_,rfl,CL.o.2.2.2.2.ext hW⟩
  ·intro a W hW hB hD K hK;obtain ⟨v267,e267,h267⟩:=dpE (hD 3 _ 267 rfl rfl (by kernel_rfl));obtain rfl:=h267;have z9:=getD_boolX e267;go_simp;refine (refFromR_any 25 _ (by decide) (by decide)).mono ?_;rintro e w9 ⟨⟨v,rfl,nn⟩,hx⟩;rw [← HR25.o] at nn;obtain ⟨x1,x2,x3,x4,rfl⟩:=nn.shape;exact hK _ _ hx ⟨_,_,_,_,rfl,nn.rd⟩
  ·intro a W hW hB hD K hK;obtain ⟨v270,e270,h270⟩:=dpE (hD 6 _ 270 rfl rfl (by kernel_rfl));obtain ⟨d1,d2,d3,d4,rfl,dh⟩:=h270;obtain ⟨v271,e271,h271⟩:=dpE (hD 7 _ 271 rfl rfl (by kernel_rfl));obtain ⟨e1,e2,e3,e4,rfl,eh⟩:=h271;obtain ⟨v267,e267,h267⟩:=dpE (hD 3 _ 267 rfl rfl (by kernel_rfl));obtain rfl:=h267;have z9:=getD_boolX e267;go_simp;refine (equalRat_any _ _ r25 r25 _ dh eh).mono ?_;rintro e w9 ⟨rfl,hx⟩;rw [decide_eq_true rfl];exact hK _ _ hx rfl
  ·intro a W hW hB hD K hK;obtain ⟨v267,e267,h267⟩:=dpE (hD 3 _ 267 rfl rfl (by kernel_rfl));obtain rfl:=h267;obtain ⟨v272,e272,h272⟩:=dpE (hD 8 _ 272 rfl rfl (by kernel_rfl));obtain rfl:=h272;go_simp;exact hK _ _ (Ext.refl _) rfl
  ·intro a W hW hB hD K hK;obtain ⟨v273,e273,h273⟩:=dpE (hD 9 _ 273 rfl rfl (by kernel_rfl));obtain rfl:=h273;go_simp;exact hK _ _ (Ext.refl _) rfl
  ·intro a W hW hB hD K hK;have b36:=hB 36 rfl;simp only [sB] at b36;obtain ⟨v274,e274,h274⟩:=dpE (hD 10 _ 274 rfl rfl (by kernel_rfl));obtain rfl:=h274;have z9:=getD_boolX e274;go_simp;exact hK _ _ (Ext.refl _) rfl
  ·intro a W hW hB hD K hK;obtain ⟨v275,e275,h275⟩:=dpE (hD 11 _ 275 rfl rfl (by kernel_rfl));obtain rfl:=h275;obtain ⟨v274,e274,h274⟩:=dpE (hD 10 _ 274 rfl rfl (by kernel_rfl));obtain rfl:=h274;have z9:=getD_boolX e274;go_simp;exact hK _ _ (Ext.refl _) rfl
  ·intro a W hW hB hD K hK;obtain ⟨v274,e274,h274⟩:=dpE (hD 10 _ 274 rfl rfl (by kernel_rfl));obtain rfl:=h274;obtain ⟨v276,e276,h276⟩:=dpE (hD 12 _ 276 rfl rfl (by kernel_rfl));obtain rfl:=h276;go_simp;exact hK _ _ (Ext.refl _) rfl
  ·intro a W hW hB hD K hK;obtain ⟨v277,e277,h277⟩:=dpE (hD 13 _ 277 rfl rfl (by kernel_rfl));obtain rfl:=h277;go_simp;exact hK _ _ (Ext.refl _) rfl
  ·intro a W hW hB hD K hK;have b38:=hB 38 rfl;simp only [sB] at b38;obtain ⟨v278,e278,h278⟩:=dpE (hD 14 _ 278 rfl rfl (by kernel_rfl));obtain rfl:=h278;have z9:=getD_boolX e278;go_simp;exact hK _ _ (Ext.refl _) rfl
  ·intro a W hW hB hD K hK;obtain ⟨v279,e279,h279⟩:=dpE (hD 15 _ 279 rfl rfl (by kernel_rfl));obtain rfl:=h279;obtain ⟨v278,e278,h278⟩:=dpE (hD 14 _ 278 rfl rfl (by kernel_rfl));obtain rfl:=h278;have z9:=getD_boolX e278;go_simp;exact hK _ _ (Ext.refl _) rfl
  ·intro a W hW hB hD K hK;obtain ⟨v278,e278,h278⟩:=dpE (hD 14 _ 278 rfl rfl (by kernel_rfl));obtain rfl:=h278;obtain ⟨v280,e280,h280⟩:=dpE (hD 16 _ 280 rfl rfl (by kernel_rfl));obtain rfl:=h280;go_simp;exact hK _ _ (Ext.refl _) rfl
  ·intro a W hW hB hD K hK;obtain ⟨v281,e281,h281⟩:=dpE (hD 17 _ 281 rfl rfl (by kernel_rfl));obtain rfl:=h281;go_simp;exact hK _ _ (Ext.refl _) rfl
  ·intro a W hW hB hD K hK;have b40:=hB 40 rfl;simp only [sB] at b40;obtain ⟨v282,e282,h282⟩:=dpE (hD 18 _ 282 rfl rfl (by kernel_rfl));obtain rfl:=h282;have z9:=getD_boolX e282;go_simp;exact hK _ _ (Ext.refl _) rfl
  ·intro a W hW hB hD K hK;obtain ⟨v283,e283,h283⟩:=dpE (hD 19 _ 283 rfl rfl (by kernel_rfl));obtain rfl:=h283;obtain ⟨v282,e282,h282⟩:=dpE (hD 18 _ 282 rfl rfl (by kernel_rfl));obtain rfl:=h282;have z9:=getD_boolX e282;go_simp;exact hK _ _ (Ext.refl _) rfl
  ·intro a W hW hB hD K hK;obtain ⟨v282,e282,h282⟩:=dpE (hD 18 _ 282 rfl rfl (by kernel_rfl));obtain rfl:=h282;obtain ⟨v284,e284,h284⟩:=dpE (hD 20 _ 284 rfl rfl (by kernel_rfl));obtain rfl:=h284;go_simp;exact hK _ _ (Ext.refl _) rfl
  ·intro a W hW hB hD K hK;obtain ⟨v285,e285,h285⟩:=dpE (hD 21 _ 285 rfl rfl (by kernel_rfl));obtain rfl:=h285;go_simp;exact hK _ _ (Ext.refl _) rfl
  ·intro a W hW hB hD K hK;have b42:=hB 42 rfl;simp only [sB] at b42;obtain ⟨v286,e286,h286⟩:=dpE (hD 22 _ 286 rfl rfl (by kernel_rfl));obtain rfl:=h286;have z9:=getD_boolX e286;go_simp;exact hK _ _ (Ext.refl _) rfl
  ·intro a W hW hB hD K hK;obtain ⟨v287,e287,h287⟩:=dpE (hD 23 _ 287 rfl rfl (by kernel_rfl));obtain rfl:=h287;obtain ⟨v286,e286,h286⟩:=dpE (hD 22 _ 286 rfl rfl (by kernel_rfl));obtain rfl:=h286;have z9:=getD_boolX e286;go_simp;exact hK _ _ (Ext.refl _) rfl
  ·intro a W hW hB hD K hK;obtain ⟨v286,e286,h286⟩:=dpE (hD 22 _ 286 rfl rfl (by kernel_rfl));obtain rfl:=h286;obtain ⟨v288,e288,h288⟩:=dpE (hD 24 _ 288 rfl rfl (by kernel_rfl));obtain rfl:=h288;go_simp;exact hK _ _ (Ext.refl _) rfl
  ·intro a W hW hB hD K hK;obtain ⟨v289,e289,h289⟩:=dpE (hD 25 _ 289 rfl rfl (by kernel_rfl));obtain rfl:=h289;go_simp;exact hK _ _ (Ext.refl _) rfl
  ·intro a W hW hB hD K hK;have b44:=hB 44 rfl;simp only [sB] at b44;obtain ⟨v290,e290,h290⟩:=dpE (hD 26 _ 290 rfl rfl (by kernel_rfl));obtain rfl:=h290;have z9:=getD_boolX e290;go_simp;exact hK _ _ (Ext.refl _) rfl
  ·intro a W hW hB hD K hK;obtain ⟨v291,e291,h291⟩:=dpE (hD 27 _ 291 rfl rfl (by kernel_rfl));obtain rfl:=h291;obtain ⟨v290,e290,h290⟩:=dpE (hD 26 _ 290 rfl rfl (by kernel_rfl));obtain rfl:=h290;have z9:=getD_boolX e290;go_simp;exact hK _ _ (Ext.refl _) rfl
  ·intro a W hW hB hD K hK;obtain ⟨v290,e290,h290⟩:=dpE (hD 26 _ 290 rfl rfl (by kernel_rfl));obtain rfl:=h290;obtain ⟨v292,e292,h292⟩:=dpE (hD 28 _ 292 rfl rfl (by kernel_rfl));obtain rfl:=h292;go_simp;exact hK _ _ (Ext.refl _) rfl
  ·intro a W hW hB hD K hK;obtain ⟨v293,e293,h293⟩:=dpE (hD 29 _ 293 rfl rfl (by kernel_rfl));obtain rfl:=h293;go_simp;exact hK _ _ (Ext.refl _) rfl
  ·intro a W hW hB hD K hK;have b46:=hB 46 rfl;simp only [sB] at b46;obtain ⟨v294,e294,h294⟩:=dpE (hD 30 _ 294 rfl rfl (by kernel_rfl));obtain rfl:=h294;have z9:=getD_boolX e294;go_simp;exact hK _ _ (Ext.refl _) rfl
  ·intro a W hW hB hD K hK;obtain ⟨v295,e295,h295⟩:=dpE (hD 31 _ 295 rfl rfl (by kernel_rfl));obtain rfl:=h295;obtain ⟨v294,e294,h294⟩:=dpE (hD 30 _ 294 rfl rfl (by kernel_rfl));obtain rfl:=h294;have z9:=getD_boolX e294;go_simp;exact hK _ _ (Ext.refl _) rfl
  ·intro a W hW hB hD K hK;obtain ⟨v294,e294,h294⟩:=dpE (hD 30 _ 294 rfl rfl (by kernel_rfl));obtain rfl:=h294;obtain ⟨v296,e296,h296⟩:=dpE (hD 32 _ 296 rfl rfl (by kernel_rfl));obtain rfl:=h296;go_simp;exact hK _ _ (Ext.refl _) rfl
  ·intro a W hW hB hD K hK;obtain ⟨v297,e297,h297⟩:=dpE (hD 33 _ 297 rfl rfl (by kernel_rfl));obtain rfl:=h297;go_simp;exact hK _ _ (Ext.refl _) rfl
  ·intro a W hW hB hD K hK;have b45:=hB 45 rfl;simp only [sB] at b45;obtain ⟨v298,e298,h298⟩:=dpE (hD 34 _ 298 rfl rfl (by kernel_rfl));obtain rfl:=h298;have z9:=getD_boolX e298;go_simp;exact hK _ _ (Ext.refl _) rfl
  ·intro a W hW hB hD K hK;have b1:=hB 1 rfl;simp only [sB] at b1;obtain ⟨v298,e298,h298⟩:=dpE (hD 34 _ 298 rfl rfl (by kernel_rfl));obtain rfl:=h298;have q9:=(B1.o.ext hW).cell;have l9:=(B1.o.ext hW).lt;have z9:=getD_boolX e298;go_simp;exact hK _ _ (Ext.refl _) rfl
  ·intro a W hW hB hD K hK;obtain ⟨v300,e300,h300⟩:=dpE (hD 36 _ 300 rfl rfl (by kernel_rfl));obtain rfl:=h300;obtain ⟨v298,e298,h298⟩:=dpE (hD 34 _ 298 rfl rfl (by kernel_rfl));obtain rfl:=h298;have z9:=getD_boolX e298;go_simp;exact hK _ _ ((Ext.refl _).alloc _) ⟨_,rfl,rdRs_one (Blk.new _ _ _) (OR.o.ext (hW.trans ((Ext.refl _).alloc _)))⟩
  ·intro a W hW hB hD K hK;obtain ⟨v299,e299,h299⟩:=dpE (hD 35 _ 299 rfl rfl (by kernel_rfl));obtain rfl:=h299;obtain ⟨v301,e301,h301⟩:=dpE (hD 37 _ 301 rfl rfl (by kernel_rfl));obtain ⟨b9,rfl,d2⟩:=h301;obtain ⟨v298,e298,h298⟩:=dpE (hD 34 _ 298 rfl rfl (by kernel_rfl));obtain rfl:=h298;have z9:=getD_boolX e298;go_simp;refine (equalRats_any _ _ [exO] [exO] _ (RrS.o.ext hW) d2).mono ?_;rintro e w9 ⟨rfl,hx⟩;rw [decide_eq_true rfl];exact hK _ _ hx rfl
  ·intro a W hW hB hD K hK;obtain ⟨v298,e298,h298⟩:=dpE (hD 34 _ 298 rfl rfl (by kernel_rfl));obtain rfl:=h298;obtain ⟨v302,e302,h302⟩:=dpE (hD 38 _ 302 rfl rfl (by kernel_rfl));obtain rfl:=h302;go_simp;exact hK _ _ (Ext.refl _) rfl
  ·intro a W hW hB hD K hK;obtain ⟨v303,e303,h303⟩:=dpE (hD 39 _ 303 rfl rfl (by kernel_rfl));obtain rfl:=h303;go_simp;exact hK _ _ (Ext.refl _) rfl
  ·intro a W hW hB hD K hK;have b3:=hB 3 rfl;simp only [sB] at b3;obtain ⟨v304,e304,h304⟩:=dpE (hD 40 _ 304 rfl rfl (by kernel_rfl));obtain rfl:=h304;have q9:=(BM.o.ext hW).cell;have l9:=(BM.o.ext hW).lt;have z9:=getD_boolX e304;go_simp;exact hK _ _ (Ext.refl _) rfl
  ·intro a W hW hB hD K hK;obtain ⟨v305,e305,h305⟩:=dpE (hD 41 _ 305 rfl rfl (by kernel_rfl));obtain rfl:=h305;obtain ⟨v304,e304,h304⟩:=dpE (hD 40 _ 304 rfl rfl (by kernel_rfl));obtain rfl:=h304;have z9:=getD_boolX e304;go_simp;refine (mrCheck_any _ exM _ (MR.o.ext hW) exM_lim).mono ?_;rintro e w9 ⟨rfl,hx⟩;rw [kT];exact hK _ _ hx rfl
  ·intro a W hW hB hD K hK;obtain ⟨v306,e306,h306⟩:=dpE (hD 42 _ 306 rfl rfl (by kernel_rfl));obtain rfl:=h306;obtain ⟨v304,e304,h304⟩:=dpE (hD 40 _ 304 rfl rfl (by kernel_rfl));obtain rfl:=h304;have z9:=getD_boolX e304;go_simp;exact hK _ _ (Ext.refl _) rfl
  ·intro a W hW hB hD K hK;obtain ⟨v304,e304,h304⟩:=dpE (hD 40 _ 304 rfl rfl (by kernel_rfl));obtain rfl:=h304;obtain ⟨v307,e307,h307⟩:=dpE (hD 43 _ 307 rfl rfl (by kernel_rfl));obtain rfl:=h307;go_simp;exact hK _ _ (Ext.refl _) rfl
 intro w99 hx;simp only [Vals,List.take_succ_cons,List.take_zero,List.drop_succ_cons,List.drop_zero];rintro u0 - u1 - u2 - u3 - u4 - u5 - u6 - u7 - u8 - u9 - u10 - u11 - u12 - u13 - u14 - u15 - u16 - u17 - u18 - u19 - u20 - u21 - u22 - u23 - u24 - u25 - u26 - u27 - u28 - u29 - u30 - u31 - u32 - u33 - u34 - u35 - u36 - u37 - u38 - u39 - u40 - u41 - u42 - u43 - u44 h44;obtain rfl:u44=.bool true:=h44;simp only [Act.put,List.setIfInBounds_toArray,List.set_cons_zero,List.set_cons_succ];replace OR:=kI (OR.o.ext hx);replace B1:=kI (B1.o.ext hx);replace B2:=kI (B2.o.ext hx);replace BM:=kI (BM.o.ext hx);replace BW:=kI (BW.o.ext hx);replace MR:=kI (MR.o.ext hx);replace WR:=kI (WR.o.ext hx);replace VC:=kI (VC.o.ext hx);replace VD:=kI (VD.o.ext hx);replace VE:=kI (VE.o.ext hx);replace VF:=kI (VF.o.ext hx);replace RGF:=kI (RGF.o.ext hx);replace PI:=kI (PI.o.ext hx);replace VI:=kI (VI.o.ext hx);replace PJ:=kI (PJ.o.ext hx);replace VJ:=kI (VJ.o.ext hx);replace VL:=kI (VL.o.ext hx);replace PQ:=kI (PQ.o.ext hx);replace PR:=kI (PR.o.ext hx);replace RrS:=kI (RrS.o.ext hx);replace RL:=kI (RL.o.ext hx);replace X:=kI (X.o.trans hx);clear hx;go_wp2_with fail;go_ret;exact ⟨rfl,X.o⟩
end Go.Proofs.YtfflknbeidihoaaGreat
