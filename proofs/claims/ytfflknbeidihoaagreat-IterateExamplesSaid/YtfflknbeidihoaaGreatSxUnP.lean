/- Lemmas and walks. Conditions: as stated. -/
import Derived.Test.YtfflknbeidihoaaGreatSxSml
import Derived.Test.YtfflknbeidihoaaGreatSxChL
set_option linter.unusedVariables false
set_option linter.unusedSimpArgs false
set_option maxRecDepth 100000
set_option maxHeartbeats 16000000
namespace Go.Proofs.YtfflknbeidihoaaGreat
open Go.RowKit
def NN (r:RR):Prop:=chkR r=0∧LimR r∧r.neg=false
def dotO:List Out→(Nat→Rat)→Rat
 | [],_=>0
 | o :: os,f=>qv o.2*f o.1.toNat+dotO os f
def TT (m:MD):List (List Int)→(Nat→Rat)→Nat→Rat
 | [],f=>f
 | p :: ps,f=>fun u=>dotO (m.act u (p.getD u 0).toNat).next (TT m ps f)
theorem small_one:small ((1:Int):Rat):=small_int (by decide) (by decide)
theorem rep_of {r:RR} (hl:LimR r) (hc:chkR r=0):rep (qv r)=r:=(valid_rep hl hc).2.2
end Go.Proofs.YtfflknbeidihoaaGreat
