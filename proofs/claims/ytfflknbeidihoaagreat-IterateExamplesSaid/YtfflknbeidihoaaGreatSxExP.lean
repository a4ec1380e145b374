/- Lemmas and walks. Conditions: as stated. -/
import Derived.Test.YtfflknbeidihoaaGreatSxSml
import Derived.Test.YtfflknbeidihoaaGreatSxChL
import Derived.KernelRfl
set_option linter.unusedVariables false
set_option linter.unusedSimpArgs false
set_option maxRecDepth 100000
set_option maxHeartbeats 16000000
namespace Go.Proofs.YtfflknbeidihoaaGreat
open Go.RowKit
def exO:RR:=rep ((1:Int):Rat)
def exB:RR:=⟨true,[],[]⟩
def exM:MD:=⟨exO,[[⟨exO,[(0,exO)]⟩]]⟩
def exW:MD:=⟨exO,[]⟩
def exN:List (List Int):=List.replicate 25 []
def exR:List RR:=[rep ((25:Int):Rat)]
theorem kA:(stagesS exW [] (-1)).2.2=3:=by kernel_rfl
theorem kB:(stagesS exM [] (-1)).2.2=16:=by kernel_rfl
theorem kC:(stagesS exM [exB] 25).2.2=1:=by kernel_rfl
theorem kD:(stagesS exM [exB] 1).2.2=2:=by kernel_rfl
theorem kE:stagesS exM [exB] 0=([[exB]],[],0):=by kernel_rfl
theorem kG:(planS exM [exO] exN).2=4:=by kernel_rfl
theorem kH:(planS exM [exB,exB] exN).2=16:=by kernel_rfl
theorem kI9:(planS exM [exO] [[0],[0,0]]).2=16:=by kernel_rfl
theorem kJ:(planS exM [exB] [[1]]).2=8:=by kernel_rfl
theorem kK:(scoresS exM []).2=16:=by kernel_rfl
theorem kL:(scoresS exM [exB]).2=2:=by kernel_rfl
theorem kN:(chancesS exW [] 0).2=3:=by kernel_rfl
theorem kO:(chancesS exM exN 1).2=8:=by kernel_rfl
theorem kP9:(chancesS exM exN 0).2=4:=by kernel_rfl
theorem kQ:(chancesS exM [[7],[0,0]] 0).2=16:=by kernel_rfl
theorem kR:(chancesS exM [[0,0],[7]] 0).2=8:=by kernel_rfl
theorem kS:chancesS exM [] 0=([exO],0):=by kernel_rfl
theorem kT:mdE exM=0:=by kernel_rfl
theorem kF:(stagesS exM [exO] 24).2.2=0:=by kernel_rfl
theorem kF1:(stagesS exM [exO] 24).1.length=25:=by kernel_rfl
theorem kF2:(stagesS exM [exO] 24).2.1.length=24:=by kernel_rfl
theorem kF3:(stagesS exM [exO] 24).1.getD 24 []=exR:=by kernel_rfl
end Go.Proofs.YtfflknbeidihoaaGreat
