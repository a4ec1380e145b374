/- Part of the proof of ivalL_holds: what the row needs of RatSb. Conditions: as each theorem states. -/
import Derived.Test.YtlbppdgijjbjbaaGreatSvRatSa
namespace Go.Proofs.YtlbppdgijjbjbaaGreat
set_option linter.unusedSimpArgs false
set_option linter.unusedVariables false
open Go.RowKit
theorem valid_lenR {r : RR} (hl : LimR r) (h : chkR r = 0) : lenR r 128 := ⟨(chkR_0 hl h).1, (chkR_0 hl h).2.1⟩
end Go.Proofs.YtlbppdgijjbjbaaGreat
