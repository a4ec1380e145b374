/- Walks of Update of layer 30's reference. Conditions: none. -/
import Derived.Test.YtcmemdmfnflfiaaInhA
import Derived.Test.YtcmemdmfnflfiaaGA
namespace Go.Proofs.Ytcmemdmfnflfiaa
set_option linter.unusedSimpArgs false
set_option linter.unusedVariables false
open Go.RowKit

end Go.Proofs.Ytcmemdmfnflfiaa
