/- What szInt64S does. -/
import Derived.Test.YtckobcjjbpnkcaaXtoInts
import Derived.Test.YtckobcjjbpnkcaaFB
namespace Go.Proofs.Ytckobcjjbpnkcaa
open Go Go.RowKit
set_option linter.unusedVariables false
set_option linter.unusedSimpArgs false
set_option maxRecDepth 100000
set_option maxHeartbeats 8000000


end Go.Proofs.Ytckobcjjbpnkcaa
