/- Fields on which others are pasted: the reference. -/
import Derived.Test.YtckobcjjbpnkcaaXfieldS
import Derived.Test.YtckobcjjbpnkcaaFB
namespace Go.Proofs.Ytckobcjjbpnkcaa
open Go Go.RowKit
set_option linter.unusedVariables false
set_option linter.unusedSimpArgs false
set_option maxRecDepth 100000
set_option maxHeartbeats 8000000


end Go.Proofs.Ytckobcjjbpnkcaa
