/- What the laws do with fields. -/
import Derived.Test.YtkeabhhndcpejaaXtoInts
import Derived.Test.YtkeabhhndcpejaaXeqInts
import Derived.Test.YtkeabhhndcpejaaXsz
import Derived.Test.YtkeabhhndcpejaaXmark
import Derived.Test.YtkeabhhndcpejaaFB
namespace Go.Proofs.Ytkeabhhndcpejaa
open Go Go.RowKit
set_option linter.unusedVariables false
set_option linter.unusedSimpArgs false
set_option maxRecDepth 100000
set_option maxHeartbeats 8000000


end Go.Proofs.Ytkeabhhndcpejaa
