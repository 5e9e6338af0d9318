/- What the laws do with fields. -/
import Derived.Test.YtafdjnhlhepibaaXtoInts
import Derived.Test.YtafdjnhlhepibaaXeqInts
import Derived.Test.YtafdjnhlhepibaaXsz
import Derived.Test.YtafdjnhlhepibaaXmark
import Derived.Test.YtafdjnhlhepibaaFB
namespace Go.Proofs.Ytafdjnhlhepibaa
open Go Go.RowKit
set_option linter.unusedVariables false
set_option linter.unusedSimpArgs false
set_option maxRecDepth 100000
set_option maxHeartbeats 8000000


end Go.Proofs.Ytafdjnhlhepibaa
