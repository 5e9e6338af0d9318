/- What the laws do with fields. -/
import Derived.Test.YtlmbgaoeplffkaaXtoInts
import Derived.Test.YtlmbgaoeplffkaaXeqInts
import Derived.Test.YtlmbgaoeplffkaaXsz
import Derived.Test.YtlmbgaoeplffkaaXmark
import Derived.Test.YtlmbgaoeplffkaaFB
namespace Go.Proofs.Ytlmbgaoeplffkaa
open Go Go.RowKit
set_option linter.unusedVariables false
set_option linter.unusedSimpArgs false
set_option maxRecDepth 100000
set_option maxHeartbeats 8000000


end Go.Proofs.Ytlmbgaoeplffkaa
