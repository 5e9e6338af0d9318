/- What the laws do with fields. -/
import Derived.Test.YtpjnhhhpedidpaaXtoInts
import Derived.Test.YtpjnhhhpedidpaaXeqInts
import Derived.Test.YtpjnhhhpedidpaaXsz
import Derived.Test.YtpjnhhhpedidpaaXmark
import Derived.Test.YtpjnhhhpedidpaaFB
namespace Go.Proofs.Ytpjnhhhpedidpaa
open Go Go.RowKit
set_option linter.unusedVariables false
set_option linter.unusedSimpArgs false
set_option maxRecDepth 100000
set_option maxHeartbeats 8000000


end Go.Proofs.Ytpjnhhhpedidpaa
