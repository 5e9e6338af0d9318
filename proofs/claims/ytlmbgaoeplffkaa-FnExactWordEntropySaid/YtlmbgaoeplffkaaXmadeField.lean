/- What madeField, l04New and NewField do. -/
import Derived.Test.YtlmbgaoeplffkaaXvalid
import Derived.Test.YtlmbgaoeplffkaaXmade
import Derived.Test.YtlmbgaoeplffkaaXfield
import Derived.Test.YtlmbgaoeplffkaaFB
namespace Go.Proofs.Ytlmbgaoeplffkaa
open Go Go.RowKit
set_option linter.unusedVariables false
set_option linter.unusedSimpArgs false
set_option maxRecDepth 100000
set_option maxHeartbeats 8000000


theorem mk_zero {r c : Nat} : List.replicate (r * c) 0 = mk r c fun _ _ => 0 :=
  mk_eq (by simp) fun i k hi hk => by rw [List.getD_eq_getElem?_getD, List.getElem?_replicate, if_pos (lt_mul hi hk)]; rfl
end Go.Proofs.Ytlmbgaoeplffkaa
