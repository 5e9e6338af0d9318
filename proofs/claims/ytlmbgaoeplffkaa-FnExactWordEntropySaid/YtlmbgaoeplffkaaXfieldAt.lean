/- What the small functions of fields do. -/
import Derived.Test.YtlmbgaoeplffkaaXmadeField
import Derived.Test.YtlmbgaoeplffkaaXarith
import Derived.Test.YtlmbgaoeplffkaaFB
namespace Go.Proofs.Ytlmbgaoeplffkaa
open Go Go.RowKit
set_option linter.unusedVariables false
set_option linter.unusedSimpArgs false
set_option maxRecDepth 100000
set_option maxHeartbeats 8000000


abbrev cel (xs : List Int) (c i k : Int) : Int := xs.getD (i * c + k).toNat 0
/-- A cell, round and round, or 0 beyond the border. -/
def lookV (r c : Int) (xs : List Int) (i k : Int) (t : Bool) : Int := if t = true then cel xs c (i % r) (k % c) else if (0 ≤ i ∧ i < r) ∧ 0 ≤ k ∧ k < c then cel xs c i k else 0
end Go.Proofs.Ytlmbgaoeplffkaa
