/- Fields turned, mirrored, cut, shifted: the reference. -/
import Derived.Test.YtckobcjjbpnkcaaXfieldG
import Derived.Test.YtckobcjjbpnkcaaFB
namespace Go.Proofs.Ytckobcjjbpnkcaa
open Go Go.RowKit
set_option linter.unusedVariables false
set_option linter.unusedSimpArgs false
set_option maxRecDepth 100000
set_option maxHeartbeats 8000000


theorem fill_step {R C i k : Nat} {g : Int → Int → Int} {ys : List Int} (hl : ys.length = R * C) (ht : ys.take (i * C + k) = (mk R C g).take (i * C + k)) (hi : i < R) (hk : k < C) {v : Int} (hv : v = g i k) :
    (ys.set ((i : Int) * C + k).toNat v).take (i * C + (k + 1)) = (mk R C g).take (i * C + (k + 1)) := by
  have h := lt_mul hi hk
  rw [toNat_cell, hv, ← mk_get (g := g) hi hk]
  exact take_set (i := i * C + k) (d := 0) ht (by omega) (by simpa using h)
end Go.Proofs.Ytckobcjjbpnkcaa
