/- Rules: powers, and which are valid. -/
import Derived.Test.YtckobcjjbpnkcaaXvalid
import Derived.Test.YtckobcjjbpnkcaaFB
namespace Go.Proofs.Ytckobcjjbpnkcaa
open Go Go.RowKit
set_option linter.unusedVariables false
set_option linter.unusedSimpArgs false
set_option maxRecDepth 100000
set_option maxHeartbeats 8000000


theorem pow_le {b n : Nat} (hb : b ≤ 3) (hn : n ≤ 30) : b ^ n ≤ 205891132094649 :=
  Nat.le_trans (Nat.pow_le_pow_left hb n) (Nat.le_trans (Nat.pow_le_pow_right (by omega) hn) (by decide))
theorem pow_cast {b i : Nat} : ((b ^ i : Nat) : Int) * (b : Int) = ((b ^ (i + 1) : Nat) : Int) := by rw [Nat.pow_succ]; push_cast; rfl
/-- A rule that is valid: states, reach, table. -/
def VR (st re : Int) (xs : List Int) : Prop := (2 ≤ st ∧ st ≤ 3) ∧ (0 ≤ re ∧ re ≤ 2) ∧ xs.length = st.toNat ^ (2 * re + 1).toNat ∧ ∀ x ∈ xs, 0 ≤ x ∧ x ≤ st - 1
end Go.Proofs.Ytckobcjjbpnkcaa
