/- Facts on remainders. -/
import Derived.Test.YtlmbgaoeplffkaaXlists
import Derived.Test.YtlmbgaoeplffkaaFB
namespace Go.Proofs.Ytlmbgaoeplffkaa
open Go Go.RowKit
set_option linter.unusedVariables false
set_option linter.unusedSimpArgs false
set_option maxRecDepth 100000
set_option maxHeartbeats 8000000


theorem tmod_facts {a b : Int} (hb : 0 < b) : -b < a.tmod b ∧ a.tmod b < b ∧ (a.tmod b + b) % b = a % b := by
  have h1 : a.tmod b + b * a.tdiv b = a := Int.tmod_add_mul_tdiv a b
  have h2 : (a.tmod b + b) % b = a % b := by
    rw [Int.add_emod_right]
    conv => rhs; rw [← h1]
    rw [Int.add_mul_emod_self_left]
  refine ⟨?_, ?_, h2⟩
  · rcases Int.le_total 0 a with h | h
    · rw [Int.tmod_eq_emod_of_nonneg h]; have := Int.emod_nonneg a (by omega : b ≠ 0); omega
    · have : a.tmod b = -((-a).tmod b) := by rw [Int.neg_tmod]; omega
      rw [this, Int.tmod_eq_emod_of_nonneg (by omega)]
      have := Int.emod_lt_of_pos (-a) hb; omega
  · rcases Int.le_total 0 a with h | h
    · rw [Int.tmod_eq_emod_of_nonneg h]; exact Int.emod_lt_of_pos a hb
    · have : a.tmod b = -((-a).tmod b) := by rw [Int.neg_tmod]; omega
      rw [this, Int.tmod_eq_emod_of_nonneg (by omega)]
      have := Int.emod_nonneg (-a) (by omega : b ≠ 0); omega
theorem emod_in {a b : Int} (hb : 0 < b) : 0 ≤ a % b ∧ a % b < b := ⟨Int.emod_nonneg a (by omega), Int.emod_lt_of_pos a hb⟩
/-- A cell lies in its field. -/
theorem cell_in {r c i k : Int} (hi : 0 ≤ i ∧ i < r) (hk : 0 ≤ k ∧ k < c) : (0 ≤ i * c ∧ 0 ≤ i * c + k) ∧ i * c + k < r * c ∧ i * c ≤ r * c := by
  have h0 := Int.mul_nonneg hi.1 (by omega : 0 ≤ c)
  have h1 := Int.mul_le_mul_of_nonneg_right (by omega : i + 1 ≤ r) (by omega : 0 ≤ c)
  rw [Int.add_mul] at h1
  omega
theorem toNat_cell {c i k : Nat} : ((i : Int) * c + k).toNat = i * c + k := by
  have : ((i : Int) * c + k) = ((i * c + k : Nat) : Int) := by push_cast; rfl
  rw [this]; rfl
theorem toNat_mul {r c : Nat} : ((r : Int) * c).toNat = r * c := by rw [← Int.natCast_mul]; rfl

end Go.Proofs.Ytlmbgaoeplffkaa
