/- Numbers of single precision: what a whole number below 2^24 becomes, and its quotient by 2^24. -/
import Derived.Test.YtckobcjjbpnkcaaXplain
import Derived.Test.YtckobcjjbpnkcaaFB
namespace Go.Proofs.Ytckobcjjbpnkcaa
open Go Go.RowKit
set_option linter.unusedVariables false
set_option linter.unusedSimpArgs false
set_option maxRecDepth 100000
set_option maxHeartbeats 8000000


theorem cut0 {neg : Bool} {n : Nat} : Ieee.Toward.cut .even neg n 0 = n := by
  unfold Ieee.Toward.cut
  simp
  omega
theorem read_num {w : Nat} (h : w < 2139095040) : ∃ m p, Ieee.Format.read Ieee.single w = .number false m p := by
  have e1 : Ieee.Format.signWeight Ieee.single = 2147483648 := by decide
  have e2 : Ieee.Format.binade Ieee.single = 8388608 := by decide
  have e3 : Ieee.Format.infRung Ieee.single = 2139095040 := by decide
  have d1 : w / 2147483648 = 0 := by omega
  have d2 : w % 2147483648 = w := by omega
  unfold Ieee.Format.read
  simp only [e1, e2, e3, d1, d2]
  by_cases hb : w < 8388608
  · rw [if_pos hb]; exact ⟨_, _, rfl⟩
  · rw [if_neg hb, if_pos h]; exact ⟨_, _, rfl⟩
theorem word_false {f : Ieee.Format} {r : Nat} : f.word false r = r := rfl
theorem near_lt {n : Int} (h : 0 ≤ n ∧ n < 16777216) : FloatKind.nearest .f32 n < 2139095040 := by
  obtain ⟨m, rfl⟩ : ∃ m : Nat, n = m := ⟨n.toNat, by omega⟩
  have hm : m < 16777216 := by omega
  have e0 : decide ((m : Int) < 0) = false := decide_eq_false (by omega)
  have e1 : (m : Int).natAbs = m := Int.natAbs_natCast m
  show Ieee.Format.write Ieee.single (.number (decide ((m : Int) < 0)) (m : Int).natAbs 0) < _
  rw [e0, e1]
  show Ieee.Format.nearest Ieee.single false m 0 < _
  unfold Ieee.Format.nearest
  by_cases h0 : m = 0
  · rw [if_pos h0]; decide
  · rw [if_neg h0]
    have hl1 : m.log2 < 24 := (Nat.log2_lt h0).2 hm
    have hl2 : m < 2 ^ (m.log2 + 1) := Nat.lt_log2_self
    have ep : Ieee.Format.leastPlace Ieee.single = -149 := by decide
    have eb : Ieee.Format.binade Ieee.single = 8388608 := by decide
    have ef : Ieee.single.fractionBits = 23 := rfl
    have el : max ((0 : Int) + (m.log2 : Nat) - ((23 : Nat) : Int)) (-149) = (m.log2 : Int) - 23 := by omega
    simp only [ep, ef, el, eb]
    generalize hk : m.log2 = k at *
    have k1 : ((k : Int) - 23 - 0).toNat = 0 := by omega
    have k2 : (0 - ((k : Int) - 23)).toNat = 23 - k := by omega
    have k3 : ((k : Int) - 23 - -149).toNat = k + 126 := by omega
    rw [k1, k2, k3, cut0, Nat.shiftLeft_eq]
    have hp : m * 2 ^ (23 - k) < 2 ^ (k + 1) * 2 ^ (23 - k) := Nat.mul_lt_mul_of_pos_right hl2 (Nat.pow_pos (by decide))
    rw [← Nat.pow_add, show k + 1 + (23 - k) = 24 by omega] at hp
    have e24 : (2 : Nat) ^ 24 = 16777216 := by decide
    rw [e24] at hp
    rw [word_false]
    refine Nat.lt_of_le_of_lt (Nat.min_le_left _ _) ?_
    omega
theorem div24 {n : Int} (h : 0 ≤ n ∧ n < 16777216) : ∃ z, Ieee.Format.div Ieee.single (FloatKind.nearest .f32 n) 1266679808 = some z := by
  obtain ⟨m, p, e⟩ := read_num (near_lt h)
  have e2 : Ieee.Format.read Ieee.single 1266679808 = .number false 8388608 1 := by decide
  unfold Ieee.Format.div
  rw [e, e2]
  exact ⟨_, rfl⟩
noncomputable def divV (n : Int) : Nat := (Ieee.Format.div Ieee.single (FloatKind.nearest .f32 n) 1266679808).getD 0
theorem divV_eq {n : Int} (h : 0 ≤ n ∧ n < 16777216) : Ieee.Format.div Ieee.single (FloatKind.nearest .f32 n) 1266679808 = some (divV n) := by
  obtain ⟨z, hz⟩ := div24 h
  rw [divV, hz]; rfl

end Go.Proofs.Ytckobcjjbpnkcaa
