/- Numbers of single precision: what draws are worth. -/
import Derived.Test.YtckobcjjbpnkcaaXdrawField
import Derived.Test.YtckobcjjbpnkcaaFB
namespace Go.Proofs.Ytckobcjjbpnkcaa
open Go Go.RowKit
set_option linter.unusedVariables false
set_option linter.unusedSimpArgs false
set_option maxRecDepth 100000
set_option maxHeartbeats 8000000

open Ieee in
/-- A word's worth, in units of 2^-149. -/
def val (w : Nat) : Nat := match Ieee.Format.read Ieee.single w with
  | .number _ m p => m * 2 ^ (p + 149).toNat
  | _ => 0
theorem sg_ws : Ieee.Format.signWeight Ieee.single = 2147483648 := by decide
theorem sg_bi : Ieee.Format.binade Ieee.single = 8388608 := by decide
theorem sg_in : Ieee.Format.infRung Ieee.single = 2139095040 := by decide
theorem sg_lp : Ieee.Format.leastPlace Ieee.single = -149 := by decide
theorem read_sub {w : Nat} (h : w < 8388608) : Ieee.Format.read Ieee.single w = .number false w (-149) := by
  unfold Ieee.Format.read
  simp only [sg_ws, sg_bi, sg_in, sg_lp, show w / 2147483648 = 0 by omega, show w % 2147483648 = w by omega]
  rw [if_pos h]; rfl
theorem read_nor {e m : Nat} (he : 1 ≤ e ∧ e ≤ 254) (hm : 8388608 ≤ m ∧ m < 16777216) : Ieee.Format.read Ieee.single ((e - 1) * 8388608 + m) = .number false m (-149 + ((e - 1 : Nat) : Int)) := by
  obtain ⟨w, hw⟩ : ∃ w, (e - 1) * 8388608 + m = w := ⟨_, rfl⟩
  rw [hw]
  unfold Ieee.Format.read
  simp only [sg_ws, sg_bi, sg_in, sg_lp, show w / 2147483648 = 0 by omega, show w % 2147483648 = w by omega]
  rw [if_neg (by omega), if_pos (by omega)]
  have e1 : w % 8388608 = m - 8388608 := by omega
  have e2 : w / 8388608 = e := by omega
  rw [e1, e2, show 8388608 + (m - 8388608) = m by omega]; rfl
theorem read_any {w : Nat} (h : w < 2139095040) : ∃ m p, Ieee.Format.read Ieee.single w = .number false m p ∧ -149 ≤ p := by
  by_cases h1 : w < 8388608
  · exact ⟨_, _, read_sub h1, Int.le_refl _⟩
  · have := read_nor (e := w / 8388608) (m := 8388608 + w % 8388608) (by omega) (by omega)
    rw [show (w / 8388608 - 1) * 8388608 + (8388608 + w % 8388608) = w by omega] at this
    exact ⟨_, _, this, by omega⟩
theorem shl_mul {m a : Nat} : m <<< a = m * 2 ^ a := Nat.shiftLeft_eq m a
theorem flt_val {u v : Nat} (hu : u < 2139095040) (hv : v < 2139095040) : flt u v = true ↔ val u < val v := by
  obtain ⟨m, i, e1, hi⟩ := read_any hu
  obtain ⟨n, j, e2, hj⟩ := read_any hv
  unfold flt val Ieee.Format.order
  rw [e1, e2]
  simp only [Ieee.Datum.order, Ieee.signed, Bool.false_eq_true, if_false, shl_mul]
  have key : ∀ (x : Nat) (a b : Int), -149 ≤ b → b ≤ a → x * 2 ^ (a + 149).toNat = x * 2 ^ (a - b).toNat * 2 ^ (b + 149).toNat := fun x a b h1 h2 => by
    rw [Nat.mul_assoc, ← Nat.pow_add]; congr 2; omega
  rw [key m i (min i j) (by omega) (by omega), key n j (min i j) (by omega) (by omega)]
  have hp : 0 < 2 ^ (min i j + 149).toNat := Nat.pow_pos (by decide)
  rw [Nat.mul_lt_mul_right hp]
  generalize m * 2 ^ (i - min i j).toNat = x
  generalize n * 2 ^ (j - min i j).toNat = y
  rw [beq_iff_eq, Option.some.injEq]
  show compareOfLessAndEq (x : Int) (y : Int) = .lt ↔ _
  unfold compareOfLessAndEq
  by_cases h : (x : Int) < y
  · rw [if_pos h]; exact ⟨fun _ => by omega, fun _ => rfl⟩
  · rw [if_neg h]; constructor
    · intro g; split at g <;> cases g
    · intro g; exfalso; omega
theorem val_of {w m : Nat} {s : Bool} {p : Int} (h : Ieee.Format.read Ieee.single w = .number s m p) : val w = m * 2 ^ (p + 149).toNat := by unfold val; rw [h]
theorem log_is {m k : Nat} (h1 : 2 ^ k ≤ m) (h2 : m < 2 ^ (k + 1)) : m.log2 = k := by
  have h0 : m ≠ 0 := by have : 0 < 2 ^ k := Nat.pow_pos (by decide); omega
  have a := (Nat.log2_lt h0).2 h2
  have b := (Nat.le_log2 h0).2 h1
  omega
/-- What a number below 2^24 becomes. -/
theorem near_is {n k : Nat} (h1 : 2 ^ k ≤ n) (h2 : n < 2 ^ (k + 1)) (hk : k ≤ 23) : FloatKind.nearest .f32 (n : Int) = (k + 127 - 1) * 8388608 + n * 2 ^ (23 - k) := by
  have h0 : n ≠ 0 := by have : 0 < 2 ^ k := Nat.pow_pos (by decide); omega
  have e0 : decide ((n : Int) < 0) = false := decide_eq_false (by omega)
  have e1 : (n : Int).natAbs = n := Int.natAbs_natCast n
  show Ieee.Format.write Ieee.single (.number (decide ((n : Int) < 0)) (n : Int).natAbs 0) = _
  rw [e0, e1]
  show Ieee.Format.nearest Ieee.single false n 0 = _
  unfold Ieee.Format.nearest
  rw [if_neg h0, log_is h1 h2]
  have ef : Ieee.single.fractionBits = 23 := rfl
  have el : max ((0 : Int) + (k : Nat) - ((23 : Nat) : Int)) (-149) = (k : Int) - 23 := by omega
  simp only [sg_lp, ef, el, sg_bi, sg_in]
  rw [show ((k : Int) - 23 - 0).toNat = 0 by omega, show (0 - ((k : Int) - 23)).toNat = 23 - k by omega, show ((k : Int) - 23 - -149).toNat = k + 126 by omega, cut0, shl_mul, word_false]
  have hp : n * 2 ^ (23 - k) < 2 ^ (k + 1) * 2 ^ (23 - k) := Nat.mul_lt_mul_of_pos_right h2 (Nat.pow_pos (by decide))
  rw [← Nat.pow_add, show k + 1 + (23 - k) = 24 by omega] at hp
  have e24 : (2 : Nat) ^ 24 = 16777216 := by decide
  rw [e24] at hp
  omega
theorem cut3 {m : Nat} (h : 2 ≤ (m * 8).log2) : Ieee.Toward.cut .even false (m * 8) 3 = m := by
  unfold Ieee.Toward.cut
  have e1 : min 3 ((m * 8).log2 + 2) = 3 := by omega
  have e2 : (1 : Nat) <<< 3 = 8 := by decide
  have e3 : m * 8 / 8 = m := by omega
  have e4 : m * 8 % 8 = 0 := by omega
  simp only [e1, e2, e3, e4]
  simp
theorem fin_ar {k M : Nat} (hk : k ≤ 23) (hM : M < 16777216) : min ((k + 102) * 8388608 + M) 2139095040 = (k + 103 - 1) * 8388608 + M := by omega
theorem div_is {n k : Nat} (h1 : 2 ^ k ≤ n) (h2 : n < 2 ^ (k + 1)) (hk : k ≤ 23) : divV n = (k + 103 - 1) * 8388608 + n * 2 ^ (23 - k) := by
  have hp1 : 2 ^ k * 2 ^ (23 - k) ≤ n * 2 ^ (23 - k) := Nat.mul_le_mul_right _ h1
  have hp2 : n * 2 ^ (23 - k) < 2 ^ (k + 1) * 2 ^ (23 - k) := Nat.mul_lt_mul_of_pos_right h2 (Nat.pow_pos (by decide))
  rw [← Nat.pow_add, show k + (23 - k) = 23 by omega] at hp1
  rw [← Nat.pow_add, show k + 1 + (23 - k) = 24 by omega] at hp2
  have e23 : (2 : Nat) ^ 23 = 8388608 := by decide
  have e24 : (2 : Nat) ^ 24 = 16777216 := by decide
  have hr := read_nor (e := k + 127) (m := n * 2 ^ (23 - k)) (by omega) (by omega)
  unfold divV
  rw [near_is h1 h2 hk]
  generalize n * 2 ^ (23 - k) = M at *
  have l23 : (8388608 : Nat).log2 = 23 := by decide
  have e2 : Ieee.Format.read Ieee.single 1266679808 = .number false 8388608 1 := by decide
  unfold Ieee.Format.div
  rw [hr, e2]
  have lM : M.log2 = 23 := log_is hp1 hp2
  have q1 : (Ieee.single.fractionBits + 2 + 23 - 23 : Nat) = 25 := rfl
  simp only [Ieee.Datum.quotient, l23, lM, q1, shl_mul]
  rw [if_neg (by decide), show (false ^^ false) = false from rfl]
  have e25 : (2 : Nat) ^ 25 = 33554432 := by decide
  have d1 : M * 2 ^ 25 / 8388608 = M * 4 := by rw [e25]; omega
  have d2 : M * 2 ^ 25 % 8388608 = 0 := by rw [e25]; omega
  rw [d1, d2]
  simp only [Option.map_some, Option.getD_some]
  show Ieee.Format.nearest Ieee.single _ _ _ = _
  rw [show (2 * (M * 4) + ((0 : Nat) != 0).toNat) = M * 8 by show 2 * (M * 4) + 0 = M * 8; omega]
  have l26 : (M * 8).log2 = 26 := log_is (by omega) (by omega)
  unfold Ieee.Format.nearest
  rw [if_neg (by omega), l26]
  have ef : Ieee.single.fractionBits = 23 := rfl
  have el : max (-149 + ((k + 127 - 1 : Nat) : Int) - 1 - ((25 : Nat) : Int) - 1 + ((26 : Nat) : Int) - ((23 : Nat) : Int)) (-149) = (k : Int) - 47 := by omega
  simp only [sg_lp, ef, el, sg_bi, sg_in]
  rw [show (-149 + ((k + 127 - 1 : Nat) : Int) - 1 - ((25 : Nat) : Int) - 1 - ((k : Int) - 47)).toNat = 0 by omega, show ((k : Int) - 47 - (-149 + ((k + 127 - 1 : Nat) : Int) - 1 - ((25 : Nat) : Int) - 1)).toNat = 3 by omega, show ((k : Int) - 47 - -149).toNat = k + 102 by omega, shl_mul, Nat.pow_zero, Nat.mul_one, cut3 (by omega)]
  show Ieee.Format.word _ false _ = _
  rw [word_false]
  rw [e24] at hp2
  exact fin_ar hk hp2
theorem div_zero : divV 0 = 0 := by unfold divV; decide
theorem div_val {n : Int} (h : 0 ≤ n ∧ n < 16777216) : divV n < 2139095040 ∧ val (divV n) = n.toNat * 2 ^ 125 := by
  obtain ⟨m, rfl⟩ : ∃ m : Nat, n = m := ⟨n.toNat, by omega⟩
  rw [Int.toNat_natCast]
  by_cases h0 : m = 0
  · subst h0
    have : divV ((0 : Nat) : Int) = 0 := div_zero
    rw [this, Nat.zero_mul]; exact ⟨by decide, by decide⟩
  obtain ⟨k, hk⟩ : ∃ k, m.log2 = k := ⟨_, rfl⟩
  have h1 : 2 ^ k ≤ m := by rw [← hk]; exact (Nat.le_log2 h0).1 (Nat.le_refl _)
  have h2 : m < 2 ^ (k + 1) := by rw [← hk]; exact Nat.lt_log2_self
  have e24 : (2 : Nat) ^ 24 = 16777216 := by decide
  have hk23 : k ≤ 23 := by have := (Nat.log2_lt h0 (k := 24)).2 (by omega); omega
  have hp1 : 2 ^ k * 2 ^ (23 - k) ≤ m * 2 ^ (23 - k) := Nat.mul_le_mul_right _ h1
  have hp2 : m * 2 ^ (23 - k) < 2 ^ (k + 1) * 2 ^ (23 - k) := Nat.mul_lt_mul_of_pos_right h2 (Nat.pow_pos (by decide))
  rw [← Nat.pow_add, show k + (23 - k) = 23 by omega] at hp1
  rw [← Nat.pow_add, show k + 1 + (23 - k) = 24 by omega] at hp2
  have e23 : (2 : Nat) ^ 23 = 8388608 := by decide
  rw [div_is h1 h2 hk23]
  refine ⟨by omega, ?_⟩
  rw [val_of (read_nor (by omega) (by omega)), show (-149 + ((k + 103 - 1 : Nat) : Int) + 149).toNat = k + 102 by omega, Nat.mul_assoc, ← Nat.pow_add, show 23 - k + (k + 102) = 125 by omega]
theorem draw_one {x : Int} (h : 0 ≤ x ∧ x ≤ 4294967295) : drawC 1065353216 x = 1 := by
  obtain ⟨h1, h2⟩ := div_val (n := x / 256) (by omega)
  rw [drawC, if_pos]
  rw [flt_val h1 (by decide), h2]
  have e : val 1065353216 = 2 ^ 24 * 2 ^ 125 := by decide
  rw [e]
  have e24 : (2 : Nat) ^ 24 = 16777216 := by decide
  exact Nat.mul_lt_mul_of_pos_right (by omega) (Nat.pow_pos (by decide))
theorem draw_zero {x : Int} (h : 0 ≤ x ∧ x ≤ 4294967295) : drawC 0 x = 0 := by
  obtain ⟨h1, h2⟩ := div_val (n := x / 256) (by omega)
  rw [drawC, if_neg]
  rw [flt_val h1 (by decide)]
  have e : val 0 = 0 := by decide
  rw [e]; omega
theorem draw_le {a b : Nat} {x : Int} (ha : a < 2139095040) (hb : b < 2139095040) (hab : val a ≤ val b) (h : 0 ≤ x ∧ x ≤ 4294967295) : drawC a x ≤ drawC b x := by
  obtain ⟨h1, h2⟩ := div_val (n := x / 256) (by omega)
  rw [drawC, drawC]
  by_cases g : flt (divV (x / 256)) a = true
  · rw [if_pos g, if_pos ((flt_val h1 hb).2 (Nat.lt_of_lt_of_le ((flt_val h1 ha).1 g) hab))]; exact Int.le_refl 1
  · rw [if_neg g]; split <;> omega
theorem draw_in {a : Nat} {x : Int} : 0 ≤ drawC a x ∧ drawC a x ≤ 1 := by rw [drawC]; split <;> omega

end Go.Proofs.Ytckobcjjbpnkcaa
