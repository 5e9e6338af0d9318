/- Sums over all lists of bits do not depend on the order of the bits. -/
import Derived.Test.YtckobcjjbpnkcaaXsums
import Derived.Test.YtckobcjjbpnkcaaXdigits
import Derived.Test.YtckobcjjbpnkcaaXcount
import Derived.Test.YtckobcjjbpnkcaaFB
namespace Go.Proofs.Ytckobcjjbpnkcaa
open Go Go.RowKit
set_option linter.unusedVariables false
set_option linter.unusedSimpArgs false
set_option maxRecDepth 100000
set_option maxHeartbeats 8000000


def bsA : Nat → (List Int → Int) → Int
  | 0, F => F []
  | n + 1, F => bsA n fun l => F (l ++ [0]) + F (l ++ [1])
def bsB : Nat → (List Int → Int) → Int
  | 0, F => F []
  | n + 1, F => bsB n fun l => F (0 :: l) + F (1 :: l)
theorem bsA_cons : ∀ (n : Nat) (F : List Int → Int), bsA (n + 1) F = bsA n fun l => F (0 :: l) + F (1 :: l)
  | 0, F => rfl
  | n + 1, F => by
    rw [bsA, bsA_cons n, bsA]
    congr 1
    funext l
    simp only [List.cons_append]
    omega
theorem bsA_bsB : ∀ (n : Nat) (F : List Int → Int), bsA n F = bsB n F
  | 0, F => rfl
  | n + 1, F => by rw [bsA_cons, bsA_bsB n, bsB]
theorem sg_pairs {f : Nat → Int} : ∀ n, sg f (2 * n) = sg (fun i => f (2 * i) + f (2 * i + 1)) n
  | 0 => rfl
  | n + 1 => by rw [show 2 * (n + 1) = 2 * n + 1 + 1 by omega, sg, sg, sg_pairs n, sg]; omega
/-- The bits of a number, the least first. -/
def lb (i n : Nat) : List Int := (List.range n).map fun t => dgt 2 i t
@[simp] theorem lb_len {i n : Nat} : (lb i n).length = n := by simp [lb]
theorem lb_get {i n t : Nat} (h : t < n) : (lb i n).getD t 0 = dgt 2 i t := getD_map_range h
theorem dgt0 {b j : Nat} (hb : b < 2) : dgt 2 (2 * j + b) 0 = b := by unfold dgt; rw [Nat.pow_zero, Nat.div_one]; omega
theorem dgtS {b j t : Nat} (hb : b < 2) : dgt 2 (2 * j + b) (t + 1) = dgt 2 j t := by
  unfold dgt
  rw [show (2 * j + b) / 2 ^ (t + 1) = j / 2 ^ t by rw [Nat.pow_succ, Nat.mul_comm (2 ^ t) 2, ← Nat.div_div_eq_div_mul, show (2 * j + b) / 2 = j by omega]]
theorem lb_succ {b j n : Nat} (hb : b < 2) : lb (2 * j + b) (n + 1) = (b : Int) :: lb j n := by
  refine ext_getD 0 (by simp) fun i hi => ?_
  rw [lb_len] at hi
  rw [lb_get hi]
  cases i with
  | zero => rw [dgt0 hb]; rfl
  | succ i => rw [dgtS hb]; exact (lb_get (by omega)).symm
theorem dg_succ {b j n : Nat} (hb : b < 2) : dg 2 (2 * j + b) (n + 1) = dg 2 j n ++ [(b : Int)] := by
  refine ext_getD 0 (by simp) fun i hi => ?_
  rw [dg_len] at hi
  rw [dg_get hi]
  by_cases h : i = n
  · subst h
    rw [show i + 1 - 1 - i = 0 by omega, dgt0 hb, List.getD_eq_getElem?_getD, List.getElem?_append_right (by simp)]
    simp
  · rw [show n + 1 - 1 - i = (n - 1 - i) + 1 by omega, dgtS hb, List.getD_eq_getElem?_getD, List.getElem?_append_left (by simp; omega), ← List.getD_eq_getElem?_getD, dg_get (by omega)]
theorem sg_dg : ∀ (n : Nat) (F : List Int → Int), sg (fun i => F (dg 2 i n)) (2 ^ n) = bsA n F
  | 0, F => by simp [sg, bsA]; rfl
  | n + 1, F => by
    rw [Nat.pow_succ, Nat.mul_comm, sg_pairs, bsA, ← sg_dg n]
    refine sg_congr fun i _ => ?_
    have h0 := dg_succ (b := 0) (j := i) (n := n) (by omega)
    have h1 := dg_succ (b := 1) (j := i) (n := n) (by omega)
    rw [Nat.add_zero] at h0
    rw [h0, h1]; rfl
theorem sg_lb : ∀ (n : Nat) (F : List Int → Int), sg (fun i => F (lb i n)) (2 ^ n) = bsB n F
  | 0, F => by simp [sg, bsB]; rfl
  | n + 1, F => by
    rw [Nat.pow_succ, Nat.mul_comm, sg_pairs, bsB, ← sg_lb n]
    refine sg_congr fun i _ => ?_
    have h0 := lb_succ (b := 0) (j := i) (n := n) (by omega)
    have h1 := lb_succ (b := 1) (j := i) (n := n) (by omega)
    rw [Nat.add_zero] at h0
    rw [h0, h1]; rfl
theorem sg_bits (n : Nat) (F : List Int → Int) : sg (fun i => F (dg 2 i n)) (2 ^ n) = sg (fun i => F (lb i n)) (2 ^ n) := by
  rw [sg_dg, sg_lb, bsA_bsB]
/-- How many of the first 'm' lists have a property, by how many ones they have. -/
noncomputable def ctab (P : List Int → Prop) (n : Nat) (fl : Nat → List Int) : Nat → List Int
  | 0 => List.replicate (n + 1) 0
  | m + 1 => bif tt (P (fl m)) then (ctab P n fl m).set (cnt (fl m) 1 n) ((ctab P n fl m).getD (cnt (fl m) 1 n) 0 + 1) else ctab P n fl m
@[simp] theorem ctab_len {P : List Int → Prop} {n : Nat} {fl : Nat → List Int} : ∀ m, (ctab P n fl m).length = n + 1
  | 0 => by simp [ctab]
  | m + 1 => by rw [ctab]; cases tt (P (fl m)) <;> simp [ctab_len m]
noncomputable def cterm (P : List Int → Prop) (n k : Nat) (l : List Int) : Int := bif tt (P l) then (if cnt l 1 n = k then 1 else 0) else 0
theorem ctab_get {P : List Int → Prop} {n k : Nat} {fl : Nat → List Int} (hk : k < n + 1) : ∀ m, (ctab P n fl m).getD k 0 = sg (fun i => cterm P n k (fl i)) m
  | 0 => by rw [ctab, List.getD_eq_getElem?_getD, List.getElem?_replicate, if_pos hk]; rfl
  | m + 1 => by
    have hc := cnt_le (xs := fl m) (a := 1) n
    rw [ctab, sg, ← ctab_get hk m, cterm]
    cases tt (P (fl m))
    · simp
    · simp only [cond_true]
      rw [getD_set (by simp; omega)]
      by_cases h : cnt (fl m) 1 n = k
      · rw [if_pos h, if_pos h, h]
      · rw [if_neg h, if_neg h, Int.add_zero]
theorem ctab_bits {P : List Int → Prop} {n : Nat} : ctab P n (fun i => dg 2 i n) (2 ^ n) = ctab P n (fun i => lb i n) (2 ^ n) := by
  refine ext_getD 0 (by simp) fun k hk => ?_
  rw [ctab_len] at hk
  rw [ctab_get hk, ctab_get hk]
  exact sg_bits n (cterm P n k)
theorem ctab_in {P : List Int → Prop} {n : Nat} {fl : Nat → List Int} : ∀ m k, 0 ≤ (ctab P n fl m).getD k 0 ∧ (ctab P n fl m).getD k 0 ≤ m
  | 0, k => by rw [ctab, List.getD_eq_getElem?_getD, List.getElem?_replicate]; split <;> simp
  | m + 1, k => by
    have ih := ctab_in (P := P) (n := n) (fl := fl) m
    have hc := cnt_le (xs := fl m) (a := 1) n
    rw [ctab]
    cases tt (P (fl m))
    · have := ih k; simp only [cond_false]; push_cast; omega
    · simp only [cond_true]
      rw [getD_set (by simp; omega)]
      split
      · have := ih (cnt (fl m) 1 n); push_cast; omega
      · have := ih k; push_cast; omega
/-- The sum of bits is the number of ones. -/
theorem smN_cnt {xs : List Int} {n : Nat} (h : ∀ i, i < n → xs.getD i 0 = 0 ∨ xs.getD i 0 = 1) : ∀ m, m ≤ n → smN xs m = ((cnt xs 1 m : Nat) : Int)
  | 0, _ => rfl
  | m + 1, hm => by
    rw [smN, cnt, smN_cnt h m (by omega)]
    rcases h m (by omega) with e | e <;> rw [e] <;> simp

end Go.Proofs.Ytckobcjjbpnkcaa
