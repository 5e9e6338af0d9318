/- All words that come. -/
import Derived.Test.YtlmbgaoeplffkaaXcomesA
import Derived.Test.YtlmbgaoeplffkaaXcomesB
import Derived.Test.YtlmbgaoeplffkaaFB
namespace Go.Proofs.Ytlmbgaoeplffkaa
open Go Go.RowKit
set_option linter.unusedVariables false
set_option linter.unusedSimpArgs false
set_option maxRecDepth 100000
set_option maxHeartbeats 8000000


theorem c_raisedN {s : St} [Wf s] {S n : Nat} (hb : S ≤ 3 := by omega) (hn : n ≤ 30 := by omega) : FnV 67 [iv S, iv n] s (iv ((S ^ n : Nat) : Int)) := by
  have := c_raised (s := s) (b0 := S) (n0 := n)
  simp only [Int.toNat_natCast] at this; exact this
theorem c_powN {s : St} [Wf s] {S n : Nat} (hb : S ≤ 3 := by omega) (hn : n ≤ 30 := by omega) : FnV 58 [iv S, iv n] s (iv ((S ^ n : Nat) : Int)) := by
  have := c_l03Power (s := s) (b0 := S) (n0 := n)
  simp only [Int.toNat_natCast] at this; exact this
/-- Words of 'n' cells behind 'T' steps that are asked for. -/
def CmP (st re : Int) (xs : List Int) (n T : Int) : Prop := VR st re xs ∧ (0 ≤ T ∧ T ≤ 4) ∧ (1 ≤ n ∧ n ≤ 12) ∧ n + 2 * re * T ≤ most st 14 9
theorem re_mul {re T : Int} (hre : 0 ≤ re ∧ re ≤ 2) (hT : 0 ≤ T ∧ T ≤ 4) : 0 ≤ 2 * re * T ∧ 2 * re * T ≤ 16 := by
  obtain rfl | rfl | rfl : re = 0 ∨ re = 1 ∨ re = 2 := by omega
  all_goals omega
abbrev cmn (S w : Nat) (xs : List Int) (n T i : Nat) : Nat := nm S (ahd S w xs (dg S i (n + (w - 1) * T)) T)
/-- The numbers of what all words lead to. -/
def cms (S w : Nat) (xs : List Int) (n T : Nat) : List Int := (List.range (S ^ (n + (w - 1) * T))).map fun i => ((cmn S w xs n T i : Nat) : Int)
@[simp] theorem cms_len {S w n T : Nat} {xs : List Int} : (cms S w xs n T).length = S ^ (n + (w - 1) * T) := by simp [cms]
theorem cms_get {S w n T i : Nat} {xs : List Int} (h : i < S ^ (n + (w - 1) * T)) : (cms S w xs n T).getD i 0 = ((cmn S w xs n T i : Nat) : Int) := getD_map_range h
theorem cmn_lt {S w E n T i : Nat} {xs : List Int} (hS : 2 ≤ S) (hE : E = S ^ (w - 1)) (hw : 1 ≤ w) (hl : xs.length = E * S) (hd : DG S xs) : cmn S w xs n T i < S ^ n := by
  have h := nm_lt (S := S) (by omega) (ahd_dg hS hE hw hl hd (dg_mem (S := S) (n := i) (w := n + (w - 1) * T) (by omega)) T) _ (Nat.le_refl _)
  have e := ahd_len (S := S) (xs := xs) (n := n) (T := T) (ys := dg S i (n + (w - 1) * T)) hw (by simp) T (Nat.le_refl _)
  rw [Nat.sub_self, Nat.mul_zero, Nat.add_zero] at e
  rw [cmn, nm]; rw [e] at h ⊢; exact h
abbrev cimg (S w : Nat) (xs : List Int) (n T : Nat) : List Bool × Int := img (S ^ n) (cms S w xs n T) (S ^ (n + (w - 1) * T))
theorem cms_in {S w E n T : Nat} {xs : List Int} (hS : 2 ≤ S) (hE : E = S ^ (w - 1)) (hw : 1 ≤ w) (hl : xs.length = E * S) (hd : DG S xs) {i : Nat} (hi : i < S ^ (n + (w - 1) * T)) : 0 ≤ (cms S w xs n T).getD i 0 ∧ (cms S w xs n T).getD i 0 < (S ^ n : Nat) := by
  rw [cms_get hi]
  have := cmn_lt (n := n) (T := T) (i := i) hS hE hw hl hd
  omega
theorem cm_nat {S : Nat} {re : Int} {xs : List Int} {n T : Int} (h : CmP S re xs n T) {w : Nat} (hw : 2 * re + 1 = w) (hS : 2 ≤ S ∧ S ≤ 3) : ∃ n' T' : Nat, n = n' ∧ T = T' ∧ (1 ≤ n' ∧ n' ≤ 12) ∧ T' ≤ 4 ∧ n' + (w - 1) * T' ≤ 14 ∧ S ^ (n' + (w - 1) * T') ≤ 19683 := by
  obtain ⟨h1, h2, h3, h4⟩ := h
  obtain ⟨n', rfl⟩ : ∃ k : Nat, n = k := ⟨n.toNat, by omega⟩
  obtain ⟨T', rfl⟩ : ∃ k : Nat, T = k := ⟨T.toNat, by omega⟩
  have e : (n' : Int) + 2 * re * (T' : Int) = ((n' + (w - 1) * T' : Nat) : Int) := by
    have : 2 * re = ((w - 1 : Nat) : Int) := by omega
    rw [this]; push_cast; rfl
  rw [e] at h4
  obtain ⟨long, hlg⟩ : ∃ k, n' + (w - 1) * T' = k := ⟨_, rfl⟩
  rw [hlg] at h4
  unfold most at h4
  refine ⟨n', T', rfl, rfl, by omega, by omega, ?_⟩
  rw [hlg]
  by_cases e2 : S = 2
  · subst e2
    rw [if_pos (by omega)] at h4
    have h5 : long ≤ 14 := by omega
    have : 2 ^ long ≤ 2 ^ 14 := Nat.pow_le_pow_right (by omega) h5
    have : (2 : Nat) ^ 14 = 16384 := by decide
    omega
  · obtain rfl : S = 3 := by omega
    rw [if_neg (by omega)] at h4
    have h5 : long ≤ 9 := by omega
    have : 3 ^ long ≤ 3 ^ 9 := Nat.pow_le_pow_right (by omega) h5
    have : (3 : Nat) ^ 9 = 19683 := by decide
    omega
abbrev bools (bs : List Bool) : AObj := .rw 4 1 (bs.map bc)
end Go.Proofs.Ytlmbgaoeplffkaa
